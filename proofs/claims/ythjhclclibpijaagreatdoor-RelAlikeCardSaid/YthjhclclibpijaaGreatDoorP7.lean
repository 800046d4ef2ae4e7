/- Part P7 of the proof. -/
import Derived.Test.YthjhclclibpijaaGreatDoorP6
import Derived.Test.YthjhclclibpijaaGreatDoorP3
import Derived.Test.YthjhclclibpijaaGreatDoorP1
set_option linter.all false
set_option maxHeartbeats 4000000
set_option maxRecDepth 100000
namespace Go.Lift
open Go
variable{st:St}{n:Nat}{args:Lv}
noncomputable def mapF {α β:Type} (f:α→β) (l:List α):List β:=List.rec (motive:=fun _=>List β) [] (fun x _ ih=>f x::ih) l
def y3d {α β:Type} (f:α→β) (l:List α):mapF f l=l.map f:=by
 induction l with
 |nil=>rfl
 |cons x l ih=>show f x::mapF f l=_;rw[ih];rfl
noncomputable def zet (t:Tm) (gd:Option (Nat×Bool)):Bool:=
 match gd with
 |none=>true
 |some (n,w)=>match t.get n with
  | .d (.bool b)=>cond w b (not b)
  |_=>false
def zo9 {t:Tm} (h:t.ok) (gd:Option (Nat×Bool)):zet t gd=wantedE t.list gd:=by
 cases gd with
 |none=>rfl
 |some p=>
  obtain⟨n,w⟩:=p
  simp only[zet,wantedE,Tm.get_eq h]
  generalize t.list.getD n .undef=x
  cases x with
  |d y=>
   cases y with
   |bool b=>cases b<;>cases w<;>rfl
   |_=>rfl
  |_=>rfl
noncomputable def y3v (t:Tm) (a b:St) (ks:List Nat):Bool:=
 match ks with
 | []=>true
 |k::ks=>kept t.list a b (k::ks)
theorem zyb (t:Tm) (a b:St) (ks:Ln):y3v t a b ks=kept t.list a b ks:=by cases ks<;>rfl
noncomputable def calT (t:Tm) (f:Cal):V:=
 match f with
 | .f n=> .fn n [] []
 | .o x=>evT t x
noncomputable def iopF (call:z12) (base:Nat) (t:Tm) (st:St) (o:IOp):Option (V×St):=
 match o.op with
 | .call f args=>call (calT t f) (mapF (evT t) args) st
 |op=>opF base st (op.at fun x=> .c (evT t x))
def y3y {call:z12} {base:Nat} {t:Tm} (h:t.ok)  {o:IOp} :iopF call base t st o=evalIOp call base t.list st o:=by
 have hev:evT t=evO t.list:=funext fun x=>zn4 h x
 obtain⟨dst,op,gd,keep⟩:=o
 cases op with
 |call f args=>
  show call (calT t f) (mapF (evT t) args) st=call (calV t.list f) (args.map (evO t.list)) st
  rw[y3d,hev]
  congr 1
  cases f with
  |f n=>rfl
  |o x=>exact zn4 h x
 |_=>
  simp only[iopF,evalIOp,y6a,hev,zui]
noncomputable def setF (t:Tm) (d:Option Nat) (v:V):Tm:=
 match d with
 |some n=>t.set n v
 |none=>t
def zrc {t:Tm} (h:t.ok) (d:Option Nat) (v:V): (setF t d v).list=setE t.list d v∧(setF t d v).ok:=by
 cases d with
 |none=>exact⟨rfl,h⟩
 |some n=>exact Tm.set_eq h
noncomputable def opsF (call:z12) (base:Nat) (l:List IOp):Tm→St→Option (Tm×St):=
 List.rec (motive:=fun _=>Tm→St→Option (Tm×St)) (fun t st=>some (t,st))
  (fun o _ ih t st=>cond (zet t o.gd) (match iopF call base t st o with
   |none=>none
   |some (v,st')=>cond (y3v t st st' o.keep) (ih (setF t o.dst v) st') none) (ih (setF t o.dst .undef) st)) l
theorem zs7 (call:z12) (base:Nat) (o:IOp) (l:List IOp) (t:Tm) (st:St):opsF call base (o::l) t st=cond (zet t o.gd) (match iopF call base t st o with
   |none=>none
   |some (v,st')=>cond (y3v t st st' o.keep) (opsF call base l (setF t o.dst v) st') none) (opsF call base l (setF t o.dst .undef) st):=rfl
def y2v {call:z12} {base:Nat} :∀{l:List IOp} {t t' :Tm} {st st' :St},t.ok→opsF call base l t st=some (t',st')→z0m call base l t.list st=some (t'.list,st')∧t'.ok:=by
 intro l
 induction l with
 |nil=>
  intro t t' st st' h he
  cases he
  exact⟨rfl,h⟩
 |cons o l ih=>
  intro t t' st st' h he
  rw[zs7,zo9 h] at he
  simp only[z0m]
  cases hw:wantedE t.list o.gd with
  |false=>
   rw[hw] at he
   simp only[cond_false] at he
   obtain⟨h1,h2⟩:=zrc h o.dst .undef
   have:=ih h2 he
   rw[h1] at this
   simpa using this
  |true=>
   rw[hw] at he
   simp only[cond_true] at he
   rw[y3y h] at he
   simp only[if_true]
   split at he
   ·cases he
   ·rename_i v st1 ho
    rw[ho]
    simp only
    rw[zyb] at he
    cases hk:kept t.list st st1 o.keep with
    |false=>rw[hk] at he;cases he
    |true=>
     rw[hk] at he
     simp only[cond_true] at he
     obtain⟨h1,h2⟩:=zrc h o.dst v
     have:=ih h2 he
     rw[h1] at this
     simpa using this
noncomputable def zbi (f:Tm→St→Option (Ex×Tm×St)) (n:Nat):Tm→St→Option (Ex×Tm×St):=
 Nat.rec (motive:=fun _=>Tm→St→Option (Ex×Tm×St)) (fun _ _=>none) (fun _ ih t st=>match f t st with
  |some (.nrm,t',st')=>ih t' st'
  |r=>r) n
theorem zh7 (f:Tm→St→Option (Ex×Tm×St)) (n:Nat) (t:Tm) (st:St):zbi f (n+1) t st=match f t st with
  |some (.nrm,t',st')=>zbi f n t' st'
  |r=>r:=rfl
noncomputable def z58 (call:z12) (n:Nat) (rd:Option Nat) (c:IC):Tm→St→Option (Ex×Tm×St):=
 IC.rec (motive:=fun _=>Tm→St→Option (Ex×Tm×St))
  (fun t st=>some (.nrm,t,st))
  (fun na ops t st=>match opsF call st.next ops t {s:=st.s,next:=Nat.add st.next na,low:=st.low} with
   |some (t',st')=>some (.nrm,t',st')
   |none=>none)
  (fun _ _ fa fb t st=>match fa t st with
   |some (.nrm,t',st')=>fb t' st'
   |r=>r)
  (fun c _ _ fa fb t st=>match evT t c with
   | .d (.bool b)=>cond b (fa t st) (fb t st)
   |_=>none)
  (fun id _ fb t st=>match fb t st with
   |some (.brk j,t',st')=>some (cond (Nat.beq j id) .nrm (.brk j),t',st')
   |r=>r)
  (fun _ fb t st=>zbi fb n t st)
  (fun f ps asg body _ _ t st=>
   cond (okRd st rd) (match evT t f with
   | .fn fn first cap=>
    match call (.fn fn first cap) [.yld st.next] {s:= (st.next,.loop t.list ps asg body .ready none)::st.s,next:=Nat.add st.next 1,low:=st.low} with
    |none=>none
    |some (_,st')=>
     match zf2 st'.s st.next with
     |some (.loop _ _ _ _ ls pend)=>
      match ls with
      | .busy=>none
      |_=>
       match pend with
       |none=>some (.nrm,t,st'.del st.next)
       |some x=>some (x,t,st'.del st.next)
     |_=>none
   |_=>none) none)
  (fun id t st=>some (.brk id,t,st))
  (fun t st=>some (.ret,t,st))
  (fun _ _=>none) c
def zga {call:z12}  {rd:Option Nat} :∀{c:IC} {t t' :Tm} {st st' :St} {ex:Ex},t.ok→z58 call n rd c t st=some (ex,t',st')→z1f call n rd c t.list st=some (ex,t'.list,st')∧t'.ok:=by
 intro c
 induction c with
 |skip=>intro t t' st st' ex h he;cases he;exact⟨rfl,h⟩
 |exit id=>intro t t' st st' ex h he;cases he;exact⟨rfl,h⟩
 |ret=>intro t t' st st' ex h he;cases he;exact⟨rfl,h⟩
 |bad=>intro t t' st st' ex h he;cases he
 |reg na ops=>
  intro t t' st st' ex h he
  have e:z58 call n rd (.reg na ops) t st=match opsF call st.next ops t {s:=st.s,next:=Nat.add st.next na,low:=st.low} with
   |some (t',st')=>some (.nrm,t',st')
   |none=>none:=rfl
  rw[e] at he
  split at he
  ·rename_i t1 st1 ho
   cases he
   obtain⟨h1,h2⟩:=y2v h ho
   refine⟨?_,h2⟩
   simp only[z1f]
   have h1' :z0m call st.next ops t.list {st with next:=st.next+na} =some (t'.list,st'):=h1
   rw[h1']
  ·cases he
 |seq a b iha ihb=>
  intro t t' st st' ex h he
  have e:z58 call n rd (.seq a b) t st=match z58 call n rd a t st with
   |some (.nrm,t',st')=>z58 call n rd b t' st'
   |r=>r:=rfl
  rw[e] at he
  simp only[z1f]
  cases hev:z58 call n rd a t st with
  |none=>rw[hev] at he;cases he
  |some p=>
   obtain⟨e1,t1,st1⟩:=p
   rw[hev] at he
   obtain⟨h1,h2⟩:=iha h hev
   rw[h1]
   cases e1 with
   |nrm=>exact ihb h2 he
   |brk id=>cases he;exact⟨rfl,h2⟩
   |ret=>cases he;exact⟨rfl,h2⟩
 |cond x a b iha ihb=>
  intro t t' st st' ex h he
  have e:z58 call n rd (.cond x a b) t st=match evT t x with
   | .d (.bool bb)=>cond bb (z58 call n rd a t st) (z58 call n rd b t st)
   |_=>none:=rfl
  rw[e,zn4 h] at he
  simp only[z1f]
  split at he
  ·rename_i bb hb
   rw[hb]
   cases bb with
   |true=>exact iha h he
   |false=>exact ihb h he
  ·cases he
 |block id b ih=>
  intro t t' st st' ex h he
  have e:z58 call n rd (.block id b) t st=match z58 call n rd b t st with
   |some (.brk j,t',st')=>some (cond (Nat.beq j id) .nrm (.brk j),t',st')
   |r=>r:=rfl
  rw[e] at he
  simp only[z1f]
  cases hev:z58 call n rd b t st with
  |none=>rw[hev] at he;cases he
  |some p=>
   obtain⟨e1,t1,st1⟩:=p
   rw[hev] at he
   obtain⟨h1,h2⟩:=ih h hev
   rw[h1]
   cases e1 with
   |nrm=>cases he;exact⟨rfl,h2⟩
   |ret=>cases he;exact⟨rfl,h2⟩
   |brk j=>
    simp only[Option.some.injEq,Prod.mk.injEq,zg9] at he
    obtain⟨rfl,rfl,rfl⟩:=he
    exact⟨rfl,h2⟩
 |loop b ih=>
  intro t t' st st' ex h he
  have e:z58 call n rd (.loop b) t st=zbi (z58 call n rd b) n t st:=rfl
  rw[e] at he
  simp only[z1f]
  have key:∀(m:Nat) (t:Tm) (st:St),t.ok→zbi (z58 call n rd b) m t st=some (ex,t',st')→rounds (z1f call n rd b) m t.list st=some (ex,t'.list,st')∧t'.ok:=by
   intro m
   induction m with
   |zero=>intro t st _ h;cases h
   |succ m ihm=>
    intro t st h he
    rw[zh7] at he
    simp only[rounds]
    cases hev:z58 call n rd b t st with
    |none=>rw[hev] at he;cases he
    |some p=>
     obtain⟨e1,t1,st1⟩:=p
     rw[hev] at he
     obtain⟨h1,h2⟩:=ih h hev
     rw[h1]
     cases e1 with
     |nrm=>exact ihm t1 st1 h2 he
     |brk id=>cases he;exact⟨rfl,h2⟩
     |ret=>cases he;exact⟨rfl,h2⟩
  exact key n t st h he
 |rf f ps asg body _ _=>
  intro t t' st st' ex h he
  have e:z58 call n rd (.rf f ps asg body) t st=cond (okRd st rd) (match evT t f with
   | .fn fn first cap=>
    match call (.fn fn first cap) [.yld st.next] {s:= (st.next,.loop t.list ps asg body .ready none)::st.s,next:=Nat.add st.next 1,low:=st.low} with
    |none=>none
    |some (_,st')=>
     match zf2 st'.s st.next with
     |some (.loop _ _ _ _ ls pend)=>
      match ls with
      | .busy=>none
      |_=>
       match pend with
       |none=>some (.nrm,t,st'.del st.next)
       |some x=>some (x,t,st'.del st.next)
     |_=>none
   |_=>none) none:=rfl
  rw[e,zn4 h] at he
  simp only[z1f]
  cases hrd:okRd st rd with
  |false=>rw[hrd] at he;cases he
  |true=>
   rw[hrd] at he
   simp only[cond_true] at he
   simp only[if_true]
   split at he
   ·rename_i fn first cap hy
    rw[hy]
    simp only
    split at he
    ·cases he
    ·rename_i r st2 hc
     have hc' :call (.fn fn first cap) [.yld st.next] {s:= (st.next,.loop t.list ps asg body .ready none)::st.s,next:=st.next+1,low:=st.low} =some (r,st2):=hc
     rw[hc']
     simp only[St.get]
     rw[zah] at he
     split at he
     ·rename_i e3 p3 a3 b3 ls pend ho
      rw[ho]
      cases ls<;>cases pend<;>simp only at he⊢<;>first| (cases he;done)| (cases he;exact⟨rfl,h⟩)
     ·cases he
   ·cases he
noncomputable def resF (st:St) (t:Tm) (l:List IR):Option (List V):=
 List.rec (motive:=fun _=>Option (List V)) (some []) (fun r _ ih=>match (match r with| .t n=>some (t.get n)| .cell c n ag=>zp2 st n ag (t.get c)) with
  |none=>none
  |some v=>match ih with
   |none=>none
   |some vs=>some (v::vs)) l
def zrk {t:Tm} (h:t.ok) (st:St) (l:List IR):resF st t l=z2h st t.list l:=by
 induction l with
 |nil=>rfl
 |cons r l ih=>
  have e:resF st t (r::l)=match (match r with| .t n=>some (t.get n)| .cell c n ag=>zp2 st n ag (t.get c)) with
   |none=>none
   |some v=>match resF st t l with
    |none=>none
    |some vs=>some (v::vs):=rfl
  rw[e,ih]
  cases r<;>simp only[z2h,resV,Tm.get_eq h,zm9]<;>rfl
noncomputable def zpv (call:z12) (n:Nat) (F:IFun) (args:List V) (st:St):Option (List V×St):=
 cond (and (Nat.ble 1 F.nt) (and (Nat.ble F.nt 4096) (Nat.ble (lenF args) F.nt)))
  (match z58 call n none F.body (Tm.start F.nt args) st with
  |some (.brk _,_,_)=>none
  |some (_,t',st')=>match resF st' t' F.res with
   |some vs=>some (vs,st')
   |none=>none
  |none=>none) none
def znq {call:z12}  {F:IFun}   {r:List V×St} (he:zpv call n F args st=some r):z3v call n F args st=some r:=by
 unfold zpv at he
 cases hc:and (Nat.ble 1 F.nt) (and (Nat.ble F.nt 4096) (Nat.ble (lenF args) F.nt)) with
 |false=>rw[hc] at he;cases he
 |true=>
  rw[hc] at he
  simp only[cond_true] at he
  simp only[Bool.and_eq_true,Nat.ble_eq,z6i] at hc
  obtain⟨h1,h2⟩:=Tm.start_eq hc.1 hc.2.1 hc.2.2
  unfold z3v
  rw[←h1]
  cases hev:z58 call n none F.body (Tm.start F.nt args) st with
  |none=>rw[hev] at he;cases he
  |some p=>
   obtain⟨e1,t1,st1⟩:=p
   rw[hev] at he
   obtain⟨h3,h4⟩:=zga h2 hev
   rw[h3]
   cases e1 with
   |brk id=>cases he
   |nrm=>simp only[zrk h4] at he;exact he
   |ret=>simp only[zrk h4] at he;exact he
noncomputable def tabL (k:Nat):Nat→List V→Tm×List V:=
 Nat.rec (motive:=fun _=>Nat→List V→Tm×List V) (fun _ l=>match l with|v::r=> (.leaf v,r)| []=> (.leaf .undef,[]))
  (fun _ ih n l=>cond (Nat.ble n 1) (match l with|v::r=> (.leaf v,r)| []=> (.leaf .undef,[]))
   (match ih (Nat.div n 2) l with| (a,r)=>match ih (Nat.sub n (Nat.div n 2)) r with| (b,r')=> (.node (Nat.div n 2) a b,r'))) k
theorem zqt (k n:Nat) (l:Lv):tabL (k+1) n l=cond (Nat.ble n 1) (match l with|v::r=> (.leaf v,r)| []=> (.leaf .undef,[]))
   (match tabL k (n/2) l with| (a,r)=>match tabL k (n-n/2) r with| (b,r')=> (.node (n/2) a b,r')):=rfl
def y24:∀(k n:Nat) (l:Lv),1≤n→n≤2^k→n≤l.length→(tabL k n l).1.list=l.take n∧(tabL k n l).1.ok∧(tabL k n l).2=l.drop n:=by
 intro k
 induction k with
 |zero=>
  intro n l h1 h2 h3
  have:n=1:=by simp at h2;omega
  subst this
  cases l with
  |nil=>simp at h3
  |cons v l=>exact⟨rfl,trivial,rfl⟩
 |succ k ih=>
  intro n l h1 h2 h3
  rw[zqt,zax]
  split
  ·have:n=1:=ω
   subst this
   cases l with
   |nil=>simp at h3
   |cons v l=>exact⟨by simp[Tm.list_leaf],trivial,by simp⟩
  ·have hp:2^ (k+1)=2*2^k:=by rw[Nat.pow_succ,Nat.mul_comm]
   obtain⟨a1,a2,a3⟩:=ih (n/2) l ω ω ω
   obtain⟨b1,b2,b3⟩:=ih (n-n/2) (l.drop (n/2)) ω ω (by simp;omega)
   simp only[a3,Tm.list_node,Tm.ok_node]
   refine⟨?_,⟨by rw[a1];simp;omega,a2,b2⟩,?_⟩
   ·rw[a1,b1,←List.take_add]
    congr 1;omega
   ·rw[b3,List.drop_drop]
    congr 1;omega
noncomputable def zli (ps:List Nat):Tm→List V→Option Tm:=
 List.rec (motive:=fun _=>Tm→List V→Option Tm) (fun t vs=>match vs with| []=>some t|_=>none) (fun p _ ih t vs=>match vs with|v::vs=>ih (t.set p v) vs| []=>none) ps
def zrb:∀{ps:Ln} {t t' :Tm} {vs:Lv},t.ok→zli ps t vs=some t' →zbd t.list ps vs=some t'.list∧t'.ok:=by
 intro ps
 induction ps with
 |nil=>
  intro t t' vs h he
  cases vs with
  |nil=>cases he;exact⟨rfl,h⟩
  |cons v vs=>cases he
 |cons p ps ih=>
  intro t t' vs h he
  cases vs with
  |nil=>cases he
  |cons v vs=>
   have e:zli (p::ps) t (v::vs)=zli ps (t.set p v) vs:=rfl
   rw[e] at he
   obtain⟨h1,h2⟩:=Tm.set_eq (i:=p) (x:=v) h
   have:=ih h2 he
   rw[h1] at this
   exact this
noncomputable def zbj (call:z12) (n:Nat) (k:Nat) (args:List V) (st:St):Option (V×St):=
 match zf2 st.s k with
 |some (.loop env ps asg body .ready none)=>
  cond (and (Nat.ble 1 (lenF env)) (Nat.ble (lenF env) 4096))
  (match zli ps (tabL 12 (lenF env) env).1 args with
  |none=>none
  |some t1=>
   match z58 call n (some k) asg t1 st with
   |some (.nrm,t2,st2)=>
    match zf2 st2.s k with
    |some (.loop e2 p2 a2 b2 .ready none)=>
     match z58 call n (some k) body t2 (st2.set k (.loop e2 p2 a2 b2 .busy none)) with
     |some (x,_,st3)=>
      match zf2 st3.s k with
      |some (.loop e3 p3 a3 b3 .busy none)=>
       match x with
       | .nrm=>some (.d (.bool true),st3.set k (.loop e3 p3 a3 b3 .ready none))
       |x=>some (.d (.bool false),st3.set k (.loop e3 p3 a3 b3 .done (some x)))
      |_=>none
     |none=>none
    |_=>none
   |_=>none) none
 |_=>none
def zrh {call:z12} {k:Nat}   {r:V×St} (he:zbj call n k args st=some r):z3y call n k args st=some r:=by
 unfold zbj at he
 unfold z3y
 simp only[zah] at he
 simp only[St.get]
 split at he
 ·rename_i env ps asg body ho
  rw[ho]
  simp only
  cases hc:and (Nat.ble 1 (lenF env)) (Nat.ble (lenF env) 4096) with
  |false=>rw[hc] at he;cases he
  |true=>
   rw[hc] at he
   simp only[cond_true] at he
   simp only[Bool.and_eq_true,Nat.ble_eq,z6i] at hc he
   obtain⟨a1,a2,_⟩:=y24 12 env.length env hc.1 ω (Nat.le_refl _)
   rw[List.take_length] at a1
   split at he
   ·cases he
   ·rename_i t1 hps
    obtain⟨b1,b2⟩:=zrb a2 hps
    rw[a1] at b1
    rw[b1]
    simp only
    split at he
    ·rename_i t2 st2 h1
     obtain⟨c1,c2⟩:=zga b2 h1
     rw[c1]
     simp only
     split at he
     ·rename_i e2 p2 a2' b2' ho2
      rw[ho2]
      simp only
      split at he
      ·rename_i x t3 st3 h3
       obtain⟨d1,_⟩:=zga c2 h3
       rw[d1]
       exact he
      ·cases he
     ·cases he
    ·cases he
 ·cases he
noncomputable def y03 (l:List V):Option (List D):=List.rec (motive:=fun _=>Option (List D)) (some []) (fun v _ ih=>match v with| .d x=> (match ih with|some xs=>some (x::xs)|none=>none)|_=>none) l
def y02:∀{l:Lv} {ds:Ld},y03 l=some ds→l=ds.map V.d:=by
 intro l
 induction l with
 |nil=>intro ds h;cases h;rfl
 |cons v l ih=>
  intro ds h
  have e:y03 (v::l)=match (generalizing:=false) v with| .d x=> (match y03 l with|some xs=>some (x::xs)|none=>none)|_=>none:=rfl
  rw[e] at h
  cases v<;>simp only at h<;>try (cases h;done)
  case d x=>
   split at h
   ·rename_i xs hxs
    cases h
    rw[ih hxs];rfl
   ·cases h
theorem z1a {s:Sto} {b:Nat} :∀(ds:List D),z0p s b (ds.map V.d)=some ds
 | []=>rfl
 |x::ds=>by
  simp only[List.map_cons,z0p,z0e,snap,z1a ds];rfl
theorem z39 {st:St} :∀(ds:List D),frzL (frz z0e) st (ds.map V.d)=some (ds.map V.d,st)
 | []=>rfl
 |x::ds=>by
  simp only[List.map_cons,frzL,z0e,frz]
  have:=z39 (st:=st) ds
  simp only[z0e] at this
  rw[this]
mutual
theorem D.beq_refl:∀x:D,D.beq x x=true
 | .bool b=>by simp[D.beq]
 | .int k n=>by simp[D.beq]
 | .str s=>by simp[D.beq]
 | .sl l=>by simp only[D.beq];exact D.beqL_refl l
 | .agg l=>by simp only[D.beq];exact D.beqL_refl l
theorem D.beqL_refl:∀l:List D,D.beqL l l=true
 | []=>rfl
 |x::l=>by simp only[D.beqL,D.beq_refl x,D.beqL_refl l,Bool.and_self]
end
abbrev y57:=Nat→Option (List V→List V→List V→St→Option (V×St))
noncomputable def zwr (G:Nat→Option IFun) (run:IFun→List V→St→Option (List V×St)) (rnd:Nat→List V→St→Option (V×St)) (f:Nat) (first cap args:List V) (st:St):Option (V×St):=
 match G f with
 |none=>none
 |some F=>
  cond F.nil2 (z13 G run rnd (.fn f first cap) args st)<|
  cond F.pure
   (match y03 (catF first (catF args cap)) with
   |some ds=>
    match run F (zsu ds) {s:= [],next:=0,low:=0} with
    |none=>none
    |some (vs,st1)=>
     match z0p st1.s 0 vs with
     |none=>none
     |some rs=>some (tupV (zsu rs),st)
   |none=>z13 G run rnd (.fn f first cap) args st)
   (match run F (catF first (catF args cap)) {s:=st.s,next:=st.next,low:=st.next} with
   |none=>none
   |some (vs,st1)=>
    cond (and F.pop (Nat.ble st.next st1.low)) (match z7a st1.s st.next vs with
     |none=>none
     |some us=>some (tupV us,st)) (some (tupV vs,{s:=st1.s,next:=st1.next,low:=Nat.min st.low st1.low})))
def zwq {G:Nat→Option IFun} {run:IFun→List V→St→Option (List V×St)} {rnd:Nat→List V→St→Option (V×St)} {f:Nat} {first cap:Lv}  {r:V×St}
  (h:zwr G run rnd f first cap args st=some r):z13 G run rnd (.fn f first cap) args st=some r:=by
 unfold zwr at h
 have hcat:catF first (catF args cap)=first++args++cap:=by rw[zkv,zkv,List.append_assoc]
 simp only[hcat,zm7] at h
 split at h
 ·cases h
 ·rename_i F hF
  cases hn2:F.nil2 with
  |true=>
   rw[hn2] at h
   exact h
  |false=>
  rw[hn2] at h
  simp only[cond_false] at h
  cases hp:F.pure with
  |true=>
   rw[hp] at h
   simp only[cond_true] at h
   split at h
   ·rename_i ds hds
    have hl:=y02 hds
    simp only[z13,hF,hn2,Bool.false_and,Bool.false_eq_true,if_false]
    rw[if_pos hp,hl,z1a]
    simp only
    split at h
    ·cases h
    ·rename_i vs st1 hr
     rw[hr]
     simp only
     split at h
     ·cases h
     ·rename_i rs hrs
      rw[hrs]
      simp only
      rw[z39]
      simp only[z1a,D.beqL_refl,if_true,ite_self]
      exact h
   ·exact h
  |false=>
   rw[hp] at h
   simp only[cond_false] at h
   simp only[z13,hF,hn2,Bool.false_and,Bool.false_eq_true,if_false]
   rw[if_neg (by rw[hp];simp)]
   split at h
   ·cases h
   ·rename_i vs st1 hr
    rw[hr]
    simp only
    have hb:Nat.ble st.next st1.low=decide (st.next≤st1.low):=by
     rw[Bool.eq_iff_iff];simp
    rw[hb] at h
    cases hc:F.pop&&decide (st.next≤st1.low) with
    |true=>rw[hc] at h;exact h
    |false=>rw[hc] at h;exact h
noncomputable def zde (G:Nat→Option IFun) (S:y57) (m:Nat) (n:Nat):z12:=
 Nat.rec (motive:=fun _=>z12) (fun _ _ _=>none) (fun _ ih v args st=>
  match v with
  | .fn f first cap=>
   match S f with
   |some g=>g first args cap st
   |none=>zwr G (zpv ih m) (zbj ih m) f first cap args st
  | .yld k=>zbj ih m k args st
  |_=>none) n
def zzl {G:Nat→Option IFun} {S:y57} (hS:∀f g first args cap st r,S f=some g→g first args cap st=some r→z06 G (.fn f first cap) args st=some r) {m:Nat} :∀n,LeC (zde G S m n) (z06 G):=by
 intro n
 induction n with
 |zero=>intro v args st r h;cases h
 |succ n ih=>
  have hll:LeL (fun f=>rounds f m) z0g:=fun f g hfg env st r h=>z32.2 ⟨m,z25 hfg (Nat.le_refl _) h⟩
  have hbody:∀F args st r,zpv (zde G S m n) m F args st=some r→z4r G F args st=some r:=fun F args st r h=>by
   have h1:=znq h
   rw[←zgh] at h1
   exact z49 ih hll h1
  have hround:∀k args st r,zbj (zde G S m n) m k args st=some r→zh8 G k args st=some r:=fun k args st r h=>by
   have h1:=zrh h
   rw[←zh9] at h1
   exact z7n ih hll h1
  intro v args st r h
  have e:zde G S m (n+1) v args st=match (generalizing:=false) v with
   | .fn f first cap=>
    match S f with
    |some g=>g first args cap st
    |none=>zwr G (zpv (zde G S m n) m) (zbj (zde G S m n) m) f first cap args st
   | .yld k=>zbj (zde G S m n) m k args st
   |_=>none:=rfl
  rw[e] at h
  split at h
  ·rename_i f first cap
   split at h
   ·rename_i g hg
    exact hS _ _ _ _ _ _ _ hg h
   ·rw[z1m]
    exact z65 hbody hround _ _ _ _ (zwq h)
  ·rename_i k
   rw[z1m]
   exact hround _ _ _ _ h
  ·cases h
end Go.Lift
