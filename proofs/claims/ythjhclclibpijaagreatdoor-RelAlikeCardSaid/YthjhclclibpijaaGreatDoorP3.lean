/- Part P3 of the proof. -/
import Derived.Test.YthjhclclibpijaaGreatDoorP0
set_option linter.all false
set_option maxHeartbeats 4000000
set_option maxRecDepth 100000
namespace Go.Lift
open Go
variable{st:St}{r:V×St}{n:Nat}{rd:Option Nat}{G:Nat→Option IFun}{args:Lv}
def LeC (f g:z12):Prop:=∀v args st r,f v args st=some r→g v args st=some r
def za2 {f g:z12} (h:LeC f g) {base:Nat} {env:Lv}  {o:IOp}  (he:evalIOp f base env st o=some r):evalIOp g base env st o=some r:=by
 unfold evalIOp at he⊢
 split at he
 ·exact h _ _ _ _ he
 ·exact he
theorem z4y {f g:z12} (h:LeC f g) {base:Nat} :∀{l:List IOp} {env:List V} {st:St} {r:List V×St},z0m f base l env st=some r→z0m g base l env st=some r
 | [],_,_,_,he=>he
 |o::l,env,st,r,he=>by
  simp only[z0m] at he⊢
  split at he
  ·rename_i hw
   rw[if_pos hw]
   split at he
   ·cases he
   ·rename_i v st' ho
    rw[za2 h ho]
    simp only
    split at he
    ·rename_i hk
     rw[if_pos hk]
     exact z4y h he
    ·cases he
  ·rename_i hw
   rw[if_neg hw]
   exact z4y h he
def z0j (call:z12) (lp: (List V→St→Option (Ex×List V×St))→List V→St→Option (Ex×List V×St)) (rd:Option Nat):IC→List V→St→Option (Ex×List V×St)
 | .skip,env,st=>some (.nrm,env,st)
 | .reg na ops,env,st=>
  match z0m call st.next ops env {st with next:=st.next+na} with
  |some (env',st')=>some (.nrm,env',st')
  |none=>none
 | .seq a b,env,st=>
  match z0j call lp rd a env st with
  |some (.nrm,env',st')=>z0j call lp rd b env' st'
  |r=>r
 | .cond c a b,env,st=>
  match evO env c with
  | .d (.bool t)=>if t then z0j call lp rd a env st else z0j call lp rd b env st
  |_=>none
 | .block id b,env,st=>
  match z0j call lp rd b env st with
  |some (.brk j,env',st')=>some (if j=id then .nrm else .brk j,env',st')
  |r=>r
 | .loop b,env,st=>lp (z0j call lp rd b) env st
 | .exit id,env,st=>some (.brk id,env,st)
 | .ret,env,st=>some (.ret,env,st)
 | .bad,_,_=>none
 | .rf f ps asg body,env,st=>
  if okRd st rd then
   match evO env f with
   | .fn fn first cap=>
    match call (.fn fn first cap) [.yld st.next] {s:= (st.next,.loop env ps asg body .ready none)::st.s,next:=st.next+1,low:=st.low} with
    |none=>none
    |some (_,st')=>
     match st'.get st.next with
     |some (.loop _ _ _ _ ls pend)=>
      match ls with
      | .busy=>none
      |_=>
       match pend with
       |none=>some (.nrm,env,st'.del st.next)
       |some x=>some (x,env,st'.del st.next)
     |_=>none
   |_=>none
  else none
def zmv {cl:z12}   :∀{c:IC} {env:Lv} {st:St},z0j cl (fun f=>rounds f n) rd c env st=z1f cl n rd c env st:=by
 intro c
 induction c with
 |seq a b iha ihb=>
  intro env st
  simp only[z0j,z1f,iha]
  cases z1f cl n rd a env st with
  |none=>rfl
  |some p=>
   obtain⟨e1,env1,st1⟩:=p
   cases e1 with
   |nrm=>exact ihb
   |brk id=>rfl
   |ret=>rfl
 |cond x a b iha ihb=>intro env st;simp only[z0j,z1f,iha,ihb];rfl
 |block id b ih=>intro env st;simp only[z0j,z1f,ih];rfl
 |loop b ih=>
  intro env st
  simp only[z0j,z1f]
  have: (z0j cl (fun f=>rounds f n) rd b)=z1f cl n rd b:=by
   funext e s;exact ih
  rw[this]
 |_=>intro env st;rfl
def z25 {f g:List V→St→Option (Ex×List V×St)} (h:∀env st r,f env st=some r→g env st=some r):∀{n m:Nat} {env:List V} {st:St} {r:Ex×List V×St},n≤m→rounds f n env st=some r→rounds g m env st=some r
 |0,_,_,_,_,_,he=>by simp[rounds] at he
 |n+1,0,_,_,_,hle,_=>ω
 |n+1,m+1,env,st,r,hle,he=>by
  simp only[rounds] at he⊢
  cases hev:f env st with
  |none=>rw[hev] at he;cases he
  |some p=>
   obtain⟨e1,env1,st1⟩:=p
   rw[hev] at he
   rw[h _ _ _ hev]
   cases e1 with
   |nrm=>exact z25 h ω he
   |brk id=>exact he
   |ret=>exact he
def LeL (lp lq: (List V→St→Option (Ex×List V×St))→List V→St→Option (Ex×List V×St)):Prop:=
 ∀f g,(∀env st r,f env st=some r→g env st=some r)→∀env st r,lp f env st=some r→lq g env st=some r
def z48 {f g:z12} (h:LeC f g) {lp lq: (List V→St→Option (Ex×List V×St))→List V→St→Option (Ex×List V×St)} (hl:LeL lp lq)  :
  ∀{c:IC} {env:Lv} {st:St} {r:Ex×List V×St},z0j f lp rd c env st=some r→z0j g lq rd c env st=some r:=by
 intro c
 induction c with
 |skip=>intro env st r he;exact he
 |exit id=>intro env st r he;exact he
 |ret=>intro env st r he;exact he
 |bad=>intro env st r he;exact he
 |reg na ops=>
  intro env st r he
  simp only[z0j] at he⊢
  split at he
  ·rename_i env1 st1 ho
   rw[z4y h ho];exact he
  ·cases he
 |seq a b iha ihb=>
  intro env st r he
  simp only[z0j] at he⊢
  cases hev:z0j f lp rd a env st with
  |none=>rw[hev] at he;cases he
  |some p=>
   obtain⟨e1,env1,st1⟩:=p
   rw[hev] at he
   rw[iha hev]
   cases e1 with
   |nrm=>exact ihb he
   |brk id=>exact he
   |ret=>exact he
 |cond x a b iha ihb=>
  intro env st r he
  simp only[z0j] at he⊢
  split at he
  ·rename_i t ht
   split at he
   ·rename_i ht';rw[if_pos ht'];exact iha he
   ·rename_i ht';rw[if_neg ht'];exact ihb he
  ·cases he
 |block id b ih=>
  intro env st r he
  simp only[z0j] at he⊢
  cases hev:z0j f lp rd b env st with
  |none=>rw[hev] at he;cases he
  |some p=>
   rw[hev] at he
   rw[ih hev]
   exact he
 |loop b ih=>
  intro env st r he
  simp only[z0j] at he⊢
  exact hl _ _ (fun e s r hr=>ih hr) _ _ _ he
 |rf y ps asg body _ _=>
  intro env st r he
  simp only[z0j] at he⊢
  split at he
  ·rename_i hrd
   rw[if_pos hrd]
   split at he
   ·rename_i fn first cap hy
    cases hc:f (.fn fn first cap) [.yld st.next] {s:= (st.next,.loop env ps asg body .ready none)::st.s,next:=st.next+1,low:=st.low} with
    |none=>rw[hc] at he;cases he
    |some p=>
     rw[hc] at he
     rw[h _ _ _ _ hc]
     exact he
   ·cases he
  ·cases he
theorem LeL.rounds {m:Nat} (h:n≤m):LeL (fun f=>Lift.rounds f n) (fun f=>Lift.rounds f m):=fun _ _ hfg _ _ _ he=>z25 hfg h he
def zad (call:z12) (lp: (List V→St→Option (Ex×List V×St))→List V→St→Option (Ex×List V×St)) (F:IFun) (args:List V) (st:St):Option (List V×St):=
 match z0j call lp none F.body (args++List.replicate (F.nt-args.length) .undef) st with
 |some (.brk _,_,_)=>none
 |some (_,env',st')=>match z2h st' env' F.res with
  |some vs=>some (vs,st')
  |none=>none
 |none=>none
def z69 (call:z12) (lp: (List V→St→Option (Ex×List V×St))→List V→St→Option (Ex×List V×St)) (k:Nat) (args:List V) (st:St):Option (V×St):=
 match st.get k with
 |some (.loop env ps asg body .ready none)=>
  match zbd env ps args with
  |none=>none
  |some env1=>
   match z0j call lp (some k) asg env1 st with
   |some (.nrm,env2,st2)=>
    match st2.get k with
    |some (.loop e2 p2 a2 b2 .ready none)=>
     match z0j call lp (some k) body env2 (st2.set k (.loop e2 p2 a2 b2 .busy none)) with
     |some (x,_,st3)=>
      match st3.get k with
      |some (.loop e3 p3 a3 b3 .busy none)=>
       match x with
       | .nrm=>some (.d (.bool true),st3.set k (.loop e3 p3 a3 b3 .ready none))
       |x=>some (.d (.bool false),st3.set k (.loop e3 p3 a3 b3 .done (some x)))
      |_=>none
     |none=>none
    |_=>none
   |_=>none
 |_=>none
def z13 (G:Nat→Option IFun) (run:IFun→List V→St→Option (List V×St)) (rnd:Nat→List V→St→Option (V×St)):z12
 | .fn f first cap,args,st=>
  match G f with
  |none=>none
  |some F=>
   if F.nil2&&ze8 (first++args++cap) then
    match run F [.nilS] {s:= [],next:=0,low:=0},run F [.emp] {s:= [],next:=0,low:=0} with
    |some (vs1,st1),some (vs2,st2)=>
     match z0p st1.s 0 vs1,z0p st2.s 0 vs2 with
     |some rs1,some rs2=>if rs1.all D.flat&&D.beqL rs1 rs2 then some (tupV (rs1.map V.d),st) else none
     |_,_=>none
    |_,_=>none
   else
   if F.pure then
    match z0p st.s 0 (first++args++cap) with
    |none=>none
    |some ds=>
     match run F (ds.map V.d) {s:= [],next:=0,low:=0} with
     |none=>none
     |some (vs,st1)=>
      match z0p st1.s 0 vs with
      |none=>none
      |some rs=>
       if rs.all D.flat then some (tupV (rs.map V.d),st) else
       match frzL (frz z0e) st (first++args++cap) with
       |none=>none
       |some (ys,st2)=>
        match z0p [] 0 ys with
        |none=>none
        |some es=>if D.beqL es ds then some (tupV (rs.map V.d),st2) else none
   else
    match run F (first++args++cap) {s:=st.s,next:=st.next,low:=st.next} with
    |none=>none
    |some (vs,st1)=>
     if F.pop&&decide (st.next≤st1.low) then
      match z7a st1.s st.next vs with
      |none=>none
      |some us=>some (tupV us,st)
     else some (tupV vs,{s:=st1.s,next:=st1.next,low:=Nat.min st.low st1.low})
 | .yld k,args,st=>rnd k args st
 |_,_,_=>none
def zgh {cl:z12}  :zad cl (fun f=>rounds f n)=z3v cl n:=by
 funext F args st
 simp only[zad,z3v,zmv];rfl
def zh9 {cl:z12}  :z69 cl (fun f=>rounds f n)=z3y cl n:=by
 funext k args st
 simp only[z69,z3y,zmv];rfl
def z8z   :call G (n+1)=z13 G (zad (call G n) (fun f=>rounds f n)) (z69 (call G n) (fun f=>rounds f n)):=by
 funext v args st
 rw[zgh,zh9]
 cases v<;>rfl
section
variable {f g:z12} {lp lq: (List V→St→Option (Ex×List V×St))→List V→St→Option (Ex×List V×St)}
def z49 (h:LeC f g) (hl:LeL lp lq) {F:IFun}   {r:List V×St} (he:zad f lp F args st=some r):zad g lq F args st=some r:=by
 unfold zad at he⊢
 cases hev:z0j f lp none F.body (args++List.replicate (F.nt-args.length) .undef) st with
 |none=>rw[hev] at he;cases he
 |some p=>rw[hev] at he;rw[z48 h hl hev];exact he
def z7n (h:LeC f g) (hl:LeL lp lq) {k:Nat}    (he:z69 f lp k args st=some r):z69 g lq k args st=some r:=by
 unfold z69 at he⊢
 split at he
 ·rename_i env ps asg body ho
  split at he
  ·cases he
  ·rename_i env1 hps
   split at he
   ·rename_i env2 st2 h1
    rw[z48 h hl h1]
    simp only
    split at he
    ·rename_i e2 p2 a2 b2 _
     cases hev:z0j f lp (some k) body env2 (st2.set k (.loop e2 p2 a2 b2 .busy none)) with
     |none=>rw[hev] at he;cases he
     |some p=>rw[hev] at he;rw[z48 h hl hev];exact he
    ·cases he
   ·cases he
 ·cases he
def z65  {run run' :IFun→List V→St→Option (List V×St)} {rnd rnd' :Nat→List V→St→Option (V×St)} (h1:∀F args st r,run F args st=some r→run' F args st=some r) (h2:∀k args st r,rnd k args st=some r→rnd' k args st=some r):
  LeC (z13 G run rnd) (z13 G run' rnd'):=by
 intro v args st r he
 cases v<;>simp only[z13] at he⊢<;>try (cases he;done)
 case yld k=>exact h2 _ _ _ _ he
 case fn fid first cap=>
  split at he
  ·cases he
  ·rename_i F hF
   split at he
   ·rename_i hn
    rw[if_pos hn]
    cases hr1:run F [.nilS] {s:= [],next:=0,low:=0} with
    |none=>rw[hr1] at he;cases he
    |some p=>
     cases hr2:run F [.emp] {s:= [],next:=0,low:=0} with
     |none=>rw[hr1,hr2] at he;cases he
     |some q=>rw[hr1,hr2] at he;rw[h1 _ _ _ _ hr1,h1 _ _ _ _ hr2];exact he
   rename_i hn
   rw[if_neg hn]
   split at he
   ·rename_i hp
    rw[if_pos hp]
    split at he
    ·cases he
    ·rename_i ds hds
     cases hr:run F (ds.map V.d) {s:= [],next:=0,low:=0} with
     |none=>rw[hr] at he;cases he
     |some p=>rw[hr] at he;rw[h1 _ _ _ _ hr];exact he
   ·rename_i hp
    rw[if_neg hp]
    cases hr:run F (first++args++cap) {s:=st.s,next:=st.next,low:=st.next} with
    |none=>rw[hr] at he;cases he
    |some p=>rw[hr] at he;rw[h1 _ _ _ _ hr];exact he
end
def z9m {G:Nat→Option IFun} :∀n,LeC (call G n) (call G (n+1))
 |0=>fun v args st r h=>by simp[call] at h
 |n+1=>by
  rw[z8z,z8z (n:=n+1)]
  exact z65 (fun F args st r h=>z49 (z9m n) (LeL.rounds (Nat.le_succ n)) h) (fun k args st r h=>z7n (z9m n) (LeL.rounds (Nat.le_succ n)) h)
def z3d  {m:Nat} (h:n≤m):LeC (call G n) (call G m):=by
 induction h with
 |refl=>exact fun v args st r h=>h
 |step _ ih=>exact fun v args st r h=>z9m _ _ _ _ _ (ih _ _ _ _ h)
open Classical in
noncomputable def z06 (G:Nat→Option IFun):z12:=fun v args st=>if h:∃n r,call G n v args st=some r then some h.choose_spec.choose else none
def z6q  {v:V}    :z06 G v args st=some r↔∃n,call G n v args st=some r:=by
 unfold z06
 constructor
 ·intro h
  split at h
  ·rename_i hx
   simp only[Option.some.injEq] at h
   exact⟨hx.choose,by rw[←h];exact hx.choose_spec.choose_spec⟩
  ·cases h
 ·rintro⟨n,hn⟩
  have hx:∃n r,call G n v args st=some r:=⟨n,r,hn⟩
  rw[dif_pos hx]
  have h1:=hx.choose_spec.choose_spec
  have h2:=z3d (Nat.le_max_left n hx.choose) _ _ _ _ hn
  have h3:=z3d (Nat.le_max_right n hx.choose) _ _ _ _ h1
  rw[h2] at h3
  exact h3.symm
open Classical in
noncomputable def z0g (f:List V→St→Option (Ex×List V×St)) (env:List V) (st:St):Option (Ex×List V×St):=if h:∃n r,rounds f n env st=some r then some h.choose_spec.choose else none
def z32 {f:List V→St→Option (Ex×List V×St)} {env:Lv}  {r:Ex×List V×St} :z0g f env st=some r↔∃n,rounds f n env st=some r:=by
 unfold z0g
 constructor
 ·intro h
  split at h
  ·rename_i hx
   simp only[Option.some.injEq] at h
   exact⟨hx.choose,by rw[←h];exact hx.choose_spec.choose_spec⟩
  ·cases h
 ·rintro⟨n,hn⟩
  have hx:∃n r,rounds f n env st=some r:=⟨n,r,hn⟩
  rw[dif_pos hx]
  have h1:=hx.choose_spec.choose_spec
  have h2:=z25 (fun _ _ _ h=>h) (Nat.le_max_left n hx.choose) hn
  have h3:=z25 (fun _ _ _ h=>h) (Nat.le_max_right n hx.choose) h1
  rw[h2] at h3
  exact h3.symm
def zdt (f:List V→St→Option (Ex×List V×St)) (env:Lv) (st:St):z0g f env st=match f env st with
  |some (.nrm,env',st')=>z0g f env' st'
  |r=>r:=by
 refine Option.ext fun r=> ?_
 rw[z32]
 constructor
 ·rintro⟨n,hn⟩
  cases n with
  |zero=>simp[rounds] at hn
  |succ n=>
   simp only[rounds] at hn
   cases hev:f env st with
   |none=>rw[hev] at hn;cases hn
   |some p=>
    obtain⟨e1,env1,st1⟩:=p
    rw[hev] at hn
    cases e1 with
    |nrm=>exact z32.2 ⟨n,hn⟩
    |brk id=>exact hn
    |ret=>exact hn
 ·intro h
  cases hev:f env st with
  |none=>rw[hev] at h;cases h
  |some p=>
   obtain⟨e1,env1,st1⟩:=p
   rw[hev] at h
   cases e1 with
   |nrm=>
    obtain⟨n,hn⟩:=z32.1 h
    exact⟨n+1,by simp only[rounds,hev];exact hn⟩
   |brk id=>exact⟨1,by simp only[rounds,hev];exact h⟩
   |ret=>exact⟨1,by simp only[rounds,hev];exact h⟩
def z80 {G:Nat→Option IFun} {base:Nat} :∀{l:List IOp} {env:List V} {st:St} {r:List V×St},z0m (z06 G) base l env st=some r→∃n,z0m (call G n) base l env st=some r
 | [],_,_,_,he=>⟨0,he⟩
 |o::l,env,st,r,he=>by
  simp only[z0m] at he
  split at he
  ·rename_i hw
   split at he
   ·cases he
   ·rename_i v st' ho
    split at he
    ·rename_i hk
     obtain⟨n,hn⟩:=z80 he
     have:∃m,evalIOp (call G m) base env st o=some (v,st'):=by
      unfold evalIOp at ho⊢
      split at ho
      ·exact z6q.1 ho
      ·exact⟨0,ho⟩
     obtain⟨m,hm⟩:=this
     refine⟨max n m,?_⟩
     simp only[z0m]
     rw[if_pos hw,za2 (z3d (Nat.le_max_right n m)) hm]
     simp only
     rw[if_pos hk]
     exact z4y (z3d (Nat.le_max_left n m)) hn
    ·cases he
  ·rename_i hw
   obtain⟨n,hn⟩:=z80 he
   exact⟨n,by simp only[z0m];rw[if_neg hw];exact hn⟩
def zcq   :∀{c:IC} {env:Lv} {st:St} {r:Ex×List V×St},z0j (z06 G) z0g rd c env st=some r→∃n,z0j (call G n) (fun f=>rounds f n) rd c env st=some r:=by
 have up:∀{n m:Nat} {c:IC} {env:Lv} {st:St} {r:Ex×List V×St},n≤m→z0j (call G n) (fun f=>rounds f n) rd c env st=some r→z0j (call G m) (fun f=>rounds f m) rd c env st=some r:=
  fun h he=>z48 (z3d h) (LeL.rounds h) he
 intro c
 induction c with
 |skip=>intro env st r he;exact⟨0,he⟩
 |exit id=>intro env st r he;exact⟨0,he⟩
 |ret=>intro env st r he;exact⟨0,he⟩
 |bad=>intro env st r he;exact⟨0,he⟩
 |reg na ops=>
  intro env st r he
  simp only[z0j] at he
  split at he
  ·rename_i env1 st1 ho
   obtain⟨n,hn⟩:=z80 ho
   exact⟨n,by simp only[z0j];rw[hn];exact he⟩
  ·cases he
 |seq a b iha ihb=>
  intro env st r he
  simp only[z0j] at he
  cases hev:z0j (z06 G) z0g rd a env st with
  |none=>rw[hev] at he;cases he
  |some p=>
   obtain⟨e1,env1,st1⟩:=p
   rw[hev] at he
   obtain⟨n,hn⟩:=iha hev
   cases e1 with
   |nrm=>
    obtain⟨m,hm⟩:=ihb he
    refine⟨max n m,?_⟩
    simp only[z0j]
    rw[up (Nat.le_max_left n m) hn]
    exact up (Nat.le_max_right n m) hm
   |brk id=>exact⟨n,by simp only[z0j];rw[hn];exact he⟩
   |ret=>exact⟨n,by simp only[z0j];rw[hn];exact he⟩
 |cond x a b iha ihb=>
  intro env st r he
  simp only[z0j] at he
  split at he
  ·rename_i t ht
   split at he
   ·rename_i ht'
    obtain⟨n,hn⟩:=iha he
    exact⟨n,by simp only[z0j,ht];rw[if_pos ht'];exact hn⟩
   ·rename_i ht'
    obtain⟨n,hn⟩:=ihb he
    exact⟨n,by simp only[z0j,ht];rw[if_neg ht'];exact hn⟩
  ·cases he
 |block id b ih=>
  intro env st r he
  simp only[z0j] at he
  cases hev:z0j (z06 G) z0g rd b env st with
  |none=>rw[hev] at he;cases he
  |some p=>
   rw[hev] at he
   obtain⟨n,hn⟩:=ih hev
   exact⟨n,by simp only[z0j];rw[hn];exact he⟩
 |loop b ih=>
  intro env st r he
  simp only[z0j] at he
  obtain⟨k,hk⟩:=z32.1 he
  have key:∀(k:Nat) (env:Lv) (st:St) (r:Ex×List V×St),rounds (z0j (z06 G) z0g rd b) k env st=some r→∃n,rounds (z0j (call G n) (fun f=>rounds f n) rd b) k env st=some r:=by
   intro k
   induction k with
   |zero=>intro env st r h;simp[rounds] at h
   |succ k ihk=>
    intro env st r h
    simp only[rounds] at h
    cases hev:z0j (z06 G) z0g rd b env st with
    |none=>rw[hev] at h;cases h
    |some p=>
     obtain⟨e1,env1,st1⟩:=p
     rw[hev] at h
     obtain⟨n,hn⟩:=ih hev
     cases e1 with
     |nrm=>
      obtain⟨m,hm⟩:=ihk _ _ _ h
      refine⟨max n m,?_⟩
      simp only[rounds]
      rw[up (Nat.le_max_left n m) hn]
      exact z25 (fun _ _ _ hr=>up (Nat.le_max_right n m) hr) (Nat.le_refl _) hm
     |brk id=>exact⟨n,by simp only[rounds];rw[hn];exact h⟩
     |ret=>exact⟨n,by simp only[rounds];rw[hn];exact h⟩
  obtain⟨n,hn⟩:=key k env st r hk
  refine⟨max n k,?_⟩
  simp only[z0j]
  exact z25 (fun _ _ _ hr=>up (Nat.le_max_left n k) hr) (Nat.le_max_right n k) hn
 |rf y ps asg body _ _=>
  intro env st r he
  simp only[z0j] at he
  split at he
  ·rename_i hrd
   split at he
   ·rename_i fn first cap hy
    cases hc:z06 G (.fn fn first cap) [.yld st.next] {s:= (st.next,.loop env ps asg body .ready none)::st.s,next:=st.next+1,low:=st.low} with
    |none=>rw[hc] at he;cases he
    |some p=>
     rw[hc] at he
     obtain⟨n,hn⟩:=z6q.1 hc
     exact⟨n,by simp only[z0j,hy];rw[if_pos hrd,hn];exact he⟩
   ·cases he
  ·cases he
noncomputable abbrev zuh (G:Nat→Option IFun) (rd:Option Nat):IC→List V→St→Option (Ex×List V×St):=z0j (z06 G) z0g rd
noncomputable abbrev z4r (G:Nat→Option IFun):IFun→List V→St→Option (List V×St):=zad (z06 G) z0g
noncomputable abbrev zh8 (G:Nat→Option IFun):Nat→List V→St→Option (V×St):=z69 (z06 G) z0g
def z91  {F:IFun}   {r:List V×St} (he:z4r G F args st=some r):∃n,zad (call G n) (fun f=>rounds f n) F args st=some r:=by
 unfold z4r zad at he
 cases hev:z0j (z06 G) z0g none F.body (args++List.replicate (F.nt-args.length) .undef) st with
 |none=>rw[hev] at he;cases he
 |some p=>
  rw[hev] at he
  obtain⟨n,hn⟩:=zcq hev
  exact⟨n,by unfold zad;rw[hn];exact he⟩
def zoj  {k:Nat}    (he:zh8 G k args st=some r):∃n,z69 (call G n) (fun f=>rounds f n) k args st=some r:=by
 unfold zh8 z69 at he
 split at he
 ·rename_i env ps asg body ho
  split at he
  ·cases he
  ·rename_i env1 hps
   split at he
   ·rename_i env2 st2 h1
    obtain⟨n,hn⟩:=zcq h1
    split at he
    ·rename_i e2 p2 a2 b2 ho2
     cases hev:z0j (z06 G) z0g (some k) body env2 (st2.set k (.loop e2 p2 a2 b2 .busy none)) with
     |none=>rw[hev] at he;cases he
     |some p=>
      rw[hev] at he
      obtain⟨m,hm⟩:=zcq hev
      refine⟨max n m,?_⟩
      unfold z69
      simp only[ho,hps,ho2,z48 (z3d (Nat.le_max_left n m)) (LeL.rounds (Nat.le_max_left n m)) hn,z48 (z3d (Nat.le_max_right n m)) (LeL.rounds (Nat.le_max_right n m)) hm]
      exact he
    ·cases he
   ·cases he
 ·cases he
def z1m (G:Nat→Option IFun) (v:V) (args:Lv) (st:St):z06 G v args st=z13 G (z4r G) (zh8 G) v args st:=by
 refine Option.ext fun r=> ?_
 rw[z6q]
 have hle:∀n,LeC (call G n) (z06 G):=fun n v args st r h=>z6q.2 ⟨n,h⟩
 have hll:∀n,LeL (fun f=>rounds f n) z0g:=fun n f g hfg env st r h=>z32.2 ⟨n,z25 hfg (Nat.le_refl _) h⟩
 constructor
 ·rintro⟨n,hn⟩
  cases n with
  |zero=>simp[call] at hn
  |succ n=>
   rw[z8z] at hn
   exact z65 (fun F args st r h=>z49 (hle n) (hll n) h) (fun k args st r h=>z7n (hle n) (hll n) h) _ _ _ _ hn
 ·intro h
  have key:∃n,z13 G (zad (call G n) (fun f=>rounds f n)) (z69 (call G n) (fun f=>rounds f n)) v args st=some r:=by
   cases v<;>simp only[z13] at h⊢<;>try (cases h;done)
   case yld k=>exact zoj h
   case fn fid first cap=>
    split at h
    ·cases h
    ·rename_i F hF
     split at h
     ·rename_i hn2
      cases hr1:z4r G F [.nilS] {s:= [],next:=0,low:=0} with
      |none=>rw[hr1] at h;cases h
      |some p=>
       cases hr2:z4r G F [.emp] {s:= [],next:=0,low:=0} with
       |none=>rw[hr1,hr2] at h;cases h
       |some q=>
        rw[hr1,hr2] at h
        obtain⟨n,hn⟩:=z91 hr1
        obtain⟨m,hm⟩:=z91 hr2
        have hn' :=z49 (z3d (Nat.le_max_left n m)) (LeL.rounds (Nat.le_max_left n m)) hn
        have hm' :=z49 (z3d (Nat.le_max_right n m)) (LeL.rounds (Nat.le_max_right n m)) hm
        exact⟨max n m,by rw[if_pos hn2];simp only[hn',hm'];exact h⟩
     rename_i hn2
     split at h
     ·rename_i hp
      split at h
      ·cases h
      ·rename_i ds hds
       cases hr:z4r G F (ds.map V.d) {s:= [],next:=0,low:=0} with
       |none=>rw[hr] at h;cases h
       |some p=>
        rw[hr] at h
        obtain⟨n,hn⟩:=z91 hr
        exact⟨n,by rw[if_neg hn2,if_pos hp];simp only[hn];exact h⟩
     ·rename_i hp
      cases hr:z4r G F (first++args++cap) {s:=st.s,next:=st.next,low:=st.next} with
      |none=>rw[hr] at h;cases h
      |some p=>
       rw[hr] at h
       obtain⟨n,hn⟩:=z91 hr
       exact⟨n,by rw[if_neg hn2,if_neg hp];simp only[hn];exact h⟩
  obtain⟨n,hn⟩:=key
  exact⟨n+1,by rw[z8z];exact hn⟩
end Go.Lift
