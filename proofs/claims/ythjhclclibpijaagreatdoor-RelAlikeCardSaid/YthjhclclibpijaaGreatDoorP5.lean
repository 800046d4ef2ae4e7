/- Part P5 of the proof. -/
import Derived.Test.YthjhclclibpijaaGreatDoorP0
set_option linter.all false
set_option maxHeartbeats 4000000
set_option maxRecDepth 100000
namespace Go.Lift
open Go
inductive Tm where
 |leaf (v:V)
 |node (n:Nat) (l r:Tm)
noncomputable def Tm.get (t:Tm):Nat→V:=
 Tm.rec (motive:=fun _=>Nat→V) (fun v i=>cond (Nat.beq i 0) v V.undef) (fun n _ _ gl gr i=>cond (Nat.ble n i) (gr (Nat.sub i n)) (gl i)) t
noncomputable def Tm.set (t:Tm):Nat→V→Tm:=
 Tm.rec (motive:=fun _=>Nat→V→Tm) (fun v i x=>cond (Nat.beq i 0) (.leaf x) (.leaf v)) (fun n l r sl sr i x=>cond (Nat.ble n i) (.node n l (sr (Nat.sub i n) x)) (.node n (sl i x) r)) t
noncomputable def Tm.list (t:Tm):List V:=Tm.rec (motive:=fun _=>List V) (fun v=> [v]) (fun _ _ _ a b=>a++b) t
def Tm.ok (t:Tm):Prop:=Tm.rec (motive:=fun _=>Prop) (fun _=>True) (fun n l _ a b=>n=l.list.length∧a∧b) t
theorem Tm.list_leaf (v:V): (Tm.leaf v).list= [v]:=rfl
theorem Tm.list_node (n:Nat) (l r:Tm): (Tm.node n l r).list=l.list++r.list:=rfl
theorem Tm.ok_node {n:Nat} {l r:Tm} : (Tm.node n l r).ok↔n=l.list.length∧l.ok∧r.ok:=Iff.rfl
def Tm.get_eq:∀{t:Tm} {i:Nat},t.ok→t.get i=t.list.getD i .undef:=by
 intro t
 induction t with
 |leaf v=>
  intro i _
  show cond (Nat.beq i 0) v V.undef= [v].getD i .undef
  cases i<;>rfl
 |node n l r ihl ihr=>
  intro i h
  obtain⟨hn,hl,hr⟩:=h
  show cond (Nat.ble n i) (r.get (i-n)) (l.get i)= (l.list++r.list).getD i .undef
  rw[ihl hl,ihr hr]
  cases hb:Nat.ble n i with
  |true=>
   have hle:n≤i:=Nat.le_of_ble_eq_true hb
   simp only[cond_true,List.getD_eq_getElem?_getD]
   rw[List.getElem?_append_right ω,hn]
  |false=>
   have hlt:i<n:=Nat.lt_of_not_le fun hle=>by rw[Nat.ble_eq_true_of_le hle] at hb;cases hb
   simp only[cond_false,List.getD_eq_getElem?_getD]
   rw[List.getElem?_append_left ω]
def Tm.set_eq:∀{t:Tm} {i:Nat} {x:V},t.ok→(t.set i x).list=t.list.set i x∧(t.set i x).ok:=by
 intro t
 induction t with
 |leaf v=>
  intro i x _
  cases i with
  |zero=>exact⟨rfl,trivial⟩
  |succ i=>exact⟨rfl,trivial⟩
 |node n l r ihl ihr=>
  intro i x h
  obtain⟨hn,hl,hr⟩:=h
  have e: (Tm.node n l r).set i x=cond (Nat.ble n i) (.node n l (r.set (i-n) x)) (.node n (l.set i x) r):=rfl
  rw[e]
  cases hb:Nat.ble n i with
  |true=>
   have hle:n≤i:=Nat.le_of_ble_eq_true hb
   simp only[cond_true,Tm.list_node,Tm.ok_node]
   refine⟨?_,hn,hl,(ihr hr).2⟩
   rw[(ihr hr).1,List.set_append_right _ _ ω,hn]
  |false=>
   have hlt:i<n:=Nat.lt_of_not_le fun hle=>by rw[Nat.ble_eq_true_of_le hle] at hb;cases hb
   simp only[cond_false,Tm.list_node,Tm.ok_node]
   refine⟨?_,?_,(ihl hl).2,hr⟩
   ·rw[(ihl hl).1,List.set_append_left _ _ ω]
   ·rw[(ihl hl).1,List.length_set];exact hn
noncomputable def Tm.tab (k:Nat):Nat→(Nat→V)→Tm:=
 Nat.rec (motive:=fun _=>Nat→(Nat→V)→Tm) (fun _ f=> .leaf (f 0))
  (fun _ ih n f=>cond (Nat.ble n 1) (.leaf (f 0)) (.node (Nat.div n 2) (ih (Nat.div n 2) f) (ih (Nat.sub n (Nat.div n 2)) (fun i=>f (Nat.add (Nat.div n 2) i))))) k
theorem Tm.tab_succ (k n:Nat) (f:Nat→V):Tm.tab (k+1) n f=cond (Nat.ble n 1) (.leaf (f 0)) (.node (n/2) (Tm.tab k (n/2) f) (Tm.tab k (n-n/2) (fun i=>f (n/2+i)))):=rfl
def Tm.tab_eq:∀(k n:Nat) (f:Nat→V),1≤n→n≤2^k→(Tm.tab k n f).list= (List.range n).map f∧(Tm.tab k n f).ok:=by
 intro k
 induction k with
 |zero=>
  intro n f h1 h2
  have:n=1:=by simp at h2;omega
  subst this
  exact⟨rfl,trivial⟩
 |succ k ih=>
  intro n f h1 h2
  rw[Tm.tab_succ]
  cases hb:Nat.ble n 1 with
  |true=>
   have:n=1:=by have:=Nat.le_of_ble_eq_true hb;omega
   subst this
   exact⟨rfl,trivial⟩
  |false=>
   have hlt:1<n:=Nat.lt_of_not_le fun hle=>by rw[Nat.ble_eq_true_of_le hle] at hb;cases hb
   simp only[cond_false,Tm.list_node,Tm.ok_node]
   have hp:2^ (k+1)=2*2^k:=by rw[Nat.pow_succ,Nat.mul_comm]
   obtain⟨a1,a2⟩:=ih (n/2) f ω ω
   obtain⟨b1,b2⟩:=ih (n-n/2) (fun i=>f (n/2+i)) ω ω
   refine⟨?_,by rw[a1];simp,a2,b2⟩
   rw[a1,b1]
   refine List.ext_getElem? fun i=> ?_
   rw[List.getElem?_append]
   simp only[List.length_map,List.length_range,List.getElem?_map]
   split
   ·rename_i hi
    rw[List.getElem?_range hi,List.getElem?_range ω]
   ·rename_i hi
    by_cases h3:i<n
    ·rw[List.getElem?_range ω,List.getElem?_range h3]
     simp only[Option.map_some]
     congr 2
     omega
    ·rw[List.getElem?_eq_none (by simp;omega),List.getElem?_eq_none (by simp;omega)]
     rfl
noncomputable def nthV (l:List V):Nat→V:=List.rec (motive:=fun _=>Nat→V) (fun _=>V.undef) (fun v _ ih i=>cond (Nat.beq i 0) v (ih (Nat.sub i 1))) l
def y2x:∀{l:Lv} {i:Nat},nthV l i=l.getD i .undef:=by
 intro l
 induction l with
 |nil=>intro i;cases i<;>rfl
 |cons v l ih=>
  intro i
  cases i with
  |zero=>rfl
  |succ i=>exact ih
noncomputable def Tm.start (n:Nat) (args:List V):Tm:=Tm.tab 12 n (nthV args)
def Tm.start_eq {n:Nat} {args:Lv} (h1:1≤n) (h2:n≤4096) (h3:args.length≤n): (Tm.start n args).list=args++List.replicate (n-args.length) .undef∧(Tm.start n args).ok:=by
 obtain⟨a,b⟩:=Tm.tab_eq 12 n (nthV args) h1 ω
 refine⟨?_,b⟩
 unfold Tm.start
 rw[a]
 refine List.ext_getElem? fun i=> ?_
 simp only[List.getElem?_map]
 by_cases h:i<n
 ·rw[List.getElem?_range h]
  simp only[Option.map_some,y2x,List.getD_eq_getElem?_getD]
  rw[List.getElem?_append]
  split
  ·rename_i h4;rw[List.getElem?_eq_getElem h4];rfl
  ·rename_i h4
   rw[List.getElem?_eq_none ω]
   rw[List.getElem?_replicate,if_pos ω];rfl
 ·rw[List.getElem?_eq_none (by simp;omega),List.getElem?_eq_none (by simp;omega)]
  rfl
noncomputable def evT (t:Tm) (x:Opd):V:=Opd.rec (motive:=fun _=>V) (fun n=>t.get n) (fun v=>v) x
def zn4 {t:Tm} (h:t.ok) (x:Opd):evT t x=evO t.list x:=by
 cases x with
 |t n=>exact Tm.get_eq h
 |c v=>rfl
def IK.at (ρ:Opd→Opd):IK→IK
 | .mv x=> .mv (ρ x)
 | .pick c a b=> .pick (ρ c) (ρ a) (ρ b)
 | .alloc ai z=> .alloc ai z
 | .box ai x=> .box ai (ρ x)
 | .build z ps=> .build z (ps.map fun p=> (p.1,p.2.1,ρ p.2.2))
 | .mkSl ai es ag nf z n ps=> .mkSl ai es ag nf z n (ps.map fun p=> (p.1,ρ p.2))
 | .load n ag a=> .load n ag (ρ a)
 | .store n a x=> .store n (ρ a) (ρ x)
 | .nilck x=> .nilck (ρ x)
 | .bin op x y=> .bin op (ρ x) (ρ y)
 | .eqB n x y=> .eqB n (ρ x) (ρ y)
 | .eqA n sh x y=> .eqA n sh (ρ x) (ρ y)
 | .eqNil n k x=> .eqNil n k (ρ x)
 | .un op x=> .un op (ρ x)
 | .convI k x=> .convI k (ρ x)
 | .convS x=> .convS (ρ x)
 | .mkf f a c=> .mkf f (a.map ρ) (c.map ρ)
 | .mkmap ai kt=> .mkmap ai kt
 | .mkslice ai es ag eb z l c=> .mkslice ai es ag eb z (ρ l) (ρ c)
 | .sliceS x lo hi=> .sliceS (ρ x) (lo.map ρ) (hi.map ρ)
 | .sliceL es x lo hi=> .sliceL es (ρ x) (lo.map ρ) (hi.map ρ)
 | .sliceA n es ag x lo hi=> .sliceA n es ag (ρ x) (lo.map ρ) (hi.map ρ)
 | .faddr o x=> .faddr o (ρ x)
 | .field o n ag x=> .field o n ag (ρ x)
 | .iaddrS es x i=> .iaddrS es (ρ x) (ρ i)
 | .iaddrA l es x i=> .iaddrA l es (ρ x) (ρ i)
 | .indexA l es ag x i=> .indexA l es ag (ρ x) (ρ i)
 | .indexS x i=> .indexS (ρ x) (ρ i)
 | .lookup kt ag sh ok z m k=> .lookup kt ag sh ok z (ρ m) (ρ k)
 | .mapUpd kt ag sh m k x=> .mapUpd kt ag sh (ρ m) (ρ k) (ρ x)
 | .ext i x=> .ext i (ρ x)
 | .len s x=> .len s (ρ x)
 | .lenM x=> .lenM (ρ x)
 | .lenK n=> .lenK n
 | .capK x=> .capK (ρ x)
 | .append ai es ag eb x y=> .append ai es ag eb (ρ x) (ρ y)
 | .copy es x y=> .copy es (ρ x) (ρ y)
 | .clearS es z x=> .clearS es z (ρ x)
 | .mm b xs=> .mm b (xs.map ρ)
 | .rangeS ai x=> .rangeS ai (ρ x)
 | .nextS x=> .nextS (ρ x)
 | .call f xs=> .call f (xs.map ρ)
 | .bad=> .bad
theorem zu6 {env:List V} :∀{ps:List (Nat×Opd)} {st:St},frzP [] st (ps.map fun p=> (p.1,Opd.c (evO env p.2)))=frzP env st ps
 | [],_=>rfl
 | (i,x)::ps,st=>by
  have e:evO [] (Opd.c (evO env x))=evO env x:=rfl
  simp only[List.map_cons,frzP,e]
  split
  ·rfl
  ·rw[zu6]
def zui {base:Nat} {env:Lv} {st:St} (k:IK):evalOp base [] st (k.at fun x=> .c (evO env x))=evalOp base env st k:=by
 cases k with
 |build z ps=>simp only[IK.at,evalOp,List.map_map];rfl
 |mkSl ai es ag nf z len ps=>simp only[IK.at,evalOp,List.map_map,zu6];rfl
 |mkf f a c=>simp only[IK.at,evalOp,List.map_map];rfl
 |mm b xs=>simp only[IK.at,evalOp,List.map_map];rfl
 |sliceS x lo hi=>simp only[IK.at,evalOp,Option.map_map];rfl
 |sliceL es x lo hi=>simp only[IK.at,evalOp,Option.map_map];rfl
 |sliceA n es ag x lo hi=>simp only[IK.at,evalOp,Option.map_map];rfl
 |_=>rfl
end Go.Lift
