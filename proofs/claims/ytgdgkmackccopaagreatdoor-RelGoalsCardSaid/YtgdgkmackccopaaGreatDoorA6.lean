/- Part A6 of the proof. -/
import Derived.Test.YtgdgkmackccopaaGreatDoorA53
import Derived.KernelRfl
set_option linter.all false
namespace Go.Lift
open Go
universe u
variable {G : Nat → Option IFun}
theorem y05 {F : IFun} {args : List V} {st : St} {ex : Ex} {env' : List V} {st' : St} {vs : List V} (he : zr1 G none F.body (args ++ List.replicate (F.nt - args.length) .undef) st = some (ex, env', st')) (hx : ∀ id, ex ≠ .brk id) (hr : z28 st' env' F.res = some vs) :
  z4h G F args st = some (vs, st') := by
 unfold z4h z8x
 have he' : z0i (z06 G) z0h none F.body (args ++ List.replicate (F.nt - args.length) .undef) st = some (ex, env', st') := he
 rw [he']
 cases ex with
 | brk id => exact absurd rfl (hx id)
 | nrm => simp only [hr]
 | ret => simp only [hr]
theorem zfa {f : Nat} {F : IFun} (hG : G f = some F) (hp : F.pure = true) (hn : F.nil2 = false) {ds rs : List D} {vs : List V} {st1 : St} (hb : z4h G F (ds.map V.d) { s := [], next := 0, low := 0 } = some (vs, st1)) (hr : z0p st1.s 0 vs = some rs) (st : St) :
  z06 G (.fn f [] []) (ds.map V.d) st = some (tupV (rs.map V.d), st) := by
 rw [z1l]
 simp only [z13, hG, hn, Bool.false_and, Bool.false_eq_true, if_false, hp, if_true, List.nil_append, List.append_nil, z17, hb, hr, z37, D.beqL_refl, ite_self]
theorem ztf {f : Nat} {F : IFun} (hG : G f = some F) (hn : F.nil2 = false) (hp : F.pure = false) (hpop : F.pop = true) {first cap args : List V} {st : St} {vs us : List V} {st1 : St} (hb : z4h G F (first ++ args ++ cap) { s := st.s, next := st.next, low := st.next } = some (vs, st1))
  (hl : st.next ≤ st1.low) (ho : z6b st1.s st.next vs = some us) : z06 G (.fn f first cap) args st = some (tupV us, st) := by
 rw [z1l]
 simp only [z13, hG, hn, hp, Bool.false_and, Bool.false_eq_true, if_false, hb, hpop, Bool.true_and, decide_eq_true_eq, hl, if_true, ho]
theorem znm {f : Nat} {F : IFun} (hG : G f = some F) (hn : F.nil2 = false) (hp : F.pure = false) (hpop : F.pop = false) {first cap args : List V} {st : St} {vs : List V} {st1 : St} (hb : z4h G F (first ++ args ++ cap) { s := st.s, next := st.next, low := st.next } = some (vs, st1)) :
  z06 G (.fn f first cap) args st = some (tupV vs, { s := st1.s, next := st1.next, low := Nat.min st.low st1.low }) := by
 rw [z1l]
 simp only [z13, hG, hn, hp, Bool.false_and, Bool.false_eq_true, if_false, hb, hpop, Bool.false_and]
theorem zou {s : List (Nat × Obj)} {b : Nat} : ∀ {rs : List D}, z6b s b (rs.map V.d) = some (rs.map V.d)
 | [] => rfl
 | x :: rs => by simp only [List.map_cons, z6b, outV, V.under, if_true, zou]; rfl
def Post (x : Option (Ex × List V × St)) (Q : Ex → List V → St → Prop) : Prop := ∃ e env st, x = some (e, env, st) ∧ Q e env st
def zbl (x : Option (List V × St)) (Q : List V → St → Prop) : Prop := ∃ env st, x = some (env, st) ∧ Q env st
def PostV (x : Option (V × St)) (Q : V → St → Prop) : Prop := ∃ v st, x = some (v, st) ∧ Q v st
@[simp] theorem za4 {e : Ex} {env : List V} {st : St} {Q : Ex → List V → St → Prop} : Post (some (e, env, st)) Q ↔ Q e env st := ⟨fun ⟨_, _, _, h, q⟩ => (by cases h; exact q), fun q => ⟨_, _, _, rfl, q⟩⟩
@[simp] theorem z5j {Q : Ex → List V → St → Prop} : Post none Q ↔ False := ⟨fun ⟨_, _, _, h, _⟩ => (by cases h), fun h => h.elim⟩
@[simp] theorem zlo {env : List V} {st : St} {Q : List V → St → Prop} : zbl (some (env, st)) Q ↔ Q env st := ⟨fun ⟨_, _, h, q⟩ => (by cases h; exact q), fun q => ⟨_, _, rfl, q⟩⟩
@[simp] theorem zc0 {Q : List V → St → Prop} : zbl none Q ↔ False := ⟨fun ⟨_, _, h, _⟩ => (by cases h), fun h => h.elim⟩
@[simp] theorem z5z {v : V} {st : St} {Q : V → St → Prop} : PostV (some (v, st)) Q ↔ Q v st := ⟨fun ⟨_, _, h, q⟩ => (by cases h; exact q), fun q => ⟨_, _, rfl, q⟩⟩
@[simp] theorem zln {Q : V → St → Prop} : PostV none Q ↔ False := ⟨fun ⟨_, _, h, _⟩ => (by cases h), fun h => h.elim⟩
theorem PostV.mono {x : Option (V × St)} {Q R : V → St → Prop} (h : PostV x Q) (hq : ∀ v st, Q v st → R v st) : PostV x R := by
 obtain ⟨v, st, h1, h2⟩ := h
 exact ⟨v, st, h1, hq _ _ h2⟩
def Wr {α : Sort u} (x : α) : α := x
theorem z14 {α : Sort u} (x : α) : Wr x = x := by
 have h : Wr x = Wr x := Eq.symm (Eq.symm rfl)
 exact h
theorem zlp {x y : Option (Ex × List V × St)} {Q : Ex → List V → St → Prop} (h : Wr x = y) : Post x Q = Post y Q := by rw [← h, z14]
theorem zh2 {x y : Option (List V × St)} {Q : List V → St → Prop} (h : Wr x = y) : zbl x Q = zbl y Q := by rw [← h, z14]
theorem zh1 {x y : Option (V × St)} {Q : V → St → Prop} (h : Wr x = y) : PostV x Q = PostV y Q := by rw [← h, z14]
def onN (K : List V → St → Prop) (Q : Ex → List V → St → Prop) : Ex → List V → St → Prop
 | .nrm, env, st => K env st
 | e, env, st => Q e env st
theorem zp0 {K : List V → St → Prop} {Q : Ex → List V → St → Prop} {e e' : Ex} {env : List V} {st : St} (h : Wr e = e') : onN K Q e env st = onN K Q e' env st := by rw [← h, z14]
@[simp] theorem zh8 {K : List V → St → Prop} {Q : Ex → List V → St → Prop} {env : List V} {st : St} : onN K Q .nrm env st ↔ K env st := Iff.rfl
@[simp] theorem zh7 {K : List V → St → Prop} {Q : Ex → List V → St → Prop} {env : List V} {st : St} : onN K Q .ret env st ↔ Q .ret env st := Iff.rfl
@[simp] theorem zh9 {K : List V → St → Prop} {Q : Ex → List V → St → Prop} {env : List V} {st : St} {id : Nat} : onN K Q (.brk id) env st ↔ Q (.brk id) env st := Iff.rfl
def outB (id : Nat) (Q : Ex → List V → St → Prop) : Ex → List V → St → Prop
 | .brk j, env, st => Q (if j = id then .nrm else .brk j) env st
 | e, env, st => Q e env st
theorem zlr {id : Nat} {Q : Ex → List V → St → Prop} {e e' : Ex} {env : List V} {st : St} (h : Wr e = e') : outB id Q e env st = outB id Q e' env st := by rw [← h, z14]
@[simp] theorem zd9 {id : Nat} {Q : Ex → List V → St → Prop} {env : List V} {st : St} : outB id Q .nrm env st ↔ Q .nrm env st := Iff.rfl
@[simp] theorem zd8 {id : Nat} {Q : Ex → List V → St → Prop} {env : List V} {st : St} : outB id Q .ret env st ↔ Q .ret env st := Iff.rfl
@[simp] theorem ztj {id j : Nat} {Q : Ex → List V → St → Prop} {env : List V} {st : St} : outB id Q (.brk j) env st ↔ Q (if j = id then .nrm else .brk j) env st := Iff.rfl
def onE (env : List V) (K : List V → Prop) : Prop := K env
theorem zp1 {x y : List V} {K : List V → Prop} (h : Wr x = y) : onE x K = onE y K := by rw [← h, z14]
theorem ztk {v : V} {l : List V} {K : List V → Prop} : onE (v :: l) K ↔ K (v :: l) := Iff.rfl
def zmh (v : V) (A B : Prop) : Prop :=
 match v with
 | .d (.bool t) => if t = true then A else B
 | _ => False
theorem zi0 {v w : V} {A B : Prop} (h : Wr v = w) : zmh v A B = zmh w A B := by rw [← h, z14]
theorem zci {t : Bool} {A B : Prop} : zmh (.d (.bool t)) A B ↔ if t = true then A else B := Iff.rfl
section
variable {cl : z11} {lp : (List V → St → Option (Ex × List V × St)) → List V → St → Option (Ex × List V × St)} {rd : Option Nat} {env : List V} {st : St} {Q : Ex → List V → St → Prop}
@[simp] theorem zfc : Post (z0i cl lp rd .skip env st) Q ↔ Q .nrm env st := by simp [z0i]
@[simp] theorem zfd {id : Nat} : Post (z0i cl lp rd (.exit id) env st) Q ↔ Q (.brk id) env st := by simp [z0i]
@[simp] theorem zj2 : Post (z0i cl lp rd .ret env st) Q ↔ Q .ret env st := by simp [z0i]
@[simp] theorem zj1 {a b : IC} : Post (z0i cl lp rd (.seq a b) env st) Q ↔ Post (z0i cl lp rd a env st) (onN (fun env st => Post (z0i cl lp rd b env st) Q) Q) := by
 simp only [z0i]
 cases h : z0i cl lp rd a env st with
 | none => simp only [z5j]
 | some p =>
  obtain ⟨e, env1, st1⟩ := p
  cases e <;> simp only [za4] <;> rfl
@[simp] theorem zc1 {id : Nat} {b : IC} : Post (z0i cl lp rd (.block id b) env st) Q ↔ Post (z0i cl lp rd b env st) (outB id Q) := by
 simp only [z0i]
 cases h : z0i cl lp rd b env st with
 | none => simp only [z5j]
 | some p =>
  obtain ⟨e, env1, st1⟩ := p
  cases e <;> simp only [za4] <;> rfl
theorem zfe {c : Opd} {a b : IC} : Post (z0i cl lp rd (.cond c a b) env st) Q ↔ zmh (evO env c) (Post (z0i cl lp rd a env st) Q) (Post (z0i cl lp rd b env st) Q) := by
 simp only [z0i]
 unfold zmh
 generalize evO env c = v
 cases v <;> try exact z5j
 case d x =>
  cases x <;> try exact z5j
  case bool t => cases t <;> simp
@[simp] theorem zj3 {na : Nat} {ops : List IOp} : Post (z0i cl lp rd (.reg na ops) env st) Q ↔ zbl (z0k cl st.next ops env { s := st.s, next := st.next + na, low := st.low }) (fun env st => Q .nrm env st) := by
 simp only [z0i]
 cases h : z0k cl st.next ops env { s := st.s, next := st.next + na, low := st.low } with
 | none => simp only [z5j, zc0]
 | some p => obtain ⟨env1, st1⟩ := p; simp only [za4, zlo]
@[simp] theorem zok {b : IC} : Post (z0i cl lp rd (.loop b) env st) Q ↔ Post (lp (z0i cl lp rd b) env st) Q := Iff.rfl
@[simp] theorem zfb {base : Nat} {R : List V → St → Prop} : zbl (z0k cl base [] env st) R ↔ R env st := by simp [z0k]
theorem z2f {base : Nat} {o : IOp} {l : List IOp} {R : List V → St → Prop} : zbl (z0k cl base (o :: l) env st) R ↔
  if wantedE env o.gd then PostV (evalIOp cl base env st o) (fun v st' => kept env st st' o.keep = true ∧ onE (setE env o.dst v) (fun env' => zbl (z0k cl base l env' st') R)) else onE (setE env o.dst .undef) (fun env' => zbl (z0k cl base l env' st) R) := by
 simp only [z0k, onE]
 split
 ·cases h : evalIOp cl base env st o with
  | none => simp only [zc0, zln]
  | some p =>
   obtain ⟨v, st1⟩ := p
   simp only [z5z]
   cases hk : kept env st st1 o.keep with
   | true => simp
   | false => simp
 ·rfl
end
attribute [congr] zlp zh2 zh1 zp0 zlr zi0 zp1
theorem z30 {f : List V → St → Option (Ex × List V × St)} {Q : Ex → List V → St → Prop} (I : Nat → List V → St → Prop) (h : ∀ m env st, I m env st → Post (f env st) (onN (fun env' st' => ∃ m', m' < m ∧ I m' env' st') Q)) :
  ∀ (m : Nat) {env : List V} {st : St}, I m env st → Post (z0h f env st) Q := by
 intro m
 induction m using Nat.strongRecOn with
 | _ m ih =>
  intro env st hI
  rw [zbx]
  obtain ⟨e, env1, st1, h1, h2⟩ := h m env st hI
  rw [h1]
  cases e with
  | nrm =>
   obtain ⟨m', hm, hI'⟩ := h2
   exact ih m' hm hI'
  | brk id => simpa using h2
  | ret => simpa using h2
def Ex.fin : Ex → Prop
 | .brk _ => False
 | _ => True
@[simp] theorem y47 : Ex.fin .nrm ↔ True := Iff.rfl
@[simp] theorem y46 : Ex.fin .ret ↔ True := Iff.rfl
@[simp] theorem y48 {id : Nat} : Ex.fin (.brk id) ↔ False := Iff.rfl
theorem z7x {F : IFun} {args : List V} {st : St} {R : List V → St → Prop} (h : onE (args ++ List.replicate (F.nt - args.length) .undef) (fun env => Post (zr1 G none F.body env st) (fun e env st' => e.fin ∧ ∃ vs, z28 st' env F.res = some vs ∧ R vs st'))) :
  ∃ vs st', z4h G F args st = some (vs, st') ∧ R vs st' := by
 obtain ⟨e, env, st', h1, h2, vs, h3, h4⟩ := h
 refine ⟨vs, st', y05 h1 (fun id e' => ?_) h3, h4⟩
 subst e'
 exact h2
theorem z81 {f : Nat} {F : IFun} (hG : G f = some F) (hp : F.pure = true) (hn : F.nil2 = false) {ds rs : List D} (h : onE (ds.map V.d ++ List.replicate (F.nt - (ds.map V.d).length) .undef) (fun env => Post (zr1 G none F.body env { s := [], next := 0, low := 0 }) (fun e env st' => e.fin ∧ ∃ vs, z28 st' env F.res = some vs ∧ z0p st'.s 0 vs = some rs))) (st : St) :
  z06 G (.fn f [] []) (ds.map V.d) st = some (tupV (rs.map V.d), st) := by
 obtain ⟨vs, st1, h1, h2⟩ := z7x h
 exact zfa hG hp hn h1 h2 st
theorem z6f {f : Nat} {F : IFun} (hG : G f = some F) (hn : F.nil2 = false) (hp : F.pure = false) (hpop : F.pop = true) {first cap args us : List V} {st : St}
  (h : onE (first ++ args ++ cap ++ List.replicate (F.nt - (first ++ args ++ cap).length) .undef) (fun env => Post (zr1 G none F.body env { s := st.s, next := st.next, low := st.next }) (fun e env st' => e.fin ∧ ∃ vs, z28 st' env F.res = some vs ∧ st.next ≤ st'.low ∧ z6b st'.s st.next vs = some us))) :
  z06 G (.fn f first cap) args st = some (tupV us, st) := by
 obtain ⟨vs, st1, h1, h2, h3⟩ := z7x h
 exact ztf hG hn hp hpop h1 h2 h3
theorem z3f {n : Int} (h1 : -9223372036854775808 ≤ n) (h2 : n ≤ 9223372036854775807) : IntKind.i64.wrap n = n := by
 unfold IntKind.wrap
 simp only [IntKind.bits, IntKind.signed, Bool.true_and, decide_eq_true_eq, ge_iff_le, Int.reducePow, Nat.reduceSub]
 split <;> omega
section
variable {k : IntKind} {a b : Int} {x y : List Nat}
theorem zs3 : (true == true) = true := rfl
theorem zs4 : (true == false) = false := rfl
theorem zs5 : (false == true) = false := rfl
theorem zs6 : (false == false) = true := rfl
theorem y0v {b : Bool} : unV .not (.d (.bool b)) = some (.d (.bool (!b))) := rfl
theorem zic : binV .lss (.d (.int k a)) (.d (.int k b)) = some (.d (.bool (decide (a < b)))) := by simp [binV, z1y, binI]
theorem zid : binV .leq (.d (.int k a)) (.d (.int k b)) = some (.d (.bool (decide (a ≤ b)))) := by simp [binV, z1y, binI]
theorem zie : binV .gtr (.d (.int k a)) (.d (.int k b)) = some (.d (.bool (decide (b < a)))) := by simp [binV, z1y, binI]
theorem zif : binV .geq (.d (.int k a)) (.d (.int k b)) = some (.d (.bool (decide (b ≤ a)))) := by simp [binV, z1y, binI]
theorem zig : binV .eql (.d (.int k a)) (.d (.int k b)) = some (.d (.bool (decide (a = b)))) := by simp [binV, z1y, binI]
theorem zib : binV .neq (.d (.int k a)) (.d (.int k b)) = some (.d (.bool (!decide (a = b)))) := by simp [binV, z1y, binI]
theorem zih : binV .add (.d (.int k a)) (.d (.int k b)) = some (.d (.int k (k.wrap (a + b)))) := by simp [binV, z1y, binI]
theorem zi9 : binV .sub (.d (.int k a)) (.d (.int k b)) = some (.d (.int k (k.wrap (a - b)))) := by simp [binV, z1y, binI]
theorem zef : binV .eql (.d (.str x)) (.d (.str y)) = some (.d (.bool (decide (x = y)))) := by simp [binV, binS]
theorem zee : binV .neq (.d (.str x)) (.d (.str y)) = some (.d (.bool (!decide (x = y)))) := by simp [binV, binS]
end
theorem zdg {st : St} {n : Nat} {ag : Bool} {k off : Nat} : z1r st n ag (.ptr k off) = match scells st.s k with
  | some cs => if off + n ≤ cs.length then ofCells ag ((cs.drop off).take n) else none
  | none => none := rfl
def Elt (es : Nat) (ag : Bool) (x : D) : Prop := (ag = true ∧ ∃ cs, x = .agg cs ∧ cs.length = es ∧ cs.all D.isCell = true) ∨ (ag = false ∧ es = 1 ∧ x.isCell = true)
def Sub (n : Nat) (s s' : List (Nat × Obj)) : Prop := ∀ k, k < n → sget s' k = sget s k
theorem Sub.refl (n : Nat) (s : List (Nat × Obj)) : Sub n s s := fun _ _ => rfl
theorem Sub.trans {n m : Nat} {s s1 s2 : List (Nat × Obj)} (h : Sub n s s1) (k : Sub m s1 s2) (hnm : n ≤ m) : Sub n s s2 := fun j hj => (k j (Nat.lt_of_lt_of_le hj hnm)).trans (h j hj)
theorem Sub.cons {n k : Nat} {s : List (Nat × Obj)} {o : Obj} (hk : n ≤ k) : Sub n s ((k, o) :: s) := fun j hj => by
 have : k ≠ j := by omega
 simp only [sget, this, if_false]
def Tells (G : Nat → Option IFun) (fv : V) (s : List (Nat × Obj)) (n0 : Nat) (dom : D → Prop) (p : D → Bool) : Prop :=
 ∀ x, dom x → ∀ s' nx lw, Sub n0 s s' → n0 ≤ nx → z06 G fv [.d x] { s := s', next := nx, low := lw } = some (.d (.bool (p x)), { s := s', next := nx, low := lw })
theorem Tells.sub {fv : V} {s s' : List (Nat × Obj)} {n m : Nat} {dom : D → Prop} {p : D → Bool} (h : Tells G fv s n dom p) (hs : Sub n s s') (hnm : n ≤ m) : Tells G fv s' m dom p :=
 fun x hx s'' nx lw h1 h2 => h x hx s'' nx lw (hs.trans h1 hnm) (Nat.le_trans hnm h2)
def idxP (p : D → Bool) (l : List D) : Int := match l.findIdx? p with
 | some i => i
 | none => -1
theorem zfu {p : D → Bool} {l : List D} (h : ∀ x ∈ l, p x = false) : idxP p l = -1 := by
 unfold idxP
 rw [List.findIdx?_eq_none_iff.2 h]
theorem zft {p : D → Bool} {l : List D} {i : Nat} (hi : i < l.length) (h : ∀ x ∈ l.take i, p x = false) (hp : p l[i] = true) : idxP p l = i := by
 unfold idxP
 have : l.findIdx? p = some i := by
  rw [List.findIdx?_eq_some_iff_getElem]
  refine ⟨hi, hp, fun j hj => ?_⟩
  have := h l[j] (List.mem_iff_getElem.2 ⟨j, by simp; omega, by simp⟩)
  simp [this]
 rw [this]
theorem zin {p : D → Bool} {l : List D} {i : Nat} (hi : i < l.length) (h : ∀ x ∈ l.take i, p x = false) (hp : p l[i] = false) : ∀ x ∈ l.take (i + 1), p x = false := fun x hx => by
 rw [List.take_add_one, List.getElem?_eq_getElem hi] at hx
 rcases List.mem_append.1 hx with h1 | h1
 ·exact h x h1
 ·simp at h1; rw [h1]; exact hp
theorem Elt.len {es : Nat} {ag : Bool} {x : D} (h : Elt es ag x) : (cellsD x).length = es := by
 rcases h with ⟨_, cs, rfl, h, _⟩ | ⟨_, rfl, h⟩
 ·exact h
 ·cases x <;> first | rfl | simp [D.isCell] at h
theorem z7k {l : List D} {i es : Nat} {ag : Bool} (hi : i < l.length) (he : Elt es ag l[i]) : z0a es (.d (.sl l)) (i : Int) = some (.dptr (cellsD l[i])) := by
 simp only [z0a]
 rw [if_pos (by omega)]
 simp [hi, he.len]
theorem z97 {st : St} {es : Nat} {ag : Bool} {x : D} (h : Elt es ag x) : z1r st es ag (.dptr (cellsD x)) = some (.d x) := by
 have hl := h.len
 simp only [z1r]
 rw [if_pos (by omega), ← hl, List.take_length]
 rcases h with ⟨rfl, cs, rfl, h, _⟩ | ⟨rfl, rfl, h⟩
 ·rfl
 ·cases x <;> first | rfl | simp [D.isCell] at h
theorem zi8 {es : Nat} {ag : Bool} {x : D} (h : Elt es ag x) : (cellsV (.d x)).all V.isCell = true ∧ ofCells ag (((cellsV (.d x)).drop 0).take es) = some (.d x) ∧ (cellsV (.d x)).length = es := by
 rcases h with ⟨rfl, cs, rfl, h, h2⟩ | ⟨rfl, rfl, h⟩
 ·have h3 : ∀ l : List D, allD (l.map V.d) = some l := by
   intro l
   induction l with
   | nil => rfl
   | cons y l ih => simp only [List.map_cons, allD, ih]; rfl
  refine ⟨?_, ?_, by simpa [cellsV] using h⟩
  ·simp only [cellsV, List.all_map]
   rw [List.all_eq_true] at h2 ⊢
   exact fun y hy => h2 y hy
  ·simp only [cellsV, List.drop_zero, ofCells, if_true]
   rw [List.take_of_length_le (by simp; omega)]
   simp only [mkAgg, h3]
 ·cases x <;> first | (exact ⟨rfl, rfl, rfl⟩) | simp [D.isCell] at h
theorem z9t {s : List (Nat × Obj)} {k nx lw es : Nat} {ag : Bool} {z : List V} {x : D} (hx : Elt es ag x) (hz : z.length = es) :
  opStore { s := (k, .cells z) :: s, next := nx, low := lw } es (.ptr k 0) (.d x) = some { s := (k, .cells (cellsV (.d x))) :: s, next := nx, low := Nat.min lw k } := by
 obtain ⟨h1, _, h3⟩ := zi8 hx
 simp only [opStore, St.get, sget, if_true, St.set, sset]
 rw [if_pos ⟨h3, by omega, h1⟩]
 congr 3
 unfold splice
 rw [List.take_zero, h3, Nat.zero_add, List.drop_eq_nil_of_le (by omega)]
 simp
theorem zvi {es : Nat} {ag : Bool} {x : D} (hx : Elt es ag x) : (if 0 + es ≤ (cellsV (.d x)).length then ofCells ag (((cellsV (.d x)).drop 0).take es) else none) = some (.d x) := by
 obtain ⟨_, h2, h3⟩ := zi8 hx
 rw [if_pos (by omega), h2]
theorem zge {es : Nat} {ag : Bool} {x : D} (hx : Elt es ag x) : (if es ≤ (cellsV (.d x)).length then ofCells ag (((cellsV (.d x)).drop 0).take es) else none) = some (.d x) := by
 have := zvi hx
 rwa [Nat.zero_add] at this
end Go.Lift
namespace Go.Lift
open Go
set_option maxRecDepth 100000
def XA := aI @zj1 (aI @zj3 (aI @z2f (aI @zfb (aI @z5z (aI @zh8 (aI @zh7 (aI @zh9 (aI @zd9 (aI @zd8 (aI @ztj (aI @zc1 (aI @zok (aI @zfe (aI @zci (aI @zfc (aI @zfd (@zj2)))))))))))))))))
def XB0 := aI @evalIOp.eq_1 (aI @evalOp.eq_1 (aI @evalOp.eq_2 (aI @evalOp.eq_3 (aI @evalOp.eq_4 (aI @evalOp.eq_5 (aI @evalOp.eq_6 (aI @evalOp.eq_7 (aI @evalOp.eq_8 (aI @evalOp.eq_9 (aI @evalOp.eq_10 (aI @evalOp.eq_11 (aI @evalOp.eq_12 (aI @evalOp.eq_13 (aI @evalOp.eq_14 (aI @evalOp.eq_15 (aI @evalOp.eq_16 (aI @evalOp.eq_17 (aI @evalOp.eq_18 (aI @evalOp.eq_19 (aI @evalOp.eq_20 (aI @evalOp.eq_21 (aI @evalOp.eq_22 (aI @evalOp.eq_23 (aI @evalOp.eq_24 (aI @evalOp.eq_25 (aI @evalOp.eq_26 (aI @evalOp.eq_27 (aI @evalOp.eq_28 (aI @evalOp.eq_29 (aI @evalOp.eq_30 (aI @evalOp.eq_31 (aI @evalOp.eq_32 (aI @evalOp.eq_33 (aI @evalOp.eq_34 (aI @evalOp.eq_35 (aI @evalOp.eq_36 (aI @evalOp.eq_37 (aI @evalOp.eq_38 (@evalOp.eq_39)))))))))))))))))))))))))))))))))))))))
def XB1 := aI @evalOp.eq_40 (aI @evalOp.eq_41 (aI @evalOp.eq_42 (aI @evalOp.eq_43 (aI @wantedE.eq_1 (aI @wantedE.eq_2 (aI @kept.eq_1 (aI @kept.eq_2 (aI @setE.eq_1 (aI @setE.eq_2 (aI @evO.eq_1 (aI @evO.eq_2 (aI @z5z (aI @ztk (aI @true_and (aI @List.set.eq_1.{0} (aI @List.set.eq_2.{0} (aI @List.set.eq_3.{0} (aI @List.getD_cons_zero.{0} (aI @List.getD_cons_succ.{0} (aI @zic (aI @zid (aI @zie (aI @zif (aI @zig (aI @zib (aI @zih (aI @zi9 (aI @zef (aI @zee (aI @Bool.false_eq_true (aI @asI.eq_1 (aI @asI.eq_2 (aI @calV.eq_1 (aI @calV.eq_2 (aI @List.map_cons.{0,0} (aI @List.map_nil.{0,0} (aI @opLen.eq_1 (aI @opLen.eq_2 (@opLen.eq_3)))))))))))))))))))))))))))))))))))))))
def XB2 := aI @opLen.eq_4 (aI @opLen.eq_5 (aI @opLen.eq_6 (aI @decide_true (aI @decide_false (aI @Bool.not_true (aI @Bool.not_false (aI @zs3 (aI @zs4 (aI @zs5 (aI @zs6 (aI @y0v (aI @List.nil_append.{0} (aI @List.append_nil.{0} (aI @List.cons_append.{0} (aI @List.length_cons.{0} (aI @List.length_nil.{0} (aI @List.replicate.eq_1.{0} (aI @List.replicate.eq_2.{0} (aI @St.ins.eq_1 (aI @St.set.eq_1 (aI @St.get.eq_1 (aI @opFaddr.eq_1 (aI @opFaddr.eq_2 (aI @opFaddr.eq_3 (aI @zdg (aI @scells.eq_1 (aI @sget.eq_1 (aI @sget.eq_2 (aI @Nat.add_zero (aI @Nat.zero_add (aI @Nat.add_eq_left (@Nat.add_one_ne_zero))))))))))))))))))))))))))))))))
def XB := aI XB0 (aI XB1 (XB2))
end Go.Lift
namespace Go.Lift
open Go
variable {G : Nat → Option IFun}
def zqd (es : Nat) (ag : Bool) : IC := (.seq (.reg 1 [⟨(.some 9), .bin .lss (.t 8) (.t 7), .none, []⟩])
 (.seq (.cond (.t 9) .skip
 (.exit 0))
 (.seq (.block 1 (.seq (.reg 2 [⟨(.some 10), .mv (.t 8), .none, []⟩,
 ⟨(.some 5), .mv (.t 10), .none, []⟩])
 (.seq (.reg 6 [⟨(.some 11), .mv (.t 1), .none, []⟩,
 ⟨(.some 12), .mv (.t 0), .none, []⟩,
 ⟨(.some 13), .mv (.t 5), .none, []⟩,
 ⟨(.some 14), .iaddrS es (.t 12) (.t 13), .none, []⟩,
 ⟨(.some 15), .load es ag (.t 14), .none, []⟩,
 ⟨(.some 16), .call (.o (.t 11)) [(.t 15)], .none, []⟩])
 (.cond (.t 16) (.seq (.reg 2 [⟨(.some 17), .mv (.t 5), .none, []⟩,
 ⟨(.some 4), .mv (.t 17), .none, []⟩])
 .ret)
 .skip))))
 (.reg 2 [⟨(.some 18), .bin .add (.t 8) (.c (.d (.int .i64 1))), .none, []⟩,
 ⟨(.some 8), .mv (.t 18), .none, []⟩]))))
def z46 (es : Nat) (ag : Bool) : IFun := { nt := 19, res := [.t 4], pure := false, pop := true, body := (.seq (.reg 1 [⟨(.some 4), .mv (.c (.d (.int .i64 0))), .none, []⟩])
 (.seq (.seq (.reg 3 [⟨(.some 6), .mv (.t 0), .none, []⟩,
 ⟨(.some 7), .len false (.t 6), .none, []⟩,
 ⟨(.some 8), .mv (.c (.d (.int .i64 0))), .none, []⟩])
 (.block 0 (.loop (zqd es ag))))
 (.seq (.reg 1 [⟨(.some 4), .mv (.c (.d (.int .i64 (-1)))), .none, []⟩])
 .ret))) }
theorem zwu {f es : Nat} {ag : Bool} (hG : G f = some (z46 es ag)) {fv : V} {s : List (Nat × Obj)} {nx lw : Nat} {p : D → Bool} {l : List D} (hl : l.length ≤ 9223372036854775807) (he : ∀ x ∈ l, Elt es ag x) (hf : Tells G fv s nx (· ∈ l) p) :
  z06 G (.fn f [] []) [.d (.sl l), fv] { s := s, next := nx, low := lw } = some (.d (.int .i64 (idxP p l)), { s := s, next := nx, low := lw }) := by
 refine z6f (us := [.d (.int .i64 (idxP p l))]) hG rfl rfl rfl ?_
 simp only [z46, ↓XA, XB, z14, simprocAttr]
 refine z30 (fun m env st => ∃ (i nx' : Nat) (t5 t9 t10 t11 t12 t13 t14 t15 t16 t17 t18 : V), m = l.length - i ∧ i ≤ l.length ∧ (∀ x ∈ l.take i, p x = false) ∧ nx ≤ nx' ∧
  env = [.d (.sl l), fv, .undef, .undef, .d (.int .i64 0), t5, .d (.sl l), .d (.int .i64 l.length), .d (.int .i64 i), t9, t10, t11, t12, t13, t14, t15, t16, t17, t18] ∧ st = { s := s, next := nx', low := nx }) ?_ l.length
  ⟨0, nx + 1 + 3, _, _, _, _, _, _, _, _, _, _, _, rfl, Nat.zero_le _, by simp, by omega, rfl, rfl⟩
 rintro m env st ⟨i, nx', t5, t9, t10, t11, t12, t13, t14, t15, t16, t17, t18, hm, hi, hall, hn, rfl, rfl⟩
 simp only [zqd, ↓XA, XB, z14, simprocAttr]
 by_cases hlt : i < l.length
 ·have hx := he l[i] (List.getElem_mem hlt)
  have hc : decide ((i : Int) < l.length) = true := by simp [hlt]
  simp only [hc, z7k hlt hx, z97 hx, ↓XA, XB, z14, simprocAttr]
  rw [hf _ (List.getElem_mem hlt) _ _ _ (Sub.refl _ _) (by omega)]
  simp only [↓XA, XB, z14, simprocAttr]
  cases hp : p l[i] with
  | true =>
   simp only [↓XA, XB, z14, simprocAttr]
   refine ⟨trivial, _, rfl, Nat.le_refl _, ?_⟩
   rw [zft hlt hall hp]
   rfl
  | false =>
   simp only [↓XA, XB, z14, simprocAttr]
   rw [z3f (by omega) (by omega)]
   exact ⟨l.length - (i + 1), by omega, i + 1, _, _, _, _, _, _, _, _, _, _, _, _, rfl, by omega, zin hlt hall hp, by omega, rfl, rfl⟩
 ·have hc : decide ((i : Int) < l.length) = false := by simp; omega
  simp only [hc, ↓XA, XB, z14, simprocAttr]
  have hil : i = l.length := by omega
  subst hil
  rw [List.take_length] at hall
  refine ⟨trivial, _, rfl, Nat.le_refl _, ?_⟩
  rw [zfu hall]
  rfl
theorem zjx {p : D → Bool} {l : List D} : decide ((0 : Int) ≤ idxP p l) = l.any p := by
 unfold idxP
 cases h : l.findIdx? p with
 | none =>
  rw [List.findIdx?_eq_none_iff] at h
  simp only
  symm
  rw [Bool.eq_iff_iff]
  simp only [List.any_eq_true, decide_eq_true_eq]
  constructor
  ·rintro ⟨x, h1, h2⟩
   rw [h x h1] at h2; cases h2
  ·intro h; omega
 | some i =>
  rw [List.findIdx?_eq_some_iff_getElem] at h
  obtain ⟨h1, h2, _⟩ := h
  simp only
  rw [Bool.eq_iff_iff]
  simp only [List.any_eq_true, decide_eq_true_eq]
  exact ⟨fun _ => ⟨_, List.getElem_mem h1, h2⟩, fun _ => by omega⟩
def z7r (idx : Nat) : IFun := { nt := 9, res := [.t 4], pure := false, pop := true, body := (.seq (.reg 1 [⟨(.some 4), .mv (.c (.d (.bool false))), .none, []⟩])
 (.seq (.reg 5 [⟨(.some 5), .mv (.t 0), .none, []⟩,
 ⟨(.some 6), .mv (.t 1), .none, []⟩,
 ⟨(.some 7), .call (.f idx) [(.t 5), (.t 6)], .none, []⟩,
 ⟨(.some 8), .bin .geq (.t 7) (.c (.d (.int .i64 0))), .none, []⟩,
 ⟨(.some 4), .mv (.t 8), .none, []⟩])
 .ret)) }
theorem zxg {f idx es : Nat} {ag : Bool} (hG : G f = some (z7r idx)) (hI : G idx = some (z46 es ag)) {fv : V} {s : List (Nat × Obj)} {nx lw : Nat} {p : D → Bool} {l : List D} (hl : l.length ≤ 9223372036854775807) (he : ∀ x ∈ l, Elt es ag x) (hf : Tells G fv s nx (· ∈ l) p) :
  z06 G (.fn f [] []) [.d (.sl l), fv] { s := s, next := nx, low := lw } = some (.d (.bool (l.any p)), { s := s, next := nx, low := lw }) := by
 refine z6f (us := [.d (.bool (l.any p))]) hG rfl rfl rfl ?_
 simp only [z7r, ↓XA, XB, z14, simprocAttr]
 rw [zwu hI hl he (hf.sub (Sub.refl _ _) (by omega))]
 simp only [↓XA, XB, z14, simprocAttr]
 refine ⟨trivial, _, rfl, Nat.le_refl _, ?_⟩
 rw [zjx]
 rfl
def zhv (con c : Nat) : IFun := { nt := 9, res := [.t 4], pure := false, pop := true, body := (.seq (.reg 2 [⟨(.some 3), .box 0 (.t 1), .none, []⟩,
 ⟨(.some 4), .mv (.c (.d (.bool false))), .none, []⟩])
 (.seq (.reg 5 [⟨(.some 5), .mv (.t 0), .none, []⟩,
 ⟨(.some 6), .mkf c [] [(.t 3)], .none, []⟩,
 ⟨(.some 7), .call (.f con) [(.t 5), (.t 6)], .none, []⟩,
 ⟨(.some 8), .un .not (.t 7), .none, []⟩,
 ⟨(.some 4), .mv (.t 8), .none, []⟩])
 .ret)) }
def evC (es : Nat) (ag : Bool) : IFun := { nt := 8, res := [.t 3], pure := false, pop := true, body := (.seq (.reg 2 [⟨(.some 2), .box 0 (.t 0), .none, []⟩,
 ⟨(.some 3), .mv (.c (.d (.bool false))), .none, []⟩])
 (.seq (.reg 5 [⟨(.some 4), .load 1 false (.t 1), .none, []⟩,
 ⟨(.some 5), .load es ag (.t 2), .none, []⟩,
 ⟨(.some 6), .call (.o (.t 4)) [(.t 5)], .none, []⟩,
 ⟨(.some 7), .un .not (.t 6), .none, []⟩,
 ⟨(.some 3), .mv (.t 7), .none, []⟩])
 .ret)) }
theorem y2m {c es : Nat} {ag : Bool} (hG : G c = some (evC es ag)) {hv : V} {s s1 : List (Nat × Obj)} {n0 n1 k : Nat} {dom : D → Prop} {p : D → Bool} (hh : Tells G hv s n0 dom p) (hd : ∀ x, dom x → Elt es ag x)
  (hs : Sub n0 s s1) (hn : n0 ≤ n1) (hk : k < n1) (ho : sget s1 k = some (.cells [hv])) : Tells G (.fn c [] [.ptr k 0]) s1 n1 dom (fun x => !p x) := by
 intro x hx s' nx lw hsub hnx
 refine z6f (us := [.d (.bool (!p x))]) hG rfl rfl rfl ?_
 obtain ⟨h1, h2, h3⟩ := zi8 (hd x hx)
 have hne : nx ≠ k := by omega
 have hok : sget s' k = some (.cells [hv]) := (hsub k hk).trans ho
 simp only [evC, h1, hne, hok, ↓XA, XB, z14, simprocAttr]
 simp only [List.length_cons, List.length_nil, Nat.reduceAdd, Nat.le_refl, ↓reduceIte, List.drop_zero, List.take_succ_cons, List.take_zero, ofCells, Bool.false_eq_true, ↓XA, XB, z14, simprocAttr]
 have h2' : ofCells ag ((cellsV (.d x)).take es) = some (.d x) := by simpa using h2
 have h3' : es ≤ (cellsV (.d x)).length := by omega
 simp only [ofCells] at h2'
 simp only [h3', h2', ↓XA, XB, z14, simprocAttr]
 rw [hh x hx _ _ _ (hs.trans (hsub.trans (Sub.cons hnx) (Nat.le_refl _)) hn) (by omega)]
 simp only [↓XA, XB, z14, simprocAttr]
 exact ⟨trivial, _, rfl, Nat.le_refl _, rfl⟩
def evC1 : IFun := { nt := 8, res := [.t 3], pure := false, pop := true, body := (.seq (.reg 1 [⟨(.some 3), .mv (.c (.d (.bool false))), .none, []⟩])
 (.seq (.reg 5 [⟨(.some 4), .load 1 false (.t 1), .none, []⟩,
 ⟨(.some 5), .mv (.t 0), .none, []⟩,
 ⟨(.some 6), .call (.o (.t 4)) [(.t 5)], .none, []⟩,
 ⟨(.some 7), .un .not (.t 6), .none, []⟩,
 ⟨(.some 3), .mv (.t 7), .none, []⟩])
 .ret)) }
theorem zyy {hv : V} : (if 1 ≤ [hv].length then ofCells false (([hv].drop 0).take 1) else none) = some hv := rfl
theorem zzq {c : Nat} (hG : G c = some evC1) {hv : V} {s s1 : List (Nat × Obj)} {n0 n1 k : Nat} {dom : D → Prop} {p : D → Bool} (hh : Tells G hv s n0 dom p)
  (hs : Sub n0 s s1) (hn : n0 ≤ n1) (hk : k < n1) (ho : sget s1 k = some (.cells [hv])) : Tells G (.fn c [] [.ptr k 0]) s1 n1 dom (fun x => !p x) := by
 intro x hx s' nx lw hsub hnx
 refine z6f (us := [.d (.bool (!p x))]) hG rfl rfl rfl ?_
 have hok : sget s' k = some (.cells [hv]) := (hsub k hk).trans ho
 have hl := zyy (hv := hv)
 simp only [List.length_cons, List.length_nil, Nat.zero_add, simprocAttr] at hl
 simp only [evC1, hok, hl, ↓XA, XB, z14, simprocAttr]
 rw [hh x hx _ _ _ (hs.trans hsub hn) (by omega)]
 simp only [↓XA, XB, z14, simprocAttr]
 exact ⟨trivial, _, rfl, Nat.le_refl _, rfl⟩
theorem zyl {p : D → Bool} {l : List D} : (!(l.any fun x => !p x)) = l.all p := by
 rw [List.not_any_eq_all_not]
 simp
theorem zuv {f con idx c es : Nat} {ag : Bool} (hG : G f = some (zhv con c)) (hC : G con = some (z7r idx)) (hI : G idx = some (z46 es ag)) (hc : G c = some (evC es ag) ∨ G c = some evC1) {hv : V} {s : List (Nat × Obj)} {nx lw : Nat} {p : D → Bool} {l : List D} (hcell : hv.isCell = true)
  (hcv : cellsV hv = [hv]) (hl : l.length ≤ 9223372036854775807) (he : ∀ x ∈ l, Elt es ag x) (hf : Tells G hv s nx (· ∈ l) p) :
  z06 G (.fn f [] []) [.d (.sl l), hv] { s := s, next := nx, low := lw } = some (.d (.bool (l.all p)), { s := s, next := nx, low := lw }) := by
 refine z6f (us := [.d (.bool (l.all p))]) hG rfl rfl rfl ?_
 simp only [zhv, hcv, hcell, List.all_cons, List.all_nil, Bool.and_self, ↓XA, XB, z14, simprocAttr]
 have htells : ∀ n1, nx < n1 → Tells G (.fn c [] [.ptr nx 0]) ((nx, .cells [hv]) :: s) n1 (· ∈ l) (fun x => !p x) := fun n1 hn1 => by
  rcases hc with hc | hc
  ·exact y2m hc (s := s) (n0 := nx) hf he (Sub.cons (Nat.le_refl _)) (by omega) hn1 (by simp [sget])
  ·exact zzq hc (s := s) (n0 := nx) hf (Sub.cons (Nat.le_refl _)) (by omega) hn1 (by simp [sget])
 rw [zxg hC hI hl he (htells _ (by omega))]
 simp only [↓XA, XB, z14, simprocAttr]
 refine ⟨trivial, _, rfl, Nat.le_refl _, ?_⟩
 rw [zyl]
 rfl
def zws : IC := (.seq (.reg 1 [⟨(.some 9), .bin .lss (.t 8) (.t 7), .none, []⟩])
 (.seq (.cond (.t 9) .skip
 (.exit 0))
 (.seq (.block 1 (.seq (.reg 2 [⟨(.some 10), .mv (.t 8), .none, []⟩,
 ⟨(.some 5), .mv (.t 10), .none, []⟩])
 (.seq (.reg 6 [⟨(.some 11), .mv (.t 1), .none, []⟩,
 ⟨(.some 12), .mv (.t 0), .none, []⟩,
 ⟨(.some 13), .mv (.t 5), .none, []⟩,
 ⟨(.some 14), .iaddrS 1 (.t 12) (.t 13), .none, []⟩,
 ⟨(.some 15), .load 1 false (.t 14), .none, []⟩,
 ⟨(.some 16), .bin .eql (.t 11) (.t 15), .none, []⟩])
 (.cond (.t 16) (.seq (.reg 2 [⟨(.some 17), .mv (.t 5), .none, []⟩,
 ⟨(.some 4), .mv (.t 17), .none, []⟩])
 .ret)
 .skip))))
 (.reg 2 [⟨(.some 18), .bin .add (.t 8) (.c (.d (.int .i64 1))), .none, []⟩,
 ⟨(.some 8), .mv (.t 18), .none, []⟩]))))
def zuh : IFun := { nt := 19, res := [.t 4], pure := true, pop := false, body := (.seq (.reg 1 [⟨(.some 4), .mv (.c (.d (.int .i64 0))), .none, []⟩])
 (.seq (.seq (.reg 3 [⟨(.some 6), .mv (.t 0), .none, []⟩,
 ⟨(.some 7), .len false (.t 6), .none, []⟩,
 ⟨(.some 8), .mv (.c (.d (.int .i64 0))), .none, []⟩])
 (.block 0 (.loop zws)))
 (.seq (.reg 1 [⟨(.some 4), .mv (.c (.d (.int .i64 (-1)))), .none, []⟩])
 .ret))) }
def y29 : D → Bool
 | .str _ => true
 | _ => false
def zgt (x : List Nat) : D → Bool
 | .str y => decide (x = y)
 | _ => false
theorem zrd {x : List Nat} : Elt 1 false (.str x) := .inr ⟨rfl, rfl, rfl⟩
theorem zb2 {k : IntKind} {n : Int} : Elt 1 false (.int k n) := .inr ⟨rfl, rfl, rfl⟩
theorem y3x {f : Nat} (hG : G f = some zuh) {l : List D} {x : List Nat} (hl : l.length ≤ 9223372036854775807) (he : ∀ y ∈ l, y29 y = true) (st : St) :
  z06 G (.fn f [] []) [.d (.sl l), .d (.str x)] st = some (.d (.int .i64 (idxP (zgt x) l)), st) := by
 refine z81 (ds := [.sl l, .str x]) (rs := [.int .i64 (idxP (zgt x) l)]) hG rfl rfl ?_ st
 simp only [zuh, ↓XA, XB, z14, simprocAttr]
 refine z30 (fun m env st => ∃ (i nx' : Nat) (t5 t9 t10 t11 t12 t13 t14 t15 t16 t17 t18 : V), m = l.length - i ∧ i ≤ l.length ∧ (∀ y ∈ l.take i, zgt x y = false) ∧
  env = [.d (.sl l), .d (.str x), .undef, .undef, .d (.int .i64 0), t5, .d (.sl l), .d (.int .i64 l.length), .d (.int .i64 i), t9, t10, t11, t12, t13, t14, t15, t16, t17, t18] ∧ st = { s := [], next := nx', low := 0 }) ?_ l.length
  ⟨0, _, _, _, _, _, _, _, _, _, _, _, _, rfl, Nat.zero_le _, by simp, rfl, rfl⟩
 rintro m env st ⟨i, nx', t5, t9, t10, t11, t12, t13, t14, t15, t16, t17, t18, hm, hi, hall, rfl, rfl⟩
 simp only [zws, ↓XA, XB, z14, simprocAttr]
 by_cases hlt : i < l.length
 ·have hs := he l[i] (List.getElem_mem hlt)
  have hc : decide ((i : Int) < l.length) = true := by simp [hlt]
  cases hy : l[i] with
  | str y =>
   have hx : Elt 1 false l[i] := by rw [hy]; exact zrd
   have hload : ∀ st, z1r st 1 false (.dptr (cellsD l[i])) = some (.d (.str y)) := fun st => by rw [z97 hx, hy]
   simp only [hc, z7k hlt hx, hload, ↓XA, XB, z14, simprocAttr]
   cases hp : zgt x l[i] with
   | true =>
    have hp' : decide (x = y) = true := by rw [hy] at hp; exact hp
    simp only [hp', ↓XA, XB, z14, simprocAttr]
    refine ⟨trivial, _, rfl, ?_⟩
    rw [zft hlt hall hp]
    rfl
   | false =>
    have hp' : decide (x = y) = false := by rw [hy] at hp; exact hp
    simp only [hp', ↓XA, XB, z14, simprocAttr]
    rw [z3f (by omega) (by omega)]
    exact ⟨l.length - (i + 1), by omega, i + 1, _, _, _, _, _, _, _, _, _, _, _, _, rfl, by omega, zin hlt hall hp, rfl, rfl⟩
  | _ => rw [hy] at hs; cases hs
 ·have hc : decide ((i : Int) < l.length) = false := by simp; omega
  simp only [hc, ↓XA, XB, z14, simprocAttr]
  have hil : i = l.length := by omega
  subst hil
  rw [List.take_length] at hall
  refine ⟨trivial, _, rfl, ?_⟩
  rw [zfu hall]
  rfl
def y00 (ix : Nat) : IFun := { nt := 9, res := [.t 4], pure := true, pop := false, body := (.seq (.reg 1 [⟨(.some 4), .mv (.c (.d (.bool false))), .none, []⟩])
 (.seq (.reg 5 [⟨(.some 5), .mv (.t 0), .none, []⟩,
 ⟨(.some 6), .mv (.t 1), .none, []⟩,
 ⟨(.some 7), .call (.f ix) [(.t 5), (.t 6)], .none, []⟩,
 ⟨(.some 8), .bin .geq (.t 7) (.c (.d (.int .i64 0))), .none, []⟩,
 ⟨(.some 4), .mv (.t 8), .none, []⟩])
 .ret)) }
theorem y4e {f ix : Nat} (hG : G f = some (y00 ix)) (hI : G ix = some zuh) {l : List D} {x : List Nat} (hl : l.length ≤ 9223372036854775807) (he : ∀ y ∈ l, y29 y = true) (st : St) :
  z06 G (.fn f [] []) [.d (.sl l), .d (.str x)] st = some (.d (.bool (l.any (zgt x))), st) := by
 refine z81 (ds := [.sl l, .str x]) (rs := [.bool (l.any (zgt x))]) hG rfl rfl ?_ st
 simp only [y00, ↓XA, XB, z14, simprocAttr]
 rw [y3x hI hl he]
 simp only [↓XA, XB, z14, simprocAttr]
 refine ⟨trivial, _, rfl, ?_⟩
 rw [zjx]
 rfl
def zxc (es : Nat) (ag : Bool) (z : List V) : IC := (.seq (.reg 1 [⟨(.some 18), .bin .lss (.t 17) (.t 16), .none, []⟩])
 (.seq (.cond (.t 18) .skip
 (.exit 0))
 (.seq (.block 1 (.seq (.reg 6 [⟨(.some 19), .mv (.t 17), .none, []⟩,
 ⟨(.some 20), .iaddrS es (.t 15) (.t 17), .none, []⟩,
 ⟨(.some 21), .load es ag (.t 20), .none, []⟩,
 ⟨(.some 8), .alloc 3 z, .none, []⟩,
 ⟨(.some 7), .mv (.t 19), .none, []⟩,
 ⟨.none, .store es (.t 8) (.t 21), .none, []⟩])
 (.seq (.reg 6 [⟨(.some 22), .mv (.t 1), .none, []⟩,
 ⟨(.some 23), .mv (.t 7), .none, []⟩,
 ⟨(.some 24), .iaddrS es (.t 22) (.t 23), .none, []⟩,
 ⟨(.some 25), .load es ag (.t 24), .none, []⟩,
 ⟨(.some 9), .alloc 4 z, .none, []⟩,
 ⟨.none, .store es (.t 9) (.t 25), .none, []⟩])
 (.seq (.reg 5 [⟨(.some 26), .mv (.t 2), .none, []⟩,
 ⟨(.some 27), .load es ag (.t 8), .none, []⟩,
 ⟨(.some 28), .load es ag (.t 9), .none, []⟩,
 ⟨(.some 29), .call (.o (.t 26)) [(.t 27), (.t 28)], .none, []⟩,
 ⟨(.some 30), .un .not (.t 29), .none, []⟩])
 (.cond (.t 30) (.seq (.reg 1 [⟨(.some 6), .mv (.c (.d (.bool false))), .none, []⟩])
 .ret)
 .skip)))))
 (.reg 2 [⟨(.some 31), .bin .add (.t 17) (.c (.d (.int .i64 1))), .none, []⟩,
 ⟨(.some 17), .mv (.t 31), .none, []⟩]))))
def zzr (es : Nat) (ag : Bool) (z : List V) : IFun := { nt := 32, res := [.t 6], pure := false, pop := true, body := (.seq (.reg 1 [⟨(.some 6), .mv (.c (.d (.bool false))), .none, []⟩])
 (.seq (.seq (.reg 5 [⟨(.some 10), .mv (.t 0), .none, []⟩,
 ⟨(.some 11), .len false (.t 10), .none, []⟩,
 ⟨(.some 12), .mv (.t 1), .none, []⟩,
 ⟨(.some 13), .len false (.t 12), .none, []⟩,
 ⟨(.some 14), .bin .neq (.t 11) (.t 13), .none, []⟩])
 (.cond (.t 14) (.seq (.reg 1 [⟨(.some 6), .mv (.c (.d (.bool false))), .none, []⟩])
 .ret)
 .skip))
 (.seq (.seq (.reg 3 [⟨(.some 15), .mv (.t 0), .none, []⟩,
 ⟨(.some 16), .len false (.t 15), .none, []⟩,
 ⟨(.some 17), .mv (.c (.d (.int .i64 0))), .none, []⟩])
 (.block 0 (.loop (zxc es ag z))))
 (.seq (.reg 1 [⟨(.some 6), .mv (.c (.d (.bool true))), .none, []⟩])
 .ret)))) }
def y3d (G : Nat → Option IFun) (fv : V) (s : List (Nat × Obj)) (n0 : Nat) (dom : D → D → Prop) (p : D → D → Bool) : Prop :=
 ∀ x y, dom x y → ∀ s' nx lw, Sub n0 s s' → n0 ≤ nx → z06 G fv [.d x, .d y] { s := s', next := nx, low := lw } = some (.d (.bool (p x y)), { s := s', next := nx, low := lw })
def all2 (p : D → D → Bool) : List D → List D → Bool
 | [], [] => true
 | x :: l, y :: m => p x y && all2 p l m
 | _, _ => false
theorem zl3 {p : D → D → Bool} : ∀ {l m : List D}, all2 p l m = true → l.length = m.length
 | [], [], _ => rfl
 | x :: l, y :: m, h => by
  simp only [all2, Bool.and_eq_true] at h
  simp [zl3 h.2]
 | [], y :: m, h => by simp [all2] at h
 | x :: l, [], h => by simp [all2] at h
theorem zei {p : D → D → Bool} : ∀ {l m : List D}, l.length = m.length → (all2 p l m = true ↔ ∀ (i : Nat) (h : i < l.length) (h' : i < m.length), p l[i] m[i] = true)
 | [], [], _ => ⟨fun _ i h => by simp at h, fun _ => rfl⟩
 | x :: l, y :: m, hl => by
  simp only [all2, Bool.and_eq_true, zei (l := l) (m := m) (by simpa using hl)]
  constructor
  ·rintro ⟨h1, h2⟩ i hi hi'
   cases i with
   | zero => exact h1
   | succ i => exact h2 i (by simpa using hi) (by simpa using hi')
  ·intro h
   exact ⟨h 0 (by simp) (by simp), fun i hi hi' => h (i + 1) (by simpa using hi) (by simpa using hi')⟩
 | [], y :: m, hl => by simp at hl
 | x :: l, [], hl => by simp at hl
theorem y49 {f es : Nat} {ag : Bool} {z : List V} (hG : G f = some (zzr es ag z)) (hz : z.length = es) {fv : V} {s : List (Nat × Obj)} {nx lw : Nat} {p : D → D → Bool} {l m : List D} (hl : l.length ≤ 9223372036854775807) (he : ∀ x ∈ l, Elt es ag x) (he' : ∀ x ∈ m, Elt es ag x)
  (hf : y3d G fv s nx (fun x y => x ∈ l ∧ y ∈ m) p) :
  z06 G (.fn f [] []) [.d (.sl l), .d (.sl m), fv] { s := s, next := nx, low := lw } = some (.d (.bool (all2 p l m)), { s := s, next := nx, low := lw }) := by
 refine z6f (us := [.d (.bool (all2 p l m))]) hG rfl rfl rfl ?_
 simp only [zzr, ↓XA, XB, z14, simprocAttr]
 by_cases hlen : l.length = m.length
 ·have h1 : (!decide ((l.length : Int) = m.length)) = false := by simp [hlen]
  simp only [h1, ↓XA, XB, z14, simprocAttr]
  refine z30 (fun k env st => ∃ (i nx' lw' : Nat) (s' : List (Nat × Obj)) (t7 t8 t9 t18 t19 t20 t21 t22 t23 t24 t25 t26 t27 t28 t29 t30 t31 : V), k = l.length - i ∧ i ≤ l.length ∧ (∀ (j : Nat) (h : j < l.length) (h' : j < m.length), j < i → p l[j] m[j] = true) ∧ nx ≤ nx' ∧ nx ≤ lw' ∧ Sub nx s s' ∧
   env = [.d (.sl l), .d (.sl m), fv, .undef, .undef, .undef, .d (.bool false), t7, t8, t9, .d (.sl l), .d (.int .i64 l.length), .d (.sl m), .d (.int .i64 m.length), .d (.bool false), .d (.sl l), .d (.int .i64 l.length), .d (.int .i64 i), t18, t19, t20, t21, t22, t23, t24, t25, t26, t27, t28, t29, t30, t31] ∧ st = { s := s', next := nx', low := lw' }) ?_ l.length
   ⟨0, _, _, _, _, _, _, _, _, _, _, _, _, _, _, _, _, _, _, _, _, rfl, Nat.zero_le _, fun j _ _ h => by omega, by omega, Nat.le_refl _, Sub.refl _ _, rfl, rfl⟩
  rintro k env st ⟨i, nx', lw', s', t7, t8, t9, t18, t19, t20, t21, t22, t23, t24, t25, t26, t27, t28, t29, t30, t31, hm, hi, hall, hn, hlw, hsub, rfl, rfl⟩
  simp only [zxc, ↓XA, XB, z14, simprocAttr]
  by_cases hlt : i < l.length
  ·have hlt' : i < m.length := by omega
   have hx := he l[i] (List.getElem_mem hlt)
   have hy := he' m[i] (List.getElem_mem hlt')
   have hd : decide ((i : Int) < l.length) = true := by simp [hlt]
   simp only [hd, z7k hlt hx, z97 hx, z7k hlt' hy, z97 hy, z9t hx hz, z9t hy hz, zge hx, zge hy, ↓XA, XB, z14, simprocAttr]
   have hsub' : Sub nx s ((nx' + 1 + 6 + 4, .cells (cellsV (.d m[i]))) :: (nx' + 1 + 3, .cells (cellsV (.d l[i]))) :: s') := hsub.trans ((Sub.cons (by omega)).trans (Sub.cons (by omega)) (Nat.le_refl _)) (Nat.le_refl _)
   rw [hf _ _ ⟨List.getElem_mem hlt, List.getElem_mem hlt'⟩ _ _ _ hsub' (by omega)]
   simp only [↓XA, XB, z14, simprocAttr]
   have hlw' : nx ≤ (lw'.min (nx' + 1 + 3)).min (nx' + 1 + 6 + 4) := Nat.le_min.2 ⟨Nat.le_min.2 ⟨hlw, by omega⟩, by omega⟩
   cases hp : p l[i] m[i] with
   | false =>
    simp only [Bool.not_false, ↓XA, XB, z14, simprocAttr]
    refine ⟨trivial, _, rfl, hlw', ?_⟩
    have : all2 p l m = false := by
     cases e : all2 p l m with
     | false => rfl
     | true =>
      have := (zei hlen).1 e i hlt hlt'
      rw [hp] at this; cases this
    rw [this]
    rfl
   | true =>
    simp only [Bool.not_true, ↓XA, XB, z14, simprocAttr]
    rw [z3f (by omega) (by omega)]
    refine ⟨l.length - (i + 1), by omega, i + 1, _, _, _, _, _, _, _, _, _, _, _, _, _, _, _, _, _, _, _, _, rfl, by omega, fun j h h' hj => ?_, by omega, hlw', hsub', rfl, rfl⟩
    by_cases e : j = i
    ·subst e; exact hp
    ·exact hall j h h' (by omega)
  ·have hd : decide ((i : Int) < l.length) = false := by simp; omega
   simp only [hd, ↓XA, XB, z14, simprocAttr]
   have hil : i = l.length := by omega
   subst hil
   refine ⟨trivial, _, rfl, hlw, ?_⟩
   rw [(zei hlen).2 fun j h h' => hall j h h' h]
   rfl
 ·have h1 : (!decide ((l.length : Int) = m.length)) = true := by simp; omega
  simp only [h1, ↓XA, XB, z14, simprocAttr]
  refine ⟨trivial, _, rfl, Nat.le_refl _, ?_⟩
  have : all2 p l m = false := by
   cases e : all2 p l m with
   | false => rfl
   | true => exact absurd (zl3 e) hlen
  rw [this]
  rfl
end Go.Lift
namespace Go.Lift
open Go
variable {G : Nat → Option IFun}
def isAz (c : Nat) : Bool := Nat.ble 97 c && Nat.ble c 122
def azSet : List D := (List.range 256).map fun c => .bool (isAz c)
theorem zgj : azSet.length = 256 := by simp [azSet]
theorem zvn {c : Nat} (h : c < 256) : azSet[c]? = some (.bool (isAz c)) := by
 simp [azSet, h]
theorem zmp : azSet.all D.isCell = true := by
 simp only [azSet, List.all_map, List.all_eq_true]
 intro c _; rfl
theorem y2q : Elt 256 true (.agg azSet) := .inl ⟨rfl, azSet, rfl, zgj, zmp⟩
def zmr : IFun := { nt := 10, res := [.t 4], pure := false, pop := true, body := (.seq (.reg 1 [⟨(.some 4), .mv (.c (.d (.bool false))), .none, []⟩])
 (.seq (.reg 6 [⟨(.some 5), .mv (.t 0), .none, []⟩,
 ⟨(.some 6), .mv (.t 1), .none, []⟩,
 ⟨(.some 7), .nilck (.t 5), .none, []⟩,
 ⟨(.some 8), .iaddrA 256 1 (.t 7) (.t 6), .none, []⟩,
 ⟨(.some 9), .load 1 false (.t 8), .none, []⟩,
 ⟨(.some 4), .mv (.t 9), .none, []⟩])
 .ret)) }
theorem y37 {f k c : Nat} (hG : G f = some zmr) {s : List (Nat × Obj)} {nx lw : Nat} (ho : sget s k = some (.cells (azSet.map V.d))) (hc : c < 256) :
  z06 G (.fn f [] []) [.ptr k 0, .d (.int .u8 c)] { s := s, next := nx, low := lw } = some (.d (.bool (isAz c)), { s := s, next := nx, low := lw }) := by
 refine z6f (us := [.d (.bool (isAz c))]) hG rfl rfl rfl ?_
 have h1 : z1j 256 1 (.ptr k 0) (c : Int) = some (.ptr k c) := by
  simp only [z1j]
  rw [if_pos (by omega)]
  simp
 have h2 : (if c + 1 ≤ (azSet.map V.d).length then ofCells false (((azSet.map V.d).drop c).take 1) else none) = some (.d (.bool (isAz c))) := by
  have hl := zgj
  rw [if_pos (by simp; omega)]
  have h3 : ((azSet.map V.d).drop c).take 1 = [.d (.bool (isAz c))] := by
   have h4 := zvn hc
   rw [List.take_one, List.head?_drop]
   simp [h4]
  rw [h3]
  rfl
 simp only [zmr, h1, ho, h2, ↓XA, XB, z14, simprocAttr]
 exact ⟨trivial, _, rfl, Nat.le_refl _, rfl⟩
def zng (con : Nat) : IC := (.seq (.seq (.reg 3 [⟨(.some 5), .mv (.t 0), .none, []⟩,
 ⟨(.some 6), .len true (.t 5), .none, []⟩,
 ⟨(.some 7), .bin .gtr (.t 6) (.c (.d (.int .i64 0))), .none, []⟩])
 (.cond (.t 7) .skip
 (.exit 0)))
 (.block 1 (.seq (.seq (.reg 5 [⟨(.some 8), .mv (.t 1), .none, []⟩,
 ⟨(.some 9), .mv (.t 0), .none, []⟩,
 ⟨(.some 10), .indexS (.t 9) (.c (.d (.int .i64 0))), .none, []⟩,
 ⟨(.some 11), .call (.f con) [(.t 8), (.t 10)], .none, []⟩,
 ⟨(.some 12), .un .not (.t 11), .none, []⟩])
 (.cond (.t 12) (.exit 0)
 .skip))
 (.reg 3 [⟨(.some 13), .mv (.t 0), .none, []⟩,
 ⟨(.some 14), .sliceS (.t 13) (.some (.c (.d (.int .i64 1)))) .none, .none, []⟩,
 ⟨(.some 0), .mv (.t 14), .none, []⟩]))))
def zsx (con : Nat) : IFun := { nt := 16, res := [.t 4], pure := false, pop := true, body := (.seq (.reg 1 [⟨(.some 4), .mv (.c (.d (.str []))), .none, []⟩])
 (.seq (.block 0 (.loop (zng con)))
 (.seq (.reg 2 [⟨(.some 15), .mv (.t 0), .none, []⟩,
 ⟨(.some 4), .mv (.t 15), .none, []⟩])
 .ret))) }
def znd (con : Nat) : IC := (.seq (.seq (.reg 3 [⟨(.some 5), .mv (.t 0), .none, []⟩,
 ⟨(.some 6), .len true (.t 5), .none, []⟩,
 ⟨(.some 7), .bin .gtr (.t 6) (.c (.d (.int .i64 0))), .none, []⟩])
 (.cond (.t 7) .skip
 (.exit 0)))
 (.block 1 (.seq (.seq (.reg 8 [⟨(.some 8), .mv (.t 1), .none, []⟩,
 ⟨(.some 9), .mv (.t 0), .none, []⟩,
 ⟨(.some 10), .mv (.t 0), .none, []⟩,
 ⟨(.some 11), .len true (.t 10), .none, []⟩,
 ⟨(.some 12), .bin .sub (.t 11) (.c (.d (.int .i64 1))), .none, []⟩,
 ⟨(.some 13), .indexS (.t 9) (.t 12), .none, []⟩,
 ⟨(.some 14), .call (.f con) [(.t 8), (.t 13)], .none, []⟩,
 ⟨(.some 15), .un .not (.t 14), .none, []⟩])
 (.cond (.t 15) (.exit 0)
 .skip))
 (.reg 6 [⟨(.some 16), .mv (.t 0), .none, []⟩,
 ⟨(.some 17), .mv (.t 0), .none, []⟩,
 ⟨(.some 18), .len true (.t 17), .none, []⟩,
 ⟨(.some 19), .bin .sub (.t 18) (.c (.d (.int .i64 1))), .none, []⟩,
 ⟨(.some 20), .sliceS (.t 16) .none (.some (.t 19)), .none, []⟩,
 ⟨(.some 0), .mv (.t 20), .none, []⟩]))))
def zsv (con : Nat) : IFun := { nt := 22, res := [.t 4], pure := false, pop := true, body := (.seq (.reg 1 [⟨(.some 4), .mv (.c (.d (.str []))), .none, []⟩])
 (.seq (.block 0 (.loop (znd con)))
 (.seq (.reg 2 [⟨(.some 21), .mv (.t 0), .none, []⟩,
 ⟨(.some 4), .mv (.t 21), .none, []⟩])
 .ret))) }
theorem y3p {f con k : Nat} (hG : G f = some (zsx con)) (hC : G con = some zmr) {s : List (Nat × Obj)} {nx lw : Nat} (ho : sget s k = some (.cells (azSet.map V.d))) {x : List Nat} (hx : ∀ c ∈ x, c < 256) (hl : x.length ≤ 9223372036854775807) :
  z06 G (.fn f [] []) [.d (.str x), .ptr k 0] { s := s, next := nx, low := lw } = some (.d (.str (x.dropWhile isAz)), { s := s, next := nx, low := lw }) := by
 refine z6f (us := [.d (.str (x.dropWhile isAz))]) hG rfl rfl rfl ?_
 simp only [zsx, ↓XA, XB, z14, simprocAttr]
 refine z30 (fun m env st => ∃ (r : List Nat) (nx' : Nat) (t5 t6 t7 t8 t9 t10 t11 t12 t13 t14 t15 : V), m = r.length ∧ r.length ≤ x.length ∧ (∀ c ∈ r, c < 256) ∧ r.dropWhile isAz = x.dropWhile isAz ∧ nx ≤ nx' ∧
  env = [.d (.str r), .ptr k 0, .undef, .undef, .d (.str []), t5, t6, t7, t8, t9, t10, t11, t12, t13, t14, t15] ∧ st = { s := s, next := nx', low := nx }) ?_ x.length
  ⟨x, _, _, _, _, _, _, _, _, _, _, _, _, rfl, Nat.le_refl _, hx, rfl, by omega, rfl, rfl⟩
 rintro m env st ⟨r, nx', t5, t6, t7, t8, t9, t10, t11, t12, t13, t14, t15, hm, hle, hr, hdw, hn, rfl, rfl⟩
 cases r with
 | nil =>
  have hd : decide ((0 : Int) < ((0 : Nat) : Int)) = false := rfl
  simp only [zng, hd, ↓XA, XB, z14, simprocAttr]
  refine ⟨trivial, _, rfl, Nat.le_refl _, ?_⟩
  rw [← hdw]
  rfl
 | cons c r =>
  have hd : decide ((0 : Int) < ((r.length + 1 : Nat) : Int)) = true := by simp
  have hi : z45 (c :: r) 0 = some (.d (.int .u8 c)) := rfl
  have hb : z3d (some (.d (.int .i64 1))) none (r.length + 1) (r.length + 1) = some (1, r.length + 1) := by
   simp only [z3d, asI]
   rw [if_pos (by omega)]
   rfl
  have hc : c < 256 := hr c (by simp)
  simp only [zng, hd, hi, ↓XA, XB, z14, simprocAttr]
  rw [y37 hC ho hc]
  simp only [↓XA, XB, z14, simprocAttr]
  cases hz : isAz c with
  | false =>
   simp only [Bool.not_false, ↓XA, XB, z14, simprocAttr]
   refine ⟨trivial, _, rfl, Nat.le_refl _, ?_⟩
   rw [← hdw, List.dropWhile_cons, hz]
   rfl
  | true =>
   have hsl : ((c :: r).drop 1).take r.length = r := by simp
   simp only [Bool.not_true, Option.map_some, Option.map_none, hb, hsl, ↓XA, XB, z14, simprocAttr]
   refine ⟨r.length, by simp at hm; omega, r, _, _, _, _, _, _, _, _, _, _, _, _, rfl, by simp at hle; omega, fun d hd => hr d (by simp [hd]), ?_, by omega, rfl, rfl⟩
   rw [← hdw, List.dropWhile_cons, hz]
   rfl
def z3z (x : List Nat) : List Nat := (x.reverse.dropWhile isAz).reverse
theorem z8k {x : List Nat} {c : Nat} : z3z (x ++ [c]) = if isAz c then z3z x else x ++ [c] := by
 unfold z3z
 rw [List.reverse_append, List.reverse_singleton, List.singleton_append, List.dropWhile_cons]
 split
 ·rfl
 ·simp
theorem y3n {f con k : Nat} (hG : G f = some (zsv con)) (hC : G con = some zmr) {s : List (Nat × Obj)} {nx lw : Nat} (ho : sget s k = some (.cells (azSet.map V.d))) {x : List Nat} (hx : ∀ c ∈ x, c < 256) (hl : x.length ≤ 9223372036854775807) :
  z06 G (.fn f [] []) [.d (.str x), .ptr k 0] { s := s, next := nx, low := lw } = some (.d (.str (z3z x)), { s := s, next := nx, low := lw }) := by
 refine z6f (us := [.d (.str (z3z x))]) hG rfl rfl rfl ?_
 simp only [zsv, ↓XA, XB, z14, simprocAttr]
 refine z30 (fun m env st => ∃ (r : List Nat) (nx' : Nat) (t5 t6 t7 t8 t9 t10 t11 t12 t13 t14 t15 t16 t17 t18 t19 t20 t21 : V), m = r.length ∧ r.length ≤ x.length ∧ (∀ c ∈ r, c < 256) ∧ z3z r = z3z x ∧ nx ≤ nx' ∧
  env = [.d (.str r), .ptr k 0, .undef, .undef, .d (.str []), t5, t6, t7, t8, t9, t10, t11, t12, t13, t14, t15, t16, t17, t18, t19, t20, t21] ∧ st = { s := s, next := nx', low := nx }) ?_ x.length
  ⟨x, _, _, _, _, _, _, _, _, _, _, _, _, _, _, _, _, _, _, rfl, Nat.le_refl _, hx, rfl, by omega, rfl, rfl⟩
 rintro m env st ⟨r, nx', t5, t6, t7, t8, t9, t10, t11, t12, t13, t14, t15, t16, t17, t18, t19, t20, t21, hm, hle, hr, hdw, hn, rfl, rfl⟩
 rcases List.eq_nil_or_concat r with rfl | ⟨r', c, rfl⟩
 ·have hd : decide ((0 : Int) < ((0 : Nat) : Int)) = false := rfl
  simp only [znd, hd, ↓XA, XB, z14, simprocAttr]
  refine ⟨trivial, _, rfl, Nat.le_refl _, ?_⟩
  rw [← hdw]
  rfl
 ·simp only [List.concat_eq_append] at hm hle hr hdw ⊢
  have hlen : (r' ++ [c]).length = r'.length + 1 := by simp
  rw [hlen] at hle hm
  have hd : decide ((0 : Int) < ((r'.length + 1 : Nat) : Int)) = true := by simp
  have hw : IntKind.i64.wrap (((r'.length + 1 : Nat) : Int) - 1) = (r'.length : Int) := by
   rw [z3f (by omega) (by omega)]
   omega
  have hi : z45 (r' ++ [c]) (r'.length : Int) = some (.d (.int .u8 c)) := by
   simp [z45]
  have hb : z3d none (some (.d (.int .i64 (r'.length : Int)))) (r'.length + 1) (r'.length + 1) = some (0, r'.length) := by
   simp only [z3d, asI]
   rw [if_pos (by omega)]
   rfl
  have hc : c < 256 := hr c (by simp)
  simp only [znd, hlen, hd, hw, hi, ↓XA, XB, z14, simprocAttr]
  rw [y37 hC ho hc]
  simp only [↓XA, XB, z14, simprocAttr]
  cases hz : isAz c with
  | false =>
   simp only [Bool.not_false, ↓XA, XB, z14, simprocAttr]
   refine ⟨trivial, _, rfl, Nat.le_refl _, ?_⟩
   rw [← hdw, z8k, hz]
   rfl
  | true =>
   have hsl : ((r' ++ [c]).drop 0).take (r'.length - 0) = r' := by simp
   simp only [Bool.not_true, Option.map_some, Option.map_none, hlen, hw, hb, hsl, ↓XA, XB, z14, simprocAttr]
   refine ⟨r'.length, by omega, r', _, _, _, _, _, _, _, _, _, _, _, _, _, _, _, _, _, _, rfl, by omega, fun d hd => hr d (by simp [hd]), ?_, by omega, rfl, rfl⟩
   rw [← hdw, z8k, hz]
   rfl
def z256 : List V := List.replicate 256 (.d (.bool false))
def zty : IFun := { nt := 21, res := [.cell 2 256 true, .t 3], pure := true, pop := false, body := (.seq (.reg 2 [⟨(.some 2), .alloc 0 z256, .none, []⟩,
 ⟨(.some 3), .mv (.c (.d (.bool false))), .none, []⟩])
 (.seq (.seq (.reg 1 [⟨(.some 4), .mv (.c (.d (.int .i64 0))), .none, []⟩])
 (.block 0 (.loop (.seq (.seq (.reg 4 [⟨(.some 6), .mv (.t 4), .none, []⟩,
 ⟨(.some 7), .mv (.t 0), .none, []⟩,
 ⟨(.some 8), .len true (.t 7), .none, []⟩,
 ⟨(.some 9), .bin .lss (.t 6) (.t 8), .none, []⟩])
 (.cond (.t 9) .skip
 (.exit 0)))
 (.seq (.block 1 (.seq (.reg 4 [⟨(.some 12), .mv (.t 0), .none, []⟩,
 ⟨(.some 13), .mv (.t 4), .none, []⟩,
 ⟨(.some 14), .indexS (.t 12) (.t 13), .none, []⟩,
 ⟨(.some 5), .mv (.t 14), .none, []⟩])
 (.seq (.seq (.reg 2 [⟨(.some 15), .mv (.t 5), .none, []⟩,
 ⟨(.some 16), .bin .geq (.t 15) (.c (.d (.int .u8 128))), .none, []⟩])
 (.cond (.t 16) (.seq (.reg 3 [⟨(.some 17), .load 256 true (.t 2), .none, []⟩,
 ⟨.none, .store 256 (.t 2) (.t 17), .none, []⟩,
 ⟨(.some 3), .mv (.c (.d (.bool false))), .none, []⟩])
 .ret)
 .skip))
 (.reg 3 [⟨(.some 18), .mv (.t 5), .none, []⟩,
 ⟨(.some 19), .iaddrA 256 1 (.t 2) (.t 18), .none, []⟩,
 ⟨.none, .store 1 (.t 19) (.c (.d (.bool true))), .none, []⟩]))))
 (.reg 3 [⟨(.some 10), .mv (.t 4), .none, []⟩,
 ⟨(.some 11), .bin .add (.t 10) (.c (.d (.int .i64 1))), .none, []⟩,
 ⟨(.some 4), .mv (.t 11), .none, []⟩]))))))
 (.seq (.reg 3 [⟨(.some 20), .load 256 true (.t 2), .none, []⟩,
 ⟨.none, .store 256 (.t 2) (.t 20), .none, []⟩,
 ⟨(.some 3), .mv (.c (.d (.bool true))), .none, []⟩])
 .ret))) }
def azStr : List Nat := [97, 98, 99, 100, 101, 102, 103, 104, 105, 106, 107, 108, 109, 110, 111, 112, 113, 114, 115, 116, 117, 118, 119, 120, 121, 122]
def zp8 : z11 := fun _ _ _ => none
noncomputable def zsb (F : IFun) (args : List V) (m : Nat) (rs : List D) : Bool :=
 match zmn zp8 m F args { s := [], next := 0, low := 0 } with
 | some (vs, st1) => (match z0p st1.s 0 vs with | some r => D.beqL r rs | none => false)
 | none => false
theorem y4f {F : IFun} {args : List V} {m : Nat} {rs : List D} (h : zsb F args m rs = true) : ∃ vs st1, z4h G F args { s := [], next := 0, low := 0 } = some (vs, st1) ∧ z0p st1.s 0 vs = some rs := by
 unfold zsb at h
 split at h
 ·rename_i vs st1 hb
  split at h
  ·rename_i r hr
   refine ⟨vs, st1, ?_, by rw [hr, D.eq_of_beqL h]⟩
   have h1 := zkw hb
   rw [← zed] at h1
   have hle : LeC zp8 (z06 G) := fun v a s r h => by simp [zp8] at h
   have hll : LeL (fun f => rounds f m) z0h := fun f g hfg env st r h => z2o.2 ⟨m, z1u hfg (Nat.le_refl _) h⟩
   exact z3t hle hll h1
  ·cases h
 ·cases h
set_option maxRecDepth 100000 in
theorem y21 : zsb zty [.d (.str azStr)] 40 [.agg azSet, .bool true] = true := by kernel_rfl
theorem y3v {f : Nat} (hG : G f = some zty) (st : St) : z06 G (.fn f [] []) [.d (.str azStr)] st = some (.tup [.d (.agg azSet), .d (.bool true)], st) := by
 obtain ⟨vs, st1, h1, h2⟩ := y4f (G := G) y21
 exact zfa (ds := [.str azStr]) hG rfl rfl h1 h2 st
def zsw (b166 b167 ma tl tr b171 b172 : Nat) : IFun := { nt := 43, res := [.t 4], pure := true, pop := false, body := (.seq (.reg 1 [⟨(.some 4), .mv (.c (.d (.str []))), .none, []⟩])
 (.seq (.seq (.reg 6 [⟨(.some 7), .mv (.t 0), .none, []⟩,
 ⟨(.some 8), .bin .eql (.t 7) (.c (.d (.str []))), .none, []⟩,
 ⟨(.some 9), .mv (.t 8), .none, []⟩,
 ⟨(.some 10), .mv (.t 1), (.some (9, false)), []⟩,
 ⟨(.some 11), .bin .eql (.t 10) (.c (.d (.str []))), (.some (9, false)), []⟩,
 ⟨(.some 12), .pick (.t 9) (.c (.d (.bool true))) (.t 11), .none, []⟩])
 (.cond (.t 12) (.seq (.reg 2 [⟨(.some 13), .mv (.t 0), .none, []⟩,
 ⟨(.some 4), .mv (.t 13), .none, []⟩])
 .ret)
 .skip))
 (.seq (.seq (.reg 8 [⟨(.some 14), .mv (.t 1), .none, []⟩,
 ⟨(.some 15), .len true (.t 14), .none, []⟩,
 ⟨(.some 16), .bin .eql (.t 15) (.c (.d (.int .i64 1))), .none, []⟩,
 ⟨(.some 17), .mv (.t 16), .none, []⟩,
 ⟨(.some 18), .mv (.t 1), (.some (17, true)), []⟩,
 ⟨(.some 19), .indexS (.t 18) (.c (.d (.int .i64 0))), (.some (17, true)), []⟩,
 ⟨(.some 20), .bin .lss (.t 19) (.c (.d (.int .u8 128))), (.some (17, true)), []⟩,
 ⟨(.some 21), .pick (.t 17) (.t 20) (.c (.d (.bool false))), .none, []⟩])
 (.cond (.t 21) (.seq (.reg 8 [⟨(.some 22), .mv (.t 0), .none, []⟩,
 ⟨(.some 23), .mv (.t 1), .none, []⟩,
 ⟨(.some 24), .indexS (.t 23) (.c (.d (.int .i64 0))), .none, []⟩,
 ⟨(.some 26), .mv (.t 1), .none, []⟩,
 ⟨(.some 27), .indexS (.t 26) (.c (.d (.int .i64 0))), .none, []⟩,
 ⟨(.some 25), .call (.f b167) [(.t 22), (.t 24)], .none, []⟩,
 ⟨(.some 28), .call (.f b166) [(.t 25), (.t 27)], .none, []⟩,
 ⟨(.some 4), .mv (.t 28), .none, []⟩])
 .ret)
 .skip))
 (.seq (.seq (.reg 8 [⟨(.some 30), .mv (.t 1), .none, []⟩,
 ⟨(.some 31), .call (.f ma) [(.t 30)], .none, []⟩,
 ⟨(.some 29), .mv (.t 31), .none, []⟩,
 ⟨(.some 32), .ext 0 (.t 29), .none, []⟩,
 ⟨(.some 33), .ext 1 (.t 29), .none, []⟩,
 ⟨(.some 5), .alloc 5 z256, .none, []⟩,
 ⟨.none, .store 256 (.t 5) (.t 32), .none, []⟩,
 ⟨(.some 6), .mv (.t 33), .none, []⟩])
 (.seq (.reg 1 [⟨(.some 34), .mv (.t 6), .none, []⟩])
 (.cond (.t 34) (.seq (.reg 4 [⟨(.some 35), .mv (.t 0), .none, []⟩,
 ⟨(.some 36), .call (.f tr) [(.t 35), (.t 5)], .none, []⟩,
 ⟨(.some 37), .call (.f tl) [(.t 36), (.t 5)], .none, []⟩,
 ⟨(.some 4), .mv (.t 37), .none, []⟩])
 .ret)
 .skip)))
 (.seq (.reg 6 [⟨(.some 38), .mv (.t 0), .none, []⟩,
 ⟨(.some 39), .mv (.t 1), .none, []⟩,
 ⟨(.some 40), .call (.f b172) [(.t 38), (.t 39)], .none, []⟩,
 ⟨(.some 41), .mv (.t 1), .none, []⟩,
 ⟨(.some 42), .call (.f b171) [(.t 40), (.t 41)], .none, []⟩,
 ⟨(.some 4), .mv (.t 42), .none, []⟩])
 .ret))))) }
theorem ztb {x : List Nat} (hx : ∀ c ∈ x, c < 256) : ∀ c ∈ z3z x, c < 256 := fun c hc => by
 unfold z3z at hc
 exact hx c (List.mem_reverse.1 ((List.dropWhile_sublist _).subset (List.mem_reverse.1 hc)))
theorem zod {x : List Nat} : (z3z x).length ≤ x.length := by
 unfold z3z
 rw [List.length_reverse]
 exact Nat.le_trans (List.Sublist.length_le (List.dropWhile_sublist _)) (by simp)
theorem y3o {f b166 b167 ma tl tr b171 b172 con : Nat} (hG : G f = some (zsw b166 b167 ma tl tr b171 b172)) (hM : G ma = some zty) (hL : G tl = some (zsx con)) (hR : G tr = some (zsv con)) (hC : G con = some zmr)
  {x : List Nat} (hx : ∀ c ∈ x, c < 256) (hl : x.length ≤ 9223372036854775807) (st : St) :
  z06 G (.fn f [] []) [.d (.str x), .d (.str azStr)] st = some (.d (.str ((z3z x).dropWhile isAz)), st) := by
 refine z81 (ds := [.str x, .str azStr]) (rs := [.str ((z3z x).dropWhile isAz)]) hG rfl rfl ?_ st
 have haz : decide (azStr = []) = false := rfl
 have hlen : azStr.length = 26 := rfl
 have h26 : decide (((26 : Nat) : Int) = 1) = false := rfl
 have haz' : ∀ k, sget [(k, Obj.cells (cellsV (.d (.agg azSet))))] k = some (.cells (azSet.map V.d)) := fun k => by simp [sget, cellsV]
 have htr : ∀ k nx lw, z06 G (.fn tr [] []) [.d (.str x), .ptr k 0] { s := [(k, .cells (cellsV (.d (.agg azSet))))], next := nx, low := lw } = some (.d (.str (z3z x)), { s := [(k, .cells (cellsV (.d (.agg azSet))))], next := nx, low := lw }) :=
  fun k nx lw => y3n hR hC (haz' k) hx hl
 have htl : ∀ k nx lw, z06 G (.fn tl [] []) [.d (.str (z3z x)), .ptr k 0] { s := [(k, .cells (cellsV (.d (.agg azSet))))], next := nx, low := lw } = some (.d (.str ((z3z x).dropWhile isAz)), { s := [(k, .cells (cellsV (.d (.agg azSet))))], next := nx, low := lw }) :=
  fun k nx lw => y3p hL hC (haz' k) (ztb hx) (Nat.le_trans zod hl)
 have hst : ∀ k nx lw, opStore { s := [(k, .cells z256)], next := nx, low := lw } 256 (.ptr k 0) (.d (.agg azSet)) = some { s := [(k, .cells (cellsV (.d (.agg azSet))))], next := nx, low := Nat.min lw k } :=
  fun k nx lw => z9t y2q (by unfold z256; exact List.length_replicate)
 have hma : ∀ st, z06 G (.fn ma [] []) [.d (.str azStr)] st = some (.tup [.d (.agg azSet), .d (.bool true)], st) := y3v hM
 cases hx0 : decide (x = []) with
 | true =>
  have hx' : x = [] := by simpa using hx0
  subst hx'
  simp only [zsw, ↓XA, XB, z14, simprocAttr]
  exact ⟨trivial, _, rfl, rfl⟩
 | false =>
  simp only [zsw, hx0, haz, hlen, h26, hma, htr, htl, hst, List.getElem?_cons_zero, List.getElem?_cons_succ, ↓XA, XB, z14, simprocAttr]
  exact ⟨trivial, _, rfl, rfl⟩
theorem zkh {p : Nat → Bool} : ∀ {l : List Nat}, l.dropWhile p = [] ↔ ∀ x ∈ l, p x = true
 | [] => by simp
 | y :: l => by
  rw [List.dropWhile_cons]
  split
  ·rename_i h
   rw [zkh]
   exact ⟨fun h1 x hx => (List.mem_cons.1 hx).elim (fun e => e ▸ h) (h1 x), fun h1 x hx => h1 x (List.mem_cons_of_mem _ hx)⟩
  ·rename_i h
   exact ⟨fun h1 => (by cases h1), fun h1 => absurd (h1 y (by simp)) h⟩
theorem zsu {x : List Nat} : decide ((z3z x).dropWhile isAz = []) = x.all isAz := by
 rw [Bool.eq_iff_iff, decide_eq_true_iff, List.all_eq_true]
 constructor
 ·intro h c hc
  have h1 : ∀ c ∈ z3z x, isAz c = true := fun c hc => by
   have := zkh.1 h
   exact this c hc
  unfold z3z at h1
  cases hd : x.reverse.dropWhile isAz with
  | nil => exact zkh.1 hd c (List.mem_reverse.2 hc)
  | cons y l =>
   have h2 : isAz y = true := h1 y (by rw [hd]; simp)
   have h3 := List.head_dropWhile_not isAz (l := x.reverse) (by rw [hd]; simp)
   simp only [hd, List.head_cons] at h3
   rw [h2] at h3; cases h3
 ·intro h
  have h1 : x.reverse.dropWhile isAz = [] := zkh.2 fun c hc => h c (List.mem_reverse.1 hc)
  unfold z3z
  rw [h1]
  rfl
def zlu (tm : Nat) : IFun := { nt := 16, res := [.t 2], pure := true, pop := false, body := (.seq (.reg 1 [⟨(.some 2), .mv (.c (.d (.bool false))), .none, []⟩])
 (.seq (.reg 14 [⟨(.some 3), .mv (.t 0), .none, []⟩,
 ⟨(.some 4), .len true (.t 3), .none, []⟩,
 ⟨(.some 5), .bin .gtr (.t 4) (.c (.d (.int .i64 0))), .none, []⟩,
 ⟨(.some 6), .mv (.t 5), .none, []⟩,
 ⟨(.some 7), .mv (.t 0), (.some (6, true)), []⟩,
 ⟨(.some 8), .len true (.t 7), (.some (6, true)), []⟩,
 ⟨(.some 9), .bin .leq (.t 8) (.c (.d (.int .i64 8))), (.some (6, true)), []⟩,
 ⟨(.some 10), .pick (.t 6) (.t 9) (.c (.d (.bool false))), .none, []⟩,
 ⟨(.some 11), .mv (.t 10), .none, []⟩,
 ⟨(.some 12), .mv (.t 0), (.some (11, true)), []⟩,
 ⟨(.some 13), .call (.f tm) [(.t 12), (.c (.d (.str azStr)))], (.some (11, true)), []⟩,
 ⟨(.some 14), .bin .eql (.t 13) (.c (.d (.str []))), (.some (11, true)), []⟩,
 ⟨(.some 15), .pick (.t 11) (.t 14) (.c (.d (.bool false))), .none, []⟩,
 ⟨(.some 2), .mv (.t 15), .none, []⟩])
 .ret)) }
def z0z (x : List Nat) : Bool := decide (0 < x.length) && decide (x.length ≤ 8) && x.all isAz
theorem y1p {f tm : Nat} (hG : G f = some (zlu tm)) {x : List Nat} (hT : ∀ st, z06 G (.fn tm [] []) [.d (.str x), .d (.str azStr)] st = some (.d (.str ((z3z x).dropWhile isAz)), st)) (st : St) :
  z06 G (.fn f [] []) [.d (.str x)] st = some (.d (.bool (z0z x)), st) := by
 refine z81 (ds := [.str x]) (rs := [.bool (z0z x)]) hG rfl rfl ?_ st
 cases h0 : decide ((0 : Int) < (x.length : Int)) with
 | false =>
  have hn : z0z x = false := by
   have : ¬ 0 < x.length := by simpa using h0
   simp [z0z, this]
  simp only [zlu, h0, ↓XA, XB, z14, simprocAttr]
  exact ⟨trivial, _, rfl, by rw [hn]; rfl⟩
 | true =>
  have h0' : 0 < x.length := by simpa using h0
  cases h1 : decide ((x.length : Int) ≤ 8) with
  | false =>
   have hn : z0z x = false := by
    have : ¬ x.length ≤ 8 := by have := of_decide_eq_false h1; omega
    simp [z0z, this]
   simp only [zlu, h0, h1, ↓XA, XB, z14, simprocAttr]
   exact ⟨trivial, _, rfl, by rw [hn]; rfl⟩
  | true =>
   have hn : z0z x = decide ((z3z x).dropWhile isAz = []) := by
    have : x.length ≤ 8 := by have := of_decide_eq_true h1; omega
    rw [zsu]
    simp [z0z, this, h0']
   simp only [zlu, h0, h1, hT, ↓XA, XB, z14, simprocAttr]
   exact ⟨trivial, _, rfl, by rw [hn]; rfl⟩
end Go.Lift
namespace Go.Lift
open Go
variable {G : Nat → Option IFun}
theorem zxi {b : Bool} : (b == true) = b := by cases b <;> rfl
theorem zxl {b : Bool} : (b == false) = !b := by cases b <;> rfl
theorem zgh {b : Bool} : ((!b) = true) = (b = false) := by cases b <;> simp
theorem zxj {b : Bool} : (b != true) = !b := by cases b <;> rfl
theorem zxk {b : Bool} : (b != false) = b := by cases b <;> rfl
theorem zg9 {p : Prop} [Decidable p] : (decide p = false) = ¬p := by simp
theorem zc7 {a b : Nat} : ((a : Int) < (b : Int)) = (a < b) := by simp
theorem zc8 {a b : Nat} : ((a : Int) ≤ (b : Int)) = (a ≤ b) := by simp
theorem z24 {α : Type} {enc : α → D} {l : List α} {i es : Nat} (hi : i < l.length) (he : (cellsD (enc l[i])).length = es) : z0a es (.d (.sl (l.map enc))) (i : Int) = some (.dptr (cellsD (enc l[i]))) := by
 simp only [z0a]
 rw [if_pos (by omega)]
 simp [hi, he]
theorem zan {l : List (List Nat)} {i : Nat} (hi : i < l.length) : z0a 1 (.d (.sl (l.map D.str))) (i : Int) = some (.dptr [.str l[i]]) := z24 (enc := D.str) hi rfl
theorem z3c {k : IntKind} {l : List Int} {i : Nat} (hi : i < l.length) : z0a 1 (.d (.sl (l.map (D.int k)))) (i : Int) = some (.dptr [.int k l[i]]) := z24 (enc := D.int k) hi rfl
theorem z08 {i n : Nat} (hi : i < n) (hn : n ≤ 9223372036854775807) : IntKind.i64.wrap ((i : Int) + 1) = ((i + 1 : Nat) : Int) := by
 rw [z3f (by omega) (by omega)]
 omega
def idxL {α : Type} (p : α → Bool) (l : List α) : Int := match l.findIdx? p with
 | some i => i
 | none => -1
theorem z7i {α : Type} {p : α → Bool} {l : List α} {i : Nat} (hi : i < l.length) (h : ∀ x ∈ l.take i, p x = false) (hp : p l[i] = true) : idxL p l = i := by
 unfold idxL
 have : l.findIdx? p = some i := by
  rw [List.findIdx?_eq_some_iff_getElem]
  refine ⟨hi, hp, fun j hj => ?_⟩
  have := h l[j] (List.mem_iff_getElem.2 ⟨j, by simp; omega, by simp⟩)
  simp [this]
 rw [this]
theorem zuk {α : Type} {enc : α → D} {p : D → Bool} {l : List α} : idxP p (l.map enc) = idxL (fun x => p (enc x)) l := by
 unfold idxP idxL
 rw [List.findIdx?_map]
 rfl
def z0o {α : Type} (f : α → Int) (l : List α) : Int := match l.find? (fun x => decide (f x ≠ 0)) with
 | some x => f x
 | none => 0
theorem z1a {α : Type} {f : α → Int} {l : List α} (h : ∀ x ∈ l, f x = 0) : z0o f l = 0 := by
 unfold z0o
 have : l.find? (fun x => decide (f x ≠ 0)) = none := by
  rw [List.find?_eq_none]
  intro x hx
  simp [h x hx]
 rw [this]
theorem z7m {α : Type} {f : α → Int} {x : α} {l : List α} : z0o f (x :: l) = if f x = 0 then z0o f l else f x := by
 unfold z0o
 rw [List.find?_cons]
 by_cases h : f x = 0
 ·simp [h]
 ·simp [h]
theorem z2p {α : Type} {f : α → Int} : ∀ {l : List α} {i : Nat} (hi : i < l.length), (∀ x ∈ l.take i, f x = 0) → f l[i] ≠ 0 → z0o f l = f l[i]
 | x :: l, 0, _, _, h2 => by rw [z7m]; exact if_neg h2
 | x :: l, i + 1, hi, h1, h2 => by
  rw [z7m, if_pos (h1 x (by simp))]
  exact z2p (l := l) (by simpa using hi) (fun y hy => h1 y (by simp [hy])) (by simpa using h2)
theorem z9s {α : Type} {f : α → Int} {l : List α} {i : Nat} {b : Int} (hi : i < l.length) (h : ∀ x ∈ l.take i, f x = b) (hp : f l[i] = b) : ∀ x ∈ l.take (i + 1), f x = b := fun x hx => by
 rw [List.take_add_one, List.getElem?_eq_getElem hi] at hx
 rcases List.mem_append.1 hx with h1 | h1
 ·exact h x h1
 ·simp at h1; rw [h1]; exact hp
theorem z9r {α : Type} {f : α → Int} {l : List α} {i : Nat} {b : Int} (hi : ¬ i < l.length) (h : ∀ x ∈ l.take i, f x = b) : ∀ x ∈ l, f x = b := by
 rwa [List.take_of_length_le (by omega)] at h
def z5f (f : Nat → Int) (n : Nat) : Int := z0o f (List.range n)
theorem zax {f : Nat → Int} {n : Nat} (h : ∀ j, j < n → f j = 0) : z5f f n = 0 := z1a fun x hx => h x (by simpa using hx)
theorem zqy {f : Nat → Int} {n i : Nat} (hi : i < n) (h : ∀ j, j < i → f j = 0) (h2 : f i ≠ 0) : z5f f n = f i := by
 have := z2p (f := f) (l := List.range n) (i := i) (by simpa using hi) (fun x hx => h x (by
  rw [List.take_range] at hx
  have := List.mem_range.1 hx
  omega)) (by simpa using h2)
 simpa [z5f] using this
theorem zyw {f : Nat → Int} {i : Nat} {b : Int} (h : ∀ j, j < i → f j = b) (h2 : f i = b) : ∀ j, j < i + 1 → f j = b := fun j hj => by
 by_cases e : j = i
 ·rw [e]; exact h2
 ·exact h j (by omega)
theorem z7h {α : Type} {p : α → Bool} {l : List α} : (idxL p l = -1 ∧ l.find? p = none) ∨ ∃ (i : Nat) (hi : i < l.length), idxL p l = i ∧ l.find? p = some l[i] := by
 unfold idxL
 cases h : l.findIdx? p with
 | none =>
  refine .inl ⟨rfl, ?_⟩
  rw [List.findIdx?_eq_none_iff] at h
  rw [List.find?_eq_none]
  intro x hx
  simp [h x hx]
 | some i =>
  rw [List.findIdx?_eq_some_iff_getElem] at h
  obtain ⟨h1, h2, h3⟩ := h
  refine .inr ⟨i, h1, rfl, ?_⟩
  rw [List.find?_eq_some_iff_getElem]
  refine ⟨h2, i, h1, rfl, fun j hj => ?_⟩
  have := h3 j hj
  simpa using this
theorem zas {e : List V} {k : Nat} {v u : V} (h : k < e.length) : (e.set k v).getD k u = v := by simp [h]
theorem z6v {e : List V} {k j : Nat} {v u : V} (h : (k = j) = False) : (e.set k v).getD j u = e.getD j u := by
 have h' : k ≠ j := fun e => by rw [h] at e; exact e
 simp [List.getElem?_set, h']
theorem ztd {f : Nat} {F : IFun} (hG : G f = some F) (hp : F.pure = true) (hn : F.nil2 = false) {ds rs : List D}
  (h : ∀ e : List V, e.length = (ds.map V.d).length + (F.nt - (ds.map V.d).length) → (∀ i, i < ds.length → e.getD i .undef = (ds.map V.d).getD i .undef) → Post (zr1 G none F.body e { s := [], next := 0, low := 0 }) (fun e env st' => e.fin ∧ ∃ vs, z28 st' env F.res = some vs ∧ z0p st'.s 0 vs = some rs)) (st : St) :
  z06 G (.fn f [] []) (ds.map V.d) st = some (tupV (rs.map V.d), st) := by
 refine z81 hG hp hn ?_ st
 refine h _ ?_ ?_
 ·rw [List.length_append, List.length_replicate]
 ·intro i hi
  simp only [List.getD_eq_getElem?_getD]
  rw [List.getElem?_append_left (by simpa using hi)]
def zgr : V → Bool → Bool
 | .d (.bool b), w => b == w
 | _, _ => false
theorem z4z {env : List V} {t : Nat} {w : Bool} : wantedE env (some (t, w)) = zgr (env.getD t .undef) w := by
 simp only [wantedE]
 generalize env.getD t .undef = x
 cases x <;> try rfl
 case d x => cases x <;> rfl
end Go.Lift
namespace Go.Lift
open Go
set_option maxRecDepth 100000
end Go.Lift
namespace Go.Lift
open Go
universe u
inductive Dm {α : Sort u} (k : α) : Type
 | mk
def PC (x : Option (Ex × List V × St)) (Q : Ex → List V → St → Prop) (_ : Dm Q) : Prop := Post x Q
def PO (x : Option (List V × St)) (R : List V → St → Prop) (_ : Dm R) : Prop := zbl x R
def PV (x : Option (V × St)) (K : V → St → Prop) (_ : Dm K) : Prop := PostV x K
def CP (v : V) (A B : Prop) (_ : Dm A) (_ : Dm B) : Prop := zmh v A B
def CB (b : Bool) (A B : Prop) (_ : Dm A) (_ : Dm B) : Prop := if b = true then A else B
def LP (f : List V → St → Option (Ex × List V × St)) (env : List V) (st : St) (Q : Ex → List V → St → Prop) (_ : Dm (f, env, st, Q)) : Prop := Post (z0h f env st) Q
section
variable {cl : z11} {rd : Option Nat} {env : List V} {st : St} {Q : Ex → List V → St → Prop} {q : Dm Q}
theorem zop : PC (z0i cl z0h rd .skip env st) Q q = Q .nrm env st := propext zfc
theorem zor {id : Nat} : PC (z0i cl z0h rd (.exit id) env st) Q q = Q (.brk id) env st := propext zfd
theorem zwi : PC (z0i cl z0h rd .ret env st) Q q = Q .ret env st := propext zj2
theorem zwh {a b : IC} : PC (z0i cl z0h rd (.seq a b) env st) Q q = PC (z0i cl z0h rd a env st) (onN (fun env st => PC (z0i cl z0h rd b env st) Q .mk) Q) .mk := propext zj1
theorem zj9 {id : Nat} {b : IC} : PC (z0i cl z0h rd (.block id b) env st) Q q = PC (z0i cl z0h rd b env st) (outB id Q) .mk := propext zc1
theorem zos {c : Opd} {a b : IC} : PC (z0i cl z0h rd (.cond c a b) env st) Q q = CP (evO env c) (PC (z0i cl z0h rd a env st) Q .mk) (PC (z0i cl z0h rd b env st) Q .mk) .mk .mk := propext zfe
theorem zwj {na : Nat} {ops : List IOp} : PC (z0i cl z0h rd (.reg na ops) env st) Q q = PO (z0k cl st.next ops env { s := st.s, next := st.next + na, low := st.low }) (fun env st => Q .nrm env st) .mk := propext zj3
theorem zoq {b : IC} : PC (z0i cl z0h rd (.loop b) env st) Q q = LP (z0i cl z0h rd b) env st Q .mk := rfl
theorem zrj {t : Bool} {A B : Prop} {a : Dm A} {b : Dm B} : CP (.d (.bool t)) A B a b = CB t A B .mk .mk := propext zci
theorem y30 {A B : Prop} {a : Dm A} {b : Dm B} : CB true A B a b = A := by simp [CB]
theorem y31 {A B : Prop} {a : Dm A} {b : Dm B} : CB false A B a b = B := by simp [CB]
theorem pv_some {v : V} {K : V → St → Prop} {k : Dm K} : PV (some (v, st)) K k = K v st := propext z5z
theorem zow {id : Nat} : outB id Q (.brk id) env st = Q .nrm env st := by simp [outB]
theorem zov {id j : Nat} (h : (j = id) = False) : outB id Q (.brk j) env st = Q (.brk j) env st := by simp [outB, h]
def NX (m : Nat) (J : Nat → List V → St → Prop) (_ : Dm J) (env : List V) (st : St) : Prop := ∃ m', m' < m ∧ J m' env st
theorem z0c {m : Nat} {J : Nat → List V → St → Prop} {j : Dm J} (h : ∃ m', m' < m ∧ J m' env st) : NX m J j env st := h
theorem z0e {f : List V → St → Option (Ex × List V × St)} {env0 : List V} {st0 : St} {q : Dm (f, env0, st0, Q)} (I : List V → St → Nat → List V → St → Prop)
  (h : ∀ m env st, I env0 st0 m env st → PC (f env st) (onN (NX m (I env0 st0) .mk) Q) .mk) (m : Nat) (h0 : I env0 st0 m env0 st0) : LP f env0 st0 Q q :=
 z30 (I env0 st0) h m h0
def RP (res : List IR) (rs : List D) (e : Ex) (env : List V) (st : St) : Prop := e.fin ∧ ∃ vs, z28 st env res = some vs ∧ z0p st.s 0 vs = some rs
def RQ (o : Option (List V)) (s : List (Nat × Obj)) (rs : List D) : Prop := ∃ vs, o = some vs ∧ z0p s 0 vs = some rs
theorem zw9 {res : List IR} {rs : List D} : RP res rs .ret env st = RQ (z28 st env res) st.s rs := by simp [RP, RQ]
theorem zwa {res : List IR} {rs : List D} : RP res rs .nrm env st = RQ (z28 st env res) st.s rs := by simp [RP, RQ]
theorem rq1 {s : List (Nat × Obj)} {x : D} {rs : List D} (h : [x] = rs) : RQ (some [.d x]) s rs := ⟨_, rfl, by rw [← h]; rfl⟩
theorem rq2 {s : List (Nat × Obj)} {x y : D} {rs : List D} (h : [x, y] = rs) : RQ (some [.d x, .d y]) s rs := ⟨_, rfl, by rw [← h]; rfl⟩
def RS (res : List IR) (R : V → St → Prop) (_ : Dm R) (low : Nat) (e : Ex) (env : List V) (st : St) : Prop := e.fin ∧ ∃ vs, z28 st env res = some vs ∧ R (tupV vs) { s := st.s, next := st.next, low := Nat.min low st.low }
def RT (o : Option (List V)) (low : Nat) (st : St) (R : V → St → Prop) (_ : Dm R) : Prop := ∃ vs, o = some vs ∧ R (tupV vs) { s := st.s, next := st.next, low := Nat.min low st.low }
theorem zw7 {res : List IR} {R : V → St → Prop} {d : Dm R} {low : Nat} : RS res R d low .ret env st = RT (z28 st env res) low st R .mk := by simp [RS, RT]
theorem zw8 {res : List IR} {R : V → St → Prop} {d : Dm R} {low : Nat} : RS res R d low .nrm env st = RT (z28 st env res) low st R .mk := by simp [RS, RT]
theorem zo4 {vs : List V} {R : V → St → Prop} {d : Dm R} {low : Nat} : RT (some vs) low st R d = R (tupV vs) { s := st.s, next := st.next, low := Nat.min low st.low } := by simp [RT]
def zrl (v : Option V) (vs : Option (List V)) : Option (List V) := match v, vs with
 | some v, some vs => some (v :: vs)
 | _, _ => none
theorem zch {v : V} {vs : List V} : zrl (some v) (some vs) = some (v :: vs) := rfl
theorem zf5 : z28 st env [] = some [] := rfl
theorem zo8 {n : Nat} {rs : List IR} : z28 st env (.t n :: rs) = zrl (some (env.getD n .undef)) (z28 st env rs) := by
 simp only [z28, resV, zrl]; split <;> simp_all
theorem zby {t n : Nat} {ag : Bool} {rs : List IR} : z28 st env (.cell t n ag :: rs) = zrl (z1r st n ag (env.getD t .undef)) (z28 st env rs) := by
 simp only [z28, resV, zrl]
 cases z1r st n ag (env.getD t .undef) <;> cases z28 st env rs <;> rfl
end
def z3v (x : Option V) (st : St) : Option (V × St) := match x with
 | some v => some (v, st)
 | none => none
theorem z9l {v : V} {st : St} : z3v (some v) st = some (v, st) := rfl
def zsq (x : Option St) : Option (V × St) := match x with
 | some st => some (.undef, st)
 | none => none
theorem zbn {st : St} : zsq (some st) = some (.undef, st) := rfl
def zu4 (x : Option Nat) (st : St) : Option (V × St) := match x with
 | some n => some (.d (.int .i64 (n : Nat)), st)
 | none => none
theorem zc9 {n : Nat} {st : St} : zu4 (some n) st = some (.d (.int .i64 (n : Nat)), st) := rfl
def ztg (c a b : V) (st : St) : Option (V × St) := match c with
 | .d (.bool t) => some (if t then a else b, st)
 | _ => none
theorem zj6 {a b : V} {st : St} : ztg (.d (.bool true)) a b st = some (a, st) := rfl
theorem zj7 {a b : V} {st : St} : ztg (.d (.bool false)) a b st = some (b, st) := rfl
theorem zon {c x y : Bool} {st : St} : ztg (.d (.bool c)) (.d (.bool x)) (.d (.bool y)) st = some (.d (.bool (bif c then x else y)), st) := by cases c <;> rfl
def zww (es : Nat) (x i : V) (st : St) : Option (V × St) := match asI i with
 | some i => z3v (z0a es x i) st
 | none => none
theorem zca {es : Nat} {x : V} {k : IntKind} {n : Int} {st : St} : zww es x (.d (.int k n)) st = z3v (z0a es x n) st := rfl
def zqi (len es : Nat) (x i : V) (st : St) : Option (V × St) := match asI i with
 | some i => z3v (z1j len es x i) st
 | none => none
theorem zap {len es : Nat} {x : V} {k : IntKind} {n : Int} {st : St} : zqi len es x (.d (.int k n)) st = z3v (z1j len es x n) st := rfl
def zqb (x i : V) (st : St) : Option (V × St) := match x, asI i with
 | .d (.str s), some i => z3v (z45 s i) st
 | _, _ => none
theorem zal {s : List Nat} {k : IntKind} {n : Int} {st : St} : zqb (.d (.str s)) (.d (.int k n)) st = z3v (z45 s n) st := rfl
def boxV (k : Nat) (x : V) (st : St) : Option (V × St) := if (cellsV x).all V.isCell then some (.ptr k 0, st.ins k (.cells (cellsV x))) else none
theorem zkv {k : Nat} {ds : List D} {st : St} (h : ds.all D.isCell = true) : boxV k (.d (.agg ds)) st = some (.ptr k 0, st.ins k (.cells (ds.map V.d))) := by
 have : (ds.map V.d).all V.isCell = true := by
  rw [List.all_map]
  exact h
 simp [boxV, cellsV, this]
theorem zkr {k : Nat} {x : List Nat} {st : St} : boxV k (.d (.str x)) st = some (.ptr k 0, st.ins k (.cells [.d (.str x)])) := rfl
theorem zkt {k : Nat} {i : IntKind} {x : Int} {st : St} : boxV k (.d (.int i x)) st = some (.ptr k 0, st.ins k (.cells [.d (.int i x)])) := rfl
theorem zgg {k : Nat} {x : Bool} {st : St} : boxV k (.d (.bool x)) st = some (.ptr k 0, st.ins k (.cells [.d (.bool x)])) := rfl
theorem zrz {k : Nat} {l : List D} {st : St} : boxV k (.d (.sl l)) st = some (.ptr k 0, st.ins k (.cells [.d (.sl l)])) := rfl
theorem zs0 {k f : Nat} {a b : List V} {st : St} : boxV k (.fn f a b) st = some (.ptr k 0, st.ins k (.cells [.fn f a b])) := rfl
theorem zks {k j o : Nat} {st : St} : boxV k (.ptr j o) st = some (.ptr k 0, st.ins k (.cells [.ptr j o])) := rfl
theorem zku {k j es off len : Nat} {ag : Bool} {st : St} : boxV k (.arr j es ag off len) st = some (.ptr k 0, st.ins k (.cells [.arr j es ag off len])) := rfl
theorem zgf {k : Nat} {st : St} : boxV k .nilS st = some (.ptr k 0, st.ins k (.cells [.nilS])) := rfl
def eqAV (neg : Bool) (sh : List Kc) (x y : V) (st : St) : Option (V × St) := match x, y with
 | .d a, .d b => if z2g true sh a && z2g true sh b then some (.d (.bool (D.beq a b != neg)), st) else none
 | _, _ => none
def eqBV (neg : Bool) (x y : V) (st : St) : Option (V × St) := match x, y with
 | .d (.bool a), .d (.bool b) => some (.d (.bool ((a == b) != neg)), st)
 | _, _ => none
theorem zg8 {neg a b : Bool} {st : St} : eqBV neg (.d (.bool a)) (.d (.bool b)) st = some (.d (.bool ((a == b) != neg)), st) := rfl
def zwt (neg : Bool) (x : Option Bool) (st : St) : Option (V × St) := match x with
 | some b => some (.d (.bool (b != neg)), st)
 | none => none
theorem zak {neg b : Bool} {st : St} : zwt neg (some b) st = some (.d (.bool (b != neg)), st) := rfl
def extV (i : Nat) (x : V) (st : St) : Option (V × St) := match x with
 | .tup vs => z3v vs[i]? st
 | _ => none
theorem zk5 {i : Nat} {vs : List V} {st : St} : extV i (.tup vs) st = z3v vs[i]? st := rfl
def zxh (x : Option (List V)) (st : St) : Option (V × St) := match x with
 | some cs => some (mkAgg cs, st)
 | none => none
theorem zb8 {cs : List V} {st : St} : zxh (some cs) st = some (mkAgg cs, st) := rfl
section
variable {cl : z11} {base : Nat} {env : List V} {st : St} {dst : Option Nat} {g : Option (Nat × Bool)} {kp : List Nat}
theorem y2k {n : Nat} : evO env (.t n) = env.getD n .undef := rfl
theorem y2l {v : V} : evO env (.c v) = v := rfl
theorem y2i {x : Opd} : evalIOp cl base env st ⟨dst, .mv x, g, kp⟩ = some (evO env x, st) := rfl
theorem zr4 {a b c : Opd} : evalIOp cl base env st ⟨dst, .pick c a b, g, kp⟩ = ztg (evO env c) (evO env a) (evO env b) st := rfl
theorem zke {ai : Nat} {z : List V} : evalIOp cl base env st ⟨dst, .alloc ai z, g, kp⟩ = some (.ptr (base + ai) 0, st.ins (base + ai) (.cells z)) := rfl
theorem zx9 {ai : Nat} {x : Opd} : evalIOp cl base env st ⟨dst, .box ai x, g, kp⟩ = boxV (base + ai) (evO env x) st := rfl
theorem zr6 {n : Nat} {ag : Bool} {a : Opd} : evalIOp cl base env st ⟨dst, .load n ag a, g, kp⟩ = z3v (z1r st n ag (evO env a)) st := rfl
theorem zk7 {n : Nat} {a x : Opd} : evalIOp cl base env st ⟨dst, .store n a x, g, kp⟩ = zsq (opStore st n (evO env a) (evO env x)) := rfl
theorem zxa {op : BinOp} {x y : Opd} : evalIOp cl base env st ⟨dst, .bin op x y, g, kp⟩ = z3v (binV op (evO env x) (evO env y)) st := rfl
theorem y2h {op : UnOp} {x : Opd} : evalIOp cl base env st ⟨dst, .un op x, g, kp⟩ = z3v (unV op (evO env x)) st := rfl
theorem zx8 {neg : Bool} {sh : List Kc} {x y : Opd} : evalIOp cl base env st ⟨dst, .eqA neg sh x y, g, kp⟩ = eqAV neg sh (evO env x) (evO env y) st := rfl
theorem zx7 {neg : Bool} {x y : Opd} : evalIOp cl base env st ⟨dst, .eqB neg x y, g, kp⟩ = eqBV neg (evO env x) (evO env y) st := rfl
theorem zkb {neg : Bool} {kd : Nat} {x : Opd} : evalIOp cl base env st ⟨dst, .eqNil neg kd x, g, kp⟩ = zwt neg (zfs kd (evO env x)) st := rfl
theorem zx4 {f : Nat} {a b : List Opd} : evalIOp cl base env st ⟨dst, .mkf f a b, g, kp⟩ = some (.fn f (a.map (evO env)) (b.map (evO env)), st) := rfl
theorem zka {off : Nat} {x : Opd} : evalIOp cl base env st ⟨dst, .faddr off x, g, kp⟩ = z3v (opFaddr off (evO env x)) st := rfl
theorem zk9 {off n : Nat} {ag : Bool} {x : Opd} : evalIOp cl base env st ⟨dst, .field off n ag x, g, kp⟩ = z3v (z82 off n ag (evO env x)) st := rfl
theorem zg5 {es : Nat} {x i : Opd} : evalIOp cl base env st ⟨dst, .iaddrS es x i, g, kp⟩ = zww es (evO env x) (evO env i) st := rfl
theorem zg6 {len es : Nat} {x i : Opd} : evalIOp cl base env st ⟨dst, .iaddrA len es x i, g, kp⟩ = zqi len es (evO env x) (evO env i) st := rfl
theorem zg4 {x i : Opd} : evalIOp cl base env st ⟨dst, .indexS x i, g, kp⟩ = zqb (evO env x) (evO env i) st := rfl
theorem zx5 {s : Bool} {x : Opd} : evalIOp cl base env st ⟨dst, .len s x, g, kp⟩ = zu4 (opLen s (evO env x)) st := rfl
theorem zrb {f : Cal} {args : List Opd} : evalIOp cl base env st ⟨dst, .call f args, g, kp⟩ = cl (calV env f) (args.map (evO env)) st := rfl
theorem zx6 {i : Nat} {x : Opd} : evalIOp cl base env st ⟨dst, .ext i x, g, kp⟩ = extV i (evO env x) st := rfl
theorem zkd {z : List V} {ps : List (Nat × Nat × Opd)} : evalIOp cl base env st ⟨dst, .build z ps, g, kp⟩ = zxh (fillP z (ps.map fun (o, s, x) => (o, s, evO env x))) st := rfl
theorem zg7 {ai es eb : Nat} {ag : Bool} {x y : Opd} : evalIOp cl base env st ⟨dst, .append ai es ag eb x y, g, kp⟩ = z12 st (base + ai) es ag eb (evO env x) (evO env y) := rfl
theorem zr8 {es : Nat} {x y : Opd} : evalIOp cl base env st ⟨dst, .copy es x y, g, kp⟩ = z8l st es (evO env x) (evO env y) := rfl
theorem zkc {es : Nat} {z : List V} {x : Opd} : evalIOp cl base env st ⟨dst, .clearS es z x, g, kp⟩ = zsq (z74 st es z (evO env x)) := rfl
theorem zzp {ai es len : Nat} {ag nofz : Bool} {z : List V} {ps : List (Nat × Opd)} : evalIOp cl base env st ⟨dst, .mkSl ai es ag nofz z len ps, g, kp⟩ = evalOp base env st (.mkSl ai es ag nofz z len ps) := rfl
theorem zmd {ai es eb : Nat} {ag : Bool} {z : List V} {l c : Opd} : evalIOp cl base env st ⟨dst, .mkslice ai es ag eb z l c, g, kp⟩ = evalOp base env st (.mkslice ai es ag eb z l c) := rfl
theorem zg1 {es : Nat} {x : Opd} {lo hi : Option Opd} : evalIOp cl base env st ⟨dst, .sliceL es x lo hi, g, kp⟩ = evalOp base env st (.sliceL es x lo hi) := rfl
theorem zr3 {x : Opd} {lo hi : Option Opd} : evalIOp cl base env st ⟨dst, .sliceS x lo hi, g, kp⟩ = evalOp base env st (.sliceS x lo hi) := rfl
theorem zk8 {ai kt : Nat} : evalIOp cl base env st ⟨dst, .mkmap ai kt, g, kp⟩ = some (.map (base + ai), st.ins (base + ai) (.map kt [])) := rfl
theorem zg3 {kt : Nat} {ag : Bool} {sh : List Kc} {ok : Bool} {z : V} {m k : Opd} : evalIOp cl base env st ⟨dst, .lookup kt ag sh ok z m k, g, kp⟩ = z3v (z1w st kt ag sh ok z (evO env m) (evO env k)) st := rfl
theorem zg2 {kt : Nat} {ag : Bool} {sh : List Kc} {m k x : Opd} : evalIOp cl base env st ⟨dst, .mapUpd kt ag sh m k x, g, kp⟩ = zsq (z54 st kt ag sh (evO env m) (evO env k) (evO env x)) := rfl
theorem zuz {x : Opd} : evalIOp cl base env st ⟨dst, .convS x, g, kp⟩ = evalOp base env st (.convS x) := rfl
theorem zv0 {k : IntKind} {x : Opd} : evalIOp cl base env st ⟨dst, .convI k x, g, kp⟩ = evalOp base env st (.convI k x) := rfl
theorem zuw {x : Opd} : evalIOp cl base env st ⟨dst, .nilck x, g, kp⟩ = evalOp base env st (.nilck x) := rfl
variable {R : List V → St → Prop} {r : Dm R} {l : List IOp} {op : IK} {t : Nat} {w : Bool} {k : Nat}
theorem zwe : PO (z0k cl base [] env st) R r = R env st := propext zfb
theorem po_s : PO (z0k cl base (⟨some k, op, none, []⟩ :: l) env st) R r = PV (evalIOp cl base env st ⟨some k, op, none, []⟩) (fun v st' => PO (z0k cl base l (env.set k v) st') R .mk) .mk := by
 unfold PO PV; rw [z2f]; simp [wantedE, kept, onE, setE]
theorem po_n : PO (z0k cl base (⟨none, op, none, []⟩ :: l) env st) R r = PV (evalIOp cl base env st ⟨none, op, none, []⟩) (fun _ st' => PO (z0k cl base l env st') R .mk) .mk := by
 unfold PO PV; rw [z2f]; simp [wantedE, kept, onE, setE]
theorem y1d : PO (z0k cl base (⟨some k, op, some (t, w), []⟩ :: l) env st) R r = CB (zgr (env.getD t .undef) w) (PV (evalIOp cl base env st ⟨some k, op, some (t, w), []⟩) (fun v st' => PO (z0k cl base l (env.set k v) st') R .mk) .mk) (PO (z0k cl base l (env.set k .undef) st) R .mk) .mk .mk := by
 unfold PO PV; rw [z2f, z4z]; simp [CB, kept, onE, setE]
theorem y1e : PO (z0k cl base (⟨none, op, some (t, w), []⟩ :: l) env st) R r = CB (zgr (env.getD t .undef) w) (PV (evalIOp cl base env st ⟨none, op, some (t, w), []⟩) (fun _ st' => PO (z0k cl base l env st') R .mk) .mk) (PO (z0k cl base l env st) R .mk) .mk .mk := by
 unfold PO PV; rw [z2f, z4z]; simp [CB, kept, onE, setE]
theorem y1b {a : Nat} {kp : List Nat} : PO (z0k cl base (⟨some k, op, none, a :: kp⟩ :: l) env st) R r = PV (evalIOp cl base env st ⟨some k, op, none, a :: kp⟩) (fun v st' => CB (kept env st st' (a :: kp)) (PO (z0k cl base l (env.set k v) st') R .mk) False .mk .mk) .mk := by
 unfold PO PV; rw [z2f]; simp [CB, wantedE, onE, setE]
theorem y1c {a : Nat} {kp : List Nat} : PO (z0k cl base (⟨none, op, none, a :: kp⟩ :: l) env st) R r = PV (evalIOp cl base env st ⟨none, op, none, a :: kp⟩) (fun _ st' => CB (kept env st st' (a :: kp)) (PO (z0k cl base l env st') R .mk) False .mk .mk) .mk := by
 unfold PO PV; rw [z2f]; simp [CB, wantedE, onE, setE]
theorem zwf {a : Nat} {kp : List Nat} : PO (z0k cl base (⟨some k, op, some (t, w), a :: kp⟩ :: l) env st) R r = CB (zgr (env.getD t .undef) w) (PV (evalIOp cl base env st ⟨some k, op, some (t, w), a :: kp⟩) (fun v st' => CB (kept env st st' (a :: kp)) (PO (z0k cl base l (env.set k v) st') R .mk) False .mk .mk) .mk) (PO (z0k cl base l (env.set k .undef) st) R .mk) .mk .mk := by
 unfold PO PV; rw [z2f, z4z]; simp [CB, onE, setE]
theorem zwg {a : Nat} {kp : List Nat} : PO (z0k cl base (⟨none, op, some (t, w), a :: kp⟩ :: l) env st) R r = CB (zgr (env.getD t .undef) w) (PV (evalIOp cl base env st ⟨none, op, some (t, w), a :: kp⟩) (fun _ st' => CB (kept env st st' (a :: kp)) (PO (z0k cl base l env st') R .mk) False .mk .mk) .mk) (PO (z0k cl base l env st) R .mk) .mk .mk := by
 unfold PO PV; rw [z2f, z4z]; simp [CB, onE, setE]
end
theorem nat0 : ((0 : Nat) : Int) = 0 := rfl
theorem zn3 {b w : Bool} : zgr (.d (.bool b)) w = (b == w) := rfl
theorem zn2 {w : Bool} : zgr .undef w = false := rfl
theorem zpu {s : List Nat} : opLen true (.d (.str s)) = some s.length := rfl
theorem zjl {l : List D} : opLen false (.d (.sl l)) = some l.length := rfl
theorem zpv : opLen false .nilS = some 0 := rfl
theorem zpw : opLen false .emp = some 0 := rfl
theorem zhj {k es off n : Nat} {ag : Bool} : opLen false (.arr k es ag off n) = some n := rfl
theorem zx2 {k o off : Nat} : opFaddr off (.ptr k o) = some (.ptr k (o + off)) := rfl
theorem zk4 {ds : List D} : opFaddr 0 (.dptr ds) = some (.dptr ds) := rfl
theorem zr0 {off : Nat} {x : D} {ds : List D} : opFaddr (off + 1) (.dptr (x :: ds)) = opFaddr off (.dptr ds) := by
 simp [opFaddr]
theorem zjq {st : St} {x : D} {ds : List D} : z1r st 1 false (.dptr (x :: ds)) = some (.d x) := by simp [z1r, ofCellsD]
theorem zjp {st : St} {n : Nat} {ds : List D} (h : ds.length = n) : z1r st n true (.dptr ds) = some (.d (.agg ds)) := by
 simp [z1r, ofCellsD, ← h]
theorem zn7 {b : Bool} : unV .not (.d (.bool b)) = some (.d (.bool (!b))) := rfl
theorem y33 {env : List V} {n : Nat} : calV env (.f n) = .fn n [] [] := rfl
theorem y32 {env : List V} {x : Opd} : calV env (.o x) = evO env x := rfl
variable {G : Nat → Option IFun}
theorem z15 {f : Nat} {F : IFun} (hG : G f = some F) (hp : F.pure = true) (hn : F.nil2 = false) {ds rs : List D}
  (h : ∀ e : List V, e.length = (ds.map V.d).length + (F.nt - (ds.map V.d).length) → (∀ i, i < ds.length → e.getD i .undef = (ds.map V.d).getD i .undef) → PC (z0i (z06 G) z0h none F.body e { s := [], next := 0, low := 0 }) (RP F.res rs) .mk) (st : St) :
  z06 G (.fn f [] []) (ds.map V.d) st = some (tupV (rs.map V.d), st) := ztd hG hp hn h st
theorem y19 {f : Nat} {F : IFun} (hG : G f = some F) (hn : F.nil2 = false) (hp : F.pure = false) (hpop : F.pop = true) {first cap args us : List V} {st : St}
  (h : ∀ e : List V, e.length = (first ++ args ++ cap).length + (F.nt - (first ++ args ++ cap).length) → (∀ i, i < (first ++ args ++ cap).length → e.getD i .undef = (first ++ args ++ cap).getD i .undef) → PC (z0i (z06 G) z0h none F.body e { s := st.s, next := st.next, low := st.next }) (fun e env st' => e.fin ∧ ∃ vs, z28 st' env F.res = some vs ∧ st.next ≤ st'.low ∧ z6b st'.s st.next vs = some us) .mk) :
  z06 G (.fn f first cap) args st = some (tupV us, st) := by
 refine z6f hG hn hp hpop (h _ ?_ ?_)
 ·rw [List.length_append, List.length_replicate]
 ·intro i hi
  simp only [List.getD_eq_getElem?_getD]
  rw [List.getElem?_append_left hi]
theorem z1k {f : Nat} {F : IFun} (hG : G f = some F) (hn : F.nil2 = false) (hp : F.pure = false) (hpop : F.pop = false) {first cap args : List V} {st : St} {R : V → St → Prop}
  (h : ∀ e : List V, e.length = (first ++ args ++ cap).length + (F.nt - (first ++ args ++ cap).length) → (∀ i, i < (first ++ args ++ cap).length → e.getD i .undef = (first ++ args ++ cap).getD i .undef) → PC (z0i (z06 G) z0h none F.body e { s := st.s, next := st.next, low := st.next }) (RS F.res R .mk st.low) .mk) :
  PostV (z06 G (.fn f first cap) args st) R := by
 have h' := h (first ++ args ++ cap ++ List.replicate (F.nt - (first ++ args ++ cap).length) .undef) (by rw [List.length_append, List.length_replicate]) (fun i hi => by
  simp only [List.getD_eq_getElem?_getD]
  rw [List.getElem?_append_left hi])
 obtain ⟨vs, st1, h1, h2⟩ := z7x (R := fun vs st' => R (tupV vs) { s := st'.s, next := st'.next, low := Nat.min st.low st'.low }) h'
 exact ⟨_, _, znm hG hn hp hpop h1, h2⟩
end Go.Lift
