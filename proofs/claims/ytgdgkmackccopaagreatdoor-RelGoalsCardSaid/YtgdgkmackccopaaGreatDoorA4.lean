/- Part A4 of the proof. -/
import Derived.Test.YtgdgkmackccopaaGreatDoorA3
import Derived.CallsIn
import Derived.OrdersIn
import Derived.RangeFuncIn
import Derived.Test.YtgdgkmackccopaaGreatDoorA1
import Derived.LoopNIn
import Derived.RangeFuncLeaves
set_option linter.all false
namespace Go.Lift
open Go
variable {P : Program} {st : St} {g : Gh} {w : World}
abbrev Fw (ro : Option Nat) : Fence := { Fence.wide with round := ro }
def NewK (st : St) (g g' : Gh) : Prop := ∀ k b, g'.blk k = some b → g.blk k = some b ∨ st.next ≤ k
def Ret (P : Program) (st : St) (g : Gh) (w : World) (r : V) (st' : St) : Ending → World → Prop := fun e w' =>
 ∃ v, e = .returned v ∧ ∃ g', RepV g' r v ∧ Inv P z0d st' g' w' ∧ Step st g w st' g' w' ∧ NewK st g g'
def Upon (P : Program) (st : St) (g : Gh) (w : World) (r : V) (st' : St) : Result Next → Prop
 | .ok (.enter f args) w1 => CallsIn Fence.wide 0 P f args w1 (Ret P st g w r st')
 | .ok (.round l f tmps assign body) w1 => RoundIn Fence.wide 0 P l f tmps assign body w1 (Ret P st g w r st')
 | _ => False
def z39 (P : Program) (cl : z11) : Prop := ∀ v args st r st', cl v args st = some (r, st') → ∀ g w u (us : Array Value), Inv P z0d st g w → RepV g v u → RepVs g args us.toList →
 Upon P st g w r st' (((do let d ← Deferred.ofValue u us; invoke d.target d.args : Sem Next)).run P w)
theorem za3 {a : Act} {env : List V} (henv : RepVs g env a.tmps.toList) {dst : Option Nat} {v : V} {u : Value} (hv : RepV g v u) : RepVs g (setE env dst v) (a.put dst u).tmps.toList := by
 cases dst with
 | none => simpa [setE, Act.put] using henv
 | some t =>
  simp only [setE, Act.put, Array.toList_setIfInBounds]
  have hl := henv.length
  refine RepVs.of_get (by simp; simpa using hl) fun i x y hx hy => ?_
  rw [List.getElem?_set] at hx hy
  by_cases e : t = i
  ·simp only [e, if_true] at hx hy
   split at hx
   ·cases hx
    split at hy
    ·cases hy; exact hv
    ·cases hy
   ·cases hx
  ·simp only [e, if_false] at hx hy
   obtain ⟨z, hz, hr⟩ := henv.get hx
   rw [hy] at hz
   cases hz
   exact hr
theorem ztx {o : Oper} {ai : Nat} {ik : IK} (h : cOp? P ai o = some ik) : Calm o.op ∨ zmv o.op ∨ Acts o.op ∨ ∃ c, o.op = .call c ∧ ∃ f, c.callee = .value f := by
 unfold cOp? at h
 cases ho : o.op <;> simp only [ho] at h <;> first | (exact .inl trivial) | (exact .inr (.inl trivial)) | (exact .inr (.inr (.inl trivial))) | skip
 case call c =>
  simp only [Acts]
  cases hc : c.callee with
  | builtin b => exact .inr (.inr (.inl trivial))
  | value f => exact .inr (.inr (.inr ⟨c, rfl, f, hc⟩))
  | invoke r n => simp [zgd, hc] at h
 all_goals cases h
theorem zkq {ro : Option Nat} {f : FuncId} {args : Array Value} {R : Ending → World → Prop} (h : CallsIn Fence.wide 0 P f args w R) : CallsIn (Fw ro) 0 P f args w R := h
theorem zt9 {ro : Option Nat} {l : Nat} {f : FuncId} {tmps : Array Value} {assign body : Code} {R : Ending → World → Prop} (h : RoundIn Fence.wide 0 P l f tmps assign body w R) : RoundIn (Fw ro) 0 P l f tmps assign body w R := h
theorem zrw {o : Oper} {ai : Nat} {f : Cal} {xs : List Opd} (hc : cOp? P ai o = some (.call f xs)) : ∃ c, o.op = .call c ∧ ∃ f, c.callee = .value f := by
 unfold cOp? at hc
 cases ho : o.op <;> simp only [ho] at hc
 case call c =>
  refine ⟨c, rfl, ?_⟩
  cases hcal : c.callee with
  | value f => exact ⟨f, rfl⟩
  | invoke r n => simp [zgd, hcal] at hc
  | builtin b =>
   exfalso
   simp only [zgd, hcal] at hc
   repeat' split at hc
   all_goals first | contradiction | (cases hc; done) | (cases hc; contradiction) | (simp at hc; done)
 all_goals exfalso
 all_goals (try unfold cBin at hc) <;> (try unfold cNil at hc)
 all_goals repeat' split at hc
 all_goals first | contradiction | (cases hc; done) | (cases hc; contradiction) | (simp at hc; done)
theorem zpc {o : Oper} {ai : Nat} {k n : Nat} {ag nf : Bool} {z : List V} {l : Nat} {ps : List (Nat × Opd)} (hc : cOp? P ai o = some (.mkSl k n ag nf z l ps)) : ∃ t l ps, o.op = .buildSlice t l ps := by
 unfold cOp? at hc
 cases ho : o.op <;> simp only [ho] at hc
 case buildSlice t l ps => exact ⟨t, l, ps, rfl⟩
 case call c =>
  exfalso
  unfold zgd at hc
  repeat' split at hc
  all_goals first | contradiction | (cases hc; done) | (cases hc; contradiction) | (simp at hc; done)
 all_goals exfalso
 all_goals (try unfold cBin at hc) <;> (try unfold cNil at hc)
 all_goals repeat' split at hc
 all_goals first | contradiction | (cases hc; done) | (cases hc; contradiction) | (simp at hc; done)
theorem zda {cl : z11} (hcl : z39 P cl) {ro : Option Nat} {o : Oper} {a : Act} {env : List V} {ai base : Nat} {dst : Option Nat} {gd : Option (Nat × Bool)} {keep : List Nat} {v : V} {st' : St} (hi : Inv P z0d st g w) (henv : RepVs g env a.tmps.toList)
  (h : evalIOp cl base env st ⟨dst, cOp P ai o, gd, keep⟩ = some (v, st')) (hk : g.blk (base + ai) = none) (hlt : base + ai < st.next) {K : Act → World → Prop} {Q : Exit → Act → World → Prop}
  (hK : ∀ u w' g', RepV g' v u → Inv P z0d st' g' w' → Step st g w st' g' w' → (∀ k b, g'.blk k = some b → g.blk k = some b ∨ k = base + ai ∨ st.next ≤ k) → K (a.put o.dst u) w') :
  o.wpIn (Fw ro) 0 P a w K Q := by
 unfold cOp at h
 cases hc : cOp? P ai o with
 | none => rw [hc] at h; simp [evalIOp, evalOp] at h
 | some ik =>
  rw [hc] at h
  simp only [Option.getD_some] at h
  have hnd : ∀ c, o.op ≠ .defer c := fun c e => by simp [cOp?, e] at hc
  unfold Oper.wpIn
  refine ⟨fun _ _ => trivial, ?_⟩
  rw [show (Fw ro).round = ro from rfl, Oper.semAt_eq ro a.eval o hnd]
  have does : Does P (execOp a.eval o) st g w v st' (· = base + ai) → o.uponIn (Fw ro) 0 P a K Q ((execOp a.eval o).run P w) := by
   rintro ⟨u, w', g', h1, h2, h3, h4, h5⟩
   have := hK u w' g' h2 h3 h4 fun k b hb => (h5 k b hb).imp id .inl
   rcases h1 with h1 | ⟨h1, rfl⟩
   ·rw [h1]; exact this
   ·rw [h1]; exact this
  have notCall : (∀ f xs, ik ≠ .call f xs) → evalOp base env st ik = some (v, st') := fun hn => by
   unfold evalIOp at h
   cases ik <;> first | exact h | exact absurd rfl (hn _ _)
  by_cases hcall : ∃ c, o.op = .call c ∧ ∃ f, c.callee = .value f
  ·obtain ⟨c, ho, f, hf⟩ := hcall
   simp only [cOp?, ho, zgd, hf] at hc
   have hexec : execOp a.eval o = (do let d ← Deferred.ofValue (a.eval f) (c.args.map a.eval); invoke d.target d.args : Sem Next) := by
    unfold execOp
    simp only [ho, resolve, hf]
   rw [hexec]
   have main : ∀ (fv : V) (xs : List Opd), RepV g fv (a.eval f) → zec c.args.toList = some xs → cl fv (xs.map (evO env)) st = some (v, st') →
     o.uponIn (Fw ro) 0 P a K Q (((do let d ← Deferred.ofValue (a.eval f) (c.args.map a.eval); invoke d.target d.args : Sem Next)).run P w) := by
    intro fv xs hfv hxs hres
    have hgood := hcl fv _ st v st' hres g w (a.eval f) (c.args.map a.eval) hi hfv (by rw [Array.toList_map]; exact z8c henv hxs)
    revert hgood
    generalize ((do let d ← Deferred.ofValue (a.eval f) (c.args.map a.eval); invoke d.target d.args : Sem Next)).run P w = r
    intro hgood
    unfold Upon at hgood
    split at hgood
    ·refine ⟨fun hd => by simp [Fence.wide] at hd, CallsIn.mono (zkq hgood) fun e w'' he => ?_⟩
     obtain ⟨u, rfl, g', h1, h2, h3, h4⟩ := he
     exact hK u w'' g' h1 h2 h3 fun k b hb => (h4 k b hb).imp id .inr
    ·refine ⟨fun hd => by simp [Fence.wide] at hd, RoundIn.mono (zt9 hgood) fun e w'' he => ?_⟩
     obtain ⟨u, rfl, g', h1, h2, h3, h4⟩ := he
     exact hK u w'' g' h1 h2 h3 fun k b hb => (h4 k b hb).imp id .inr
    ·exact hgood.elim
   split at hc
   ·rename_i g' xs hxs
    cases hc
    simp only [evalIOp, calV] at h
    exact main _ xs (z0t henv (x := .func g') (y := .c (.fn g' [] [])) rfl) hxs h
   ·rename_i f' xs _ hxs
    simp only [Option.map_eq_some_iff] at hc
    obtain ⟨y, hy, rfl⟩ := hc
    simp only [evalIOp, calV] at h
    exact main _ xs (z0t henv hy) hxs h
   ·cases hc
  ·have hnc : ∀ f xs, ik ≠ .call f xs := by
    rintro f xs rfl
    exact hcall (zrw hc)
   have h := notCall hnc
   rcases ztx hc with hm | hm | hm | hm
   ·obtain ⟨rfl, u, hu, hr⟩ := y04 hi henv hc h hm
    exact does ⟨u, w, g, .inl hu, hr, hi, Step.refl _ g w, fun _ _ hb => .inl hb⟩
   ·by_cases hb : ∃ t l ps, o.op = .buildSlice t l ps
    ·obtain ⟨t, l, ps, hb⟩ := hb
     exact does (z8r hi henv hb hc h hk hlt)
    ·have hnz : z2b ik = ik := by
      cases ik <;> first | rfl | exact absurd (zpc hc) hb
     obtain ⟨s, obj, h1, rfl, h3⟩ := zhg henv hc (by rw [hnz]; exact h) hm hk
     rw [h1] at does ⊢
     exact does (h3.does hi hk hlt rfl)
   ·exact does (y3c hi henv hc h hm hk hlt)
   ·exact absurd hm hcall
end Go.Lift
namespace Go.Lift
open Go
variable {P : Program} {st : St} {g : Gh} {w : World}
theorem zvj {x : V} {v : Value} (h : RepV g x v) (b : Bool) : v = .bool b ↔ x = .d (.bool b) := by
 cases x with
 | d x =>
  cases x <;> simp only [RepV, RepD] at h
  ·subst h; simp
  ·subst h; simp
  ·obtain ⟨b, rfl, _⟩ := h; simp
  ·obtain ⟨a, c, rfl, _⟩ := h; simp
  ·obtain ⟨a, rfl, _⟩ := h; simp
 | nilS => simp only [RepV] at h; subst h; simp
 | emp => simp only [RepV] at h; obtain ⟨a, c, rfl⟩ := h; simp
 | arr k es ag off len => simp only [RepV] at h; obtain ⟨_, _, _, _, rfl, _⟩ := h; simp
 | ptr k off => simp only [RepV] at h; obtain ⟨_, _, rfl⟩ := h; simp
 | dptr ds => simp only [RepV] at h; obtain ⟨b, o, rfl, _⟩ := h; simp
 | nilP => simp only [RepV] at h; subst h; simp
 | map k => simp only [RepV] at h; obtain ⟨_, _, rfl⟩ := h; simp
 | nilM => simp only [RepV] at h; subst h; simp
 | fn f a c => simp only [RepV] at h; obtain ⟨_, _, rfl, _⟩ := h; simp
 | yld k => simp only [RepV] at h; obtain ⟨_, _, rfl⟩ := h; simp
 | nilF => simp only [RepV] at h; subst h; simp
 | agg l => simp only [RepV] at h; obtain ⟨vs, rfl, _⟩ := h; simp
 | tup l => simp only [RepV] at h; obtain ⟨vs, rfl, _⟩ := h; simp
theorem zer {ops : List Oper} {o : Oper} {env : List V} {tmps : Array Value} (henv : RepVs g env tmps.toList) {gd : Option (Nat × Bool)} (h : zcn ops o.guard = some gd) : Region.wanted o (yielded ops.toArray tmps) = wantedE env gd := by
 unfold Region.wanted
 cases hg : o.guard with
 | none =>
  rw [hg] at h
  simp only [zcn, Option.some.injEq] at h
  subst h
  rfl
 | some jw =>
  obtain ⟨j, want⟩ := jw
  rw [hg] at h
  simp only [zcn] at h
  split at h
  ·rename_i oj hj
   split at h
   ·rename_i t ht
    cases h
    have hl := henv.length
    simp only [wantedE, yielded, List.getElem?_toArray, hj, Option.bind_some, ht]
    by_cases hlt : t < env.length
    ·obtain ⟨v, hv, hr⟩ := henv.get (i := t) (x := env[t]) (by simp [hlt])
     have hv' : tmps[t]? = some v := by simpa using hv
     rw [hv']
     have hD : env.getD t .undef = env[t] := by simp [hlt]
     rw [hD]
     have hb := zvj hr
     cases hx : env[t] with
     | d x =>
      cases x with
      | bool b => rw [(hb b).2 hx]; rfl
      | _ =>
       rw [hx] at hb
       cases v <;> first | rfl | (exfalso; rename_i c; have := (hb c).1 rfl; cases this; done)
     | _ =>
      rw [hx] at hb
      cases v <;> first | rfl | (exfalso; rename_i c; have := (hb c).1 rfl; cases this; done)
    ·have h1 : env[t]? = none := List.getElem?_eq_none (Nat.le_of_not_lt hlt)
     have h2 : tmps[t]? = none := by
      simp only [Array.length_toList] at hl
      exact Array.getElem?_eq_none (by rw [hl]; exact Nat.le_of_not_lt hlt)
     simp [h1, h2, List.getD]
   ·cases h
  ·cases h
theorem z65 {nf draw : Bool} {ops : List Oper} {B : List (List Nat)} {iks : List IK} : ∀ {js : List Nat} {cnt m : Nat} {pre : List Nat} {l : List IOp}, cOrd nf P draw ops B iks cnt pre js = some (m, l) → cnt + js.length = m
 | [], cnt, m, pre, l, h => by simp only [cOrd, Option.some.injEq, Prod.mk.injEq] at h; simp [h.1]
 | j :: js, cnt, m, pre, l, h => by
  simp only [cOrd] at h
  split at h
  ·cases h
  ·split at h
   ·split at h
    ·rename_i n l' hr
     cases h
     have := z65 hr
     simp only [List.length_cons]
     omega
    ·cases h
   ·cases h
theorem zlt {ai : Nat} {o : Oper} : z2b (cOp P ai o) = cOp P ai o ∨ ∃ t l ps ik, o.op = .buildSlice t l ps ∧ cOp? P ai o = some ik ∧ cOp P ai o = ik := by
 unfold cOp
 cases hc : cOp? P ai o with
 | none => exact .inl rfl
 | some ik =>
  simp only [Option.getD_some]
  cases ik with
  | mkSl k n ag nf z l ps =>
   obtain ⟨t, l', ps', h⟩ := zpc hc
   exact .inr ⟨t, l', ps', _, h, rfl, rfl⟩
  | _ => exact .inl rfl
theorem zls {cl : z11} (hcl : z39 P cl) {ro : Option Nat} {o : Oper} {a : Act} {env : List V} {ai base : Nat} {dst : Option Nat} {gd : Option (Nat × Bool)} {keep : List Nat} {v : V} {st' : St} (hi : Inv P z0d st g w) (henv : RepVs g env a.tmps.toList)
  (h : evalIOp cl base env st ⟨dst, z2b (cOp P ai o), gd, keep⟩ = some (v, st')) (hk : g.blk (base + ai) = none) (hlt : base + ai < st.next) {K : Act → World → Prop} {Q : Exit → Act → World → Prop}
  (hK : ∀ u w' g', RepV g' v u → Inv P z0d st' g' w' → Step st g w st' g' w' → (∀ k b, g'.blk k = some b → g.blk k = some b ∨ k = base + ai ∨ st.next ≤ k) → K (a.put o.dst u) w') :
  o.wpIn (Fw ro) 0 P a w K Q := by
 rcases zlt (P := P) (ai := ai) (o := o) with e | ⟨t, l, ps, ik, hb, hc, e⟩
 ·rw [e] at h
  exact zda hcl hi henv h hk hlt hK
 ·rw [e] at h
  have hm : zmv o.op := by rw [hb]; trivial
  have hnc : ∀ f xs, z2b ik ≠ .call f xs := fun f xs e' => by
   obtain ⟨c, hc', _⟩ := zrw (f := f) (xs := xs) (o := o) (ai := ai) (P := P) (by
    cases ik <;> simp only [z2b] at e' <;> first | (cases e'; exact hc) | cases e')
   rw [hb] at hc'; cases hc'
  have h' : evalOp base env st (z2b ik) = some (v, st') := by
   revert h
   unfold evalIOp
   cases hk' : z2b ik with
   | call f args => exact absurd hk' (hnc f args)
   | _ => exact id
  obtain ⟨s, obj, h1, rfl, h3⟩ := zhg henv hc h' hm hk
  have hnd : ∀ c, o.op ≠ .defer c := fun c e => by rw [hb] at e; cases e
  unfold Oper.wpIn
  refine ⟨fun _ _ => trivial, ?_⟩
  rw [show (Fw ro).round = ro from rfl, Oper.semAt_eq ro a.eval o hnd, h1]
  obtain ⟨u, w', g', h4, h5, h6, h7, h8⟩ := h3.does hi hk hlt (new := (· = base + ai)) rfl
  have := hK u w' g' h5 h6 h7 fun k b hb => (h8 k b hb).imp id .inl
  rcases h4 with h4 | ⟨h4, rfl⟩
  ·rw [h4]; exact this
  ·rw [h4]; exact this
theorem z6p {nf : Bool} {cl : z11} (hcl : z39 P cl) {ro : Option Nat} {ops : List Oper} {base m : Nat} {st' : St} {env' : List V} {Q : Exit → Act → World → Prop} :
  ∀ (js : List Nat) (cnt : Nat) (pre : List Nat) (l : List IOp) (st : St) (g : Gh) (w : World) (env : List V) (a : Act), cOrd nf P false ops [] [] cnt pre js = some (m, l) → z0k cl base l env st = some (env', st') →
   Inv P z0d st g w → RepVs g env a.tmps.toList → (∀ i, cnt ≤ i → i < m → g.blk (base + i) = none) → base + m ≤ st.next →
   (∀ a' w' g', RepVs g' env' a'.tmps.toList → Inv P z0d st' g' w' → Step st g w st' g' w' → a'.defers = a.defers → (∀ k b, g'.blk k = some b → g.blk k = some b ∨ base + cnt ≤ k) → Q .normal a' w') →
   wpOpsIn (Fw ro) 0 P ops.toArray Q js a w
 | [], cnt, pre, l, st, g, w, env, a, hc, h, hi, henv, hf, hm, hQ => by
  simp only [cOrd, Option.some.injEq, Prod.mk.injEq] at hc
  obtain ⟨rfl, rfl⟩ := hc
  simp only [z0k, Option.some.injEq, Prod.mk.injEq] at h
  obtain ⟨rfl, rfl⟩ := h
  exact hQ a w g henv hi (Step.refl st g w) rfl fun _ _ hb => .inl hb
 | j :: js, cnt, pre, l, st, g, w, env, a, hc, h, hi, henv, hf, hm, hQ => by
  simp only [cOrd] at hc
  split at hc
  ·cases hc
  ·rename_i o ho
   split at hc
   ·rename_i gd ks hgd hks
    cases hks
    split at hc
    ·rename_i n l' hrest
     cases hc
     simp only [Bool.false_and, Bool.or_false] at h
     have hle : cnt + 1 ≤ m := by
      have := z65 hrest
      omega
     simp only [wpOpsIn, List.getElem?_toArray, ho]
     rw [zer henv hgd]
     simp only [z0k] at h
     split at h
     ·rename_i hw
      rw [if_pos hw]
      split at h
      ·cases h
      ·rename_i v st1 hop
       simp only [kept, if_true] at h
       have stp : ∀ {K : Act → World → Prop}, (∀ u w' g', RepV g' v u → Inv P z0d st1 g' w' → Step st g w st1 g' w' → (∀ k b, g'.blk k = some b → g.blk k = some b ∨ k = base + cnt ∨ st.next ≤ k) → K (a.put o.dst u) w') → o.wpIn (Fw ro) 0 P a w K Q := fun {K} hK => by
        cases nf with
        | true => exact zls hcl hi henv hop (hf cnt (Nat.le_refl _) (by omega)) (by omega) hK
        | false => exact zda hcl hi henv hop (hf cnt (Nat.le_refl _) (by omega)) (by omega) hK
       refine stp fun u w1 g1 hu hi1 hs1 hk1 => ?_
       refine z6p hcl js (cnt + 1) (j :: pre) l' st1 g1 w1 _ _ hrest h hi1 (za3 (RepVs.mono hs1.ext henv) hu) (fun i hi' him => ?_) (Nat.le_trans hm hs1.next) fun a' w' g' h1 h2 h3 h4 h5 => ?_
       ·cases hb : g1.blk (base + i) with
        | none => rfl
        | some b =>
         rcases hk1 _ _ hb with h6 | h6 | h6
         ·rw [hf i (by omega) him] at h6; cases h6
         ·omega
         ·omega
       ·refine hQ a' w' g' h1 h2 (hs1.trans h3) ?_ fun k b hb => ?_
        ·rw [h4]; cases o.dst <;> rfl
        ·rcases h5 k b hb with h6 | h6
         ·rcases hk1 k b h6 with h7 | h7 | h7
          ·exact .inl h7
          ·exact .inr (by omega)
          ·exact .inr (by omega)
         ·exact .inr (by omega)
     ·rename_i hw
      rw [if_neg hw]
      refine ⟨fun _ _ => trivial, ?_⟩
      refine z6p hcl js (cnt + 1) (j :: pre) l' st g w _ _ hrest h hi (za3 henv z50) (fun i hi' him => hf i (by omega) him) hm fun a' w' g' h1 h2 h3 h4 h5 => ?_
      refine hQ a' w' g' h1 h2 h3 ?_ fun k b hb => ?_
      ·rw [h4]; cases o.dst <;> rfl
      ·rcases h5 k b hb with h6 | h6
       ·exact .inl h6
       ·exact .inr (by omega)
    ·cases hc
   ·cases hc
end Go.Lift
namespace Go.Lift
open Go
mutual
theorem D.eq_of_beq : ∀ {x y : D}, D.beq x y = true → x = y
 | .bool a, y, h => by cases y <;> simp [D.beq] at h; rw [h]
 | .int k n, y, h => by cases y <;> simp [D.beq] at h; rw [h.1, h.2]
 | .str s, y, h => by cases y <;> simp [D.beq] at h; rw [h]
 | .sl l, y, h => by
  cases y <;> simp [D.beq] at h
  rw [D.eq_of_beqL h]
 | .agg l, y, h => by
  cases y <;> simp [D.beq] at h
  rw [D.eq_of_beqL h]
theorem D.eq_of_beqL : ∀ {l m : List D}, D.beqL l m = true → l = m
 | [], m, h => by cases m <;> simp [D.beqL] at h; rfl
 | x :: l, m, h => by
  cases m <;> simp [D.beqL] at h
  rw [D.eq_of_beq h.1, D.eq_of_beqL h.2]
end
mutual
theorem V.eq_of_beq : ∀ {x y : V}, V.beq x y = true → x = y
 | .d a, y, h => by cases y <;> simp [V.beq] at h; rw [D.eq_of_beq h]
 | .nilS, y, h => by cases y <;> simp [V.beq] at h; rfl
 | .emp, y, h => by cases y <;> simp [V.beq] at h; rfl
 | .arr k es ag off len, y, h => by cases y <;> simp [V.beq] at h; obtain ⟨⟨⟨⟨rfl, rfl⟩, rfl⟩, rfl⟩, rfl⟩ := h; rfl
 | .ptr k off, y, h => by cases y <;> simp [V.beq] at h; obtain ⟨rfl, rfl⟩ := h; rfl
 | .dptr l, y, h => by cases y <;> simp [V.beq] at h; rw [D.eq_of_beqL h]
 | .nilP, y, h => by cases y <;> simp [V.beq] at h; rfl
 | .map k, y, h => by cases y <;> simp [V.beq] at h; rw [h]
 | .nilM, y, h => by cases y <;> simp [V.beq] at h; rfl
 | .fn f a b, y, h => by cases y <;> simp [V.beq] at h; rw [h.1.1, V.eq_of_beqL h.1.2, V.eq_of_beqL h.2]
 | .yld k, y, h => by cases y <;> simp [V.beq] at h; rw [h]
 | .nilF, y, h => by cases y <;> simp [V.beq] at h; rfl
 | .agg l, y, h => by cases y <;> simp [V.beq] at h; rw [V.eq_of_beqL h]
 | .tup l, y, h => by cases y <;> simp [V.beq] at h; rw [V.eq_of_beqL h]
theorem V.eq_of_beqL : ∀ {l m : List V}, V.beqL l m = true → l = m
 | [], m, h => by cases m <;> simp [V.beqL] at h; rfl
 | x :: l, m, h => by
  cases m <;> simp [V.beqL] at h
  rw [V.eq_of_beq h.1, V.eq_of_beqL h.2]
end
theorem zce : ∀ {l m : List (D × V)}, beqM l m = true → l = m
 | [], m, h => by cases m <;> simp [beqM] at h; rfl
 | (a, x) :: l, m, h => by
  cases m with
  | nil => simp [beqM] at h
  | cons p m =>
   obtain ⟨b, y⟩ := p
   simp [beqM] at h
   rw [D.eq_of_beq h.1.1, V.eq_of_beq h.1.2, zce h.2]
theorem Obj.eq_of_beq {o p : Obj} (h : Obj.beq o p = true) : o = p := by
 cases o <;> cases p <;> simp [Obj.beq] at h
 ·rw [V.eq_of_beqL h]
 ·rw [D.eq_of_beqL h]
 ·rw [h.1, zce h.2]
 ·rw [h.1, h.2]
def refK : V → Option Nat
 | .ptr k _ => some k
 | .map k => some k
 | .arr k _ _ _ _ => some k
 | _ => none
def zta : IK → Option Opd
 | .load _ _ a => some a
 | .lookup _ _ _ _ _ m _ => some m
 | .sliceL _ x _ _ => some x
 | .sliceA _ _ _ x _ _ => some x
 | .lenM x => some x
 | _ => none
theorem zh0 {k : IK} {t : Nat} (h : zf7 k = some t) : zta k = some (.t t) := by
 unfold zf7 at h
 split at h <;> first | (cases h; rfl) | (cases h; done)
def zcq (st st2 : St) (x : V) : Prop := ∀ k, refK x = some k → sget st2.s k = sget st.s k
theorem z8e {st st2 : St} {k : Nat} (h : sget st2.s k = sget st.s k) : st2.cells? k = st.cells? k := by
 unfold St.cells? scells
 rw [h]
theorem zh5 {st st2 : St} {n : Nat} {ag : Bool} {x : V} (h : zcq st st2 x) : z1r st2 n ag x = z1r st n ag x := by
 cases x <;> try rfl
 case ptr k off =>
  simp only [z1r, z8e (h k rfl)]
theorem zdb {st st2 : St} {kt : Nat} {ag ok : Bool} {sh : List Kc} {z m k : V} (h : zcq st st2 m) : z1w st2 kt ag sh ok z m k = z1w st kt ag sh ok z m k := by
 cases k <;> try rfl
 cases m <;> try rfl
 case map j =>
  simp only [z1w, St.get, h j rfl]
theorem zh6 {st st2 : St} {x : V} (h : zcq st st2 x) : z4k st2 x = z4k st x := by
 cases x <;> try rfl
 case map j => simp only [z4k, St.get, h j rfl]
theorem zti {base : Nat} {env : List V} {st st' : St} {k : IK} {v : V} (hp : z1h k = .p) (h : evalOp base env st k = some (v, st')) (st2 : St) : st' = st ∧ evalOp base env st2 k = some (v, st2) := by
 cases k <;> simp only [z1h, reduceCtorEq] at hp <;> simp only [evalOp] at h ⊢
 all_goals
  repeat' split at h
  all_goals first
   | (cases h; done)
   | (cases h; exact ⟨rfl, by simp_all⟩)
   | (cases h; exact ⟨rfl, rfl⟩)
theorem zoh {base : Nat} {env : List V} {st st' st2 : St} {k : IK} {v : V} (hp : z1h k = .r) (h : evalOp base env st k = some (v, st')) (hs : ∀ x, zta k = some x → zcq st st2 (evO env x)) : st' = st ∧ evalOp base env st2 k = some (v, st2) := by
 cases k <;> simp only [z1h, reduceCtorEq] at hp
 case load n ag a =>
  have := hs a rfl
  simp only [evalOp, zh5 this] at h ⊢
  split at h
  ·rename_i y hy
   cases h
   exact ⟨rfl, rfl⟩
  ·cases h
 case lookup kt ag sh ok z m k =>
  have := hs m rfl
  simp only [evalOp, zdb this] at h ⊢
  split at h
  ·rename_i y hy
   cases h
   exact ⟨rfl, rfl⟩
  ·cases h
 case lenM x =>
  have := hs x rfl
  simp only [evalOp, zh6 this] at h ⊢
  split at h
  ·rename_i y hy
   cases h
   exact ⟨rfl, rfl⟩
  ·cases h
 case sliceL es x lo hi =>
  have := hs x rfl
  simp only [evalOp] at h ⊢
  cases hx : evO env x <;> rw [hx] at this <;> simp only [hx] at h ⊢ <;> try (cases h; done)
  case arr k es' ag off len =>
   rw [z8e (this k rfl)]
   repeat' split at h
   all_goals first | (cases h; done) | (cases h; exact ⟨rfl, by simp_all⟩)
  all_goals
   repeat' split at h
   all_goals first | (cases h; done) | (cases h; exact ⟨rfl, by simp_all⟩)
 case sliceA n es ag x lo hi =>
  have := hs x rfl
  simp only [evalOp] at h ⊢
  cases hx : evO env x <;> rw [hx] at this <;> simp only [hx] at h ⊢ <;> try (cases h; done)
  case ptr k off =>
   rw [z8e (this k rfl)]
   repeat' split at h
   all_goals first | (cases h; done) | (cases h; exact ⟨rfl, by simp_all⟩)
theorem zfq {env : List V} {a b : St} : ∀ {ks : List Nat}, kept env a b ks = true → ∀ t ∈ ks, zcq a b (env.getD t .undef)
 | [], _, t, ht => by simp at ht
 | s :: ks, h, t, ht => by
  simp only [kept, Bool.and_eq_true] at h
  rcases List.mem_cons.1 ht with rfl | ht
  ·have h1 := h.1
   have key : ∀ k, (match a.get k, b.get k with | some o, some p => Obj.beq o p | _, _ => false) = true → sget b.s k = sget a.s k := fun k hk => by
    split at hk
    ·rename_i o p ho hp
     rw [Obj.eq_of_beq hk] at ho
     exact hp.trans ho.symm
    ·cases hk
   intro k hk
   cases hx : env.getD t .undef <;> rw [hx] at h1 hk <;> simp only [refK, reduceCtorEq, Option.some.injEq] at hk <;> subst hk <;> exact key _ h1
  ·exact zfq h.2 t ht
end Go.Lift
namespace Go.Lift
open Go
inductive It where
 | op (j : Nat) (o : IOp)
 | ins (j key : Nat) (obj : Obj)
def z0g (cl : z11) (base : Nat) : List It → List V → St → Option (List V × St)
 | [], env, st => some (env, st)
 | .op _ o :: r, env, st =>
  if wantedE env o.gd then
   match evalIOp cl base env st o with
   | none => none
   | some (v, st') => if kept env st st' o.keep then z0g cl base r (setE env o.dst v) st' else none
  else z0g cl base r (setE env o.dst .undef) st
 | .ins _ key obj :: r, env, st => z0g cl base r env (st.ins key obj)
theorem z1f {cl : z11} {base : Nat} : ∀ {l m : List It} {env : List V} {st : St}, z0g cl base (l ++ m) env st = (z0g cl base l env st).bind fun p => z0g cl base m p.1 p.2
 | [], m, env, st => rfl
 | .op j o :: l, m, env, st => by
  simp only [List.cons_append, z0g]
  split
  ·split
   ·rfl
   ·split
    ·exact z1f
    ·rfl
  ·exact z1f
 | .ins j key obj :: l, m, env, st => by
  simp only [List.cons_append, z0g]
  exact z1f
def itOf (p : Nat × IOp) : It := .op p.1 p.2
theorem z6z {cl : z11} {base : Nat} : ∀ {l : List (Nat × IOp)} {env : List V} {st : St}, z0g cl base (l.map itOf) env st = z0k cl base (l.map Prod.snd) env st
 | [], env, st => rfl
 | (j, o) :: l, env, st => by
  simp only [List.map_cons, itOf, z0g, z0k]
  by_cases hw : wantedE env o.gd = true
  ·simp only [hw, if_true]
   cases evalIOp cl base env st o with
   | none => rfl
   | some p =>
    obtain ⟨v, st'⟩ := p
    simp only
    by_cases hk : kept env st st' o.keep = true
    ·simp only [hk, if_true]
     exact z6z
    ·simp only [hk, Bool.false_eq_true, if_false]
  ·simp only [hw, Bool.false_eq_true, if_false]
   exact z6z
theorem z8m {B : List (List Nat)} : ∀ {l : List (Nat × IOp)}, zdc B l = true → l.Pairwise fun x y => zc3 B x y = true
 | [], _ => List.Pairwise.nil
 | x :: l, h => by
  simp only [zdc, Bool.and_eq_true, List.all_eq_true] at h
  exact List.Pairwise.cons h.1 (z8m h.2)
theorem z56 {cl : z11} {base : Nat} {dst : Option Nat} {v : V} : ∀ {l : List It} {env env1 : List V} {st st1 : St}, (∀ j o, It.op j o ∈ l → ∀ d, dst = some d → d ∉ looks o ∧ o.dst ≠ some d) →
  z0g cl base l env st = some (env1, st1) → z0g cl base l (setE env dst v) st = some (setE env1 dst v, st1)
 | [], env, env1, st, st1, _, h => by
  simp only [z0g, Option.some.injEq, Prod.mk.injEq] at h ⊢
  exact ⟨by rw [h.1], h.2⟩
 | .ins j key obj :: l, env, env1, st, st1, hd, h => by
  simp only [z0g] at h ⊢
  exact z56 (fun j o ho => hd j o (by simp [ho])) h
 | .op j o :: l, env, env1, st, st1, hd, h => by
  have hdo := hd j o (by simp)
  have hdl : ∀ j o, It.op j o ∈ l → ∀ d, dst = some d → d ∉ looks o ∧ o.dst ≠ some d := fun j o ho => hd j o (by simp [ho])
  have hw : wantedE (setE env dst v) o.gd = wantedE env o.gd := zla fun d hdd t w hg e => by
   subst e
   exact (hdo d hdd).1 (by simp [looks, z6g, hg])
  have ha : Agree (setE env dst v) env (z0q o.op) := zsd fun d hdd hm => (hdo d hdd).1 (by
   simp only [looks, z6g, List.mem_append]
   exact .inl (.inl hm))
  have hk : ∀ a b, kept (setE env dst v) a b o.keep = kept env a b o.keep := fun a b => zjs fun d hdd hm => (hdo d hdd).1 (by
   simp only [looks, List.mem_append]
   exact .inr hm)
  have hcomm : ∀ u, setE (setE env dst v) o.dst u = setE (setE env o.dst u) dst v := fun u => znz fun x hx => (hdo x hx).2
  simp only [z0g, hw, z7n o ha, hk, hcomm] at h ⊢
  split at h
  ·rename_i hwt
   rw [if_pos hwt]
   split at h
   ·cases h
   ·rename_i u st' he
    split at h
    ·rename_i hkt
     simp only [hkt, if_true]
     exact z56 hdl h
    ·cases h
  ·rename_i hwt
   rw [if_neg hwt]
   exact z56 hdl h
end Go.Lift
namespace Go.Lift
open Go
def isOp : It → Bool
 | .op _ _ => true
 | .ins _ _ _ => false
def z2a (l : List It) : List It := l.filter isOp
def z1b : List It → List (Nat × Obj)
 | [] => []
 | .op _ _ :: l => z1b l
 | .ins _ k o :: l => (k, o) :: z1b l
def z6d : St → List (Nat × Obj) → St
 | st, [] => st
 | st, (k, o) :: l => z6d (st.ins k o) l
def PR (l : List It) : Prop := ∀ j o, It.op j o ∈ l → z1h o.op = .p ∨ z1h o.op = .r
theorem PR.tail {x : It} {l : List It} (h : PR (x :: l)) : PR l := fun j o ho => h j o (by simp [ho])
theorem z3o {o : IOp} (h : z1h o.op = .p ∨ z1h o.op = .r) (cl : z11) (base : Nat) (env : List V) (st : St) : evalIOp cl base env st o = evalOp base env st o.op := by
 unfold evalIOp
 split
 ·rename_i f args e
  rw [e] at h
  simp [z1h] at h
 ·rfl
theorem y18 {base : Nat} {env : List V} {st st' : St} {k : IK} {v : V} (hp : z1h k = .r) (h : evalOp base env st k = some (v, st')) {x : Opd} (hx : zta k = some x) {n : Nat} (hn : refK (evO env x) = some n) : ∃ o, sget st.s n = some o := by
 cases k <;> simp only [z1h, reduceCtorEq] at hp <;> simp only [zta, Option.some.injEq] at hx <;> subst hx <;> simp only [evalOp] at h
 case load m ag a =>
  cases hv : evO env a <;> rw [hv] at hn h <;> simp only [refK, reduceCtorEq, Option.some.injEq] at hn <;> simp only [z1r, reduceCtorEq] at h
  subst hn
  unfold St.cells? scells at h
  cases e : sget st.s _ with
  | some o => exact ⟨o, rfl⟩
  | none => rw [e] at h; simp at h
 case lookup kt ag sh ok z m k =>
  cases hv : evO env m <;> rw [hv] at hn h <;> simp only [refK, reduceCtorEq, Option.some.injEq] at hn
  case map j =>
   subst hn
   cases e : sget st.s j with
   | some o => exact ⟨o, rfl⟩
   | none =>
    exfalso
    cases hk : evO env k <;> rw [hk] at h <;> simp only [z1w, reduceCtorEq] at h
    simp only [St.get, e] at h
    split at h <;> rename_i hh <;> first | (cases h; done) | (split at hh <;> cases hh)
  all_goals
   exfalso
   cases hk : evO env k <;> rw [hk] at h <;> simp only [z1w, reduceCtorEq] at h
   split at h <;> rename_i hh <;> first | (cases h; done) | (split at hh <;> cases hh)
 case lenM a =>
  cases hv : evO env a <;> rw [hv] at hn h <;> simp only [refK, reduceCtorEq, Option.some.injEq] at hn <;> simp only [z4k, reduceCtorEq] at h
  subst hn
  cases e : sget st.s _ with
  | some o => exact ⟨o, rfl⟩
  | none => simp [St.get, e] at h
 case sliceL es a lo hi =>
  cases hv : evO env a <;> rw [hv] at hn h <;> simp only [refK, reduceCtorEq, Option.some.injEq] at hn <;> simp only [reduceCtorEq] at h
  subst hn
  unfold St.cells? scells at h
  cases e : sget st.s _ with
  | some o => exact ⟨o, rfl⟩
  | none => rw [e] at h; simp at h
 case sliceA n' es ag a lo hi =>
  cases hv : evO env a <;> rw [hv] at hn h <;> simp only [refK, reduceCtorEq, Option.some.injEq] at hn <;> simp only [reduceCtorEq] at h
  subst hn
  unfold St.cells? scells at h
  cases e : sget st.s _ with
  | some o => exact ⟨o, rfl⟩
  | none => rw [e] at h; simp at h
theorem zhs {cl : z11} {base : Nat} {st2 : St} : ∀ {l : List It} {env env1 : List V} {st st1 : St}, PR l → z0g cl base l env st = some (env1, st1) →
  (∀ k o, sget st.s k = some o → sget st2.s k = some o) → (∀ p ∈ z1b l, sget st2.s p.1 = some p.2) → (∀ p ∈ z1b l, sget st.s p.1 = none) → ((z1b l).map Prod.fst).Nodup →
  (∀ (j : Nat) (o : IOp), It.op j o ∈ l → o.keep = []) →
  st1 = z6d st (z1b l) ∧ z0g cl base (z2a l) env st2 = some (env1, st2)
 | [], env, env1, st, st1, _, h, _, _, _, _, _ => by
  simp only [z0g, Option.some.injEq, Prod.mk.injEq] at h
  obtain ⟨rfl, rfl⟩ := h
  exact ⟨rfl, rfl⟩
 | .ins j key obj :: l, env, env1, st, st1, hpr, h, h1, h2, h3, h4, h5 => by
  simp only [z0g] at h
  simp only [z1b, List.map_cons, List.nodup_cons] at h2 h3 h4
  simp only [z1b, z6d, z2a, List.filter_cons, isOp, Bool.false_eq_true, if_false]
  refine zhs hpr.tail h (fun k o ho => ?_) (fun p hp => h2 p (by simp [hp])) (fun p hp => ?_) h4.2 (fun j o ho => h5 j o (by simp [ho]))
  ·simp only [St.ins, sget] at ho
   by_cases e : key = k
   ·subst e
    simp only [if_true, Option.some.injEq] at ho
    subst ho
    exact h2 (key, obj) (by simp)
   ·simp only [e, if_false] at ho
    exact h1 k o ho
  ·simp only [St.ins, sget]
   have hne : key ≠ p.1 := fun e => h4.1 (e ▸ List.mem_map.2 ⟨p, hp, rfl⟩)
   simp only [hne, if_false]
   exact h3 p (by simp [hp])
 | .op j o :: l, env, env1, st, st1, hpr, h, h1, h2, h3, h4, h5 => by
  have hcls := hpr j o (by simp)
  simp only [z0g, z3o hcls] at h
  simp only [z1b] at h2 h3 h4 ⊢
  simp only [z2a, List.filter_cons, isOp, if_true, z0g, z3o hcls]
  have rest : ∀ {env' : List V} {st' : St}, st' = st → z0g cl base l env' st' = some (env1, st1) → st1 = z6d st (z1b l) ∧ z0g cl base (z2a l) env' st2 = some (env1, st2) := fun {env' st'} e hh => by
   subst e
   exact zhs hpr.tail hh h1 h2 h3 h4 (fun j o ho => h5 j o (by simp [ho]))
  split at h
  ·rename_i hw
   rw [if_pos hw]
   split at h
   ·cases h
   ·rename_i v st' he
    split at h
    ·rename_i hk
     have key : st' = st ∧ evalOp base env st2 o.op = some (v, st2) := by
      rcases hcls with hc | hc
      ·exact zti hc he st2
      ·refine zoh hc he fun x hx n hn => ?_
       obtain ⟨ob, hob⟩ := y18 hc he hx hn
       rw [hob]
       exact h1 n ob hob
     obtain ⟨rfl, he2⟩ := key
     simp only [he2]
     rw [if_pos (by rw [h5 j o (by simp)]; rfl)]
     exact rest rfl h
    ·cases h
  ·rename_i hw
   rw [if_neg hw]
   exact rest rfl h
theorem zjz {env : List V} {dst : Option Nat} {u : V} {t : Nat} (h : ∀ d, dst = some d → d ≠ t) : (setE env dst u).getD t .undef = env.getD t .undef := by
 cases dst with
 | none => rfl
 | some d =>
  have hdt : d ≠ t := h d rfl
  simp only [setE, List.getD, List.getElem?_set, hdt, if_false]
theorem z2w {cl : z11} {base t : Nat} : ∀ {l : List It} {env env1 : List V} {st st1 : St}, z0g cl base l env st = some (env1, st1) → (∀ j c, It.op j c ∈ l → ∀ d, c.dst = some d → d ≠ t) → env1.getD t .undef = env.getD t .undef
 | [], env, env1, st, st1, h, _ => by
  simp only [z0g, Option.some.injEq, Prod.mk.injEq] at h
  rw [h.1]
 | .ins j key obj :: l, env, env1, st, st1, h, hd => by
  simp only [z0g] at h
  exact z2w h fun j c hc => hd j c (by simp [hc])
 | .op j o :: l, env, env1, st, st1, h, hd => by
  have ht : ∀ j c, It.op j c ∈ l → ∀ d, c.dst = some d → d ≠ t := fun j c hc => hd j c (by simp [hc])
  simp only [z0g] at h
  split at h
  ·split at h
   ·cases h
   ·split at h
    ·rw [z2w h ht, zjz (hd j o (by simp))]
    ·cases h
  ·rw [z2w h ht, zjz (hd j o (by simp))]
def y0i (x y : It) : Prop := ∀ i a j b, x = .op i a → y = .op j b → z8q a b = true
theorem zga {a b : IOp} {t : Nat} (h : z8q a b = true) (ht : zf7 a.op = some t) : b.dst ≠ some t := by
 unfold z8q at h
 rw [ht] at h
 simpa using h
theorem zqv {cl : z11} {base : Nat} {st2 : St} : ∀ {l : List It} {env env1 : List V} {st st1 : St}, PR l → (∀ x ∈ l, isOp x = true) → z0g cl base l env st = some (env1, st1) →
  (∀ j o, It.op j o ∈ l → z1h o.op = .r → ∃ t, zf7 o.op = some t ∧ zcq st st2 (env1.getD t .undef)) →
  l.Pairwise y0i → (∀ j o, It.op j o ∈ l → z1h o.op = .r → z8q o o = true) →
  (∀ (j : Nat) (o : IOp), It.op j o ∈ l → o.keep = []) →
  st1 = st ∧ z0g cl base l env st2 = some (env1, st2)
 | [], env, env1, st, st1, _, _, h, _, _, _, _ => by
  simp only [z0g, Option.some.injEq, Prod.mk.injEq] at h
  obtain ⟨rfl, rfl⟩ := h
  exact ⟨rfl, rfl⟩
 | .ins j key obj :: l, env, env1, st, st1, _, hop, h, _, _, _, _ => by
  have := hop _ (List.mem_cons_self)
  simp [isOp] at this
 | .op j o :: l, env, env1, st, st1, hpr, hop, h, h1, hcl, hself, h5 => by
  have hcls := hpr j o (by simp)
  have hall := h
  simp only [List.pairwise_cons] at hcl
  simp only [z0g, z3o hcls] at h ⊢
  have rest : ∀ {u : V} {st' : St}, st' = st → z0g cl base l (setE env o.dst u) st' = some (env1, st1) → st1 = st ∧ z0g cl base l (setE env o.dst u) st2 = some (env1, st2) := fun {u st'} e hh => by
   subst e
   exact zqv hpr.tail (fun x hx => hop x (by simp [hx])) hh (fun j' o' ho' hc => h1 j' o' (by simp [ho']) hc) hcl.2 (fun j o ho => hself j o (by simp [ho])) (fun j o ho => h5 j o (by simp [ho]))
  split at h
  ·rename_i hw
   rw [if_pos hw]
   split at h
   ·cases h
   ·rename_i v st' he
    split at h
    ·rename_i hk
     have key : st' = st ∧ evalOp base env st2 o.op = some (v, st2) := by
      rcases hcls with hc | hc
      ·exact zti hc he st2
      ·refine zoh hc he fun x hx => ?_
       obtain ⟨t, h6, h7⟩ := h1 j o (by simp) hc
       rw [zh0 h6] at hx
       cases hx
       have hun : env1.getD t .undef = env.getD t .undef := z2w hall fun j' c hc' d hd e => by
        subst e
        rcases List.mem_cons.1 hc' with e | hm
        ·cases e
         exact zga (hself j o (by simp) hc) h6 hd
        ·exact zga (hcl.1 _ hm j o j' c rfl rfl) h6 hd
       rw [hun] at h7
       exact h7
     obtain ⟨rfl, he2⟩ := key
     simp only [he2]
     rw [if_pos (by rw [h5 j o (by simp)]; rfl)]
     exact rest rfl h
    ·cases h
  ·rename_i hw
   rw [if_neg hw]
   exact rest rfl h
end Go.Lift
namespace Go.Lift
open Go
theorem zms {env env' : List V} {l : List Opd} (h : ∀ t, Opd.t t ∈ l → env.getD t .undef = env'.getD t .undef) : Agree env env' l := by
 intro x hx
 cases x with
 | c v => rfl
 | t n => exact h n hx
theorem zgq {env env' : List V} {gd : Option (Nat × Bool)} (h : ∀ t w, gd = some (t, w) → env.getD t .undef = env'.getD t .undef) : wantedE env gd = wantedE env' gd := by
 cases gd with
 | none => rfl
 | some p =>
  obtain ⟨t, w⟩ := p
  simp only [wantedE, h t w rfl]
theorem zpn {o : IOp} {t : Nat} (h : Opd.t t ∈ z0q o.op) : t ∈ z6g o := by
 simp only [z6g, List.mem_append]
 exact .inl (List.mem_filterMap.2 ⟨_, h, rfl⟩)
theorem zu0 {o : IOp} {t : Nat} {w : Bool} (h : o.gd = some (t, w)) : t ∈ z6g o := by simp [z6g, h]
theorem y4g {base : Nat} {env : List V} {st st' : St} {k : IK} {v : V} (hp : z1h k = .a) (hs : z36 k = false) (h : evalOp base env st k = some (v, st')) : ∃ key obj, st' = st.ins key obj ∧ ∀ st2, evalOp base env st2 k = some (v, st2.ins key obj) := by
 cases k <;> simp only [z1h, reduceCtorEq] at hp
 case alloc ai z => simp only [evalOp] at h ⊢; cases h; exact ⟨_, _, rfl, fun _ => rfl⟩
 case mkmap ai kt => simp only [evalOp] at h ⊢; cases h; exact ⟨_, _, rfl, fun _ => rfl⟩
 case box ai x =>
  simp only [evalOp] at h ⊢
  split at h
  ·rename_i hc
   cases h
   exact ⟨_, _, rfl, fun _ => by rw [if_pos hc]⟩
  ·cases h
 case rangeS ai x =>
  simp only [evalOp] at h ⊢
  split at h
  ·rename_i s hs
   cases h
   exact ⟨_, _, rfl, fun _ => rfl⟩
  ·cases h
 case mkslice ai es ag eb z l c =>
  simp only [evalOp] at h ⊢
  split at h
  ·rename_i li ci h1 h2
   split at h
   ·rename_i hc
    cases h
    exact ⟨_, _, rfl, fun _ => by rw [if_pos hc]⟩
   ·cases h
  ·cases h
 case mkSl ai es ag nf z len parts =>
  cases nf with
  | false => simp [z36] at hs
  | true =>
   simp only [evalOp, if_true] at h ⊢
   split at h
   ·rename_i hc
    split at h
    ·rename_i cs hcs
     split at h
     ·rename_i hcell
      cases h
      exact ⟨_, _, rfl, fun _ => by rw [if_pos hc, if_pos hcell]⟩
     ·cases h
    ·cases h
   ·cases h
end Go.Lift
namespace Go.Lift
open Go
theorem zam {a b : IOp} (h : zhm a b = true) : (∀ d, a.dst = some d → d ∉ z6g b ∧ b.dst ≠ some d) ∧ ∀ d, b.dst = some d → d ∉ looks a := by
 unfold zhm at h
 simp only [Bool.and_eq_true] at h
 refine ⟨fun d hd => ?_, fun d hd => ?_⟩
 ·have := h.1
  rw [hd] at this
  simpa using this
 ·have := h.2
  rw [hd] at this
  simpa using this
section
variable {cl : z11} {base : Nat} {pre post : List It} {i : Nat} {o : IOp} {env env' : List V} {st st' : St}
theorem zbs (h : z0g cl base (pre ++ .op i o :: post) env st = some (env', st')) : ∃ env1 st1, z0g cl base pre env st = some (env1, st1) ∧ z0g cl base (.op i o :: post) env1 st1 = some (env', st') := by
 rw [z1f] at h
 cases hp : z0g cl base pre env st with
 | none => rw [hp] at h; cases h
 | some p => obtain ⟨env1, st1⟩ := p; rw [hp] at h; exact ⟨env1, st1, rfl, h⟩
variable (hind : ∀ j c, It.op j c ∈ pre → zhm c o = true)
include hind
theorem ziw {env1 : List V} {st1 : St} (h : z0g cl base pre env st = some (env1, st1)) : ∀ t ∈ z6g o, env1.getD t .undef = env.getD t .undef := fun t ht =>
 z2w h fun j c hc d hd e => (zam (hind j c hc)).1 d hd |>.1 (e ▸ ht)
theorem zlg {env1 : List V} {st1 : St} (h : z0g cl base pre env st = some (env1, st1)) : Agree env env1 (z0q o.op) := zms fun t ht => (ziw hind h t (zpn ht)).symm
theorem z9w {env1 : List V} {st1 : St} (h : z0g cl base pre env st = some (env1, st1)) : wantedE env1 o.gd = wantedE env o.gd := zgq fun t w hg => ziw hind h t (zu0 hg)
theorem zcz {env1 : List V} {st1 : St} {v : V} (h : z0g cl base pre env st = some (env1, st1)) : z0g cl base pre (setE env o.dst v) st = some (setE env1 o.dst v, st1) :=
 z56 (fun j c hc d hd => ⟨(zam (hind j c hc)).2 d hd, fun e => (zam (hind j c hc)).1 d e |>.2 hd⟩) h
theorem zct (h : z0g cl base (pre ++ .op i o :: post) env st = some (env', st')) (hw : wantedE env o.gd = false) : z0g cl base (pre ++ post) (setE env o.dst .undef) st = some (env', st') := by
 obtain ⟨env1, st1, h1, h2⟩ := zbs h
 rw [z1f, zcz hind h1]
 simp only [z0g, z9w hind h1, hw, Bool.false_eq_true, if_false] at h2
 exact h2
theorem z6k (h : z0g cl base (pre ++ .op i o :: post) env st = some (env', st')) (hw : wantedE env o.gd = true) : ∃ env1 st1 v st2, z0g cl base pre env st = some (env1, st1) ∧ evalIOp cl base env st1 o = some (v, st2) ∧ kept env1 st1 st2 o.keep = true ∧ z0g cl base post (setE env1 o.dst v) st2 = some (env', st') := by
 obtain ⟨env1, st1, h1, h2⟩ := zbs h
 simp only [z0g, z9w hind h1, hw, if_true] at h2
 split at h2
 ·cases h2
 ·rename_i v st2 he
  split at h2
  ·rename_i hk
   refine ⟨env1, st1, v, st2, h1, ?_, hk, h2⟩
   rw [z7n o (zlg hind h1)]; exact he
  ·cases h2
theorem y0w (h : z0g cl base (pre ++ .op i o :: post) env st = some (env', st')) (hw : wantedE env o.gd = true) (hp : z1h o.op = .p) :
  ∃ v, evalOp base env st o.op = some (v, st) ∧ z0g cl base (pre ++ post) (setE env o.dst v) st = some (env', st') := by
 obtain ⟨env1, st1, v, st2, h1, h2, _, h3⟩ := z6k hind h hw
 rw [z3o (.inl hp)] at h2
 obtain ⟨rfl, _⟩ := zti hp h2 st1
 refine ⟨v, (zti hp h2 st).2, ?_⟩
 rw [z1f, zcz hind h1]
 exact h3
theorem y0x (h : z0g cl base (pre ++ .op i o :: post) env st = some (env', st')) (hw : wantedE env o.gd = true) (hp : z1h o.op = .a) (hs : z36 o.op = false) :
  ∃ v key obj, (∀ st2, evalOp base env st2 o.op = some (v, st2.ins key obj)) ∧ z0g cl base (pre ++ .ins i key obj :: post) (setE env o.dst v) st = some (env', st') := by
 obtain ⟨env1, st1, v, st2, h1, h2, _, h3⟩ := z6k hind h hw
 have he : evalOp base env st1 o.op = some (v, st2) := by
  unfold evalIOp at h2
  split at h2
  ·rename_i f args e
   rw [e] at hp
   simp [z1h] at hp
  ·exact h2
 obtain ⟨key, obj, rfl, h4⟩ := y4g hp hs he
 refine ⟨v, key, obj, h4, ?_⟩
 rw [z1f, zcz hind h1]
 exact h3
theorem zle (h : z0g cl base (pre ++ .op i o :: post) env st = some (env', st')) (hw : wantedE env o.gd = true) (hpr : PR pre) (hkeep : ∀ j c, It.op j c ∈ pre → c.keep = [])
  (hfresh : ∀ p ∈ z1b pre, sget st.s p.1 = none) (hnd : ((z1b pre).map Prod.fst).Nodup) (hclr : pre.Pairwise y0i) (hself : ∀ j c, It.op j c ∈ pre → z1h c.op = .r → z8q c c = true) (hread : z1h o.op = .r ∨ ∀ j c, It.op j c ∈ pre → z1h c.op = .r → zf8 c.op o.keep = true) :
  ∃ v s2, evalIOp cl base env (z6d st (z1b pre)) o = some (v, s2) ∧ z0g cl base (z2a pre ++ post) (setE env o.dst v) s2 = some (env', st') := by
 obtain ⟨env1, st1, v, st2, h1, h2, hk, h3⟩ := z6k hind h hw
 have hfl : ∀ (l : List (Nat × Obj)) (st : St), (∀ p ∈ l, sget st.s p.1 = none) → (l.map Prod.fst).Nodup → (∀ k x, sget st.s k = some x → sget (z6d st l).s k = some x) ∧ ∀ p ∈ l, sget (z6d st l).s p.1 = some p.2 := by
  intro l
  induction l with
  | nil => exact fun st _ _ => ⟨fun k x hx => hx, fun p hp => by simp at hp⟩
  | cons q l ih =>
   obtain ⟨key, obj⟩ := q
   intro st hf hn
   simp only [List.map_cons, List.nodup_cons] at hn
   have hf' : ∀ p ∈ l, sget (st.ins key obj).s p.1 = none := fun p hp => by
    have hne : key ≠ p.1 := fun e => hn.1 (e ▸ List.mem_map.2 ⟨p, hp, rfl⟩)
    simp only [St.ins, sget, hne, if_false]
    exact hf p (by simp [hp])
   obtain ⟨h5, h6⟩ := ih (st.ins key obj) hf' hn.2
   refine ⟨fun k x hx => h5 k x ?_, fun p hp => ?_⟩
   ·have hne : key ≠ k := fun e => by
     have := hf (key, obj) (by simp)
     simp only at this
     rw [e, hx] at this
     cases this
    simp only [St.ins, sget, hne, if_false]
    exact hx
   ·rcases List.mem_cons.1 hp with rfl | hp
    ·exact h5 _ _ (by simp [St.ins, sget])
    ·exact h6 p hp
 obtain ⟨hf1, hf2⟩ := hfl _ st hfresh hnd
 obtain ⟨rfl, h5⟩ := zhs (st2 := z6d st (z1b pre)) hpr h1 hf1 hf2 hfresh hnd hkeep
 refine ⟨v, st2, h2, ?_⟩
 have hpo : PR (z2a pre) := fun j c hc => hpr j c (List.mem_filter.1 hc).1
 have hio : ∀ j c, It.op j c ∈ z2a pre → zhm c o = true := fun j c hc => hind j c (List.mem_filter.1 hc).1
 have hko : ∀ j c, It.op j c ∈ z2a pre → c.keep = [] := fun j c hc => hkeep j c (List.mem_filter.1 hc).1
 have h6 : z0g cl base (z2a pre) env st2 = some (env1, st2) := by
  rcases hread with hr | hr
  ·rw [z3o (.inr hr)] at h2
   obtain ⟨rfl, _⟩ := zoh hr h2 (st2 := z6d st (z1b pre)) fun _ _ _ _ => rfl
   exact h5
  ·refine (zqv hpo (fun x hx => (List.mem_filter.1 hx).2) h5 (fun j c hc hcr => ?_) (hclr.sublist List.filter_sublist) (fun j c hc => hself j c (List.mem_filter.1 hc).1) hko).2
   have := hr j c (List.mem_filter.1 hc).1 hcr
   unfold zf8 at this
   split at this
   ·rename_i t ht
    have hmem : t ∈ o.keep := by simpa using this
    exact ⟨t, ht, zfq hk t hmem⟩
   ·cases this
 rw [z1f, zcz hio h6]
 exact h3
end
end Go.Lift
namespace Go.Lift
open Go
variable {P : Program} {st : St} {g : Gh} {w : World}
def Pend (P : Program) (w0 : World) (st : St) (g : Gh) (w : World) (key : Nat) (obj : Obj) : Prop :=
 ∃ b, g.blk key = some b ∧ w0.heap.size ≤ b ∧ b < w.heap.size ∧ ¬ Live st g b ∧ ObjRep P z0d g w b key obj
theorem Pend.step {w0 : World} {key : Nat} {obj : Obj} {st' : St} {g' : Gh} {w' : World} (h : Pend P w0 st g w key obj) (hs : Step st g w st' g' w') : Pend P w0 st' g' w' key obj := by
 obtain ⟨b, h1, h2, h3, h4, h5⟩ := h
 have hx := hs.ext.blk key b h1
 refine ⟨b, hx.1, h2, Nat.lt_of_lt_of_le h3 hs.size, fun hl => ?_, h5.mono hs.ext hx.2 (hs.ext.sh _ _ h1) (hs.same b h3 h4) fun hn j => ?_⟩
 ·rcases hs.live b hl with h6 | h6
  ·omega
  ·exact h4 h6
 ·cases e : g'.H b j with
  | none => rfl
  | some v =>
   rcases hs.Hn b j v e with h6 | h6 | h6
   ·rw [hn j] at h6; cases h6
   ·omega
   ·exact absurd h6 h4
theorem zat {w0 : World} {st0 : St} {g0 : Gh} : ∀ {l : List (Nat × Obj)} {st : St}, Inv P z0d st g w → Step st0 g0 w0 st g w → (∀ p ∈ l, Pend P w0 st g w p.1 p.2) → (l.map Prod.fst).Nodup → (∀ p ∈ l, ∀ q ∈ l, ∀ b, g.blk p.1 = some b → g.blk q.1 = some b → p.1 = q.1) →
  Inv P z0d (z6d st l) g w ∧ Step st0 g0 w0 (z6d st l) g w ∧ (z6d st l).next = st.next ∧ ∀ key obj, Pend P w0 st g w key obj → (∀ p ∈ l, ∀ b, g.blk p.1 = some b → g.blk key ≠ some b) → Pend P w0 (z6d st l) g w key obj
 | [], st, hi, hs, _, _, _ => ⟨hi, hs, rfl, fun _ _ h _ => h⟩
 | (k, o) :: l, st, hi, hs, hp, hn, hinj => by
  simp only [List.map_cons, List.nodup_cons] at hn
  obtain ⟨b, h1, h2, h3, h4, h5⟩ := hp (k, o) (by simp)
  simp only at h1
  have keep : ∀ key obj, Pend P w0 st g w key obj → g.blk key ≠ some b → Pend P w0 (st.ins k o) g w key obj := fun key obj ⟨c, e1, e2, e3, e4, e5⟩ hne => by
   refine ⟨c, e1, e2, e3, fun ⟨j, x, hj, hc⟩ => ?_, e5⟩
   simp only [St.ins, sget] at hj
   by_cases e : k = j
   ·subst e
    rw [h1] at hc
    cases hc
    exact hne e1
   ·simp only [e, if_false] at hj
    exact e4 ⟨j, x, hj, hc⟩
  obtain ⟨r1, r2, r3, r4⟩ := zat (hi.put h1 h4 h5) (hs.put h1 (.inl h2) o) (fun p hp' => keep p.1 p.2 (hp p (by simp [hp'])) fun e => hn.1 (by
   have := hinj (k, o) (by simp) p (by simp [hp']) b h1 e
   simp only at this
   rw [this]
   exact List.mem_map.2 ⟨p, hp', rfl⟩)) hn.2 fun p hp' q hq => hinj p (by simp [hp']) q (by simp [hq])
  refine ⟨r1, r2, r3, fun key obj hk hne => r4 key obj (keep key obj hk (hne (k, o) (by simp) b h1)) fun p hp' => hne p (by simp [hp'])⟩
def OpAt (P : Program) (ops : List Oper) (pn : Nat → Nat) (j : Nat) (o : IOp) : Prop :=
 ∃ oper, ops[j]? = some oper ∧ o.dst = oper.dst ∧ zcn ops oper.guard = some o.gd ∧ (o.op = cOp P (pn j) oper ∨ o.op = z2b (cOp P (pn j) oper))
def y0f (B : List (List Nat)) (x y : It) : Prop := ∀ i a j b, x = .op i a → y = .op j b → i ≠ j ∧ zc3 B (i, a) (j, b) = true
structure RI (P : Program) (ops : List Oper) (B : List (List Nat)) (pn : Nat → Nat) (base m : Nat) (w0 : World) (st0 : St) (g0 : Gh) (listed : Array Bool) (its : List It) (st : St) (g : Gh) (w : World) : Prop where
 size : listed.size = ops.length
 left : ∀ j o, It.op j o ∈ its → listed.getD j true = false ∧ OpAt P ops pn j o ∧ zp2 o = true
 all : ∀ j, listed.getD j true = false → ∃ o, It.op j o ∈ its
 closed : ∀ j, j < ops.length → listed.getD j true = true → ∀ k ∈ B.getD j [], listed.getD k true = true
 pair : its.Pairwise (y0f B)
 keys : ((z1b its).map Prod.fst).Nodup
 pend : ∀ p ∈ z1b its, Pend P w0 st g w p.1 p.2
 inj : ∀ p ∈ z1b its, ∀ q ∈ z1b its, ∀ b, g.blk p.1 = some b → g.blk q.1 = some b → p.1 = q.1
 fresh : ∀ j, listed.getD j true = false → g.blk (base + pn j) = none
 next : base + m ≤ st.next
 inv : Inv P z0d st g w
 step : Step st0 g0 w0 st g w
 new : ∀ k b, g.blk k = some b → g0.blk k = some b ∨ base ≤ k
theorem z0n : ∀ {l m : List It}, z1b (l ++ m) = z1b l ++ z1b m
 | [], _ => rfl
 | .op _ _ :: l, m => by simp only [List.cons_append, z1b]; exact z0n
 | .ins _ _ _ :: l, m => by simp only [List.cons_append, z1b, z0n]
theorem z6u : ∀ {l : List It}, z1b (z2a l) = []
 | [] => rfl
 | .op _ _ :: l => by simp only [z2a, List.filter_cons, isOp, if_true, z1b]; exact z6u
 | .ins _ _ _ :: l => by simp only [z2a, List.filter_cons, isOp, Bool.false_eq_true, if_false]; exact z6u
theorem zaz {cl : z11} {base : Nat} : ∀ {l : List It} {env : List V} {st : St}, z2a l = [] → z0g cl base l env st = some (env, z6d st (z1b l))
 | [], _, _, _ => rfl
 | .op _ _ :: l, _, _, h => by simp [z2a, isOp] at h
 | .ins j k o :: l, env, st, h => by
  simp only [z2a, List.filter_cons, isOp, Bool.false_eq_true, if_false] at h
  simp only [z0g, z1b, z6d]
  exact zaz h
theorem zdr {l : Array Bool} {i j : Nat} (hi : i < l.size) : (l.setIfInBounds i true).getD j true = if i = j then true else l.getD j true := by
 simp only [Array.getD_eq_getD_getElem?, Array.getElem?_setIfInBounds]
 by_cases e : i = j
 ·subst e; simp [hi]
 ·simp [e]
theorem z7l {l : Array Bool} {i : Nat} (h : l.getD i true = false) : i < l.size := by
 rcases Nat.lt_or_ge i l.size with h1 | h1
 ·exact h1
 ·rw [Array.getD_eq_getD_getElem?, Array.getElem?_eq_none h1] at h
  cases h
theorem zfw {l : Array Bool} {i : Nat} (h : l.getD i false = true) : l.getD i true = true := by
 rw [Array.getD_eq_getD_getElem?] at h ⊢
 cases e : l[i]? with
 | none => rfl
 | some b => rw [e] at h; exact h
theorem zfx {l : Array Bool} {i : Nat} (hi : i < l.size) (h : l.getD i true = true) : l.getD i false = true := by
 rw [Array.getD_eq_getD_getElem?] at h ⊢
 rw [Array.getElem?_eq_getElem hi] at h ⊢
 exact h
theorem z75 {B : List (List Nat)} {ops : List Oper} (h : z60 B ops = true) {j : Nat} {o : Oper} (ho : ops[j]? = some o) :
  (∀ k ∈ B.getD j [], ∃ e ∈ o.after, Region.binds .any e = true ∧ (e.on = k ∨ k ∈ B.getD e.on [])) ∧
  ∀ e ∈ o.after, Region.binds .any e = true → e.on ∈ B.getD j [] ∧ e.on < ops.length ∧ e.on ≠ j := by
 have hj : j < ops.length := (List.getElem?_eq_some_iff.1 ho).1
 unfold z60 at h
 have h1 := List.all_eq_true.1 h j (List.mem_range.2 hj)
 simp only [ho] at h1
 simp only [Bool.and_eq_true, List.all_eq_true] at h1
 have hmem : ∀ d, d ∈ ze0 o ↔ ∃ e ∈ o.after, Region.binds .any e = true ∧ e.on = d := fun d => by
  simp only [ze0, List.mem_map, List.mem_filter, Array.mem_toList_iff]
  exact ⟨fun ⟨e, ⟨h2, h3⟩, h4⟩ => ⟨e, h2, h3, h4⟩, fun ⟨e, h2, h3, h4⟩ => ⟨e, ⟨h2, h3⟩, h4⟩⟩
 refine ⟨fun k hk => ?_, fun e he hb => ?_⟩
 ·have h2 := h1.1 k hk
  simp only [Bool.or_eq_true, List.contains_iff_mem, List.any_eq_true] at h2
  rcases h2 with h2 | ⟨d, h2, h3⟩
  ·obtain ⟨e, h4, h5, h6⟩ := (hmem k).1 h2
   exact ⟨e, h4, h5, .inl h6⟩
  ·obtain ⟨e, h4, h5, h6⟩ := (hmem d).1 h2
   subst h6
   exact ⟨e, h4, h5, .inr h3⟩
 ·have h2 := h1.2 e.on ((hmem _).2 ⟨e, he, hb, rfl⟩)
  simp only [List.contains_iff_mem, decide_eq_true_eq] at h2
  exact ⟨h2.1.1, h2.1.2, h2.2⟩
theorem zk2 : ∀ {l : List It}, z2a l ≠ [] → ∃ pre i o post, l = pre ++ .op i o :: post ∧ z2a pre = []
 | [], h => absurd rfl h
 | .op i o :: l, _ => ⟨[], i, o, l, rfl, rfl⟩
 | .ins j k ob :: l, h => by
  obtain ⟨pre, i, o, post, rfl, h1⟩ := zk2 (l := l) (by simpa [z2a, isOp] using h)
  exact ⟨.ins j k ob :: pre, i, o, post, rfl, by simpa [z2a, isOp] using h1⟩
section
variable {ops : List Oper} {B : List (List Nat)} {pn : Nat → Nat} {base m : Nat} {w0 : World} {st0 : St} {g0 : Gh} {listed : Array Bool} {its : List It}
theorem RI.ready_listed (h : RI P ops B pn base m w0 st0 g0 listed its st g w) (hbef : z60 B ops = true) {i : Nat} (hi : i ∈ Region.ready .any ops.toArray listed) : ∀ k ∈ B.getD i [], listed.getD k true = true := by
 obtain ⟨_, o, ho, hall⟩ := mem_ready.1 hi
 rw [List.getElem?_toArray] at ho
 obtain ⟨h1, h2⟩ := z75 hbef ho
 intro k hk
 obtain ⟨e, he, hb, h3⟩ := h1 k hk
 have h4 := zfw (hall e he hb)
 rcases h3 with rfl | h3
 ·exact h4
 ·exact h.closed e.on (h2 e he hb).2.1 h4 k h3
theorem RI.done (h : RI P ops B pn base m w0 st0 g0 listed its st g w) (hbef : z60 B ops = true) (hr : Region.ready .any ops.toArray listed = []) : z2a its = [] := by
 refine Classical.byContradiction fun hne => ?_
 obtain ⟨pre, i, o, post, e, hpre⟩ := zk2 hne
 have hmem : It.op i o ∈ its := by rw [e]; simp
 obtain ⟨h1, ⟨oper, h2, _⟩, _⟩ := h.left i o hmem
 have hrd : i ∈ Region.ready .any ops.toArray listed := by
  refine mem_ready.2 ⟨h1, oper, by rw [List.getElem?_toArray]; exact h2, fun d hd hb => ?_⟩
  obtain ⟨_, h3⟩ := z75 hbef h2
  obtain ⟨h4, h5, h6⟩ := h3 d hd hb
  refine zfx (by rw [h.size]; exact h5) ?_
  cases hl : listed.getD d.on true with
  | true => rfl
  | false =>
   exfalso
   obtain ⟨o', ho'⟩ := h.all d.on hl
   rw [e] at ho'
   have hp := h.pair
   rw [e, List.pairwise_append] at hp
   rcases List.mem_append.1 ho' with h7 | h7
   ·have : It.op d.on o' ∈ z2a pre := List.mem_filter.2 ⟨h7, rfl⟩
    rw [hpre] at this
    cases this
   ·rcases List.mem_cons.1 h7 with h8 | h8
    ·cases h8; exact h6 rfl
    ·have := (List.pairwise_cons.1 hp.2.1).1 _ h8 i o d.on o' rfl rfl
     have h9 := this.2
     simp only [zc3, Bool.and_eq_true, Bool.not_eq_true'] at h9
     have h10 := h9.1.1
     have h11 : (B.getD i []).contains d.on = true := List.contains_iff_mem.2 h4
     rw [h11] at h10
     cases h10
 rw [hr] at hrd
 cases hrd
theorem RI.take (h : RI P ops B pn base m w0 st0 g0 listed its st g w) (hpn : ∀ i j, i < ops.length → j < ops.length → pn i = pn j → i = j) (hpm : ∀ j, j < ops.length → pn j < m)
  {i : Nat} (hi : listed.getD i true = false) (hB : ∀ k ∈ B.getD i [], listed.getD k true = true) {its' : List It} {st' : St} {g' : Gh} {w' : World}
  (hops : ∀ j o, It.op j o ∈ its' ↔ (It.op j o ∈ its ∧ j ≠ i)) (hpair : its'.Pairwise (y0f B)) (hkeys : ((z1b its').map Prod.fst).Nodup) (hpend : ∀ p ∈ z1b its', Pend P w0 st' g' w' p.1 p.2)
  (hinj : ∀ p ∈ z1b its', ∀ q ∈ z1b its', ∀ b, g'.blk p.1 = some b → g'.blk q.1 = some b → p.1 = q.1) (hnew : ∀ k b, g'.blk k = some b → g.blk k = some b ∨ k = base + pn i ∨ st.next ≤ k) (hnext : st.next ≤ st'.next)
  (hinv : Inv P z0d st' g' w') (hstep : Step st0 g0 w0 st' g' w') : RI P ops B pn base m w0 st0 g0 (listed.setIfInBounds i true) its' st' g' w' := by
 have hlt := z7l hi
 have hset : ∀ j, (listed.setIfInBounds i true).getD j true = if i = j then true else listed.getD j true := fun j => zdr hlt
 have hmono : ∀ j, listed.getD j true = true → (listed.setIfInBounds i true).getD j true = true := fun j hj => by
  rw [hset]; split
  ·rfl
  ·exact hj
 have hun : ∀ j, (listed.setIfInBounds i true).getD j true = false → j ≠ i ∧ listed.getD j true = false := fun j hj => by
  rw [hset] at hj
  split at hj
  ·cases hj
  ·rename_i hne
   exact ⟨Ne.symm hne, hj⟩
 have hm := h.next
 refine ⟨by rw [Array.size_setIfInBounds]; exact h.size, fun j o ho => ?_, fun j hj => ?_, fun j hjl hj k hk => ?_, hpair, hkeys, hpend, hinj, fun j hj => ?_, Nat.le_trans h.next hnext, hinv, hstep, fun k b hb => ?_⟩
 ·obtain ⟨h1, h2⟩ := (hops j o).1 ho
  obtain ⟨h3, h4⟩ := h.left j o h1
  refine ⟨?_, h4⟩
  rw [hset, if_neg (Ne.symm h2)]; exact h3
 ·obtain ⟨h1, h2⟩ := hun j hj
  obtain ⟨o, ho⟩ := h.all j h2
  exact ⟨o, (hops j o).2 ⟨ho, h1⟩⟩
 ·rw [hset] at hj
  split at hj
  ·rename_i e; subst e; exact hmono k (hB k hk)
  ·exact hmono k (h.closed j hjl hj k hk)
 ·obtain ⟨h1, h2⟩ := hun j hj
  have hjs := z7l h2
  rw [h.size] at hjs hlt
  cases e : g'.blk (base + pn j) with
  | none => rfl
  | some b =>
   exfalso
   rcases hnew _ _ e with h3 | h3 | h3
   ·rw [h.fresh j h2] at h3; cases h3
   ·exact h1 (hpn j i hjs hlt (by omega))
   ·have := hpm j hjs
    omega
 ·rcases hnew k b hb with h3 | h3 | h3
  ·exact h.new k b h3
  ·exact .inr (by omega)
  ·exact .inr (by omega)
end
section
variable {ops : List Oper} {B : List (List Nat)} {pn : Nat → Nat} {base m : Nat} {w0 : World} {st0 : St} {g0 : Gh} {listed : Array Bool} {its : List It}
theorem zoz {j : Nat} {o : IOp} {oper : Oper} (h : o.op = cOp P j oper ∨ o.op = z2b (cOp P j oper)) (hc : z1h o.op ≠ .a) : o.op = cOp P j oper := by
 rcases h with h | h
 ·exact h
 ·rw [h] at hc ⊢
  cases e : cOp P j oper <;> first | rfl | (rw [e] at hc; exact absurd rfl hc)
theorem zhd (k : IK) : z36 (z2b k) = false := by cases k <;> rfl
theorem zp7 {k : IK} (h : z36 k = false) : z2b k = k := by
 cases k with
 | mkSl ai es ag nf z len ps => cases nf <;> first | rfl | (simp [z36] at h)
 | _ => rfl
theorem zvg {j : Nat} {oper : Oper} {k : IK} (h : cOp P j oper = k) (hk : k ≠ .bad) : cOp? P j oper = some k := by
 unfold cOp at h
 cases e : cOp? P j oper with
 | none => rw [e] at h; exact absurd h.symm hk
 | some x => rw [e] at h; rw [← h]; rfl
theorem zpi {o : Oper} {ai : Nat} {ik : IK} (h : cOp? P ai o = some ik) (hc : z1h ik = .a) : zmv o.op ∨ ∃ t l ps, o.op = .buildSlice t l ps := by
 unfold cOp? at h
 cases ho : o.op <;> simp only [ho] at h <;> first | (exact .inl trivial) | (exact .inr ⟨_, _, _, rfl⟩) | skip
 case call c =>
  exfalso
  unfold zgd at h
  repeat' split at h
  all_goals first | contradiction | (cases h; done) | (cases h; simp [z1h] at hc; done) | (simp only [Option.map_eq_some_iff] at h; obtain ⟨_, _, rfl⟩ := h; simp [z1h] at hc; done)
 all_goals exfalso
 all_goals (try unfold cBin at h) <;> (try unfold cNil at h)
 all_goals repeat' split at h
 all_goals first | contradiction | (cases h; done) | (cases h; simp [z1h] at hc; done) | (simp only [Option.map_eq_some_iff] at h; obtain ⟨_, _, rfl⟩ := h; simp [z1h] at hc; done)
theorem zm5 {key b : Nat} (h1 : g.blk key = some b) (h2 : ¬ Live st g b) : sget st.s key = none := by
 cases e : sget st.s key with
 | none => rfl
 | some o => exact absurd ⟨key, o, e, h1⟩ h2
theorem zvs {cl : z11} (hcl : z39 P cl) {ro : Option Nat} (hbef : z60 B ops = true) (hpn : ∀ i j, i < ops.length → j < ops.length → pn i = pn j → i = j) (hpm : ∀ j, j < ops.length → pn j < m)
  {env' : List V} {st' : St} {D : List Deferred} {Q : Exit → Act → World → Prop}
  (hQ : ∀ a' w' g', RepVs g' env' a'.tmps.toList → Inv P z0d st' g' w' → Step st0 g0 w0 st' g' w' → a'.defers = D → (∀ k b, g'.blk k = some b → g0.blk k = some b ∨ base ≤ k) → Q .normal a' w') :
  ∀ (fuel : Nat) (listed : Array Bool) (its : List It) (env : List V) (st : St) (g : Gh) (w : World) (a : Act), RI P ops B pn base m w0 st0 g0 listed its st g w → (z2a its).length = fuel →
   z0g cl base its env st = some (env', st') → RepVs g env a.tmps.toList → a.defers = D → wpAnyIn (Fw ro) 0 P .any ops.toArray Q fuel listed a w := by
 have fin : ∀ (its : List It) (listed : Array Bool) (env : List V) (st : St) (g : Gh) (w : World) (a : Act), RI P ops B pn base m w0 st0 g0 listed its st g w → z2a its = [] →
   z0g cl base its env st = some (env', st') → RepVs g env a.tmps.toList → a.defers = D → Q .normal a w := by
  intro its listed env st g w a h hno he henv hD
  rw [zaz hno] at he
  cases he
  obtain ⟨h1, h2, _, _⟩ := zat h.inv h.step h.pend h.keys h.inj
  exact hQ a w g henv h1 h2 hD h.new
 intro fuel
 induction fuel with
 | zero =>
  intro listed its env st g w a h hlen he henv hD
  have hno : z2a its = [] := List.eq_nil_of_length_eq_zero hlen
  refine ⟨?_, fin its listed env st g w a h hno he henv hD⟩
  refine List.eq_nil_iff_forall_not_mem.2 fun i hi => ?_
  obtain ⟨h1, _⟩ := mem_ready.1 hi
  obtain ⟨o, ho⟩ := h.all i h1
  have : It.op i o ∈ z2a its := List.mem_filter.2 ⟨ho, rfl⟩
  rw [hno] at this
  cases this
 | succ fuel ih =>
  intro listed its env st g w a h hlen he henv hD
  refine ⟨fun hr => fin its listed env st g w a h (h.done hbef hr) he henv hD, fun i hi => ?_⟩
  have hBi := h.ready_listed hbef hi
  obtain ⟨hun, oi, hoi, _⟩ := mem_ready.1 hi
  obtain ⟨o, ho⟩ := h.all i hun
  obtain ⟨pre, post, rfl⟩ := List.append_of_mem ho
  obtain ⟨_, ⟨oper, hoper, hdst, hgd, hop⟩, hkeep⟩ := h.left i o ho
  rw [List.getElem?_toArray] at hoi
  obtain rfl : oper = oi := Option.some.inj (hoper.symm.trans hoi)
  have hpair := h.pair
  rw [List.pairwise_append, List.pairwise_cons] at hpair
  obtain ⟨hp1, ⟨hp2, hp3⟩, hp4⟩ := hpair
  have hne1 : ∀ j c, It.op j c ∈ pre → j ≠ i := fun j c hj => (hp4 _ hj _ (by simp) j c i o rfl rfl).1
  have hne2 : ∀ j c, It.op j c ∈ post → j ≠ i := fun j c hj => Ne.symm (hp2 _ hj i o j c rfl rfl).1
  have hfree : ∀ j c, It.op j c ∈ pre → zhm c o = true ∧ zha c o = true := fun j c hj => by
   have h1 := (hp4 _ hj _ (by simp) j c i o rfl rfl).2
   simp only [zc3, Bool.and_eq_true, Bool.or_eq_true] at h1
   rcases h1.2 with h2 | h2
   ·exfalso
    have h3 := hBi j (List.contains_iff_mem.1 h2)
    have h4 := (h.left j c (by simp [hj])).1
    rw [h3] at h4; cases h4
   ·exact h2
  have hind : ∀ j c, It.op j c ∈ pre → zhm c o = true := fun j c hj => (hfree j c hj).1
  have hops : ∀ j c, It.op j c ∈ pre ++ post ↔ (It.op j c ∈ pre ++ .op i o :: post ∧ j ≠ i) := fun j c => by
   simp only [List.mem_append, List.mem_cons]
   constructor
   ·rintro (h1 | h1)
    ·exact ⟨.inl h1, hne1 j c h1⟩
    ·exact ⟨.inr (.inr h1), hne2 j c h1⟩
   ·rintro ⟨h1 | h1 | h1, h2⟩
    ·exact .inl h1
    ·cases h1; exact absurd rfl h2
    ·exact .inr h1
  have hins : z1b (pre ++ .op i o :: post) = z1b (pre ++ post) := by rw [z0n, z0n]; rfl
  have hlen' : (z2a (pre ++ post)).length = fuel := by
   simp only [z2a, List.filter_append, List.length_append, List.filter_cons, isOp, if_true, List.length_cons] at hlen ⊢
   omega
  have hpair' : (pre ++ post).Pairwise (y0f B) := List.pairwise_append.2 ⟨hp1, hp3, fun x hx y hy => hp4 x hx y (List.mem_cons_of_mem _ hy)⟩
  have hilt : i < ops.length := (List.getElem?_eq_some_iff.1 hoper).1
  have hfi := h.fresh i hun
  have hlt : base + pn i < st.next := by
   have := hpm i hilt
   have := h.next
   omega
  have hkeys := h.keys; rw [hins] at hkeys
  have hpend := h.pend; rw [hins] at hpend
  have hinj := h.inj; rw [hins] at hinj
  have zyf : ∀ {v : V} {u : Value}, RepV g v u → z0g cl base (pre ++ post) (setE env o.dst v) st = some (env', st') → wpAnyIn (Fw ro) 0 P .any ops.toArray Q fuel (listed.setIfInBounds i true) (a.put oper.dst u) w := fun {v u} hv hev =>
   ih _ _ _ st g w _ (h.take hpn hpm hun hBi hops hpair' hkeys hpend hinj (fun k b hb => .inl hb) (Nat.le_refl _) h.inv h.step) hlen' hev (by rw [hdst]; exact za3 henv hv) (by rw [← hD]; cases oper.dst <;> rfl)
  unfold wpOpIn
  simp only [List.getElem?_toArray, hoper]
  rw [zer henv hgd]
  cases hw : wantedE env o.gd with
  | false =>
   rw [if_neg (by simp)]
   exact ⟨fun _ _ => trivial, zyf z50 (zct hind he hw)⟩
  | true =>
   rw [if_pos rfl]
   have heavy : (z1h o.op = .r ∨ ∀ j c, It.op j c ∈ pre → z1h c.op = .r → zf8 c.op o.keep = true) → PR pre → o.op = cOp P (pn i) oper → oper.wpIn (Fw ro) 0 P a w (wpAnyIn (Fw ro) 0 P .any ops.toArray Q fuel (listed.setIfInBounds i true)) Q := by
    intro hread hpr hcop
    have hki : ∀ j c, It.op j c ∈ pre → c.keep = [] ∧ (z1h c.op = .r → z8q c c = true) := fun j c hj => by
     have h1 := (h.left j c (by simp [hj])).2.2
     unfold zp2 at h1
     rcases hpr j c hj with h2 | h2
     ·rw [h2] at h1
      exact ⟨List.isEmpty_iff.1 h1, fun h3 => by rw [h2] at h3; cases h3⟩
     ·rw [h2] at h1
      simp only [Bool.and_eq_true] at h1
      exact ⟨List.isEmpty_iff.1 h1.1, fun _ => h1.2⟩
    have hpp : ∀ p ∈ z1b pre, Pend P w0 st g w p.1 p.2 := fun p hp => hpend p (by rw [z0n]; exact List.mem_append_left _ hp)
    have hpk : ((z1b pre).map Prod.fst).Nodup := by
     rw [z0n, List.map_append] at hkeys
     exact (List.nodup_append.1 hkeys).1
    have hpi : ∀ p ∈ z1b pre, ∀ q ∈ z1b pre, ∀ b, g.blk p.1 = some b → g.blk q.1 = some b → p.1 = q.1 := fun p hp q hq => hinj p (by rw [z0n]; exact List.mem_append_left _ hp) q (by rw [z0n]; exact List.mem_append_left _ hq)
    have hpf : ∀ p ∈ z1b pre, sget st.s p.1 = none := fun p hp => by
     obtain ⟨b, e1, _, _, e2, _⟩ := hpp p hp
     exact zm5 e1 e2
    have hclr : pre.Pairwise y0i := List.Pairwise.imp (fun {x y} hxy i a j b ex ey => by
      have := (hxy i a j b ex ey).2
      simp only [zc3, Bool.and_eq_true] at this
      exact this.1.2) hp1
    obtain ⟨v, s2, h1, h2⟩ := zle hind he hw hpr (fun j c hj => (hki j c hj).1) hpf hpk hclr (fun j c hj => (hki j c hj).2) hread
    obtain ⟨f1, f2, f3, f4⟩ := zat h.inv h.step hpp hpk hpi
    have h1' : evalIOp cl base env (z6d st (z1b pre)) ⟨o.dst, cOp P (pn i) oper, o.gd, o.keep⟩ = some (v, s2) := by
     rw [← hcop]; exact h1
    refine zda hcl f1 henv h1' hfi (by rw [f3]; exact hlt) fun u w' g' hu hi' hs' hk' => ?_
    have hins2 : z1b (z2a pre ++ post) = z1b post := by rw [z0n, z6u]; rfl
    have hpostk : ∀ p ∈ z1b post, ∀ q ∈ z1b pre, ∀ b, g.blk q.1 = some b → g.blk p.1 ≠ some b := fun p hp q hq b hb hb' => by
     have h5 := hinj p (by rw [z0n]; exact List.mem_append_right _ hp) q (by rw [z0n]; exact List.mem_append_left _ hq) b hb' hb
     rw [z0n, List.map_append] at hkeys
     exact (List.nodup_append.1 hkeys).2.2 q.1 (List.mem_map.2 ⟨q, hq, rfl⟩) p.1 (List.mem_map.2 ⟨p, hp, rfl⟩) h5.symm
    have hpostp : ∀ p ∈ z1b post, Pend P w0 s2 g' w' p.1 p.2 := fun p hp => (f4 p.1 p.2 (hpend p (by rw [z0n]; exact List.mem_append_right _ hp)) fun q hq b hb => hpostk p hp q hq b hb).step hs'
    have hops2 : ∀ j c, It.op j c ∈ z2a pre ++ post ↔ (It.op j c ∈ pre ++ .op i o :: post ∧ j ≠ i) := fun j c => by
     rw [← hops, List.mem_append, List.mem_append]
     exact or_congr ⟨fun h => (List.mem_filter.1 h).1, fun h => List.mem_filter.2 ⟨h, rfl⟩⟩ Iff.rfl
    refine ih _ (z2a pre ++ post) _ s2 g' w' _ (h.take hpn hpm hun hBi hops2 ?_ ?_ ?_ ?_ (fun k b hb => ?_) ?_ hi' (f2.trans hs')) ?_ h2 (by rw [hdst]; exact za3 (RepVs.mono hs'.ext henv) hu) (by rw [← hD]; cases oper.dst <;> rfl)
    ·exact List.pairwise_append.2 ⟨hp1.sublist List.filter_sublist, hp3, fun x hx y hy => hp4 x (List.mem_filter.1 hx).1 y (List.mem_cons_of_mem _ hy)⟩
    ·rw [hins2]
     rw [z0n, List.map_append] at hkeys
     exact (List.nodup_append.1 hkeys).2.1
    ·rw [hins2]; exact hpostp
    ·rw [hins2]
     intro p hp q hq b hb hb'
     obtain ⟨bp, e1, _⟩ := hpend p (by rw [z0n]; exact List.mem_append_right _ hp)
     obtain ⟨bq, e2, _⟩ := hpend q (by rw [z0n]; exact List.mem_append_right _ hq)
     have e1' := (hs'.ext.blk _ _ e1).1
     have e2' := (hs'.ext.blk _ _ e2).1
     rw [hb] at e1'; rw [hb'] at e2'
     cases e1'; cases e2'
     exact hinj p (by rw [z0n]; exact List.mem_append_right _ hp) q (by rw [z0n]; exact List.mem_append_right _ hq) b e1 e2
    ·rw [f3] at hk'
     exact hk' k b hb
    ·rw [← f3]; exact hs'.next
    ·simp only [z2a, List.filter_append, List.length_append] at hlen' ⊢
     rw [List.filter_filter]
     simp only [Bool.and_self]
     exact hlen'
   have hclsP : z1h o.op = .p → oper.wpIn (Fw ro) 0 P a w (wpAnyIn (Fw ro) 0 P .any ops.toArray Q fuel (listed.setIfInBounds i true)) Q := fun hp => by
    have hcop := zoz hop (by rw [hp]; simp)
    obtain ⟨v, h1, h2⟩ := y0w hind he hw hp
    have h1' : evalIOp cl base env st ⟨o.dst, cOp P (pn i) oper, o.gd, o.keep⟩ = some (v, st) := by
     rw [← hcop]
     rw [z3o (.inl hp)]; exact h1
    refine zda hcl h.inv henv h1' hfi hlt fun u w' g' hu hi' hs' hk' => ?_
    refine ih _ _ _ st g' w' _ (h.take hpn hpm hun hBi hops hpair' hkeys (fun p hp => (hpend p hp).step hs') (fun p hp q hq b hb hb' => ?_) hk' (Nat.le_refl _) hi' (h.step.trans hs')) hlen' h2 (by rw [hdst]; exact za3 (RepVs.mono hs'.ext henv) hu) (by rw [← hD]; cases oper.dst <;> rfl)
    obtain ⟨bp, e1, _⟩ := hpend p hp
    obtain ⟨bq, e2, _⟩ := hpend q hq
    have e1' := (hs'.ext.blk _ _ e1).1
    have e2' := (hs'.ext.blk _ _ e2).1
    rw [hb] at e1'; rw [hb'] at e2'
    cases e1'; cases e2'
    exact hinj p hp q hq b e1 e2
   cases hc : z1h o.op with
   | p => exact hclsP hc
   | r =>
    refine heavy (.inl hc) (fun j c hj => ?_) (zoz hop (by rw [hc]; simp))
    have := (hfree j c hj).2
    unfold zha at this
    rw [hc] at this
    cases e : z1h c.op <;> rw [e] at this <;> simp at this ⊢
   | e =>
    refine heavy (.inr fun j c hj hcr => ?_) (fun j c hj => ?_) (zoz hop (by rw [hc]; simp))
    ·have := (hfree j c hj).2
     unfold zha at this
     rw [hc, hcr] at this
     exact this
    ·have := (hfree j c hj).2
     unfold zha at this
     rw [hc] at this
     cases e : z1h c.op <;> rw [e] at this <;> simp at this ⊢
   | a =>
    cases hst : z36 o.op with
    | true =>
     have hcop : o.op = cOp P (pn i) oper := by
      rcases hop with h1 | h1
      ·exact h1
      ·rw [h1, zhd] at hst; cases hst
     refine heavy (.inr fun j c hj hcr => ?_) (fun j c hj => ?_) hcop
     ·have := (hfree j c hj).2
      unfold zha at this
      rw [hc, hcr, hst] at this
      simpa using this
     ·have := (hfree j c hj).2
      unfold zha at this
      rw [hc, hst] at this
      cases e : z1h c.op <;> rw [e] at this <;> simp at this ⊢
    | false =>
     obtain ⟨v, key, obj, h1, h2⟩ := y0x hind he hw hc hst
     have hbad : cOp P (pn i) oper ≠ .bad := fun e => by
      rcases hop with h3 | h3 <;> rw [h3, e] at hc <;> simp [z1h, z2b] at hc
     have hcs := zvg rfl hbad
     have hno : o.op = z2b (cOp P (pn i) oper) := by
      rcases hop with h3 | h3
      ·rw [← h3]; exact (zp7 hst).symm
      ·exact h3
     have hca : z1h (cOp P (pn i) oper) = .a := by
      rw [hno] at hc
      cases e : cOp P (pn i) oper <;> rw [e] at hc <;> simp [z1h, z2b] at hc ⊢
     have hmk : zmv oper.op := by
      rcases zpi hcs hca with h3 | ⟨t, l, ps, h3⟩
      ·exact h3
      ·rw [h3]; trivial
     obtain ⟨s, ob, h3, h4, h5⟩ := zhg (w := w) henv hcs (by rw [← hno]; exact h1 st) hmk hfi
     have hko : key = base + pn i ∧ obj = ob := by
      simp only [St.ins, St.mk.injEq, List.cons.injEq, Prod.mk.injEq] at h4
      exact h4.1.1
     obtain ⟨rfl, rfl⟩ := hko
     obtain ⟨ob', n', m', u, h6, h7, h8⟩ := h5
     obtain ⟨h9, h10⟩ := h.inv.assign (n := n') (m := m') hfi hlt ob'
     have hnd : ∀ c, oper.op ≠ .defer c := fun c e => by simp [cOp?, e] at hcs
     unfold Oper.wpIn
     refine ⟨fun _ _ => trivial, ?_⟩
     rw [show (Fw ro).round = ro from rfl, Oper.semAt_eq ro a.eval oper hnd, h3]
     have hrun : ((do pure (.value (← s)) : Sem Next)).run P w = .ok (.value u) (World.add w ob') := by simp [h6]
     rw [hrun]
     have hpn' : Pend P w0 st (g.asg (base + pn i) w.heap.size n' m') (World.add w ob') (base + pn i) obj := by
      refine ⟨w.heap.size, z1z, h.step.size, by rw [z68]; omega, fun ⟨j, x, e1, e2⟩ => ?_, h8 _ _ _ (Ext.refl _) (fun j => h.inv.Hnew j) z2t⟩
      have hne : j ≠ base + pn i := fun e => by rw [e, h.inv.fresh hfi] at e1; cases e1
      rw [(z1p hne).1] at e2
      exact Nat.lt_irrefl _ (h.inv.u j _ e2).2
     have hkne : ∀ p ∈ z1b (pre ++ post), p.1 ≠ base + pn i := fun p hp e => by
      obtain ⟨b, e1, _⟩ := hpend p hp
      rw [e, hfi] at e1; cases e1
     have hmemi : ∀ p, p ∈ z1b (pre ++ .ins i (base + pn i) obj :: post) ↔ p = (base + pn i, obj) ∨ p ∈ z1b (pre ++ post) := fun p => by
      rw [z0n, z0n]
      simp only [z1b, List.mem_append, List.mem_cons]
      constructor
      ·rintro (h1 | h1 | h1)
       ·exact .inr (.inl h1)
       ·exact .inl h1
       ·exact .inr (.inr h1)
      ·rintro (h1 | h1 | h1)
       ·exact .inr (.inl h1)
       ·exact .inl h1
       ·exact .inr (.inr h1)
     refine ih _ (pre ++ .ins i (base + pn i) obj :: post) _ st _ _ _ (h.take hpn hpm hun hBi (fun j c => ?_) ?_ ?_ (fun p hp => ?_) (fun p hp q hq b hb hb' => ?_) (fun k b hb => ?_) (Nat.le_refl _) h9 (h.step.trans h10)) ?_ h2 (by rw [hdst]; exact za3 (RepVs.mono h10.ext henv) h7) (by rw [← hD]; cases oper.dst <;> rfl)
     ·rw [← hops, List.mem_append, List.mem_append, List.mem_cons]
      constructor
      ·rintro (h1 | h1 | h1)
       ·exact .inl h1
       ·cases h1
       ·exact .inr h1
      ·rintro (h1 | h1)
       ·exact .inl h1
       ·exact .inr (.inr h1)
     ·refine List.pairwise_append.2 ⟨hp1, List.pairwise_cons.2 ⟨fun y _ i' a' j' b' e1 _ => (by cases e1), hp3⟩, fun x hx y hy => ?_⟩
      rcases List.mem_cons.1 hy with rfl | hy
      ·exact fun i' a' j' b' _ e2 => by cases e2
      ·exact hp4 x hx y (List.mem_cons_of_mem _ hy)
     ·rw [z0n]
      simp only [z1b, List.map_append, List.map_cons]
      rw [z0n, List.map_append] at hkeys
      refine (List.perm_middle.nodup_iff).2 (List.nodup_cons.2 ⟨fun hm => ?_, hkeys⟩)
      rw [← List.map_append, ← z0n] at hm
      obtain ⟨p, hp, e⟩ := List.mem_map.1 hm
      exact hkne p hp e
     ·rcases (hmemi p).1 hp with rfl | hp
      ·exact hpn'
      ·exact (hpend p hp).step h10
     ·have other : ∀ q ∈ z1b (pre ++ post), ∀ b, (g.asg (base + pn i) w.heap.size n' m').blk q.1 = some b → g.blk q.1 = some b := fun q hq b hb => by
       rw [(z1p (hkne q hq)).1] at hb; exact hb
      rcases (hmemi p).1 hp with rfl | hp <;> rcases (hmemi q).1 hq with rfl | hq
      ·rfl
      ·exfalso
       rw [z1z] at hb; cases hb
       exact Nat.lt_irrefl _ (h.inv.u _ _ (other q hq _ hb')).2
      ·exfalso
       rw [z1z] at hb'; cases hb'
       exact Nat.lt_irrefl _ (h.inv.u _ _ (other p hp _ hb)).2
      ·exact hinj p hp q hq b (other p hp b hb) (other q hq b hb')
     ·by_cases e : k = base + pn i
      ·exact .inr (.inl e)
      ·rw [(z1p e).1] at hb; exact .inl hb
     ·simp only [z2a, List.filter_append, List.length_append, List.filter_cons, isOp, Bool.false_eq_true, if_false] at hlen' ⊢
      exact hlen'
end
end Go.Lift
namespace Go.Lift
open Go
variable {P : Program} {st : St} {g : Gh} {w : World}
theorem Inv.bump (h : Inv P z0d st g w) (n : Nat) : Inv P z0d { st with next := st.next + n } g w :=
 ⟨fun k b hb => ⟨Nat.lt_of_lt_of_le (h.u k b hb).1 (Nat.le_add_right _ _), (h.u k b hb).2⟩, h.H, h.inj, h.obj⟩
theorem Step.bump {n : Nat} {st' : St} {g' : Gh} {w' : World} (h : Step { st with next := st.next + n } g w st' g' w') : Step st g w st' g' w' :=
 ⟨h.ext, Nat.le_trans (Nat.le_add_right _ _) h.next, h.size, h.os, h.tape, h.output, h.same, h.Hn, h.live⟩
theorem Step.ofDrew {n : Nat} {st' : St} {g' : Gh} {w' : World} (h : Step st g { w with drawn := n } st' g' w') : Step st g w st' g' w' :=
 ⟨h.ext, h.next, h.size, h.os, h.tape, h.output, h.same, h.Hn, h.live⟩
theorem zrx {nf draw : Bool} {ops : List Oper} {B : List (List Nat)} {iks : List IK} : ∀ {js : List Nat} {cnt m : Nat} {pre : List Nat} {l : List IOp}, cOrd nf P draw ops B iks cnt pre js = some (m, l) →
  l.length = js.length ∧ ∀ p j o, js[p]? = some j → l[p]? = some o → ∃ oper, ops[j]? = some oper ∧ o.dst = oper.dst ∧ zcn ops oper.guard = some o.gd ∧ (o.op = cOp P (cnt + p) oper ∨ o.op = z2b (cOp P (cnt + p) oper))
 | [], cnt, m, pre, l, h => by
  simp only [cOrd, Option.some.injEq, Prod.mk.injEq] at h
  obtain ⟨_, rfl⟩ := h
  exact ⟨rfl, fun p j o hj => by simp at hj⟩
 | j :: js, cnt, m, pre, l, h => by
  simp only [cOrd] at h
  split at h
  ·cases h
  ·rename_i oper hoper
   split at h
   ·rename_i gd ks hgd hks
    split at h
    ·rename_i n l' hr
     cases h
     obtain ⟨h1, h2⟩ := zrx hr
     refine ⟨by simp [h1], fun p j' o hj ho => ?_⟩
     cases p with
     | zero =>
      simp only [List.getElem?_cons_zero, Option.some.injEq] at hj ho
      subst hj; subst ho
      refine ⟨oper, hoper, rfl, hgd, ?_⟩
      simp only [Nat.add_zero]
      split
      ·exact .inr rfl
      ·exact .inl rfl
     | succ p =>
      simp only [List.getElem?_cons_succ] at hj ho
      obtain ⟨oper', h3, h4, h5, h6⟩ := h2 p j' o hj ho
      exact ⟨oper', h3, h4, h5, by rwa [show cnt + (p + 1) = cnt + 1 + p from by omega]⟩
    ·cases h
   ·cases h
theorem z62 : ∀ {l : List (Nat × IOp)}, z1b (l.map itOf) = []
 | [] => rfl
 | (j, o) :: l => by simp only [List.map_cons, itOf, z1b]; exact z62
theorem zc2 : ∀ {l : List (Nat × IOp)}, z2a (l.map itOf) = l.map itOf
 | [] => rfl
 | (j, o) :: l => by
  have := zc2 (l := l)
  simp only [z2a] at this
  simp only [List.map_cons, itOf, z2a, List.filter_cons, isOp, if_true]
  rw [this]
theorem y16 {cl : z11} (hcl : z39 P cl) (hmix : P.follows .mixedOrders = true) {ro : Option Nat} {id : Nat} {ops : Array Oper} {nf draw : Bool} {na : Nat} {l : List IOp} (hc : cReg nf P ops.toList draw = .reg na l)
  {env env' : List V} {st' : St} {a : Act} (h : z0k cl st.next l env { st with next := st.next + na } = some (env', st')) (hi : Inv P z0d st g w) (henv : RepVs g env a.tmps.toList) {Q : Exit → Act → World → Prop}
  (hQ : ∀ a' w' g', RepVs g' env' a'.tmps.toList → Inv P z0d st' g' w' → Step st g w st' g' w' → a'.defers = a.defers → NewK st g g' → Q .normal a' w') : (Code.region id ops draw).wpIn (Fw ro) 0 P Q a w := by
 have hnone : ∀ i, g.blk (st.next + i) = none := fun i => by
  cases e : g.blk (st.next + i) with
  | none => rfl
  | some b => have := (hi.u _ _ e).1; omega
 unfold cReg at hc
 cases draw with
 | false =>
  simp only [Bool.false_eq_true, if_false] at hc
  split at hc
  ·rename_i n l' hord
   cases hc
   refine wpIn_region ?_
   have hcnt := z65 hord
   have := z6p hcl (ro := ro) (Q := Q) (List.range ops.toList.length) 0 [] l { st with next := st.next + na } g w env a hord h (hi.bump na) henv (fun i _ _ => hnone i) (Nat.le_refl _) fun a' w' g' h1 h2 h3 h4 h5 => hQ a' w' g' h1 h2 h3.bump h4 fun k b hb => by simpa using h5 k b hb
   simpa using this
  ·cases hc
 | true =>
  simp only [if_true] at hc
  split at hc
  ·rename_i n l' hr
   cases hc
   split at hr
   ·rename_i n' l' hord
    split at hr
    ·rename_i hok
     simp only [Option.some.injEq, Prod.mk.injEq] at hr
     obtain ⟨rfl, rfl⟩ := hr
     revert hord hok
     generalize horder : zh4 (zeg ops.toList []) ((ops.toList.map (cOp P 0)).map z1h) ops.toList.length [] (List.range ops.toList.length) = ord
     generalize hB : zeg ops.toList [] = B
     intro hord hok
     simp only [y1k, Bool.and_eq_true, decide_eq_true_eq, List.all_eq_true, List.mem_range, List.contains_iff_mem] at hok
     obtain ⟨⟨⟨⟨⟨⟨h1, h2⟩, h3⟩, h4⟩, h5⟩, h6⟩, h7⟩ := hok
     have hcnt := z65 hord
     obtain ⟨_, hat⟩ := zrx hord
     have hidx : ∀ p j, ord[p]? = some j → ord.idxOf j = p := fun p j hp => by
      obtain ⟨hlt, rfl⟩ := List.getElem?_eq_some_iff.1 hp
      exact h3.idxOf_getElem p hlt
     refine wpIn_region_any hmix ?_
     have hfst : (ord.zip l').map Prod.fst = ord := List.map_fst_zip (Nat.le_of_eq h7)
     have hsnd : (ord.zip l').map Prod.snd = l' := List.map_snd_zip (Nat.le_of_eq h7.symm)
     have hsz : ops.toList.length = ops.size := Array.length_toList
     have hrep : ∀ j, (Array.replicate ops.size false).getD j true = false ↔ j < ops.size := fun j => by
      rw [Array.getD_eq_getD_getElem?, Array.getElem?_replicate]
      split <;> simp_all
     have hin : ∀ j o, It.op j o ∈ (ord.zip l').map itOf → ∃ p, ord[p]? = some j ∧ l'[p]? = some o := fun j o ho => by
      obtain ⟨⟨j', o'⟩, h8, h9⟩ := List.mem_map.1 ho
      cases h9
      obtain ⟨p, hp⟩ := List.mem_iff_getElem?.1 h8
      exact ⟨p, (List.getElem?_zip_eq_some.1 hp).1, (List.getElem?_zip_eq_some.1 hp).2⟩
     have hri : RI P ops.toList B (fun j => ord.idxOf j) st.next n' { w with drawn := w.drawn + 1 } { st with next := st.next + n' } g (Array.replicate ops.size false) ((ord.zip l').map itOf) { st with next := st.next + n' } g { w with drawn := w.drawn + 1 } := by
      refine ⟨by simp, fun j o ho => ?_, fun j hj => ?_, fun j hj hl => ?_, ?_, by simp [z62], by simp [z62], by simp [z62], fun j _ => hnone _, Nat.le_refl _, (hi.bump n').drew _, Step.refl _ _ _, fun k b hb => .inl hb⟩
      ·obtain ⟨p, h8, h9⟩ := hin j o ho
       have hjm : j ∈ ord := List.mem_of_getElem? h8
       refine ⟨(hrep j).2 (by rw [← hsz]; exact h5 j hjm), ?_, h6 o (List.mem_of_getElem? h9)⟩
       obtain ⟨oper, h10, h11, h12, h13⟩ := hat p j o h8 h9
       refine ⟨oper, h10, h11, h12, ?_⟩
       simp only [hidx p j h8]
       simpa using h13
      ·have hjm := h4 j (by rw [hsz]; exact (hrep j).1 hj)
       obtain ⟨p, hp⟩ := List.mem_iff_getElem?.1 hjm
       have hpl : p < l'.length := by rw [← h7]; exact (List.getElem?_eq_some_iff.1 hp).1
       refine ⟨l'[p], List.mem_map.2 ⟨(j, l'[p]), List.mem_of_getElem? (List.getElem?_zip_eq_some.2 ⟨hp, by simp⟩ : (ord.zip l')[p]? = some (j, l'[p])), rfl⟩⟩
      ·exfalso
       have := (hrep j).2 (by rw [← hsz]; exact hj)
       rw [hl] at this
       cases this
      ·rw [List.pairwise_map]
       have hp1 := z8m h1
       have hp2 : (ord.zip l').Pairwise fun x y => x.1 ≠ y.1 := by
        have := h3
        rw [← hfst] at this
        exact List.pairwise_map.1 this
       refine (hp1.and hp2).imp fun {x y} hxy i a j b ex ey => ?_
       obtain ⟨x1, x2⟩ := x
       obtain ⟨y1, y2⟩ := y
       cases ex
       cases ey
       exact ⟨hxy.2, hxy.1⟩
     have hw := zvs hcl (ro := ro) (D := a.defers) (Q := Q) (st0 := { st with next := st.next + n' }) (g0 := g) (w0 := { w with drawn := w.drawn + 1 }) h2 (pn := fun j => ord.idxOf j) (base := st.next) (m := n')
      (fun i j hi hj hij => by
       have h8 := List.getElem_idxOf (List.idxOf_lt_length_of_mem (h4 i hi))
       have h9 := List.getElem_idxOf (List.idxOf_lt_length_of_mem (h4 j hj))
       simp only [hij] at h8
       exact h8.symm.trans h9)
      (fun j hj => by
       have := List.idxOf_lt_length_of_mem (h4 j hj)
       omega)
      (env' := env') (st' := st')
      (fun a' w' g' e1 e2 e3 e4 e5 => hQ a' w' g' e1 e2 e3.bump.ofDrew e4 e5)
      ops.size _ _ env _ g _ a hri (by
       rw [zc2, List.length_map, List.length_zip, ← h7, Nat.min_self]
       have h8 : ord.length = ops.toList.length := by
        have h9 : ord.Perm (List.range ops.toList.length) := (List.perm_ext_iff_of_nodup h3 List.nodup_range).2 fun j => ⟨fun hj => List.mem_range.2 (h5 j hj), fun hj => h4 j (List.mem_range.1 hj)⟩
        rw [h9.length_eq, List.length_range]
       rw [h8, hsz]) (by rw [z6z, hsnd]; exact h) henv rfl
     simpa using hw
    ·cases hr
   ·cases hr
  ·cases hc
end Go.Lift
namespace Go.Lift
open Go
variable {P : Program} {st : St} {g : Gh} {w : World}
def zaa (D : Nat) : Deferred := { target := .collected D, args := #[] }
structure Marks (lo : Nat) (Ds : List Nat) (st : St) (g : Gh) (w : World) : Prop where
 nodup : Ds.Nodup
 each : ∀ D ∈ Ds, lo ≤ D ∧ D < w.heap.size ∧ w.heap[D]? = some (.deferred (some [])) ∧ ¬ Live st g D
theorem Marks.nil {lo : Nat} : Marks lo [] st g w := ⟨List.nodup_nil, fun _ h => by cases h⟩
theorem Marks.step {lo : Nat} {Ds : List Nat} {st' : St} {g' : Gh} {w' : World} (h : Marks lo Ds st g w) (hs : Step st g w st' g' w') : Marks lo Ds st' g' w' :=
 ⟨h.nodup, fun D hD => by
  obtain ⟨h1, h2, h3, h4⟩ := h.each D hD
  refine ⟨h1, Nat.lt_of_lt_of_le h2 hs.size, (hs.same D h2 h4).trans h3, fun hl => ?_⟩
  rcases hs.live D hl with h5 | h5
  ·omega
  ·exact h4 h5⟩
theorem NewK.refl : NewK st g g := fun _ _ h => .inl h
theorem NewK.trans {st1 : St} {g1 g2 : Gh} (h : NewK st g g1) (hn : st.next ≤ st1.next) (k : NewK st1 g1 g2) : NewK st g g2 := fun j b hb => by
 rcases k j b hb with h1 | h1
 ·exact h j b h1
 ·exact .inr (Nat.le_trans hn h1)
theorem Inv.junk (h : Inv P z0d st g w) (ob : Go.Obj) : Inv P z0d st g (World.add w ob) ∧ Step st g w st g (World.add w ob) := by
 refine ⟨⟨fun k b hb => ⟨(h.u k b hb).1, ?_⟩, fun b o v hv => ?_, h.inj, fun k o ho => ?_⟩, ⟨Ext.refl g, Nat.le_refl _, by rw [z68]; omega, rfl, rfl, rfl, fun b hb _ => z34 hb, fun _ _ _ hv => .inl hv, fun _ hb => .inr hb⟩⟩
 ·rw [z68]; exact Nat.lt_succ_of_lt (h.u k b hb).2
 ·have := h.H b o v hv
  rw [z4v (z34 (zeb this))]; exact this
 ·obtain ⟨b, h1, h2⟩ := h.obj k o ho
  exact ⟨b, h1, h2.mono (Ext.refl g) ⟨rfl, rfl⟩ rfl (z34 (h.u k b h1).2) fun hh => hh⟩
theorem Inv.scratch (h : Inv P z0d st g w) {b : Nat} (hb : ¬ Live st g b) (hH : ∀ o, g.H b o = none) (ob : Go.Obj) : Inv P z0d st g (World.put w b ob) := by
 refine ⟨fun k c hc => by rw [z53]; exact h.u k c hc, fun c o v hv => ?_, h.inj, fun k o ho => ?_⟩
 ·have hne : c ≠ b := fun e => by rw [e, hH] at hv; cases hv
  rw [z4v (z1e hne)]; exact h.H c o v hv
 ·obtain ⟨c, h1, h2⟩ := h.obj k o ho
  have hne : c ≠ b := fun e => hb ⟨k, o, ho, e ▸ h1⟩
  exact ⟨c, h1, h2.mono (Ext.refl g) ⟨rfl, rfl⟩ rfl (z1e hne) fun hh => hh⟩
theorem Step.scratch {st' : St} {g' : Gh} {w' : World} (h : Step st g w st' g' w') {b : Nat} (hb : w.heap.size ≤ b) (ob : Go.Obj) : Step st g w st' g' (World.put w' b ob) :=
 ⟨h.ext, h.next, by rw [z53]; exact h.size, h.os, h.tape, h.output, fun c hc hn => by
  have hne : c ≠ b := fun e => by omega
  rw [z1e hne]; exact h.same c hc hn, h.Hn, h.live⟩
theorem Marks.scratch {lo : Nat} {Ds : List Nat} (h : Marks lo Ds st g w) {b : Nat} (hb : b ∉ Ds) (ob : Go.Obj) : Marks lo Ds st g (World.put w b ob) :=
 ⟨h.nodup, fun D hD => by
  obtain ⟨h1, h2, h3, h4⟩ := h.each D hD
  have hne : D ≠ b := fun e => hb (e ▸ hD)
  exact ⟨h1, by rw [z53]; exact h2, by rw [z1e hne]; exact h3, h4⟩⟩
theorem z93 {b : Nat} {ob : Go.Obj} (h : Inv P z0d st g w) (hb : w.heap[b]? = some ob) (hn : ∀ c t f, ob ≠ .cells c t f) : ∀ o, g.H b o = none := fun o => by
 cases e : g.H b o with
 | none => rfl
 | some v =>
  have := h.H b o v e
  unfold World.cell? at this
  simp only [hb] at this
  cases ob <;> first | (cases this; done) | exact absurd rfl (hn _ _ _)
def zfz : Ex → Exit
 | .nrm => .normal
 | .brk id => .exit id
 | .ret => .ret
def RoOk (rd ro : Option Nat) (g : Gh) : Prop :=
 match rd with
 | none => ro = none
 | some k => ∃ l, ro = some l ∧ g.blk k = some l
theorem RoOk.mono {rd ro : Option Nat} {g' : Gh} (h : RoOk rd ro g) (hx : Ext g g') : RoOk rd ro g' := by
 cases rd with
 | none => exact h
 | some k => obtain ⟨l, h1, h2⟩ := h; exact ⟨l, h1, (hx.blk k l h2).1⟩
def After (P : Program) (lo : Nat) (st : St) (g : Gh) (w : World) (env' : List V) (st' : St) (a' : Act) (w' : World) : Prop :=
 ∃ g' Ds', RepVs g' env' a'.tmps.toList ∧ Inv P z0d st' g' w' ∧ Step st g w st' g' w' ∧ NewK st g g' ∧ a'.defers = Ds'.map zaa ∧ Marks lo Ds' st' g' w'
theorem After.from {lo : Nat} {st1 st' : St} {g1 : Gh} {w1 w' : World} {env' : List V} {a' : Act} (hs : Step st g w st1 g1 w1) (hn : NewK st g g1) (h : After P lo st1 g1 w1 env' st' a' w') : After P lo st g w env' st' a' w' := by
 obtain ⟨g', Ds', h1, h2, h3, h4, h5, h6⟩ := h
 exact ⟨g', Ds', h1, h2, hs.trans h3, hn.trans hs.next h4, h5, h6⟩
def zgp (P : Program) (cl : z11) : Prop := ∀ f first cap args st r st', cl (.fn f first cap) args st = some (r, st') → ∀ g w u (us : Array Value), RepV g (.fn f first cap) u →
 ∃ d args', (Deferred.ofValue u us).run P w = .ok d w ∧ (invoke d.target d.args).run P w = .ok (.enter f args') w
theorem zml (nf : Bool) (P : Program) (ops : List Oper) (draw : Bool) : (∃ n l, cReg nf P ops draw = .reg n l) ∨ cReg nf P ops draw = .bad := by
 unfold cReg
 simp only
 split
 ·exact .inl ⟨_, _, rfl⟩
 ·exact .inr rfl
section
variable {cl : z11} {n lo : Nat} {rd ro : Option Nat} {nf : Bool}
def zsl (nf : Bool) (P : Program) (cl : z11) (n lo : Nat) (rd ro : Option Nat) (c : Code) : Prop :=
 ∀ {env env' : List V} {ex : Ex} {st st' : St} {g : Gh} {w : World} {a : Act} {Ds : List Nat} {Q : Exit → Act → World → Prop}, z18 cl n rd (z0d nf P c) env st = some (ex, env', st') → Inv P z0d st g w → RepVs g env a.tmps.toList →
  a.defers = Ds.map zaa → Marks lo Ds st g w → lo ≤ w.heap.size → RoOk rd ro g → (∀ a' w', After P lo st g w env' st' a' w' → Q (zfz ex) a' w') → c.wpIn (Fw ro) 0 P Q a w
theorem zf1 {c : Code} (hc : zsl nf P cl n lo rd ro c) : ∀ (m : Nat) {env env' : List V} {ex : Ex} {st st' : St} {g : Gh} {w : World} {a : Act} {Ds : List Nat} {Q : Exit → Act → World → Prop}, rounds (z18 cl n rd (z0d nf P c)) m env st = some (ex, env', st') → Inv P z0d st g w → RepVs g env a.tmps.toList →
  a.defers = Ds.map zaa → Marks lo Ds st g w → lo ≤ w.heap.size → RoOk rd ro g → (∀ a' w', After P lo st g w env' st' a' w' → Q (zfz ex) a' w') → Code.roundsIn (Fw ro) 0 P c Q m a w
 | 0, _, _, _, _, _, _, _, _, _, _, h, _, _, _, _, _, _, _ => by simp [rounds] at h
 | m + 1, env, env', ex, st, st', g, w, a, Ds, Q, h, hi, henv, hd, hm, hlo, hro, hQ => by
  simp only [rounds] at h
  rw [roundsIn_succ]
  cases hev : z18 cl n rd (z0d nf P c) env st with
  | none => rw [hev] at h; cases h
  | some p =>
   obtain ⟨e1, env1, st1⟩ := p
   rw [hev] at h
   refine hc hev hi henv hd hm hlo hro fun a1 w1 haft => ?_
   cases e1 with
   | nrm =>
    simp only at h
    obtain ⟨g1, Ds1, h1, h2, h3, h4, h5, h6⟩ := haft
    exact zf1 hc m h h2 h1 h5 h6 (Nat.le_trans hlo h3.size) (hro.mono h3.ext) fun a' w' h' => hQ a' w' (h'.from h3 h4)
   | brk id => simp only [Option.some.injEq, Prod.mk.injEq] at h; obtain ⟨rfl, rfl, rfl⟩ := h; exact hQ a1 w1 haft
   | ret => simp only [Option.some.injEq, Prod.mk.injEq] at h; obtain ⟨rfl, rfl, rfl⟩ := h; exact hQ a1 w1 haft
def y1n (Q : Exit → Act → World → Prop) : Exit → Act → World → Prop
 | .goto _, _, _ => False
 | e, a, w => Q e a w
theorem zl9 {c : Code} {F : Fence} {k : Nat} {Q : Exit → Act → World → Prop} {a : Act} (h : c.wpIn F k P (y1n Q) a w) : (Code.scope c).wpIn F k P Q a w := by
 intro b k' cs hro hb hr
 have h0 : (lone (b.atR a (.code (.scope c) :: k')) cs w).fenced P F := fenced_calm hb hr rfl
 have s0 : step P (lone (b.atR a (.code (.scope c) :: k')) cs w) = .next (lone (b.atR a (.code c :: .inScope c :: k')) cs w) := step_lone_go (by simp [stepG, stepG.exec, Frame.atR])
 obtain ⟨e, a₁, w₁, hq, harr⟩ := h b (.inScope c :: k') cs hro hb hr
 have s1 : step P (lone (b.atR a₁ (.inScope c :: k')) cs w₁) = .next (lone (b.atR a₁ k') cs w₁) := step_lone_go (by simp [stepG, stepG.exec, Frame.atR])
 cases e with
 | normal => exact ⟨.normal, a₁, w₁, hq, .head h0 s0 (StepsIn.trans harr (.one (fenced_calm hb hr rfl) s1))⟩
 | exit id =>
  refine ⟨_, a₁, w₁, hq, .of_steps (.one h0 s0) ⟨fun k'' hk => harr.1 k'' (by simp [exitTo, hk]), fun hr' hk => harr.2 hr' (by simp [exitTo, hk])⟩⟩
 | goto l => exact hq.elim
 | ret => exact ⟨_, a₁, w₁, hq, .of_steps (.one h0 s0) harr⟩
 | panic ch => exact ⟨_, a₁, w₁, hq, .of_steps (.one h0 s0) harr⟩
 | outgrown => exact ⟨_, a₁, w₁, hq, .of_steps (.one h0 s0) harr⟩
theorem y3q (hcl : z39 P cl) (hent : zgp P cl) {f : Operand} {ps : Array Tmp} {asg body : Code} : zsl nf P cl n lo rd ro (.rangeFunc f ps asg body) := by
 intro env env' ex st st' g w a Ds Q h hi henv hd hm hlo hro hQ
 simp only [z0d] at h
 cases hf : cOpd f with
 | none => rw [hf] at h; simp [z18] at h
 | some y =>
  rw [hf] at h
  simp only [z18] at h
  split at h
  ·rename_i hrd
   have hfv := z0t henv hf
   split at h
   ·rename_i fn first cap hy
    rw [hy] at hfv
    split at h
    ·cases h
    ·rename_i r st2 hcall
     refine wpIn_rangeFunc fun fnid _ => ?_
     have hblock : ∃ D mark w0, (Instr.enterLoop fnid a.tmps ps asg body ro).run P w = .ok (w0.heap.size, mark) (World.add w0 (.loop { state := .ready, pending := none, fn := fnid, tmps := a.tmps, params := ps, assign := asg, body := body, defers := D })) ∧
       Inv P z0d st g w0 ∧ Step st g w st g w0 ∧ ∃ Ds0, mark ++ a.defers = Ds0.map zaa ∧ Marks lo Ds0 st g w0 := by
      cases rd with
      | none =>
       have hro' : ro = none := hro
       subst hro'
       obtain ⟨h1, h2⟩ := hi.junk (.deferred (some []))
       refine ⟨w.heap.size, [zaa w.heap.size], World.add w (.deferred (some [])), ?_, h1, h2, w.heap.size :: Ds, ?_, ?_⟩
       ·simp [Instr.enterLoop, newObj, Sem.run, World.add, zaa]; rfl
       ·rw [hd]; rfl
       ·refine ⟨List.nodup_cons.2 ⟨fun hmem => Nat.lt_irrefl _ (hm.each _ hmem).2.1, hm.nodup⟩, fun D hD => ?_⟩
        rcases List.mem_cons.1 hD with rfl | hD
        ·exact ⟨hlo, by rw [z68]; omega, z2t, hi.notLive⟩
        ·exact (hm.step h2).each D hD
      | some k =>
       obtain ⟨l, hro', hl⟩ := hro
       subst hro'
       simp only [okRd] at hrd
       split at hrd
       ·rename_i e1 p1 a1 b1 s1 q1 ho
        obtain ⟨b, hb, L, hL, _⟩ := hi.obj k _ ho
        rw [hl] at hb
        cases hb
        refine ⟨L.defers, [], w, ?_, hi, Step.refl _ _ _, Ds, hd, hm⟩
        simp [Instr.enterLoop, Instr.getLoop, getObj, newObj, Sem.run, hL, World.add]
       ·cases hrd
     obtain ⟨D, mark, w0, hrun0, hi0, hs0, Ds0, hd0, hm0⟩ := hblock
     have hnone : g.blk st.next = none := by
      cases e : g.blk st.next with
      | none => rfl
      | some b => exact absurd (hi.u _ _ e).1 (Nat.lt_irrefl _)
     let L : Loop := { state := .ready, pending := none, fn := fnid, tmps := a.tmps, params := ps, assign := asg, body := body, defers := D }
     obtain ⟨hi1, hs1⟩ := (hi0.bump 1).ins (n := 0) (m := 0) (k := st.next) hnone (by simp) (o := .loop env ps.toList (z0d nf P asg) (z0d nf P body) .ready none) (ob := .loop L)
      ⟨L, z2t, RepVs.mono (Ext.asg hnone) henv, rfl, ⟨nf, rfl, rfl⟩, rfl, (fun x hx => by cases hx), fun _ => rfl⟩
     have hs01 := hs0.trans hs1.bump
     have hb1 : (g.asg st.next w0.heap.size 0 0).blk st.next = some w0.heap.size := z1z
     have hl0 : w.heap.size ≤ w0.heap.size := hs0.size
     have hm1 := hm0.step hs1.bump
     obtain ⟨d, args', hd1, hd2⟩ := hent fn first cap _ _ _ _ hcall (g.asg st.next w0.heap.size 0 0) (World.add w0 (.loop L)) (a.eval f) #[.func (.yield w0.heap.size) #[] #[]] (hfv.mono (Ext.asg hnone))
     refine ⟨w0.heap.size, mark, World.add w0 (.loop L), d, World.add w0 (.loop L), fn, args', World.add w0 (.loop L), ?_, ?_, fun _ _ => trivial, hd2, fun hdep => by simp [Fence.wide] at hdep, ?_⟩
     ·exact hrun0
     ·simpa [resolve, rangeCall, Act.eval] using hd1
     ·have hgood := hcl _ _ _ _ _ hcall (g.asg st.next w0.heap.size 0 0) (World.add w0 (.loop L)) (a.eval f) #[.func (.yield w0.heap.size) #[] #[]] hi1 (hfv.mono (Ext.asg hnone))
       (show RepVs _ [.yld st.next] [.func (.yield w0.heap.size) #[] #[]] from z0u.2 ⟨⟨_, hb1, rfl⟩, z1c⟩)
      have hbind : ((do let d ← Deferred.ofValue (a.eval f) #[.func (.yield w0.heap.size) #[] #[]]; invoke d.target d.args : Sem Next)).run P (World.add w0 (.loop L)) = .ok (.enter fn args') (World.add w0 (.loop L)) := by
       simp [hd1, hd2]
      rw [hbind] at hgood
      refine CallsIn.mono (zkq hgood) fun e w3 he => ?_
      obtain ⟨v, rfl, g3, _, hi3, hs3, hn3⟩ := he
      split at h
      ·rename_i e3 p3 a3 b3 ls pend ho
       have ho' : sget st2.s st.next = some (.loop e3 p3 a3 b3 ls pend) := ho
       obtain ⟨b, hb, L3, hL3, q1, q2, q34, q5, q6, q7⟩ := hi3.obj _ _ ho'
       rw [(hs3.ext.blk _ _ hb1).1] at hb
       cases hb
       have hbusy : ls ≠ .busy := fun e => by subst e; simp at h
       have hend : (Instr.endLoop w0.heap.size).run P w3 = .ok L3.pending (World.put w3 w0.heap.size (.loop { L3 with state := .exhausted })) := by
        have hne : L3.state ≠ LoopState.busy := by rw [q5]; exact hbusy
        simp [Instr.endLoop, Instr.getLoop, getObj, setObj, Sem.run, hL3, World.put, hne]
       obtain ⟨hi4, hs4⟩ := hi3.del st.next
       have hnl : ¬ Live (st2.del st.next) g3 w0.heap.size := fun ⟨j, x, hj, hjb⟩ => by
        by_cases e : j = st.next
        ·subst e
         simp only [St.del] at hj
         rw [z2l] at hj; cases hj
        ·simp only [St.del] at hj
         rw [z1n e] at hj
         exact e (hi3.inj _ _ _ _ _ hj ho' hjb (hs3.ext.blk _ _ hb1).1)
       have hH := z93 hi3 hL3 (by simp)
       have hi5 := hi4.scratch hnl hH (.loop { L3 with state := .exhausted })
       have hs5 := ((hs01.trans hs3).trans hs4).scratch hl0 (.loop { L3 with state := .exhausted })
       have hm4 := (hm1.step hs3).step hs4
       have hmem : w0.heap.size ∉ Ds0 := fun hmem => Nat.lt_irrefl _ (hm0.each _ hmem).2.1
       have hm5 := hm4.scratch hmem (.loop { L3 with state := .exhausted })
       have hnew : NewK st g g3 := fun k b hb => by
        rcases hn3 k b hb with h1 | h1
        ·by_cases e : k = st.next
         ·exact .inr (by omega)
         ·rw [(z1p e).1] at h1; exact .inl h1
        ·exact .inr (Nat.le_of_succ_le h1)
       have haft : ∀ (env2 : List V), env2 = env → After P lo st g w env2 (st2.del st.next) { a with defers := mark ++ a.defers } (World.put w3 w0.heap.size (.loop { L3 with state := .exhausted })) := fun env2 e => by
        subst e
        exact ⟨g3, Ds0, RepVs.mono (hs01.trans hs3).ext henv, hi5, hs5, hnew, hd0, hm5⟩
       obtain ⟨W, hW⟩ : ∃ W, World.put w3 w0.heap.size (.loop { L3 with state := .exhausted }) = W := ⟨_, rfl⟩
       rw [hW] at hend haft
       refine ⟨L3.pending, W, hend, ?_⟩
       have hres : (match pend with | none => some (Ex.nrm, env, st2.del st.next) | some x => some (x, env, st2.del st.next)) = some (ex, env', st') := by
        revert h
        cases pend <;> cases ls <;> intro h <;> first | exact h | (simp at h; done) | exact absurd rfl hbusy
       cases pend with
       | none =>
        simp only [Option.some.injEq, Prod.mk.injEq] at hres
        obtain ⟨rfl, rfl, rfl⟩ := hres
        rw [q7 rfl]
        exact hQ _ _ (haft _ rfl)
       | some x =>
        simp only [Option.some.injEq, Prod.mk.injEq] at hres
        obtain ⟨rfl, rfl, rfl⟩ := hres
        obtain ⟨h6, h7⟩ := q6 x rfl
        rw [h6]
        cases x with
        | nrm => exact absurd rfl h7
        | brk id => exact wpIn_exit (hQ _ _ (haft _ rfl))
        | ret => exact wpIn_ret (hQ _ _ (haft _ rfl))
      ·cases h
   ·cases h
  ·cases h
theorem zi1 (hcl : z39 P cl) (hent : zgp P cl) (hmix : P.follows .mixedOrders = true) (c : Code) : zsl nf P cl n lo rd ro c := by
 induction c with
 | skip =>
  intro env env' ex st st' g w a Ds Q h hi henv hd hm hlo hro hQ
  simp only [z0d, z18, Option.some.injEq, Prod.mk.injEq] at h
  obtain ⟨rfl, rfl, rfl⟩ := h
  exact wpIn_skip (hQ a w ⟨g, Ds, henv, hi, Step.refl _ _ _, NewK.refl, hd, hm⟩)
 | label l =>
  intro env env' ex st st' g w a Ds Q h hi henv hd hm hlo hro hQ
  simp only [z0d, z18, Option.some.injEq, Prod.mk.injEq] at h
  obtain ⟨rfl, rfl, rfl⟩ := h
  exact wpIn_label (hQ a w ⟨g, Ds, henv, hi, Step.refl _ _ _, NewK.refl, hd, hm⟩)
 | exit id =>
  intro env env' ex st st' g w a Ds Q h hi henv hd hm hlo hro hQ
  simp only [z0d, z18, Option.some.injEq, Prod.mk.injEq] at h
  obtain ⟨rfl, rfl, rfl⟩ := h
  exact wpIn_exit (hQ a w ⟨g, Ds, henv, hi, Step.refl _ _ _, NewK.refl, hd, hm⟩)
 | ret =>
  intro env env' ex st st' g w a Ds Q h hi henv hd hm hlo hro hQ
  simp only [z0d, z18, Option.some.injEq, Prod.mk.injEq] at h
  obtain ⟨rfl, rfl, rfl⟩ := h
  exact wpIn_ret (hQ a w ⟨g, Ds, henv, hi, Step.refl _ _ _, NewK.refl, hd, hm⟩)
 | goto l =>
  intro env env' ex st st' g w a Ds Q h
  simp [z0d, z18] at h
 | refuse r =>
  intro env env' ex st st' g w a Ds Q h
  simp [z0d, z18] at h
 | region id ops draw =>
  intro env env' ex st st' g w a Ds Q h hi henv hd hm hlo hro hQ
  simp only [z0d] at h
  rcases zml nf P ops.toList draw with ⟨na, l, hc⟩ | hc
  ·rw [hc] at h
   simp only [z18] at h
   split at h
   ·rename_i env1 st1 he
    cases h
    exact y16 hcl hmix hc he hi henv fun a' w' g' h1 h2 h3 h4 h5 => hQ a' w' ⟨g', Ds, h1, h2, h3, h5, h4.trans hd, hm.step h3⟩
   ·cases h
  ·rw [hc] at h
   simp [z18] at h
 | seq x y ihx ihy =>
  intro env env' ex st st' g w a Ds Q h hi henv hd hm hlo hro hQ
  simp only [z0d, z18] at h
  refine wpIn_seq ?_
  cases hev : z18 cl n rd (z0d nf P x) env st with
  | none => rw [hev] at h; cases h
  | some p =>
   obtain ⟨e1, env1, st1⟩ := p
   rw [hev] at h
   refine ihx hev hi henv hd hm hlo hro fun a1 w1 haft => ?_
   cases e1 with
   | nrm =>
    simp only at h
    obtain ⟨g1, Ds1, h1, h2, h3, h4, h5, h6⟩ := haft
    exact ihy h h2 h1 h5 h6 (Nat.le_trans hlo h3.size) (hro.mono h3.ext) fun a' w' h' => hQ a' w' (h'.from h3 h4)
   | brk id => simp only [Option.some.injEq, Prod.mk.injEq] at h; obtain ⟨rfl, rfl, rfl⟩ := h; exact hQ a1 w1 haft
   | ret => simp only [Option.some.injEq, Prod.mk.injEq] at h; obtain ⟨rfl, rfl, rfl⟩ := h; exact hQ a1 w1 haft
 | cond c x y ihx ihy =>
  intro env env' ex st st' g w a Ds Q h hi henv hd hm hlo hro hQ
  simp only [z0d] at h
  split at h
  ·rename_i c' hc
   simp only [z18] at h
   have hv := z0t henv hc
   split at h
   ·rename_i t ht
    rw [ht] at hv
    simp only [RepV, RepD] at hv
    refine wpIn_cond hv ?_
    cases t with
    | true => exact ihx h hi henv hd hm hlo hro hQ
    | false => exact ihy h hi henv hd hm hlo hro hQ
   ·cases h
  ·simp [z18] at h
 | block id b ihb =>
  intro env env' ex st st' g w a Ds Q h hi henv hd hm hlo hro hQ
  simp only [z0d, z18] at h
  refine wpIn_block ?_
  cases hev : z18 cl n rd (z0d nf P b) env st with
  | none => rw [hev] at h; cases h
  | some p =>
   obtain ⟨e1, env1, st1⟩ := p
   rw [hev] at h
   refine ihb hev hi henv hd hm hlo hro fun a1 w1 haft => ?_
   cases e1 with
   | nrm => simp only [Option.some.injEq, Prod.mk.injEq] at h; obtain ⟨rfl, rfl, rfl⟩ := h; exact hQ a1 w1 haft
   | ret => simp only [Option.some.injEq, Prod.mk.injEq] at h; obtain ⟨rfl, rfl, rfl⟩ := h; exact hQ a1 w1 haft
   | brk j =>
    simp only [Option.some.injEq, Prod.mk.injEq] at h
    obtain ⟨rfl, rfl, rfl⟩ := h
    have := hQ a1 w1 haft
    simp only [zfz, Exit.inBlock]
    by_cases e : j = id
    ·simpa [e, zfz] using this
    ·simpa [e, zfz] using this
 | loop b ihb =>
  intro env env' ex st st' g w a Ds Q h hi henv hd hm hlo hro hQ
  simp only [z0d, z18] at h
  exact wpIn_loop_rounds n (zf1 ihb n h hi henv hd hm hlo hro hQ)
 | scope b ihb =>
  intro env env' ex st st' g w a Ds Q h hi henv hd hm hlo hro hQ
  simp only [z0d] at h
  refine zl9 (ihb h hi henv hd hm hlo hro fun a' w' h' => ?_)
  have := hQ a' w' h'
  cases ex <;> exact this
 | rangeFunc f ps asg body _ _ => exact y3q hcl hent
end
end Go.Lift
namespace Go.Lift
open Go
structure Lo (base : Nat) (st st' : St) : Prop where
 low : st'.low ≤ st.low
 next : st.next ≤ st'.next
 same : ∀ k, k < st'.low → k < base → sget st'.s k = sget st.s k
theorem Lo.refl (base : Nat) (st : St) : Lo base st st := ⟨Nat.le_refl _, Nat.le_refl _, fun _ _ _ => rfl⟩
theorem Lo.trans {b b' : Nat} {st st1 st2 : St} (h : Lo b st st1) (k : Lo b' st1 st2) (hb : b ≤ b') : Lo b st st2 :=
 ⟨Nat.le_trans k.low h.low, Nat.le_trans h.next k.next, fun j h1 h2 => (k.same j h1 (Nat.lt_of_lt_of_le h2 hb)).trans (h.same j (Nat.lt_of_lt_of_le h1 k.low) h2)⟩
theorem Lo.less {b b' : Nat} {st st1 : St} (h : Lo b' st st1) (hb : b ≤ b') : Lo b st st1 := ⟨h.low, h.next, fun j h1 h2 => h.same j h1 (Nat.lt_of_lt_of_le h2 hb)⟩
theorem zhf (a b : Nat) : Nat.min a b ≤ a := Nat.min_le_left a b
theorem zhe (a b : Nat) : Nat.min a b ≤ b := Nat.min_le_right a b
theorem Lo.set (base : Nat) (st : St) (k : Nat) (o : Obj) : Lo base st (st.set k o) :=
 ⟨zhf _ _, Nat.le_refl _, fun j h1 _ => by
  have : j < k := Nat.lt_of_lt_of_le h1 (zhe _ _)
  simp only [St.set]
  exact z0m (Nat.ne_of_lt this)⟩
theorem Lo.del (base : Nat) (st : St) (k : Nat) : Lo base st (st.del k) :=
 ⟨zhf _ _, Nat.le_refl _, fun j h1 _ => by
  have : j < k := Nat.lt_of_lt_of_le h1 (zhe _ _)
  simp only [St.del]
  exact z1n (Nat.ne_of_lt this)⟩
theorem Lo.ins {base : Nat} (st : St) {k : Nat} (hk : base ≤ k) (o : Obj) : Lo base st (st.ins k o) :=
 ⟨Nat.le_refl _, Nat.le_refl _, fun j _ h2 => by
  have hne : k ≠ j := by omega
  simp only [St.ins, sget, hne, if_false]⟩
theorem zdh {f : St → V → Option (V × St)} (hf : ∀ base st v y st', f st v = some (y, st') → Lo base st st') : ∀ (base : Nat) {l : List V} {st : St} {ys : List V} {st' : St}, frzL f st l = some (ys, st') → Lo base st st'
 | base, [], st, ys, st', h => by
  simp only [frzL, Option.some.injEq, Prod.mk.injEq] at h
  rw [← h.2]; exact Lo.refl _ _
 | base, x :: l, st, ys, st', h => by
  simp only [frzL] at h
  split at h
  ·cases h
  ·rename_i y st1 hx
   split at h
   ·cases h
   ·rename_i ys' st2 hl
    cases h
    exact (hf base _ _ _ _ hx).trans (zdh hf base hl) (Nat.le_refl _)
theorem zjj : ∀ (n : Nat) (base : Nat) (st : St) (v y : V) (st' : St), frz n st v = some (y, st') → Lo base st st'
 | 0, _, _, _, _, _, h => by simp [frz] at h
 | n + 1, base, st, v, y, st', h => by
  cases v <;> simp only [frz] at h
  case arr k es ag off len =>
   split at h
   ·split at h
    ·split at h
     ·cases h
     ·rename_i ys st1 hys
      split at h
      ·cases h
      ·split at h
       ·split at h
        ·cases h
         exact (zdh (zjj n) base hys).trans (Lo.set _ _ _ _) (Nat.le_refl base)
        ·cases h
       ·cases h
    ·cases h
   ·split at h
    ·split at h
     ·cases h
     ·cases h; exact Lo.refl _ _
    ·cases h
   ·cases h
  case agg l =>
   split at h
   ·cases h
   ·rename_i ys st1 hys
    cases h
    exact zdh (zjj n) base hys
  all_goals
   cases h
   exact Lo.refl _ _
theorem zpr {env : List V} : ∀ (base : Nat) {l : List (Nat × Opd)} {st : St} {ys : List (Nat × V)} {st' : St}, frzP env st l = some (ys, st') → Lo base st st'
 | base, [], st, ys, st', h => by
  simp only [frzP, Option.some.injEq, Prod.mk.injEq] at h
  rw [← h.2]; exact Lo.refl _ _
 | base, (i, x) :: l, st, ys, st', h => by
  simp only [frzP] at h
  split at h
  ·cases h
  ·rename_i y st1 hx
   split at h
   ·cases h
   ·rename_i ys' st2 hl
    cases h
    exact (zjj _ base _ _ _ _ hx).trans (zpr base hl) (Nat.le_refl _)
theorem y3w {base : Nat} {env : List V} {st st' : St} {v : V} : ∀ {k : IK}, evalOp base env st k = some (v, st') → Lo base st st' := by
 intro k h
 cases k <;> simp only [evalOp] at h
 case mkSl ai es ag nf z len ps =>
  split at h
  ·cases h
  ·rename_i q st1 hq
   have h1 : Lo base st st1 := by
    split at hq
    ·cases hq; exact Lo.refl _ _
    ·exact zpr base hq
   split at h
   ·split at h
    ·split at h
     ·cases h
      exact h1.trans (Lo.ins _ (Nat.le_add_right _ _) _) (Nat.le_refl _)
     ·cases h
    ·cases h
   ·cases h
 case store n a x =>
  split at h
  ·rename_i s1 hs
   cases h
   unfold opStore at hs
   repeat' split at hs
   all_goals first | (cases hs; exact Lo.set _ _ _ _) | (cases hs; done)
  ·cases h
 case mapUpd kt ag sh m k x =>
  split at h
  ·rename_i s1 hs
   cases h
   unfold z54 at hs
   repeat' split at hs
   all_goals first | (cases hs; exact Lo.set _ _ _ _) | (cases hs; done)
  ·cases h
 case append ai es ag eb x y =>
  unfold z12 at h
  repeat' split at h
  all_goals first | (cases h; exact Lo.refl _ _) | (cases h; exact Lo.ins _ (Nat.le_add_right _ _) _) | (cases h; exact (Lo.del base _ _).trans (Lo.ins _ (Nat.le_add_right _ _) _) (Nat.le_refl _)) | (cases h; done)
 case copy es x y =>
  unfold z8l at h
  repeat' split at h
  all_goals first | (cases h; exact Lo.refl _ _) | (cases h; exact Lo.set _ _ _ _) | (cases h; done)
 case clearS es z x =>
  split at h
  ·rename_i s1 hs
   cases h
   unfold z74 at hs
   repeat' split at hs
   all_goals first | (cases hs; exact Lo.refl _ _) | (cases hs; exact Lo.set _ _ _ _) | (cases hs; done)
  ·cases h
 all_goals (repeat' split at h) <;> first | (cases h; exact Lo.refl _ _) | (cases h; exact Lo.set _ _ _ _) | (cases h; exact Lo.ins _ (Nat.le_add_right _ _) _) | (cases h; done)
def LoCl (cl : z11) : Prop := ∀ v args st r st', cl v args st = some (r, st') → Lo st.next st st'
section
variable {cl : z11} (hcl : LoCl cl)
include hcl
theorem y23 {base : Nat} {env : List V} {st st' : St} {v : V} {o : IOp} (hb : base ≤ st.next) (h : evalIOp cl base env st o = some (v, st')) : Lo base st st' := by
 unfold evalIOp at h
 split at h
 ·exact (hcl _ _ _ _ _ h).less hb
 ·exact y3w h
theorem zpq {base : Nat} : ∀ {l : List IOp} {env env' : List V} {st st' : St}, base ≤ st.next → z0k cl base l env st = some (env', st') → Lo base st st'
 | [], env, env', st, st', hb, h => by
  simp only [z0k, Option.some.injEq, Prod.mk.injEq] at h
  rw [← h.2]; exact Lo.refl _ _
 | o :: l, env, env', st, st', hb, h => by
  simp only [z0k] at h
  split at h
  ·split at h
   ·cases h
   ·rename_i v st1 ho
    split at h
    ·have h1 := y23 hcl hb ho
     exact h1.trans (zpq (Nat.le_trans hb h1.next) h) (Nat.le_refl _)
    ·cases h
  ·exact zpq hb h
theorem zfn {f : List V → St → Option (Ex × List V × St)} (hf : ∀ env st ex env' st', f env st = some (ex, env', st') → Lo st.next st st') : ∀ (n : Nat) {env env' : List V} {st st' : St} {ex : Ex}, rounds f n env st = some (ex, env', st') → Lo st.next st st'
 | 0, _, _, _, _, _, h => by simp [rounds] at h
 | n + 1, env, env', st, st', ex, h => by
  simp only [rounds] at h
  cases hev : f env st with
  | none => rw [hev] at h; cases h
  | some p =>
   obtain ⟨e1, env1, st1⟩ := p
   rw [hev] at h
   have h1 := hf _ _ _ _ _ hev
   cases e1 with
   | nrm => exact h1.trans (zfn hf n h) h1.next
   | brk id => simp only [Option.some.injEq, Prod.mk.injEq] at h; obtain ⟨rfl, rfl, rfl⟩ := h; exact h1
   | ret => simp only [Option.some.injEq, Prod.mk.injEq] at h; obtain ⟨rfl, rfl, rfl⟩ := h; exact h1
theorem zhh {n : Nat} {rd : Option Nat} : ∀ (c : IC) {env env' : List V} {st st' : St} {ex : Ex}, z18 cl n rd c env st = some (ex, env', st') → Lo st.next st st' := by
 intro c
 induction c with
 | skip => intro env env' st st' ex h; simp only [z18, Option.some.injEq, Prod.mk.injEq] at h; rw [← h.2.2]; exact Lo.refl _ _
 | exit id => intro env env' st st' ex h; simp only [z18, Option.some.injEq, Prod.mk.injEq] at h; rw [← h.2.2]; exact Lo.refl _ _
 | ret => intro env env' st st' ex h; simp only [z18, Option.some.injEq, Prod.mk.injEq] at h; rw [← h.2.2]; exact Lo.refl _ _
 | bad => intro env env' st st' ex h; simp [z18] at h
 | reg na ops =>
  intro env env' st st' ex h
  simp only [z18] at h
  split at h
  ·rename_i env1 st1 ho
   cases h
   have h1 := zpq hcl (base := st.next) (st := { st with next := st.next + na }) (Nat.le_add_right _ _) ho
   exact ⟨h1.low, Nat.le_trans (Nat.le_add_right _ _) h1.next, h1.same⟩
  ·cases h
 | seq a b iha ihb =>
  intro env env' st st' ex h
  simp only [z18] at h
  cases hev : z18 cl n rd a env st with
  | none => rw [hev] at h; cases h
  | some p =>
   obtain ⟨e1, env1, st1⟩ := p
   rw [hev] at h
   have h1 := iha hev
   cases e1 with
   | nrm => exact h1.trans (ihb h) h1.next
   | brk id => simp only [Option.some.injEq, Prod.mk.injEq] at h; obtain ⟨rfl, rfl, rfl⟩ := h; exact h1
   | ret => simp only [Option.some.injEq, Prod.mk.injEq] at h; obtain ⟨rfl, rfl, rfl⟩ := h; exact h1
 | cond c a b iha ihb =>
  intro env env' st st' ex h
  simp only [z18] at h
  split at h
  ·split at h
   ·exact iha h
   ·exact ihb h
  ·cases h
 | block id b ih =>
  intro env env' st st' ex h
  simp only [z18] at h
  cases hev : z18 cl n rd b env st with
  | none => rw [hev] at h; cases h
  | some p =>
   obtain ⟨e1, env1, st1⟩ := p
   rw [hev] at h
   have h1 := ih hev
   cases e1 <;> (simp only [Option.some.injEq, Prod.mk.injEq] at h; obtain ⟨_, rfl, rfl⟩ := h; exact h1)
 | loop b ih =>
  intro env env' st st' ex h
  simp only [z18] at h
  exact zfn hcl (fun _ _ _ _ _ h => ih h) n h
 | rf f ps asg body _ _ =>
  intro env env' st st' ex h
  simp only [z18] at h
  split at h
  ·split at h
   ·split at h
    ·cases h
    ·rename_i r st2 hcall
     have h0 : Lo st.next st { s := (st.next, Obj.loop env ps asg body .ready none) :: st.s, next := st.next + 1, low := st.low } :=
      ⟨Nat.le_refl _, Nat.le_succ _, fun j _ h2 => by
       have hne : st.next ≠ j := by omega
       simp only [sget, hne, if_false]⟩
     have h1 := hcl _ _ _ _ _ hcall
     have h2 := h0.trans h1 (Nat.le_succ _)
     have h3 := h2.trans (Lo.del st.next st2 st.next) (Nat.le_refl _)
     split at h
     ·split at h
      ·cases h
      ·split at h <;> (cases h; exact h3)
     ·cases h
   ·cases h
  ·cases h
theorem zu2 {n k : Nat} {args : List V} {st st' : St} {r : V} (h : z3j cl n k args st = some (r, st')) : Lo st.next st st' := by
 unfold z3j at h
 split at h
 ·split at h
  ·cases h
  ·split at h
   ·rename_i env2 st2 h1
    have h1 := zhh hcl _ h1
    split at h
    ·rename_i e2 p2 a2 b2 _
     split at h
     ·rename_i x env3 st3 h3
      have h3 := zhh hcl _ h3
      have h4 := (h1.trans (Lo.set st.next st2 k _) (Nat.le_refl _)).trans h3 h1.next
      split at h
      ·split at h <;> (cases h; exact h4.trans (Lo.set st.next st3 k _) (Nat.le_refl _))
      ·cases h
     ·cases h
    ·cases h
   ·cases h
 ·cases h
theorem zpt {n : Nat} {F : IFun} {args : List V} {st st' : St} {vs : List V} (h : z3g cl n F args st = some (vs, st')) : Lo st.next st st' := by
 unfold z3g at h
 split at h
 ·cases h
 ·rename_i x env' st1 _ h1
  split at h
  ·cases h; exact zhh hcl _ h1
  ·cases h
 ·cases h
end
theorem zps {G : Nat → Option IFun} : ∀ n, LoCl (call G n)
 | 0 => fun v args st r st' h => by simp [call] at h
 | n + 1 => fun v args st r st' h => by
  have ih := zps (G := G) n
  cases v <;> simp only [call] at h <;> try (cases h; done)
  case fn f first cap =>
   split at h
   ·cases h
   ·split at h
    ·split at h
     ·split at h
      ·split at h
       ·cases h; exact Lo.refl _ _
       ·cases h
      ·cases h
     ·cases h
    split at h
    ·split at h
     ·cases h
     ·split at h
      ·cases h
      ·split at h
       ·cases h
       ·split at h
        ·cases h; exact Lo.refl _ _
        ·split at h
         ·cases h
         ·rename_i ys st2 hys
          split at h
          ·cases h
          ·split at h
           ·cases h; exact zdh (zjj _) _ hys
           ·cases h
    ·split at h
     ·cases h
     ·rename_i vs st1 hb
      have h1 := zpt ih hb
      split at h
      ·split at h
       ·cases h
       ·cases h; exact Lo.refl _ _
      ·cases h
       exact ⟨zhf _ _, h1.next, fun k hk hn => h1.same k (Nat.lt_of_lt_of_le hk (zhe _ _)) hn⟩
  case yld k => exact zu2 ih h
end Go.Lift
