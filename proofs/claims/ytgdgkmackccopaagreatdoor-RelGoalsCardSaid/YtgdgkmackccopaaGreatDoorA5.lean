/- Part A5 of the proof. -/
import Derived.Test.YtgdgkmackccopaaGreatDoorA4
import Derived.Test.YtgdgkmackccopaaGreatDoorA3
import Derived.Laws.Sem
set_option linter.all false
namespace Go.Lift
open Go
variable {P : Program} {st : St} {g : Gh} {w : World}
def zbp (us : Array Value) : Value := if h : us.size = 1 then us[0] else .tuple us
theorem zbo {vs : List V} {us : Array Value} (h : RepVs g vs us.toList) : RepV g (tupV vs) (zbp us) := by
 have hl := h.length
 unfold zbp tupV
 split
 ·rename_i v
  have h1 : us.size = 1 := by simpa using hl
  rw [dif_pos h1]
  obtain ⟨u, hu, hr⟩ := h.get (i := 0) (x := v) rfl
  have : us.toList[0]? = some us[0] := by simp
  rw [this] at hu
  cases hu
  exact hr
 ·rename_i hne
  have h1 : us.size ≠ 1 := fun e => by
   have h2 : vs.length = 1 := by rw [← hl]; simpa using e
   obtain ⟨v, rfl⟩ := List.length_eq_one_iff.1 h2
   exact hne v rfl
  rw [dif_neg h1]
  simp only [RepV]
  exact ⟨us, rfl, h⟩
theorem zo7 (hi : Inv P z0d st g w) {env : List V} {tmps : Array Value} (henv : RepVs g env tmps.toList) {n : Nat} : RepV g (env.getD n .undef) (tmps.getD n Go.undef) := by
 have hl := henv.length
 by_cases hlt : n < env.length
 ·obtain ⟨v, hv, hr⟩ := henv.get (i := n) (x := env[n]) (by simp [hlt])
  have hv' : tmps[n]? = some v := by simpa using hv
  have h1 : env.getD n .undef = env[n] := by simp [hlt]
  rw [h1, Array.getD_eq_getD_getElem?, hv']
  exact hr
 ·have h1 : env[n]? = none := List.getElem?_eq_none (Nat.le_of_not_lt hlt)
  have h2 : tmps[n]? = none := by
   simp only [Array.length_toList] at hl
   exact Array.getElem?_eq_none (by rw [hl]; exact Nat.le_of_not_lt hlt)
  rw [List.getD_eq_getElem?_getD, h1, Array.getD_eq_getD_getElem?, h2]
  exact z50
def zll (tmps : Array Value) : ResultVar → Sem Value
 | .tmp t => pure (tmps.getD t Go.undef)
 | .cell a t => do loadVar t (← asAddr (tmps.getD a Go.undef))
theorem zgx (hi : Inv P z0d st g w) {env : List V} {tmps : Array Value} (henv : RepVs g env tmps.toList) : ∀ {rs : List ResultVar} {irs : List IR} {vs : List V}, cRes P rs = some irs → z28 st env irs = some vs →
  ∃ us : List Value, (rs.mapM (zll tmps)).run P w = .ok us w ∧ RepVs g vs us
 | [], irs, vs, hc, h => by
  simp only [cRes, Option.some.injEq] at hc
  subst hc
  simp only [z28, Option.some.injEq] at h
  subst h
  exact ⟨[], by simp, z1c⟩
 | .tmp t :: rs, irs, vs, hc, h => by
  simp only [cRes, Option.map_eq_some_iff] at hc
  obtain ⟨irs', hc', rfl⟩ := hc
  simp only [z28, resV] at h
  split at h
  ·cases h
  ·rename_i ws hws
   cases h
   obtain ⟨us, h1, h2⟩ := zgx hi henv hc' hws
   exact ⟨tmps.getD t Go.undef :: us, by simp [List.mapM_cons, zll, h1], z0u.2 ⟨zo7 hi henv, h2⟩⟩
 | .cell a t :: rs, irs, vs, hc, h => by
  simp only [cRes] at hc
  split at hc
  ·rename_i n ag l hn ha hl
   split at hc
   ·rename_i hag
    cases hc
    simp only [z28, resV] at h
    split at h
    ·cases h
    ·rename_i v hv
     split at h
     ·cases h
     ·rename_i ws hws
      cases h
      obtain ⟨us, h1, h2⟩ := zgx hi henv hl hws
      have hra := zo7 hi henv (n := a)
      obtain ⟨u, hu, hru⟩ := zpp hi hn ha hag hv hra
      have hptr : ∃ ad, tmps.getD a Go.undef = .pointer (some ad) := by
       cases hx : env.getD a V.undef <;> rw [hx] at hv hra <;> simp only [z1r] at hv <;> try (cases hv; done)
       ·simp only [RepV] at hra; obtain ⟨b, _, e⟩ := hra; exact ⟨_, e⟩
       ·simp only [RepV] at hra; obtain ⟨b, off, e, _⟩ := hra; exact ⟨_, e⟩
      obtain ⟨ad, had⟩ := hptr
      rw [had] at hu
      have hu' : (loadVar t ad).run P w = .ok u w := by simpa [Instr.loadAt, Instr.sureAddr] using hu
      refine ⟨u :: us, ?_, z0u.2 ⟨hru, h2⟩⟩
      simp only [List.mapM_cons, zll, had, asAddr]
      simp [hu', h1]
   ·cases hc
  ·cases hc
theorem zlk (hi : Inv P z0d st g w) {fn : Func} {F : IFun} (hc : cRes P fn.results.toList = some F.res) {env : List V} {tmps : Array Value} (henv : RepVs g env tmps.toList) {vs : List V} (h : z28 st env F.res = some vs) :
  ∃ us : Array Value, (results fn tmps).run P w = .ok (zbp us) w ∧ RepVs g vs us.toList := by
 obtain ⟨us, h1, h2⟩ := zgx hi henv hc h
 refine ⟨us.toArray, ?_, by simpa using h2⟩
 have hm : fn.results.mapM (zll tmps) = List.toArray <$> fn.results.toList.mapM (zll tmps) := Array.mapM_eq_mapM_toList
 have hr : results fn tmps = (do let vs ← fn.results.mapM (zll tmps); pure (zbp vs)) := by
  unfold results zbp
  congr 1
 rw [hr, hm]
 simp [h1]
theorem za9 {fn : Func} {tmps : Array Value} {R : Ending → World → Prop} {st1 : St} {g1 : Gh} (hR : ∀ w2, Inv P z0d st1 g1 w2 → Step st g w st1 g1 w2 → ∃ v, (results fn tmps).run P w2 = .ok v w2 ∧ R (.returned v) w2) :
  ∀ (Ds : List Nat) (w1 : World), Inv P z0d st1 g1 w1 → Step st g w st1 g1 w1 → Marks w.heap.size Ds st1 g1 w1 → LeavesInM (Fw none) 0 P fn tmps R (Ds.map zaa) .returning w1
 | [], w1, hi, hs, _ => hR w1 hi hs
 | D :: Ds, w1, hi, hs, hm => by
  obtain ⟨h1, h2, h3, h4⟩ := hm.each D (by simp)
  have hnd := hm.nodup
  simp only [List.nodup_cons] at hnd
  refine ⟨by simp, .inl ⟨D, World.put w1 D (.deferred none), rfl, ?_, ?_⟩⟩
  ·simp [Instr.takeDeferred, getObj, setObj, Sem.run, h3, World.put]
  ·have hH := z93 hi h3 (by simp)
   exact za9 hR Ds _ (hi.scratch h4 hH _) (hs.scratch h1 _) ((⟨hnd.2, fun E hE => hm.each E (by simp [hE])⟩ : Marks w.heap.size Ds st1 g1 w1).scratch hnd.1 _)
theorem RepVs.replicate {k : Nat} : RepVs g (List.replicate k V.undef) (List.replicate k Go.undef) := by
 induction k with
 | zero => exact z1c
 | succ k ih => exact z0u.2 ⟨z50, ih⟩
theorem zb9 {cl : z11} (hcl : z39 P cl) (hent : zgp P cl) (hmix : P.follows .mixedOrders = true) {n f : Nat} {F : IFun} {fn : Func} (hf : P.funcs[f]? = some fn) (hc : Comp P fn F) {args : List V} {us : Array Value} {vs : List V} {st1 : St}
  (h : z3g cl n F args st = some (vs, st1)) (hi : Inv P z0d st g w) (hr : RepVs g args us.toList) {R : Ending → World → Prop}
  (hR : ∀ ws w' g', RepVs g' vs ws.toList → Inv P z0d st1 g' w' → Step st g w st1 g' w' → NewK st g g' → R (.returned (zbp ws)) w') : CallsIn Fence.wide 0 P f us w R := by
 obtain ⟨hnt, hres, hbody⟩ := hc
 unfold z3g at h
 cases hb : fn.body with
 | none => rw [hb] at hbody; cases hbody
 | some c =>
  rw [hb] at hbody
  simp only [Option.map_some, Option.some.injEq] at hbody
  rw [← hbody] at h
  split at h
  ·cases h
  ·rename_i ex env' st2 hne hev
   split at h
   ·rename_i vs' hvs
    cases h
    refine callsIn_of_wp_marks hf hb trivial ?_
    have hlen := hr.length
    refine zi1 (lo := w.heap.size) (Ds := []) (rd := none) (ro := none) hcl hent hmix c hev hi ?_ rfl Marks.nil (Nat.le_refl _) rfl fun a' w' haft => ?_
    ·simp only [Array.toList_append, Array.toList_replicate]
     have hsz : us.size = args.length := by simpa using hlen
     rw [hsz, hnt]
     exact RepVs.append hr RepVs.replicate
    ·obtain ⟨g', Ds', h1, h2, h3, h4, h5, h6⟩ := haft
     have hleave : LeavesInM (Fw none) 0 P fn a'.tmps R a'.defers .returning w' := by
      rw [h5]
      refine za9 (fun w2 hi2 hs2 => ?_) Ds' w' h2 h3 h6
      obtain ⟨ws, h7, h8⟩ := zlk hi2 hres h1 hvs
      exact ⟨_, h7, hR ws w2 g' h8 hi2 hs2 h4⟩
     cases ex with
     | nrm => exact hleave
     | ret => exact hleave
     | brk id => exact absurd rfl (hne id)
   ·cases h
  ·cases h
mutual
theorem RepV.restrict {g1 g2 : Gh} {b : Nat} (hb : ∀ k, k < b → ∀ x, g1.blk k = some x → g2.blk k = some x ∧ g2.sz k = g1.sz k ∧ g2.tot k = g1.tot k ∧ g2.sh k = g1.sh k) (hH : g1.H.le g2.H) : ∀ {x : V} {v : Value}, x.under b = true → RepV g1 x v → RepV g2 x v
 | .d x, v, _, h => by simp only [RepV] at h ⊢; exact h.mono hH
 | .nilS, v, _, h => by simpa only [RepV] using h
 | .emp, v, _, h => by simpa only [RepV] using h
 | .arr k es ag off len, v, hu, h => by
  simp only [V.under, decide_eq_true_eq] at hu
  simp only [RepV] at h ⊢
  obtain ⟨c, hk, o, cap, e, h⟩ := h
  have h2 := hb k hu c hk
  exact ⟨c, h2.1, o, cap, e, by rw [h2.2.1, h2.2.2.1, h2.2.2.2]; exact h⟩
 | .ptr k off, v, hu, h => by
  simp only [V.under, decide_eq_true_eq] at hu
  simp only [RepV] at h ⊢
  obtain ⟨c, hk, e⟩ := h
  exact ⟨c, (hb k hu c hk).1, by rw [(hb k hu c hk).2.2.2]; exact e⟩
 | .dptr ds, v, _, h => by
  simp only [RepV] at h ⊢
  obtain ⟨c, off, e, h⟩ := h
  exact ⟨c, off, e, RepP.mono hH h⟩
 | .nilP, v, _, h => by simpa only [RepV] using h
 | .map k, v, hu, h => by
  simp only [V.under, decide_eq_true_eq] at hu
  simp only [RepV] at h ⊢
  obtain ⟨c, hk, e⟩ := h
  exact ⟨c, (hb k hu c hk).1, e⟩
 | .nilM, v, _, h => by simpa only [RepV] using h
 | .fn f a c, v, hu, h => by
  simp only [V.under, Bool.and_eq_true] at hu
  simp only [RepV] at h ⊢
  obtain ⟨vs, ws, e, h1, h2⟩ := h
  exact ⟨vs, ws, e, RepVs.restrict hb hH hu.1 h1, RepVs.restrict hb hH hu.2 h2⟩
 | .yld k, v, hu, h => by
  simp only [V.under, decide_eq_true_eq] at hu
  simp only [RepV] at h ⊢
  obtain ⟨c, hk, e⟩ := h
  exact ⟨c, (hb k hu c hk).1, e⟩
 | .nilF, v, _, h => by simpa only [RepV] using h
 | .agg l, v, hu, h => by
  simp only [V.under] at hu
  simp only [RepV] at h ⊢
  obtain ⟨vs, e, h⟩ := h
  exact ⟨vs, e, RepVs.restrict hb hH hu h⟩
 | .tup l, v, hu, h => by
  simp only [V.under] at hu
  simp only [RepV] at h ⊢
  obtain ⟨vs, e, h⟩ := h
  exact ⟨vs, e, RepVs.restrict hb hH hu h⟩
theorem RepVs.restrict {g1 g2 : Gh} {b : Nat} (hb : ∀ k, k < b → ∀ x, g1.blk k = some x → g2.blk k = some x ∧ g2.sz k = g1.sz k ∧ g2.tot k = g1.tot k ∧ g2.sh k = g1.sh k) (hH : g1.H.le g2.H) : ∀ {l : List V} {vs : List Value}, V.underL b l = true → RepVs g1 l vs → RepVs g2 l vs
 | [], _, _, h => by simpa only [RepVs] using h
 | x :: l, vs, hu, h => by
  simp only [V.underL, Bool.and_eq_true] at hu
  simp only [RepVs] at h ⊢
  obtain ⟨v, ws, e, h1, h⟩ := h
  exact ⟨v, ws, e, RepV.restrict hb hH hu.1 h1, RepVs.restrict hb hH hu.2 h⟩
end
mutual
theorem RepV.isUnder {b : Nat} (hb : ∀ k x, g.blk k = some x → k < b) : ∀ {x : V} {v : Value}, RepV g x v → x.under b = true
 | .d _, _, _ => rfl
 | .nilS, _, _ => rfl
 | .emp, _, _ => rfl
 | .arr k _ _ _ _, v, h => by
  simp only [RepV] at h
  obtain ⟨c, hk, _⟩ := h
  simp only [V.under, decide_eq_true_eq]; exact hb k c hk
 | .ptr k _, v, h => by
  simp only [RepV] at h
  obtain ⟨c, hk, _⟩ := h
  simp only [V.under, decide_eq_true_eq]; exact hb k c hk
 | .dptr _, _, _ => rfl
 | .nilP, _, _ => rfl
 | .map k, v, h => by
  simp only [RepV] at h
  obtain ⟨c, hk, _⟩ := h
  simp only [V.under, decide_eq_true_eq]; exact hb k c hk
 | .nilM, _, _ => rfl
 | .fn f a c, v, h => by
  simp only [RepV] at h
  obtain ⟨vs, ws, e, h1, h2⟩ := h
  simp only [V.under, Bool.and_eq_true]; exact ⟨RepVs.isUnder hb h1, RepVs.isUnder hb h2⟩
 | .yld k, v, h => by
  simp only [RepV] at h
  obtain ⟨c, hk, _⟩ := h
  simp only [V.under, decide_eq_true_eq]; exact hb k c hk
 | .nilF, _, _ => rfl
 | .agg l, v, h => by
  simp only [RepV] at h
  obtain ⟨vs, e, h⟩ := h
  simp only [V.under]; exact RepVs.isUnder hb h
 | .tup l, v, h => by
  simp only [RepV] at h
  obtain ⟨vs, e, h⟩ := h
  simp only [V.under]; exact RepVs.isUnder hb h
theorem RepVs.isUnder {b : Nat} (hb : ∀ k x, g.blk k = some x → k < b) : ∀ {l : List V} {vs : List Value}, RepVs g l vs → V.underL b l = true
 | [], _, _ => rfl
 | x :: l, vs, h => by
  simp only [RepVs] at h
  obtain ⟨v, ws, e, h1, h⟩ := h
  simp only [V.underL, Bool.and_eq_true]; exact ⟨RepV.isUnder hb h1, RepVs.isUnder hb h⟩
end
theorem RepM.restrict {g0 g1 g2 : Gh} {b : Nat} (h0 : ∀ k x, g0.blk k = some x → k < b) (hb : ∀ k, k < b → ∀ x, g1.blk k = some x → g2.blk k = some x ∧ g2.sz k = g1.sz k ∧ g2.tot k = g1.tot k ∧ g2.sh k = g1.sh k) (hH : g1.H.le g2.H) {kt : TypeId} :
  ∀ {l : List (D × V)} {es fs : List MapEntry}, RepM P kt g0 l es → RepM P kt g1 l fs → RepM P kt g2 l fs
 | [], _, _, _, h => by simpa only [RepM] using h
 | (k, x) :: l, es, fs, h, h' => by
  simp only [RepM] at h h' ⊢
  obtain ⟨e, r, e1, ⟨_, _, h3⟩, h⟩ := h
  obtain ⟨f, s, e2, ⟨k1, k2, k3⟩, h'⟩ := h'
  exact ⟨f, s, e2, ⟨k1, k2.mono hH, RepV.restrict hb hH (h3.isUnder h0) k3⟩, RepM.restrict h0 hb hH h h'⟩
theorem ObjRep.restrict {g0 g1 g2 : Gh} {w0 : World} {b b0 b1 k : Nat} (h0 : ∀ k x, g0.blk k = some x → k < b) (hb : ∀ k, k < b → ∀ x, g1.blk k = some x → g2.blk k = some x ∧ g2.sz k = g1.sz k ∧ g2.tot k = g1.tot k ∧ g2.sh k = g1.sh k) (hH : g1.H.le g2.H)
  (hk : g2.sz k = g1.sz k ∧ g2.tot k = g1.tot k ∧ g2.sh k = g1.sh k) (hn : (∀ j, g1.H b1 j = none) → ∀ j, g2.H b1 j = none) : ∀ {o : Obj}, ObjRep P z0d g0 w0 b0 k o → ObjRep P z0d g1 w b1 k o → ObjRep P z0d g2 w b1 k o
 | .cells cs, ⟨_, _, a0, t0, _, _, _, h5⟩, ⟨h1, h2, arr, ty, h3, h4, h4', h6⟩ => ⟨hk.1.trans h1, hn h2, arr, ty, h3, by rw [hk.2.1]; exact h4, by rw [hk.2.1, hk.2.2]; exact h4', by rw [hk.2.2]; exact RepVs.restrict hb hH (h5.isUnder h0) h6⟩
 | .fz ds, _, ⟨h1, h1', h2⟩ => ⟨hk.1.trans h1, by rw [hk.2.1]; exact h1', by rw [hk.2.2]; exact RepP.mono hH h2⟩
 | .map kt es, ⟨_, _, _, _, h⟩, ⟨h1, en, cl, h2, h3⟩ => ⟨h1, en, cl, h2, RepM.restrict h0 hb hH h h3⟩
 | .loop env ps asg body ls pend, ⟨L0, _, h, _⟩, ⟨L, h1, h2, h3⟩ => ⟨L, h1, RepVs.restrict hb hH (h.isUnder h0) h2, h3⟩
 | .iter s pos, _, ⟨h0, bs, h1, h2⟩ => ⟨hk.2.2.trans h0, bs, h1, h2⟩
 | .dfr, _, _ => trivial
noncomputable def popG (st : St) (g : Gh) (st1 : St) (g1 : Gh) (w1 : World) : Gh := { H := z3b st1 g1 w1 st.next, blk := g.blk, sz := g.sz, tot := g.tot, sh := g.sh }
theorem y1a {st1 : St} {g1 : Gh} {w1 : World} (hi : Inv P z0d st g w) (hi1 : Inv P z0d st1 g1 w1) (hs : Step st g w st1 g1 w1) (hn : NewK st g g1) (hlo : ∀ k, k < st.next → sget st1.s k = sget st.s k) :
  Inv P z0d st (popG st g st1 g1 w1) w1 ∧ Step st g w st (popG st g st1 g1 w1) w1 ∧ (∀ k, k < st.next → ∀ x, g1.blk k = some x → (popG st g st1 g1 w1).blk k = some x ∧ (popG st g st1 g1 w1).sz k = g1.sz k ∧ (popG st g st1 g1 w1).tot k = g1.tot k ∧ (popG st g st1 g1 w1).sh k = g1.sh k) := by
 have hb : ∀ k, k < st.next → ∀ x, g1.blk k = some x → g.blk k = some x ∧ g.sz k = g1.sz k ∧ g.tot k = g1.tot k ∧ g.sh k = g1.sh k := fun k hk x hx => by
  rcases hn k x hx with h1 | h1
  ·have := hs.ext.blk k x h1
   exact ⟨h1, this.2.1.symm, this.2.2.symm, (hs.ext.sh k x h1).symm⟩
  ·omega
 have hle := z7c hi1 st.next
 refine ⟨⟨fun k b h => ⟨(hi.u k b h).1, Nat.lt_of_lt_of_le (hi.u k b h).2 hs.size⟩, fun b o v h => z88 hi1 h, hi.inj, fun k o ho => ?_⟩, ⟨⟨fun b o v h => hle b o v (hs.ext.H b o v h), fun k b h => ⟨h, rfl, rfl⟩, fun _ _ _ => rfl⟩, Nat.le_refl _, hs.size, hs.os, hs.tape, hs.output, hs.same, fun b o v h => ?_, fun b h => .inr h⟩, hb⟩
 ·obtain ⟨b, h1, h2⟩ := hi.obj k o ho
  have hk := (hi.u k b h1).1
  obtain ⟨b1, h3, h4⟩ := hi1.obj k o (by rw [hlo k hk]; exact ho)
  have h5 := hs.ext.blk k b h1
  rw [h5.1] at h3
  cases h3
  refine ⟨b, h1, ObjRep.restrict (g2 := popG st g st1 g1 w1) (fun k x hx => (hi.u k x hx).1) hb hle ⟨h5.2.1.symm, h5.2.2.symm, (hs.ext.sh k b h1).symm⟩ (fun hh j => ?_) h2 h4⟩
  show z3b st1 g1 w1 st.next b j = none
  unfold z3b
  rw [if_neg]
  ·exact hh j
  ·rintro ⟨k', cs, h6, h7, h8⟩
   have := hi1.inj k' k b _ _ h7 (by rw [hlo k hk]; exact ho) h8 h5.1
   omega
 ·have h' : z3b st1 g1 w1 st.next b o = some v := h
  unfold z3b at h'
  split at h'
  ·rename_i hex
   obtain ⟨k', cs, _, h7, h8⟩ := hex
   exact .inr (hs.live b ⟨k', _, h7, h8⟩)
  ·exact hs.Hn b o v h'
theorem zja {st1 : St} {g1 : Gh} {w1 : World} (hi1 : Inv P z0d st1 g1 w1) {g2 : Gh} {b : Nat} (hb : ∀ k, k < b → ∀ x, g1.blk k = some x → g2.blk k = some x ∧ g2.sz k = g1.sz k ∧ g2.tot k = g1.tot k ∧ g2.sh k = g1.sh k) (hH : g2.H = z3b st1 g1 w1 b) :
  ∀ {vs us : List V} {ws : List Value}, z6b st1.s b vs = some us → RepVs g1 vs ws → RepVs g2 us ws
 | [], us, ws, h, hr => by
  simp only [z6b, Option.some.injEq] at h
  subst h
  simpa only [RepVs] using hr
 | v :: vs, us, ws, h, hr => by
  simp only [RepVs] at hr
  obtain ⟨u, ws', rfl, h1, hr⟩ := hr
  simp only [z6b] at h
  split at h
  ·cases h
  ·rename_i x hx
   simp only [Option.map_eq_some_iff] at h
   obtain ⟨us', h2, rfl⟩ := h
   refine z0u.2 ⟨?_, zja hi1 hb hH h2 hr⟩
   unfold outV at hx
   split at hx
   ·rename_i hun
    cases hx
    exact RepV.restrict hb (hH ▸ z7c hi1 b) hun h1
   ·simp only [Option.map_eq_some_iff] at hx
    obtain ⟨d, hd, rfl⟩ := hx
    simp only [RepV]
    rw [hH]
    exact zcw hi1 b _ hd h1
def z8w (H : Still) : Gh := { H := H, blk := fun _ => none, sz := fun _ => 0, tot := fun _ => 0, sh := fun _ => 0 }
def st0 : St := { s := [], next := 0, low := 0 }
theorem z9d {H : Still} (hH : ∀ b o v, H b o = some v → w.cell? ⟨b, o, none⟩ = some v) : Inv P z0d st0 (z8w H) w :=
 ⟨fun k b h => (by cases h), hH, fun i j b o x h => (by cases h), fun k o h => (by cases h)⟩
theorem z77 {H : Still} {b : Nat} : ¬ Live st0 (z8w H) b := fun ⟨_, _, h, _⟩ => (by cases h)
theorem z5q {H : Still} {st1 : St} {g1 : Gh} {w1 : World} (hs : Step st0 (z8w H) w st1 g1 w1) {b : Nat} (hb : b < w.heap.size) : w1.heap[b]? = w.heap[b]? := hs.same b hb z77
theorem zmf {st1 : St} {g1 : Gh} {w1 : World} (hi : Inv P z0d st g w) (hi1 : Inv P z0d st1 g1 w1) (hs : Step st0 (z8w g.H) w st1 g1 w1) :
  Inv P z0d st { g with H := z3b st1 g1 w1 0 } w1 ∧ Step st g w st { g with H := z3b st1 g1 w1 0 } w1 := by
 have hle : g.H.le (z3b st1 g1 w1 0) := fun b o v h => z7c hi1 0 b o v (hs.ext.H b o v h)
 have hnew : ∀ b o v, z3b st1 g1 w1 0 b o = some v → g.H b o = some v ∨ w.heap.size ≤ b := fun b o v h => by
  unfold z3b at h
  split at h
  ·rename_i hex
   obtain ⟨k', cs, _, h7, h8⟩ := hex
   rcases hs.live b ⟨k', _, h7, h8⟩ with h9 | h9
   ·exact .inr h9
   ·exact absurd h9 z77
  ·rcases hs.Hn b o v h with h9 | h9 | h9
   ·exact .inl h9
   ·exact .inr h9
   ·exact absurd h9 z77
 have hx : Ext g { g with H := z3b st1 g1 w1 0 } := ⟨hle, fun k b h => ⟨h, rfl, rfl⟩, fun _ _ _ => rfl⟩
 refine ⟨⟨fun k b h => ⟨(hi.u k b h).1, Nat.lt_of_lt_of_le (hi.u k b h).2 hs.size⟩, fun b o v h => z88 hi1 h, hi.inj, fun k o ho => ?_⟩, ⟨hx, Nat.le_refl _, hs.size, hs.os, hs.tape, hs.output, fun b hb _ => z5q hs hb, fun b o v h => (hnew b o v h).imp id .inl, fun b h => .inr h⟩⟩
 obtain ⟨b, h1, h2⟩ := hi.obj k o ho
 have hlt := (hi.u k b h1).2
 refine ⟨b, h1, h2.mono hx ⟨rfl, rfl⟩ rfl (z5q hs hlt) fun hh j => ?_⟩
 cases e : z3b st1 g1 w1 0 b j with
 | none => exact e
 | some v =>
  rcases hnew b j v e with h3 | h3
  ·rw [hh j] at h3; cases h3
  ·omega
theorem z8d {H : Still} {st1 : St} {g1 : Gh} {w1 : World} (hi : Inv P z0d st g w) (hs : Step st0 (z8w H) w st1 g1 w1) : Inv P z0d st g w1 ∧ Step st g w st g w1 := by
 refine ⟨⟨fun k b h => ⟨(hi.u k b h).1, Nat.lt_of_lt_of_le (hi.u k b h).2 hs.size⟩, fun b o v h => ?_, hi.inj, fun k o ho => ?_⟩, ⟨Ext.refl g, Nat.le_refl _, hs.size, hs.os, hs.tape, hs.output, fun b hb _ => z5q hs hb, fun b o v h => .inl h, fun b h => .inr h⟩⟩
 ·have := hi.H b o v h
  rw [z4v (z5q hs (zeb this))]; exact this
 ·obtain ⟨b, h1, h2⟩ := hi.obj k o ho
  exact ⟨b, h1, h2.mono (Ext.refl g) ⟨rfl, rfl⟩ rfl (z5q hs (hi.u k b h1).2) fun hh => hh⟩
theorem zrh {ys : List V} {es : List D} {us : List Value} (hi : Inv P z0d st g w) (h : z0p [] 0 ys = some es) (hr : RepVs g ys us) : RepC g.H es us := by
 have hi' : Inv P z0d { s := [], next := st.next, low := 0 } g w := ⟨hi.u, hi.H, fun i j b o x h => (by cases h), fun k o h => (by cases h)⟩
 have h1 := z3w hi' 0 h hr
 have h2 : z3b { s := [], next := st.next, low := 0 } g w 0 = g.H := by
  funext b o
  unfold z3b
  rw [if_neg]
  rintro ⟨k, cs, _, h, _⟩
  cases h
 rwa [h2] at h1
theorem zis : ∀ {ps : List Nat} {env env1 args : List V} {us : List Value} {tmps : Array Value}, z9u env ps args = some env1 → RepVs g env tmps.toList → RepVs g args us →
  ps.length = us.length ∧ RepVs g env1 ((ps.zip us).foldl (fun t (p : Nat × Value) => t.setIfInBounds p.1 p.2) tmps).toList
 | [], env, env1, [], us, tmps, h, henv, hr => by
  simp only [z9u, Option.some.injEq] at h
  subst h
  simp only [RepVs] at hr
  subst hr
  exact ⟨rfl, henv⟩
 | [], env, env1, a :: as, us, tmps, h, _, _ => by simp [z9u] at h
 | p :: ps, env, env1, [], us, tmps, h, _, _ => by simp [z9u] at h
 | p :: ps, env, env1, v :: vs, us, tmps, h, henv, hr => by
  simp only [RepVs] at hr
  obtain ⟨u, us', rfl, h1, hr⟩ := hr
  simp only [z9u] at h
  have h2 := za3 (a := { tmps := tmps, defers := [] }) (dst := some p) henv h1
  obtain ⟨h3, h4⟩ := zis h (tmps := tmps.setIfInBounds p u) (by simpa [setE, Act.put] using h2) hr
  exact ⟨by simp [h3], by simpa using h4⟩
end Go.Lift
namespace Go.Lift
open Go
variable {P : Program} {st : St} {g : Gh} {w : World}
def zsi (P : Program) (G : Nat → Option IFun) : Prop :=
 ∀ f F, G f = some F → ∃ fn, P.funcs[f]? = some fn ∧ (fn.name == "runtime.NumGoroutine") = false ∧ Comp P fn F
theorem zdx {G : Nat → Option IFun} (hG : zsi P G) {f : Nat} {F : IFun} (hf : G f = some F) {first cap : List V} {u : Value} {us : Array Value} (hu : RepV g (.fn f first cap) u) :
  ∃ d vs ws, u = .func (.func f) vs ws ∧ RepVs g first vs.toList ∧ RepVs g cap ws.toList ∧ (Deferred.ofValue u us).run P w = .ok d w ∧ (invoke d.target d.args).run P w = .ok (.enter f (vs ++ us ++ ws)) w := by
 obtain ⟨fn, h1, h2, _, _, h3⟩ := hG f F hf
 simp only [RepV] at hu
 obtain ⟨vs, ws, rfl, ha, hb⟩ := hu
 have hbody : fn.body.isNone = false := by
  cases e : fn.body with
  | none => rw [e] at h3; cases h3
  | some c => rfl
 refine ⟨{ target := .fn (.func f) ws, args := vs ++ us }, vs, ws, rfl, ha, hb, rfl, ?_⟩
 have hn : fn.name ≠ "runtime.NumGoroutine" := fun e => by rw [e] at h2; simp at h2
 have hb' : fn.body ≠ none := fun e => by rw [e] at hbody; cases hbody
 simp [invoke, callFunc, h1, hn, hb']
theorem zrc {G : Nat → Option IFun} (hG : zsi P G) : ∀ n, zgp P (call G n)
 | 0 => fun f first cap args st r st' h => by simp [call] at h
 | n + 1 => fun f first cap args st r st' h g w u us hu => by
  simp only [call] at h
  split at h
  ·cases h
  ·rename_i F hf
   obtain ⟨d, vs, ws, _, _, _, h1, h2⟩ := zdx hG hf (w := w) (us := us) hu
   exact ⟨d, _, h1, h2⟩
theorem zd1 {cl : z11} (hcl : z39 P cl) (hent : zgp P cl) (hmix : P.follows .mixedOrders = true) {n k : Nat} {args : List V} {r : V} {st' : St} (h : z3j cl n k args st = some (r, st')) {us : Array Value} {u : Value}
  (hi : Inv P z0d st g w) (hu : RepV g (.yld k) u) (hr : RepVs g args us.toList) : Upon P st g w r st' (((do let d ← Deferred.ofValue u us; invoke d.target d.args : Sem Next)).run P w) := by
 simp only [RepV] at hu
 obtain ⟨l, hl, rfl⟩ := hu
 unfold z3j at h
 split at h
 ·rename_i env ps asg body ho
  obtain ⟨l', hl', L, hL, q1, q2, ⟨nf, q3, q4⟩, q5, q6, q7⟩ := hi.obj k _ ho
  obtain rfl : l = l' := Option.some.inj (hl.symm.trans hl')
  split at h
  ·cases h
  ·rename_i env1 hps
   obtain ⟨hlen, henv1⟩ := zis hps q1 hr
   have hsz : us.size = L.params.size := by
    have h0 : L.params.toList.length = us.toList.length := by rw [q2]; exact hlen
    simpa using h0.symm
   have hrun : ((do let d ← Deferred.ofValue (.func (.yield l) #[] #[]) us; invoke d.target d.args : Sem Next)).run P w =
     .ok (.round l L.fn ((L.params.zip us).foldl (fun tmps (t, a) => tmps.setIfInBounds t a) L.tmps) L.assign L.body) w := by
    simp [Deferred.ofValue, invoke, Instr.yield, Instr.getLoop, getObj, Sem.run, hL, hsz]
   rw [hrun]
   show RoundIn Fence.wide 0 P l L.fn _ L.assign L.body w (Ret P st g w r st')
   have hfold : ((L.params.zip us).foldl (fun tmps (t, a) => tmps.setIfInBounds t a) L.tmps) = ((ps.zip us.toList).foldl (fun t (p : Nat × Value) => t.setIfInBounds p.1 p.2) L.tmps) := by
    rw [← Array.foldl_toList, Array.toList_zip, q2]
   split at h
   ·rename_i env2 st2 he1
    split at h
    ·rename_i e2 p2 a2 b2 ho2
     split at h
     ·rename_i x env3 st3 he3
      split at h
      ·rename_i e3 p3 c3 b3 ho3
       refine roundIn_of_wpIn trivial ?_
       rw [← q3] at he1
       refine zi1 (lo := w.heap.size) (Ds := []) (rd := some k) (ro := some l) hcl hent hmix L.assign he1 hi (by rw [hfold]; exact henv1) rfl Marks.nil (Nat.le_refl _) ⟨l, rfl, hl⟩ fun a1 w1 haft => ?_
       obtain ⟨g1, Ds1, h1, h2, h3, h4, h5, h6⟩ := haft
       have hb1 := (h3.ext.blk k l hl).1
       obtain ⟨l2, hl2, L2, hL2, r1, r2, r34, r5, r6, r7⟩ := h2.obj k _ ho2
       rw [hb1] at hl2
       cases hl2
       have hlt1 : l < w1.heap.size := (h2.u k l hb1).2
       have hbeg : (Instr.beginRound l).run P w1 = .ok () (World.put w1 l (.loop { L2 with state := .busy })) := by
        simp [Instr.beginRound, Instr.getLoop, getObj, setObj, Sem.run, hL2, World.put, r5]
       refine ⟨_, hbeg, ?_⟩
       have hH1 := z93 h2 hL2 (by simp)
       obtain ⟨i4, s4⟩ := h2.write (o' := .loop e2 p2 a2 b2 .busy none) ho2 hb1 (w' := World.put w1 l (.loop { L2 with state := .busy })) z53 rfl rfl rfl (fun c hc => z1e hc) (fun j v hv => by rw [hH1] at hv; cases hv)
        ⟨{ L2 with state := .busy }, z3k hlt1, r1, r2, r34, rfl, (fun x hx => by cases hx), fun _ => r7 rfl⟩
       rw [← q4] at he3
       refine zi1 (lo := w.heap.size) (Ds := Ds1) (rd := some k) (ro := some l) hcl hent hmix L.body he3 i4 h1 h5 (h6.step s4) (Nat.le_trans h3.size s4.size) ⟨l, rfl, hb1⟩ fun a3 w3 haft3 => ?_
       obtain ⟨g3, Ds3, t1, t2, t3, t4, _, _⟩ := haft3
       have hb3 := (t3.ext.blk k l hb1).1
       obtain ⟨l3, hl3, L3, hL3, u1, u2, u34, u5, u6, u7⟩ := t2.obj k _ ho3
       rw [hb3] at hl3
       cases hl3
       have hlt3 : l < w3.heap.size := (t2.u k l hb3).2
       have hH3 := z93 t2 hL3 (by simp)
       have hs3 := (h3.trans s4).trans t3
       have hn3 : NewK st g g3 := (NewK.trans h4 h3.next (st1 := st2) (fun j b hb => .inl hb : NewK st2 g1 g1)).trans (Nat.le_trans h3.next s4.next) t4
       have fin : ∀ (jump : Option Code) (pend : Option Ex) (ls : LoopState), (if jump.isNone then LoopState.ready else .done) = ls → (∀ x, pend = some x → jump = zx3 x ∧ x ≠ .nrm) → (pend = none → jump = none) → r = .d (.bool jump.isNone) → st' = st3.set k (.loop e3 p3 c3 b3 ls pend) →
         ∃ v w', (Instr.endRound l jump).run P w3 = .ok v w' ∧ Ret P st g w r st' (.returned v) w' := by
        intro jump pend ls hls hp1 hp2 hrr hst'
        subst hrr
        subst hst'
        refine ⟨.bool jump.isNone, World.put w3 l (.loop { L3 with state := if jump.isNone then .ready else .done, pending := jump }), ?_, .bool jump.isNone, rfl, g3, ?_, ?_⟩
        ·simp [Instr.endRound, Instr.getLoop, getObj, setObj, Sem.run, hL3, World.put]
        ·simp only [RepV, RepD]
        ·obtain ⟨i5, s5⟩ := t2.write (o' := .loop e3 p3 c3 b3 ls pend) ho3 hb3 (w' := World.put w3 l (.loop { L3 with state := if jump.isNone then .ready else .done, pending := jump })) z53 rfl rfl rfl (fun c hc => z1e hc) (fun j v hv => by rw [hH3] at hv; cases hv)
          ⟨{ L3 with state := if jump.isNone then .ready else .done, pending := jump }, z3k hlt3, u1, u2, u34, hls, hp1, hp2⟩
         exact ⟨i5, hs3.trans s5, hn3⟩
       cases x with
       | nrm =>
        simp only [Option.some.injEq, Prod.mk.injEq] at h
        exact fin none none .ready rfl (fun x hx => by cases hx) (fun _ => rfl) h.1.symm h.2.symm
       | brk id =>
        simp only [Option.some.injEq, Prod.mk.injEq] at h
        exact fin (some (.exit id)) (some (.brk id)) .done rfl (fun x hx => by cases hx; exact ⟨rfl, by simp⟩) (fun hx => by cases hx) h.1.symm h.2.symm
       | ret =>
        simp only [Option.some.injEq, Prod.mk.injEq] at h
        exact fin (some .ret) (some .ret) .done rfl (fun x hx => by cases hx; exact ⟨rfl, by simp⟩) (fun hx => by cases hx) h.1.symm h.2.symm
      ·cases h
     ·cases h
    ·cases h
   ·cases h
 ·cases h
theorem zrv {G : Nat → Option IFun} (hG : zsi P G) (hmix : P.follows .mixedOrders = true) : ∀ n, z39 P (call G n)
 | 0 => fun v args st r st' h => by simp [call] at h
 | n + 1 => fun v args st r st' h g w u us hi hu hr => by
  have hcl := zrv hG hmix n
  have hent := zrc hG n
  have hlow := zps (G := G) n
  cases v <;> simp only [call] at h <;> try (cases h; done)
  case yld k => exact zd1 hcl hent hmix h hi hu hr
  case fn f first cap =>
   split at h
   ·cases h
   ·rename_i F hF
    obtain ⟨d, vs, ws, rfl, hfirst, hcap, hd1, hd2⟩ := zdx hG hF (w := w) (us := us) hu
    obtain ⟨fn, hf, _, hcomp⟩ := hG f F hF
    have hall : RepVs g (first ++ args ++ cap) (vs ++ us ++ ws).toList := by
     simp only [Array.toList_append]
     exact RepVs.append (RepVs.append hfirst hr) hcap
    have hrun : ((do let d ← Deferred.ofValue (.func (.func f) vs ws) us; invoke d.target d.args : Sem Next)).run P w = .ok (.enter f (vs ++ us ++ ws)) w := by
     simp [hd1, hd2]
    rw [hrun]
    show CallsIn Fence.wide 0 P f (vs ++ us ++ ws) w (Ret P st g w r st')
    split at h
    ·rename_i hnil
     simp only [Bool.and_eq_true] at hnil
     have hds' : first ++ args ++ cap = [.d (.sl [])] := by
      have h2 := hnil.2
      unfold zjw at h2
      split at h2
      ·rename_i e; exact e
      ·cases h2
     rw [hds'] at hall
     split at h
     ·rename_i vs1 st1 vs2 st2 hb1 hb2
      split at h
      ·rename_i rs1 rs2 hr1 hr2
       split at h
       ·rename_i hfl
        cases h
        simp only [Bool.and_eq_true] at hfl
        have he := D.eq_of_beqL hfl.2
        subst he
        simp only [RepVs] at hall
        obtain ⟨v, _, hv, hrv, rfl⟩ := hall
        simp only [RepV, RepD] at hrv
        obtain ⟨a, c, rfl, ⟨_, hnn⟩, _⟩ := hrv
        have hcd := z9d (H := g.H) (P := P) (w := w) hi.H
        cases a with
        | none =>
         obtain rfl := hnn rfl
         refine zb9 (g := z8w g.H) (w := w) hcl hent hmix hf hcomp hb1 hcd (by rw [hv]; exact z0u.2 ⟨rfl, z1c⟩) fun zs w1 g1 hz hi1 hs1 _ => ?_
         obtain ⟨i2, s2⟩ := z8d hi hs1
         exact ⟨_, rfl, g, zbo (z10.2 (z99 hfl.1 (z3w hi1 0 hr1 hz))), i2, s2, NewK.refl⟩
        | some a =>
         refine zb9 (g := z8w g.H) (w := w) hcl hent hmix hf hcomp hb2 hcd (by rw [hv]; exact z0u.2 ⟨⟨a, c, rfl⟩, z1c⟩) fun zs w1 g1 hz hi1 hs1 _ => ?_
         obtain ⟨i2, s2⟩ := z8d hi hs1
         exact ⟨_, rfl, g, zbo (z10.2 (z99 hfl.1 (z3w hi1 0 hr2 hz))), i2, s2, NewK.refl⟩
       ·cases h
      ·cases h
     ·cases h
    split at h
    ·split at h
     ·cases h
     ·rename_i ds hds
      split at h
      ·cases h
      ·rename_i vs1 st1 hbody
       split at h
       ·cases h
       ·rename_i rs hrs
        split at h
        ·rename_i hflat
         cases h
         have hc1 := z3w hi 0 hds hall
         refine zb9 (g := z8w (z3b st g w 0)) (w := w) hcl hent hmix hf hcomp hbody (z9d fun b o v h => z88 hi h) (z10.2 hc1) fun zs w1 g1 hz hi1 hs1 _ => ?_
         obtain ⟨i2, s2⟩ := z8d hi hs1
         exact ⟨_, rfl, g, zbo (z10.2 (z99 hflat (z3w hi1 0 hrs hz))), i2, s2, NewK.refl⟩
        ·split at h
         ·cases h
         ·rename_i ys st2 hfrz
          split at h
          ·cases h
          ·rename_i es hes
           split at h
           ·rename_i heq
            cases h
            obtain ⟨g2, hg2, hys⟩ := zdt (fun hi h hr => zk0 _ hi h hr) hi hfrz hall
            have hc2 := zrh hg2.inv hes hys
            rw [D.eq_of_beqL heq] at hc2
            refine zb9 (g := z8w g2.H) (w := w) hcl hent hmix hf hcomp hbody (z9d hg2.inv.H) (z10.2 hc2) fun zs w1 g1 hz hi1 hs1 _ => ?_
            obtain ⟨i2, s2⟩ := zmf hg2.inv hi1 hs1
            exact ⟨_, rfl, _, zbo (z10.2 (z3w hi1 0 hrs hz)), i2, hg2.step.trans s2, fun k b hb => .inl (by rw [← hg2.blk]; exact hb)⟩
           ·cases h
    ·split at h
     ·cases h
     ·rename_i vs1 st1 hbody
      have hlo := zpt hlow hbody
      have hi0 : Inv P z0d { s := st.s, next := st.next, low := st.next } g w := ⟨hi.u, hi.H, hi.inj, hi.obj⟩
      refine zb9 (g := g) (w := w) hcl hent hmix hf hcomp hbody hi0 hall fun zs w1 g1 hz hi1 hs1 hn1 => ?_
      split at h
      ·rename_i hpop
       simp only [Bool.and_eq_true, decide_eq_true_eq] at hpop
       split at h
       ·cases h
       ·rename_i os hos
        cases h
        have hs1' : Step st g w st1 g1 w1 := ⟨hs1.ext, hs1.next, hs1.size, hs1.os, hs1.tape, hs1.output, hs1.same, hs1.Hn, hs1.live⟩
        obtain ⟨i2, s2, hb2⟩ := y1a hi hi1 hs1' hn1 fun k hk => hlo.same k (Nat.lt_of_lt_of_le hk hpop.2) hk
        exact ⟨_, rfl, _, zbo (zja hi1 hb2 rfl hos hz), i2, s2, fun k b hb => .inl hb⟩
      ·cases h
       exact ⟨_, rfl, g1, zbo hz, ⟨hi1.u, hi1.H, hi1.inj, hi1.obj⟩, ⟨hs1.ext, hs1.next, hs1.size, hs1.os, hs1.tape, hs1.output, hs1.same, hs1.Hn, hs1.live⟩, hn1⟩
end Go.Lift
