/- Part A2 of the proof. -/
import Derived.Test.YtgdgkmackccopaaGreatDoorA1
import Derived.Laws.Tables
import Derived.Great.BuildSlice
import Derived.Laws.AppendOwn
set_option linter.all false
namespace Go.Lift
open Go
variable {P : Program} {st : St} {g : Gh} {w : World}
def Does (P : Program) (s : Sem Next) (st : St) (g : Gh) (w : World) (v : V) (st' : St) (new : Nat → Prop) : Prop :=
 ∃ u w' g', (s.run P w = .ok (.value u) w' ∨ (s.run P w = .ok .skip w' ∧ u = Go.undef)) ∧ RepV g' v u ∧ Inv P z0d st' g' w' ∧ Step st g w st' g' w' ∧ ∀ k b, g'.blk k = some b → g.blk k = some b ∨ new k
theorem Does.val {new : Nat → Prop} (hi : Inv P z0d st g w) {s : Sem Value} {v : V} {u : Value} (h : s.run P w = .ok u w) (hr : RepV g v u) :
  Does P (do pure (.value (← s))) st g w v st new :=
 ⟨u, w, g, .inl (by simp [h]), hr, hi, Step.refl st g w, fun _ _ h => .inl h⟩
theorem Does.made {new : Nat → Prop} {s : Sem Value} {v : V} {u : Value} {w' : World} {g' : Gh} {st' : St} (h : s.run P w = .ok u w') (hr : RepV g' v u) (hi : Inv P z0d st' g' w') (hs : Step st g w st' g' w')
  (hn : ∀ k b, g'.blk k = some b → g.blk k = some b ∨ new k) : Does P (do pure (.value (← s))) st g w v st' new :=
 ⟨u, w', g', .inl (by simp [h]), hr, hi, hs, hn⟩
theorem Does.done {new : Nat → Prop} {s : Sem Unit} {w' : World} {g' : Gh} {st' : St} (h : s.run P w = .ok () w') (hi : Inv P z0d st' g' w') (hs : Step st g w st' g' w')
  (hn : ∀ k b, g'.blk k = some b → g.blk k = some b ∨ new k) : Does P (do s; pure .skip) st g w .undef st' new :=
 ⟨Go.undef, w', g', .inr ⟨by simp [h], rfl⟩, z50, hi, hs, hn⟩
theorem zk3 {off n : Nat} {ag : Bool} {t : TypeId} {x y : V} {v : Value} (hn : z4b P t = some n) (ha : tagg P t = some ag) (hag : (ag || n == 1) = true)
  (h : z82 off n ag x = some y) (hx : RepV g x v) : ∃ cs u, v = .agg cs ∧ (part t cs off).run P w = .ok u w ∧ RepV g y u := by
 have key : ∀ (cs : Array Value) (us : List Value), us = (cs.toList.drop off).take n → us.length = n →
   ∃ u, (part t cs off).run P w = .ok u w ∧ (ag = true → u = .agg us.toArray) ∧ (ag = false → us = [u]) := by
  intro cs us hu hl
  cases ag with
  | true =>
   refine ⟨.agg us.toArray, ?_, fun _ => rfl, fun e => (by cases e)⟩
   simp only [part, Sem.run_bind, z5y ha, Result.andThen_ok, if_true, z1t hn, Sem.run_pure]
   congr 2
   apply Array.ext'
   rw [hu]
   simp [Array.toList_extract, List.extract_eq_take_drop]
  | false =>
   simp only [Bool.false_or, beq_iff_eq] at hag
   obtain ⟨u, rfl⟩ := List.length_eq_one_iff.1 (hl.trans hag)
   refine ⟨u, ?_, fun e => (by cases e), fun _ => rfl⟩
   have h1 : cs[off]? = some u := by
    have : ([u] : List Value)[0]? = some u := by simp
    rw [hu] at this
    have := (z35 this).1
    rw [List.getElem?_drop] at this
    simpa using this
   simp [part, z5y ha, h1]
 unfold z82 at h
 split at h
 ·rename_i l
  simp only [RepV] at hx
  obtain ⟨cs, rfl, hr⟩ := hx
  split at h
  ·rename_i hle
   have hl := hr.length
   obtain ⟨u, hu, h1, h2⟩ := key cs _ rfl (by simp at hl ⊢; omega)
   refine ⟨cs, u, rfl, hu, ?_⟩
   have hk := zc4 h (RepVs.take n (RepVs.drop off hr))
   cases ag with
   | true => rw [h1 rfl]; exact hk.1 rfl
   | false =>
    obtain ⟨u', e, h3⟩ := hk.2 rfl
    rw [h2 rfl] at e
    cases e
    exact h3
  ·cases h
 ·rename_i l
  simp only [RepV, RepD] at hx
  obtain ⟨cs, rfl, hr⟩ := hx
  split at h
  ·rename_i hle
   have hl := hr.length
   obtain ⟨u, hu, h1, h2⟩ := key cs _ rfl (by simp at hl ⊢; omega)
   refine ⟨cs, u, rfl, hu, ?_⟩
   have hk := za7 h (RepC.take n (RepC.drop off hr))
   cases ag with
   | true => rw [h1 rfl]; exact hk.1 rfl
   | false =>
    obtain ⟨u', e, h3⟩ := hk.2 rfl
    rw [h2 rfl] at e
    cases e
    exact h3
  ·cases h
 ·cases h
theorem RepP.drop {H : Still} {b : Nat} : ∀ {l : List D} {o : Nat} (n : Nat), RepP H b l o → RepP H b (l.drop n) (o + n)
 | [], _, n, _ => by simp [RepP]
 | x :: l, o, 0, h => by simpa using h
 | x :: l, o, n + 1, h => by
  simp only [RepP] at h
  have := RepP.drop n h.2
  simpa [Nat.add_assoc, Nat.add_comm 1 n] using this
theorem z6x {t : TypeId} {i off n : Nat} {u : TypeId} (hf : fieldAt? P t i = some (off, n, u)) : ∃ fs f, P.underlying t = some (.struct fs) ∧ fs[i]? = some f ∧ f.offset = off ∧ f.type = u ∧ z4b P u = some n := by
 unfold fieldAt? at hf
 split at hf
 ·rename_i fs hu
  split at hf
  ·rename_i f hfi
   split at hf
   ·rename_i m hm
    cases hf
    exact ⟨fs, f, hu, hfi, rfl, rfl, hm⟩
   ·cases hf
  ·cases hf
 ·cases hf
theorem zut {off : Nat} {x y : V} {v : Value} {t : TypeId} {i n : Nat} {u : TypeId} (hf : fieldAt? P t i = some (off, n, u)) (h0 : 0 < n)
  (h : opFaddr off x = some y) (hx : RepV g x v) : ∃ u, (Instr.fieldAt t v i).run P w = .ok u w ∧ RepV g y u := by
 obtain ⟨fs, f, hu, hfi, rfl, rfl, hm⟩ := z6x hf
 have hrun : ∀ (b o : Nat), (Instr.fieldAt t (.pointer (some ⟨b, o, none⟩)) i).run P w = .ok (.pointer (some ⟨b, o + f.offset, none⟩)) w := by
  intro b o
  have hne : ¬ n = 0 := by omega
  simp [Instr.fieldAt, z05 hu, hfi, Instr.sureAddr, fieldPlace, z1t hm, hne, z5w]
 unfold opFaddr at h
 split at h
 ·rename_i k o
  cases h
  simp only [RepV] at hx
  obtain ⟨b, hb, rfl⟩ := hx
  exact ⟨_, hrun b _, by simp only [RepV]; exact ⟨b, hb, by rw [Nat.add_assoc]⟩⟩
 ·rename_i ds
  split at h
  ·rename_i hle
   cases h
   simp only [RepV] at hx
   obtain ⟨b, o, rfl, hp⟩ := hx
   exact ⟨_, hrun b o, by simp only [RepV]; exact ⟨b, _, rfl, hp.drop f.offset⟩⟩
  ·cases h
 ·cases h
theorem z2x {e : TypeId} {n b : Nat} {a : Bool} {z : List V} (h : z41 P e = some (n, a, b, z)) : z4b P e = some n ∧ tagg P e = some a ∧ zni P e = some b ∧ z8h P e = some z ∧ 0 < n ∧ z.length = n ∧ b ≤ 65536 := by
 unfold z41 at h
 split at h
 ·split at h
  ·cases h
   rename_i h1 h2 h3 h4 h5
   exact ⟨h1, h2, h3, h4, h5⟩
  ·cases h
 ·cases h
theorem RepL.get {H : Still} {b es : Nat} : ∀ {l : List D} {off : Nat}, RepL H b es l off → ∀ {i : Nat} {x : D}, l[i]? = some x → ∃ u, RepD H x u ∧ u.cells.size = es ∧ ∀ j, j < es → ∃ y, u.cells[j]? = some y ∧ H b (off + i * es + j) = some y
 | [], _, _, i, x, hx => by simp at hx
 | y :: l, off, h, i, x, hx => by
  simp only [RepL] at h
  cases i with
  | zero => simp at hx; subst hx; simpa using h.1
  | succ i =>
   obtain ⟨u, h1, h2, h3⟩ := RepL.get h.2 (i := i) (x := x) (by simpa using hx)
   refine ⟨u, h1, h2, fun j hj => ?_⟩
   obtain ⟨y, h4, h5⟩ := h3 j hj
   exact ⟨y, h4, by rw [show off + (i + 1) * es + j = off + es + i * es + j by rw [Nat.add_mul]; omega]; exact h5⟩
theorem zqe {es : Nat} {ag : Bool} {eb : Nat} {z : List V} {t e : TypeId} (ht : P.underlying t = some (.slice e)) (he : z41 P e = some (es, ag, eb, z)) {x y : V} {v : Value} {k : IntKind} {i : Int}
  (h : z0a es x i = some y) (hx : RepV g x v) : ∃ u, (Instr.indexAt t v (.int k i)).run P w = .ok u w ∧ RepV g y u := by
 have hes := (z2x he).1
 have hrun : ∀ (b o len cap : Nat), 0 ≤ i → i < (len : Int) → (Instr.indexAt t (.slice (some ⟨b, o, none⟩) len cap) (.int k i)).run P w = .ok (.pointer (some ⟨b, o + i.toNat * es, none⟩)) w := by
  intro b o len cap h0 h1
  by_cases hl : len ≤ 1 <;> simp [Instr.indexAt, z05 ht, asIntOf, hl, h0, h1, z1t hes, z5w]
 unfold z0a at h
 split at h
 ·rename_i k' es' ag' off len
  split at h
  ·rename_i hc
   cases h
   simp only [RepV] at hx
   obtain ⟨b, hb, o, cap, rfl, _, _, ho⟩ := hx
   obtain rfl : o = g.sh k' + off := by
    rcases ho with ho | ho
    ·exact ho
    ·omega
   exact ⟨_, hrun b _ len cap hc.1 hc.2.1, by simp only [RepV]; exact ⟨b, hb, by rw [Nat.add_assoc]⟩⟩
  ·cases h
 ·rename_i l
  split at h
  ·rename_i h0
   split at h
   ·rename_i y' hy
    split at h
    ·rename_i hlen
     cases h
     simp only [RepV, RepD] at hx
     obtain ⟨a, cap, rfl, _, hl⟩ := hx
     have hlt := (List.getElem?_eq_some_iff.1 hy).1
     rcases hl with rfl | ⟨b, off, es', rfl, hes0, hl⟩
     ·simp at hy
     ·obtain ⟨u, h1, h2, h3⟩ := hl.get hy
      have hc := (RepD.cells h1).length
      obtain rfl : es' = es := by rw [← h2, ← hlen, ← hc]; simp
      refine ⟨_, hrun b off l.length cap h0 (by omega), ?_⟩
      simp only [RepV]
      refine ⟨b, _, rfl, RepP.of_get (RepD.cells h1) fun j w' hj => ?_⟩
      have hj' : u.cells[j]? = some w' := by simpa using hj
      obtain ⟨y, h4, h5⟩ := h3 j (by rw [← h2]; exact (Array.getElem?_eq_some_iff.1 hj').1)
      rw [hj'] at h4
      cases h4
      exact h5
    ·cases h
   ·cases h
  ·cases h
 ·cases h
theorem zqh {len es : Nat} {ag : Bool} {eb : Nat} {z : List V} {t e : TypeId} (ht : P.underlying t = some (.array len e)) (he : z41 P e = some (es, ag, eb, z)) {x y : V} {v : Value} {k : IntKind} {i : Int}
  (h : z1j len es x i = some y) (hx : RepV g x v) : ∃ u, (Instr.indexAt t v (.int k i)).run P w = .ok u w ∧ RepV g y u := by
 have hes := (z2x he).1
 have hrun : ∀ (b o : Nat), 0 ≤ i → i < (len : Int) → (Instr.indexAt t (.pointer (some ⟨b, o, none⟩)) (.int k i)).run P w = .ok (.pointer (some ⟨b, o + i.toNat * es, none⟩)) w := by
  intro b o h0 h1
  by_cases hl : len ≤ 1 <;> simp [Instr.indexAt, z05 ht, asIntOf, hl, h0, h1, z1t hes, z5w, Instr.sureAddr]
 unfold z1j at h
 split at h
 ·rename_i hc
  split at h
  ·rename_i k' off
   cases h
   simp only [RepV] at hx
   obtain ⟨b, hb, rfl⟩ := hx
   exact ⟨_, hrun b _ hc.1 hc.2, by simp only [RepV]; exact ⟨b, hb, by rw [Nat.add_assoc]⟩⟩
  ·rename_i ds
   split at h
   ·cases h
    simp only [RepV] at hx
    obtain ⟨b, o, rfl, hp⟩ := hx
    exact ⟨_, hrun b o hc.1 hc.2, by simp only [RepV]; exact ⟨b, _, rfl, hp.drop _⟩⟩
   ·cases h
  ·cases h
 ·cases h
theorem zqc {len es : Nat} {ag : Bool} {eb : Nat} {z : List V} {t e : TypeId} (ht : P.underlying t = some (.array len e)) (he : z41 P e = some (es, ag, eb, z)) (hag : (ag || es == 1) = true) {x y : V} {v : Value} {k : IntKind} {i : Int}
  (h : z73 len es ag x i = some y) (hx : RepV g x v) : ∃ u, (Instr.index t v (.int k i)).run P w = .ok u w ∧ RepV g y u := by
 unfold z73 at h
 split at h
 ·rename_i hc
  obtain ⟨h1, h2, _⟩ := z2x he
  obtain ⟨cs, u, rfl, hu, hr⟩ := zk3 (w := w) h1 h2 hag h hx
  exact ⟨u, by simp [Instr.index, z05 ht, asIntOf, hc.1, hc.2, z1t h1, hu], hr⟩
 ·cases h
theorem zqa {t : TypeId} (ht : P.underlying t = some .string) {s : List Nat} {y : V} {v : Value} {k : IntKind} {i : Int}
  (h : z45 s i = some y) (hx : RepV g (.d (.str s)) v) : ∃ u, (Instr.index t v (.int k i)).run P w = .ok u w ∧ RepV g y u := by
 unfold z45 at h
 simp only [RepV, RepD] at hx
 obtain ⟨b, rfl, hb⟩ := hx
 split at h
 ·rename_i h0
  split at h
  ·rename_i c hc
   cases h
   rw [← hb, List.getElem?_map, Option.map_eq_some_iff] at hc
   obtain ⟨c', hc', rfl⟩ := hc
   have hg : b[i.toNat]? = some c' := by
    rw [← hc']
    simp only [Array.getElem?_toList]
    have hsz : b.size = b.data.size := rfl
    by_cases hlt : i.toNat < b.size
    ·rw [getElem?_pos b i.toNat hlt, getElem?_pos b.data i.toNat (hsz ▸ hlt)]; rfl
    ·rw [getElem?_neg b i.toNat hlt, getElem?_neg b.data i.toNat (hsz ▸ hlt)]
   exact ⟨.int .u8 (c'.toNat : Int), by simp [Instr.index, z05 ht, asIntOf, h0, hg], by simp [RepV, RepD]⟩
  ·cases h
 ·cases h
end Go.Lift
namespace Go.Lift
open Go
variable {P : Program} {st : St} {g : Gh} {w : World}
theorem zhl {t : TypeId} (h : z8a P t = true) : P.underlying t = some .bool := by
 unfold z8a at h
 split at h
 ·assumption
 ·cases h
theorem zbj {t : TypeId} (ht : P.underlying t = some .bool) (a b : Bool) : (Op.equal t (.bool a) (.bool b)).run P w = .ok (a == b) w := by
 unfold Op.equal Op.maxDepth
 rw [show (10000 : Nat) = 9999 + 1 from rfl, Op.equalIn]
 simp [z05 ht]
theorem y2o {t : TypeId} {x y : Operand} (ht : z8a P t = true) {a b neg : Bool} {va vb : Value} (ha : RepV g (.d (.bool a)) va) (hb : RepV g (.d (.bool b)) vb) :
  ((do eqGuard (if neg then .neq else .eql) t x y va vb; binOp (if neg then .neq else .eql) t va vb : Sem Value)).run P w = .ok (.bool ((a == b) != neg)) w := by
 simp only [RepV, RepD] at ha hb
 subst ha; subst hb
 have := fun a b => zbj (w := w) (zhl ht) a b
 cases neg <;> simp [eqGuard, binOp, this]
set_option maxHeartbeats 1000000 in
theorem zkg {t : TypeId} {kd : Nat} (ht : zgz P t = some kd) {x : V} {v : Value} {b neg : Bool} (h : zfs kd x = some b) (hx : RepV g x v) {y : Operand} {c : Value} (hy : z85 y = some kd) (hc : y = .const c) (p q : Operand) :
  ((do eqGuard (if neg then .neq else .eql) t p q v c; binOp (if neg then .neq else .eql) t v c : Sem Value)).run P w = .ok (.bool (b != neg)) w ∧
  ((do eqGuard (if neg then .neq else .eql) t p q c v; binOp (if neg then .neq else .eql) t c v : Sem Value)).run P w = .ok (.bool (b != neg)) w := by
 subst hc
 have key : ((Op.equal t v c).run P w = .ok b w ∧ (Op.equal t c v).run P w = .ok b w) ∧ ((∃ a, c = .pointer a) ∧ (∃ a, v = .pointer a) ∨ (∃ a m n, c = .slice a m n) ∧ (∃ a m n, v = .slice a m n) ∨ (∃ a, c = .map a) ∧ (∃ a, v = .map a) ∨ c = .nilFunc ∧ (v = .nilFunc ∨ ∃ a m n, v = .func a m n)) := by
  unfold zgz at ht
  unfold Op.equal Op.maxDepth
  rw [show (10000 : Nat) = 9999 + 1 from rfl, Op.equalIn, Op.equalIn]
  unfold z85 at hy
  split at ht <;> cases ht <;> rename_i ht <;> split at hy <;> cases hy <;> rename_i hy <;> cases hy <;> unfold zfs at h <;> split at h <;> rename_i e <;> cases h <;> try (cases e; done)
  all_goals simp only [RepV, RepD] at hx
  ·subst hx; simp [z05 ht]
  ·obtain ⟨b, _, o, cap, rfl, _⟩ := hx; simp [z05 ht]
  ·obtain ⟨a, cap, rfl, _, hx⟩ := hx
   rcases hx with hx | ⟨b, off, es, rfl, _⟩
   ·cases hx
   ·simp [z05 ht]
  ·obtain ⟨a, c, rfl⟩ := hx; simp [z05 ht]
  ·obtain ⟨b, _, rfl⟩ := hx; simp [z05 ht]
  ·subst hx; simp [z05 ht]
  ·obtain ⟨a, c, rfl, _⟩ := hx; simp [z05 ht]
  ·obtain ⟨b, _, rfl⟩ := hx; simp [z05 ht]
  ·subst hx; simp [z05 ht]
  ·obtain ⟨b, _, rfl⟩ := hx; simp [z05 ht]
  ·obtain ⟨b, o, rfl, _⟩ := hx; simp [z05 ht]
  ·subst hx; simp [z05 ht]
 obtain ⟨⟨h1, h2⟩, h3⟩ := key
 rcases h3 with ⟨⟨a, rfl⟩, ⟨a', rfl⟩⟩ | ⟨⟨a, m, n, rfl⟩, ⟨a', m', n', rfl⟩⟩ | ⟨⟨a, rfl⟩, ⟨a', rfl⟩⟩ | ⟨rfl, rfl | ⟨a, m, n, rfl⟩⟩ <;> cases neg <;> simp [eqGuard, binOp, h1, h2]
theorem zvc {s d : TypeId} {j k : IntKind} (hs : P.underlying s = some (.int j)) (hd : P.underlying d = some (.int k)) {x : V} {v : Value} {n : Int} (h : asI x = some n) (hx : RepV g x v) :
  (convert s d v).run P w = .ok (.int k (k.wrap n)) w := by
 obtain ⟨i, rfl⟩ := z5v h hx
 simp [convert, z05 hs, z05 hd, Conv.intToInt]
theorem zvb {s d : TypeId} {j : IntKind} (hs : P.underlying s = some (.int j)) (hd : P.underlying d = some .string) {x : V} {v : Value} {n : Int} (h : asI x = some n) (hx : RepV g x v) (h0 : 0 ≤ n) (h1 : n < 128) :
  ∃ u, (convert s d v).run P w = .ok u w ∧ RepV g (.d (.str [n.toNat])) u := by
 obtain ⟨i, rfl⟩ := z5v h hx
 refine ⟨_, by simp [convert, z05 hs, z05 hd, Conv.intToString]; rfl, ?_⟩
 simp only [RepV, RepD]
 refine ⟨_, rfl, ?_⟩
 have hv : Utf8.valid n = true := by simp [Utf8.valid]; omega
 have hn : n.toNat < 128 := by omega
 unfold Utf8.encode
 simp only [hv, if_true, hn, List.map_cons, List.map_nil]
 congr 1
 exact UInt8.toNat_ofNat_of_lt' (by show n.toNat < 256; omega)
theorem y2g {l : List V} {v : Value} {i : Nat} {x : V} (h : l[i]? = some x) (hx : RepV g (.tup l) v) : ∃ u, (Instr.extract v i).run P w = .ok u w ∧ RepV g x u := by
 simp only [RepV] at hx
 obtain ⟨vs, rfl, hr⟩ := hx
 obtain ⟨u, hu, hr⟩ := hr.get h
 have hu' : vs[i]? = some u := by simpa using hu
 exact ⟨u, by simp [Instr.extract, hu'], hr⟩
theorem zyz {t ty : TypeId} {x : V} {v : Value} {n : Nat} (ht : P.underlying t = some .string) (h : opLen true x = some n) (hx : RepV g x v) : (Builtin.len_ #[t] ty #[v]).run P w = .ok (.int .i64 (n : Int)) w := by
 unfold opLen at h
 split at h <;> rename_i e <;> cases h <;> try (cases e; done)
 simp only [RepV, RepD] at hx
 rename_i s
 obtain ⟨b, rfl, hb⟩ := hx
 have : b.size = s.length := by rw [← hb, List.length_map, Array.length_toList]; rfl
 simp [Builtin.len_, z05 ht, goInt, this]
theorem y26 {t ty e : TypeId} {x : V} {v : Value} {n : Nat} (ht : P.underlying t = some (.slice e)) (h : opLen false x = some n) (hx : RepV g x v) : (Builtin.len_ #[t] ty #[v]).run P w = .ok (.int .i64 (n : Int)) w := by
 unfold opLen at h
 split at h <;> rename_i e <;> cases h <;> try (cases e; done)
 all_goals simp only [RepV, RepD] at hx
 ·obtain ⟨a, cap, rfl, _⟩ := hx
  simp [Builtin.len_, z05 ht, goInt]
 ·subst hx
  simp [Builtin.len_, z05 ht, goInt]
 ·obtain ⟨a, c, rfl⟩ := hx
  simp [Builtin.len_, z05 ht, goInt]
 ·obtain ⟨b, _, o, cap, rfl, _⟩ := hx
  simp [Builtin.len_, z05 ht, goInt]
theorem RepM.length {kt : TypeId} : ∀ {l : List (D × V)} {es : List MapEntry}, RepM P kt g l es → es.length = l.length
 | [], _, h => by simp only [RepM] at h; simp [h]
 | (k, x) :: l, es, h => by
  simp only [RepM] at h
  obtain ⟨e, r, rfl, _, h⟩ := h
  simp [RepM.length h]
theorem zz1 (hi : Inv P z0d st g w) {t ty kt e : TypeId} {x : V} {v : Value} {n : Nat} (ht : P.underlying t = some (.map kt e))
  (h : z4k st x = some n) (hx : RepV g x v) : (Builtin.len_ #[t] ty #[v]).run P w = .ok (.int .i64 (n : Int)) w := by
 unfold z4k at h
 split at h
 ·cases h
  simp only [RepV] at hx
  subst hx
  simp [Builtin.len_, z05 ht, goInt]
 ·rename_i k
  simp only [RepV] at hx
  obtain ⟨b, hb, rfl⟩ := hx
  split at h
  ·rename_i kt' es ho
   cases h
   obtain ⟨b', hb', _, en, cl, hh, hr⟩ := hi.obj k _ ho
   obtain rfl : b = b' := Option.some.inj (hb.symm.trans hb')
   have hl := hr.length
   simp only [Array.length_toList] at hl
   have hg : (getObj b).run P w = .ok (.map en cl) w := by simp [getObj, Sem.run, hh]
   simp [Builtin.len_, z05 ht, goInt, hg, hl]
  ·cases h
 ·cases h
theorem y03 {t ty e : TypeId} {x : V} {v : Value} (ht : P.underlying t = some (.slice e)) (h : x = .nilS) (hx : RepV g x v) : (Builtin.cap_ #[t] ty #[v]).run P w = .ok (.int .i64 0) w := by
 subst h
 simp only [RepV] at hx
 subst hx; simp [Builtin.cap_, z05 ht, goInt]
end Go.Lift
namespace Go.Lift
open Go
variable {P : Program} {st : St} {g : Gh} {w : World}
def RepO (g : Gh) : Option V → Option Value → Prop
 | none, v => v = none
 | some x, v => ∃ u, v = some u ∧ RepV g x u
theorem z4w {lo hi : Option V} {lv hv : Option Value} {len most cap l h : Nat} (isS : Bool) (hb : z3d lo hi len most = some (l, h)) (hlo : RepO g lo lv) (hhi : RepO g hi hv) (hm : most ≤ cap) (hlc : len ≤ most) :
  (Instr.sliceBounds isS len cap lv hv none).run P w = .ok (l, h, cap) w ∧ l ≤ h ∧ h ≤ most := by
 unfold z3d at hb
 split at hb
 ·simp only [RepO] at hhi
  subst hhi
  split at hb
  ·simp only [RepO] at hlo
   subst hlo
   cases hb
   simp [Instr.sliceBounds, hlc]
  ·rename_i x
   obtain ⟨u, rfl, hu⟩ := hlo
   split at hb
   ·rename_i i hi
    obtain ⟨k, rfl⟩ := z5v hi hu
    split at hb
    ·rename_i hc
     cases hb
     refine ⟨by simp [Instr.sliceBounds, Instr.sliceBound, asIntOf, hc.1, hc.2], by omega, hlc⟩
    ·cases hb
   ·cases hb
 ·rename_i y
  obtain ⟨u, rfl, hu⟩ := hhi
  split at hb
  ·cases hb
  ·rename_i i hi
   obtain ⟨k, rfl⟩ := z5v hi hu
   split at hb
   ·rename_i hc
    have hc2 : i ≤ (cap : Int) := by omega
    split at hb
    ·simp only [RepO] at hlo
     subst hlo
     cases hb
     refine ⟨by simp [Instr.sliceBounds, Instr.sliceBound, asIntOf, hc.1, hc2], by omega, by omega⟩
    ·rename_i x
     obtain ⟨u', rfl, hu'⟩ := hlo
     split at hb
     ·rename_i j hj
      obtain ⟨k', rfl⟩ := z5v hj hu'
      split at hb
      ·rename_i hd
       cases hb
       have hd2 : j ≤ (i.toNat : Int) := by omega
       refine ⟨by simp [Instr.sliceBounds, Instr.sliceBound, asIntOf, hc.1, hc2, hd.1]; omega, by omega, by omega⟩
      ·cases hb
     ·cases hb
   ·cases hb
theorem znr {t : TypeId} (ht : P.underlying t = some .string) {s : List Nat} {lo hi : Option V} {lv hv : Option Value} {l h : Nat} {v : Value}
  (hb : z3d lo hi s.length s.length = some (l, h)) (hlo : RepO g lo lv) (hhi : RepO g hi hv) (hx : RepV g (.d (.str s)) v) :
  ∃ u, (Instr.sliceAt t v lv hv none).run P w = .ok u w ∧ RepV g (.d (.str ((s.drop l).take (h - l)))) u := by
 simp only [RepV, RepD] at hx
 obtain ⟨b, rfl, hs⟩ := hx
 have hsz : b.size = s.length := by rw [← hs, List.length_map, Array.length_toList]; rfl
 obtain ⟨hr, h1, h2⟩ := z4w (P := P) (w := w) false hb hlo hhi (Nat.le_refl _) (Nat.le_refl _)
 refine ⟨.string (b.extract l h), by simp [Instr.sliceAt, Instr.slice, z05 ht, hsz, hr], ?_⟩
 simp only [RepV, RepD]
 refine ⟨_, rfl, ?_⟩
 have hd : (b.extract l h).data.toList = (b.data.toList.drop l).take (h - l) := by
  rw [ByteArray.data_extract, Array.toList_extract, List.extract_eq_take_drop]
 rw [hd, List.map_take, List.map_drop, hs]
theorem znu (hi : Inv P z0d st g w) {t e : TypeId} {n es eb : Nat} {ag : Bool} {z : List V} (ht : P.underlying t = some (.array n e)) (he : z41 P e = some (es, ag, eb, z)) {k off : Nat} {cs : List V} {lo hi' : Option V} {lv hv : Option Value} {l h : Nat} {v : Value}
  (hcs : st.cells? k = some cs) (hb : z3d lo hi' n n = some (l, h)) (hle : off + n * es = cs.length) (hlo : RepO g lo lv) (hhi : RepO g hi' hv) (hx : RepV g (.ptr k off) v) :
  ∃ u, (Instr.sliceAt t v lv hv none).run P w = .ok u w ∧ RepV g (.arr k es ag (off + l * es) (h - l)) u := by
 simp only [RepV] at hx
 obtain ⟨b, hbk, rfl⟩ := hx
 obtain ⟨b', vs, hb', hsz, htot, _⟩ := z51 hi hcs
 obtain ⟨hr, h1, h2⟩ := z4w (P := P) (w := w) false hb hlo hhi (Nat.le_refl _) (Nat.le_refl _)
 have hes := (z2x he).1
 refine ⟨_, by simp only [Instr.sliceAt, z05 ht, Sem.run_bind, Result.andThen_ok, Instr.sureAddr, Sem.run_pure, hr, z1t hes]; rfl, ?_⟩
 have hmul : n * es = l * es + (n - l) * es := by rw [← Nat.add_mul]; congr 1; omega
 simp only [RepV]
 by_cases e : n = l
 ·simp only [e, if_true]
  refine ⟨b, hbk, g.sh k + off, l - l, by rw [show h = l by omega], ?_, ?_, .inr ⟨by omega, by omega⟩⟩
  ·rw [hsz]; subst e; omega
  ·subst e; omega
 ·simp only [e, if_false, z5w]
  refine ⟨b, hbk, g.sh k + off + l * es, n - l, rfl, ?_, ?_, .inl (Nat.add_assoc _ _ _)⟩
  ·rw [hsz]; omega
  ·omega
theorem RepL.drop {H : Still} {b es : Nat} : ∀ {l : List D} {off : Nat} (n : Nat), n ≤ l.length → RepL H b es l off → RepL H b es (l.drop n) (off + n * es)
 | l, off, 0, _, h => by simpa using h
 | [], _, n + 1, hn, _ => by simp at hn
 | x :: l, off, n + 1, hn, h => by
  simp only [RepL] at h
  have := RepL.drop n (by simpa using hn) h.2
  rw [List.drop_succ_cons, show off + (n + 1) * es = off + es + n * es by rw [Nat.add_mul]; omega]
  exact this
theorem RepL.take {H : Still} {b es : Nat} : ∀ {l : List D} {off : Nat} (n : Nat), RepL H b es l off → RepL H b es (l.take n) off
 | l, off, 0, _ => by simp [RepL]
 | [], _, n + 1, _ => by simp [RepL]
 | x :: l, off, n + 1, h => by
  simp only [RepL, List.take_succ_cons] at h ⊢
  exact ⟨h.1, RepL.take n h.2⟩
theorem znt (hi : Inv P z0d st g w) {t e : TypeId} {es eb : Nat} {ag : Bool} {z : List V} (ht : P.underlying t = some (.slice e)) (he : z41 P e = some (es, ag, eb, z)) {x y : V} {lo hi' : Opd} {env : List V} {l h : Option Opd} {lv hv : Option Value} {v : Value} {base : Nat}
  {X : Opd} (hev : evO env X = x) (hy : evalOp base env st (.sliceL es X l h) = some (y, st)) (hlo : RepO g (l.map (evO env)) lv) (hhi : RepO g (h.map (evO env)) hv) (hx : RepV g x v) :
  ∃ u, (Instr.sliceAt t v lv hv none).run P w = .ok u w ∧ RepV g y u := by
 have hes := (z2x he).1
 have hes0 := (z2x he).2.2.2.2.1
 have hrun : ∀ (a : Option Addr) (len cap lo hi : Nat), (Instr.sliceBounds true len cap lv hv none).run P w = .ok (lo, hi, cap) w →
   (Instr.sliceAt t (.slice a len cap) lv hv none).run P w = .ok (.slice (if cap = lo then a else a.map (·.add (lo * es))) (hi - lo) (cap - lo)) w := by
  intro a len cap lo hi hb
  simp [Instr.sliceAt, Instr.slice, z05 ht, hb, z1t hes]
 simp only [evalOp, hev] at hy
 split at hy
 ·rename_i L
  simp only [RepV, RepD] at hx
  obtain ⟨a, cap, rfl, ⟨hcap, hnn⟩, hL⟩ := hx
  split at hy
  ·rename_i p q hb
   split at hy
   case isFalse => cases hy
   rename_i hc
   cases hy
   obtain ⟨hr, h1, h2⟩ := z4w (P := P) (w := w) true hb hlo hhi hcap (Nat.le_refl _)
   refine ⟨_, hrun _ _ _ _ _ hr, ?_⟩
   simp only [RepV, RepD]
   refine ⟨_, _, by rw [show ((L.drop p).take (q - p)).length = q - p by simp; omega], ⟨by simp; omega, fun e => ?_⟩, ?_⟩
   ·split at e
    ·omega
    ·rw [Option.map_eq_none_iff] at e
     have := hnn e
     omega
   rcases hL with rfl | ⟨b, off, es', rfl, he0, hL⟩
   ·exact .inl (by simp)
   ·cases L with
    | nil => exact .inl (by simp)
    | cons x L =>
     simp only [zwx, beq_iff_eq] at hc
     have : es' = es := by
      simp only [RepL] at hL
      obtain ⟨⟨u, h3, h4, _⟩, _⟩ := hL
      have := (RepD.cells h3).length
      rw [← h4, ← hc, ← this]; simp
     subst this
     by_cases e : cap = p
     ·refine .inl ?_
      have : q - p = 0 := by omega
      rw [this, List.take_zero]
     ·refine .inr ⟨b, off + p * es', es', ?_, he0, RepL.take _ (RepL.drop p (by omega) hL)⟩
      simp only [e, if_false, Option.map_some, z5w]
  ·cases hy
 ·simp only [RepV] at hx
  subst hx
  split at hy
  ·rename_i p hb
   cases hy
   obtain ⟨hr, h1, h2⟩ := z4w (P := P) (w := w) (cap := 0) true (l := p.1) (h := p.2) hb hlo hhi (Nat.le_refl _) (Nat.le_refl _)
   refine ⟨_, hrun _ _ _ _ _ hr, ?_⟩
   simp only [RepV]
   simp
   omega
  ·cases hy
 ·simp only [RepV] at hx
  obtain ⟨a, c, rfl⟩ := hx
  split at hy
  ·rename_i p hb
   cases hy
   obtain ⟨hr, h1, h2⟩ := z4w (P := P) (w := w) (cap := c) true (l := p.1) (h := p.2) hb hlo hhi (Nat.zero_le _) (Nat.le_refl _)
   refine ⟨_, hrun _ _ _ _ _ hr, ?_⟩
   simp only [RepV]
   have e1 : p.1 = 0 := by omega
   have e2 : p.2 = 0 := by omega
   rw [e1, e2]
   by_cases e : c = 0
   ·exact ⟨a, c - 0, by simp [e]⟩
   ·exact ⟨a.add (0 * es), c - 0, by simp [e]⟩
  ·cases hy
 ·rename_i k es' ag' off len
  simp only [RepV] at hx
  obtain ⟨b, hbk, o, cap, rfl, hsz, htot, ho⟩ := hx
  split at hy
  ·rename_i cs hcs
   split at hy
   ·rename_i p q hb
    split at hy
    ·rename_i hc
     obtain ⟨rfl, hle⟩ := hc
     cases hy
     obtain ⟨b', vs, hb', hsz', _⟩ := z51 hi hcs
     have h0 : ¬ es' = 0 := by omega
     simp only [h0, if_false] at hb
     have hcap : (cs.length - off) / es' ≤ cap := by
      apply Nat.div_le_of_le_mul
      rw [Nat.mul_comm]
      omega
     have hlen : len ≤ (cs.length - off) / es' := by
      rw [Nat.le_div_iff_mul_le (by omega)]; omega
     obtain ⟨hr, h1, h2⟩ := z4w (P := P) (w := w) true hb hlo hhi hcap hlen
     refine ⟨_, hrun _ _ _ _ _ hr, ?_⟩
     have hmul : cap * es' = p * es' + (cap - p) * es' := by rw [← Nat.add_mul]; congr 1; omega
     simp only [RepV]
     by_cases e : cap = p
     ·simp only [e, if_true]
      refine ⟨b, hbk, o, p - p, rfl, ?_, ?_, .inr ⟨by omega, by omega⟩⟩
      ·subst e; omega
      ·subst e; omega
     ·simp only [e, if_false, Option.map_some, z5w]
      refine ⟨b, hbk, o + p * es', cap - p, rfl, by omega, by omega, ?_⟩
      rcases ho with ho | ho
      ·exact .inl (by omega)
      ·omega
    ·cases hy
   ·cases hy
  ·cases hy
 ·cases hy
theorem zyp {isMax : Bool} {ats : Array TypeId} {ty : TypeId} : ∀ {xs : List V} {vs : List Value} {y : V}, z49 isMax xs = some y → RepVs g xs vs →
  ∃ u, ((if isMax then Builtin.max_ else Builtin.min_) ats ty vs.toArray).run P w = .ok u w ∧ RepV g y u
 | [], _, _, h, _ => by simp [z49] at h
 | [x], vs, y, h, hx => by
  unfold z49 at h
  split at h
  ·rename_i e; cases e
  ·rename_i k n e
   cases e
   cases h
   simp only [RepVs] at hx
   obtain ⟨v, ws, rfl, h1, rfl⟩ := hx
   refine ⟨v, ?_, h1⟩
   cases isMax <;> simp [Builtin.max_, Builtin.min_]
  ·rename_i e; cases e
  ·cases h
 | x :: x' :: xs, vs, y, h, hx => by
  unfold z49 at h
  split at h
  ·rename_i e; cases e
  ·rename_i e; cases e
  ·rename_i k n j m r e
   cases e
   split at h
   ·rename_i hkj
    subst hkj
    simp only [RepVs] at hx
    obtain ⟨v, ws, rfl, h1, v', ws', rfl, h2, hx⟩ := hx
    simp only [RepV, RepD] at h1 h2
    subst h1; subst h2
    obtain ⟨u, hu, hr⟩ := zyp (ats := ats) (ty := ty) h (vs := .int k (if isMax then (if m > n then m else n) else (if m < n then m else n)) :: ws') (by
     refine z0u.2 ⟨?_, hx⟩
     simp only [RepV, RepD])
    refine ⟨u, ?_, hr⟩
    cases isMax <;> simpa [Builtin.max_, Builtin.min_, Builtin.max2, Builtin.min2] using hu
   ·cases h
  ·cases h
termination_by xs => xs.length
end Go.Lift
namespace Go.Lift
open Go
variable {P : Program} {st : St} {g : Gh} {w : World}
theorem RepVs.splice {cs news : List V} {us vals : List Value} {off : Nat} (h1 : RepVs g cs us) (h2 : RepVs g news vals) : RepVs g (splice cs off news) (us.take off ++ vals ++ us.drop (off + vals.length)) := by
 unfold Lift.splice
 rw [h2.length]
 exact RepVs.append (RepVs.append (RepVs.take off h1) h2) (RepVs.drop _ h1)
theorem z2v {cs news : List V} {off : Nat} (h : off + news.length ≤ cs.length) : (splice cs off news).length = cs.length := by
 simp [splice]; omega
theorem z9q {arr : List Value} {vals : List Value} {off n : Nat} (h : off + vals.length ≤ n) (hn : n ≤ arr.length) :
  (arr.take off ++ vals ++ arr.drop (off + vals.length)).take n = (arr.take n).take off ++ vals ++ (arr.take n).drop (off + vals.length) := by
 rw [List.take_append, List.take_of_length_le (by simp; omega)]
 congr 1
 ·rw [List.take_take, Nat.min_eq_left (by omega)]
 ·rw [List.drop_take]
  congr 1
  simp
  omega
theorem zb3 {arr : List Value} {vals : List Value} {s off : Nat} (h : s + off ≤ arr.length) :
  (arr.take (s + off) ++ vals ++ arr.drop (s + off + vals.length)).drop s = (arr.drop s).take off ++ vals ++ (arr.drop s).drop (off + vals.length) := by
 rw [List.append_assoc, List.drop_append_of_le_length (by simp; omega), List.drop_take, List.drop_drop, ← List.append_assoc, show s + off - s = off from by omega, show s + (off + vals.length) = s + off + vals.length from by omega]
theorem z9k (hi : Inv P z0d st g w) {k b off : Nat} {cs news : List V} {vals : List Value} (ho : sget st.s k = some (.cells cs)) (hb : g.blk k = some b) (hle : off + news.length ≤ cs.length)
  (hc : news.all V.isCell = true) (hr : RepVs g news vals) :
  ∃ w', (storeCells ⟨b, g.sh k + off, none⟩ vals).run P w = .ok () w' ∧ Inv P z0d (st.set k (.cells (splice cs off news))) g w' ∧ Step st g w (st.set k (.cells (splice cs off news))) g w' := by
 obtain ⟨b', hb', hsz, hHn, arr, ty, hheap, hle1, hle2, hcs⟩ := hi.obj k _ ho
 obtain rfl : b = b' := Option.some.inj (hb.symm.trans hb')
 have hl := hr.length
 have hst := run_storeCells_at P b (g.sh k + off) ty vals 0 arr w hheap (by omega) (RepVs.oneCells hc hr)
 simp only [Nat.add_zero] at hst
 have hh := setRow_heap w b arr (arr.toList.take (g.sh k + off) ++ vals ++ arr.toList.drop (g.sh k + off + vals.length)).toArray ty (0, 0) hheap
 refine ⟨_, hst, ?_⟩
 refine hi.write ho hb (by simp) rfl rfl rfl (fun c hc => setRow_other w b c _ hc) (fun j v hv => by rw [hHn j] at hv; cases hv) ?_
 refine ⟨hsz.trans (z2v hle).symm, hHn, _, ty, hh, ?_, ?_, ?_⟩
 ·rw [z2v hle]; exact hle1
 ·simp; omega
 ·rw [z2v hle]
  show RepVs g _ (List.take cs.length ((arr.toList.take (g.sh k + off) ++ vals ++ arr.toList.drop (g.sh k + off + vals.length)).drop (g.sh k)))
  rw [zb3 (by simp; omega), z9q (by omega) (by simp; omega)]
  exact RepVs.splice hcs hr
theorem zsz (hi : Inv P z0d st g w) {t : TypeId} {n : Nat} (hn : z4b P t = some n) {a x : V} {va vx : Value} {st' : St} (h : opStore st n a x = some st') (ha : RepV g a va) (hx : RepV g x vx) :
  ∃ w', (Instr.storeAt t va vx).run P w = .ok () w' ∧ Inv P z0d st' g w' ∧ Step st g w st' g w' := by
 unfold opStore at h
 split at h
 ·rename_i k off
  simp only [RepV] at ha
  obtain ⟨b, hb, rfl⟩ := ha
  split at h
  ·rename_i cs ho
   split at h
   ·rename_i hc
    cases h
    have hrc := RepV.cells hx
    have hl := hrc.length
    obtain ⟨w', h1, h2, h3⟩ := z9k (off := off) hi ho hb (by omega) hc.2.2 hrc
    refine ⟨w', ?_, h2, h3⟩
    have hsz : vx.cells.size = n := by simpa [hc.1] using hl
    simp [Instr.storeAt, Instr.sureAddr, storeVar, z1t hn, hsz, h1]
   ·cases h
  ·cases h
 ·cases h
theorem zbh (w : World) (o : Go.Obj) : World.add w o = w.alloc o := rfl
def Mk (P : Program) (s : Sem Value) (g : Gh) (w : World) (key : Nat) (v : V) (obj : Obj) : Prop :=
 ∃ (ob : Go.Obj) (n m : Nat) (u : Value), s.run P w = .ok u (World.add w ob) ∧ RepV (g.asg key w.heap.size n m) v u ∧
  ∀ (g' : Gh) (w' : World) (b : Nat), Ext (g.asg key w.heap.size n m) g' → (∀ j, g'.H b j = none) → w'.heap[b]? = some ob → ObjRep P z0d g' w' b key obj
theorem Mk.does {s : Sem Value} {key : Nat} {v : V} {obj : Obj} (h : Mk P s g w key v obj) (hi : Inv P z0d st g w) (hk : g.blk key = none) (hlt : key < st.next) {new : Nat → Prop} (hnew : new key) :
  Does P (do pure (.value (← s))) st g w v (st.ins key obj) new := by
 obtain ⟨ob, n, m, u, hr, hv, ho⟩ := h
 obtain ⟨h1, h2⟩ := hi.ins (n := n) (m := m) hk hlt (o := obj) (ob := ob) (ho _ _ _ (Ext.refl _) (fun j => hi.Hnew j) z2t)
 exact Does.made hr hv h1 h2 fun k b hb => by
  by_cases e : k = key
  ·subst e; exact .inr hnew
  ·rw [(z1p e).1] at hb; exact .inl hb
theorem z79 {key : Nat} {cs : List V} {arr : Array Value} {ty : TypeId} (hk : g.blk key = none) (hr : RepVs g cs arr.toList) (n m : Nat) (hn : n = cs.length) (hm : m = cs.length) :
  ∀ (g' : Gh) (w' : World) (b : Nat), Ext (g.asg key w.heap.size n m) g' → (∀ j, g'.H b j = none) → w'.heap[b]? = some (.cells arr ty (0, 0)) → ObjRep P z0d g' w' b key (.cells cs) := by
 intro g' w' b hx hH hw
 have hl := hr.length
 have h1 := hx.blk key _ z1z
 have h2 := @z3e g key w.heap.size n m
 have h3 : g'.sh key = 0 := (hx.sh key _ z1z).trans z42
 refine ⟨by omega, hH, arr, ty, hw, by omega, by simp at hl; omega, ?_⟩
 rw [h3, List.drop_zero, ← hl, List.take_length]
 exact RepVs.mono ((Ext.asg hk).trans hx) hr
theorem z6j {t : TypeId} {z : List V} (h : z8h P t = some z) : ∃ i zv, P.info? t = some i ∧ i.zero = some zv ∧ ∀ g, RepVs g z zv.cells.toList := by
 unfold z8h at h
 split at h
 ·rename_i i hi
  split at h
  ·rename_i zv hz
   exact ⟨i, zv, hi, hz, fun g => zhy h⟩
  ·cases h
 ·cases h
theorem z91 {t : TypeId} {i : TypeInfo} {zv : Value} (hi : P.info? t = some i) (hz : i.zero = some zv) : (zeroValue t).run P w = .ok zv w := by
 simp [zeroValue, typeInfo, hi, hz]
theorem zvt {t : TypeId} {z : List V} {key : Nat} (hk : g.blk key = none) (h : z8h P t = some z) : Mk P (Instr.alloc t true (.tuple #[])) g w key (.ptr key 0) (.cells z) := by
 obtain ⟨i, zv, hi, hz, hr⟩ := z6j h
 refine ⟨.cells zv.cells t (0, 0), z.length, z.length, .pointer (some ⟨w.heap.size, 0, none⟩), ?_, ?_, z79 hk (hr g) _ _ rfl rfl⟩
 ·simp [Instr.alloc, z91 hi hz, newVar, newRow, zbh]
 ·simp only [RepV]; exact ⟨_, z1z, by first | rfl | rw [z42]⟩
theorem y34 {t : TypeId} {x : V} {v : Value} {key : Nat} (hk : g.blk key = none) (hx : RepV g x v) : Mk P (Instr.box t v) g w key (.ptr key 0) (.cells (cellsV x)) := by
 refine ⟨.cells v.cells t (0, 0), (cellsV x).length, (cellsV x).length, .pointer (some ⟨w.heap.size, 0, none⟩), ?_, ?_, z79 hk (RepV.cells hx) _ _ rfl rfl⟩
 ·simp [Instr.box, newVar, newRow, zbh]
 ·simp only [RepV]; exact ⟨_, z1z, by first | rfl | rw [z42]⟩
theorem ztr {t : TypeId} {kt : Nat} {key : Nat} (hk : g.blk key = none) : Mk P (Instr.makeMap t none) g w key (.map key) (.map kt []) := by
 refine ⟨.map #[] 0, 0, 0, .map (some w.heap.size), ?_, ?_, fun g' w' b _ _ hw => ⟨by simp, #[], 0, hw, by simp [RepM]⟩⟩
 ·simp [Instr.makeMap, zbh]
 ·simp only [RepV]; exact ⟨_, z1z, by first | rfl | rw [z42]⟩
theorem zog {t : TypeId} (ht : P.underlying t = some .string) {s : List Nat} {v : Value} {key : Nat} (hx : RepV g (.d (.str s)) v) : Mk P (Instr.range t v) g w key (.ptr key 0) (.iter s 0) := by
 simp only [RepV, RepD] at hx
 obtain ⟨b, rfl, hb⟩ := hx
 refine ⟨.stringIter b 0, 0, 0, .pointer (some ⟨w.heap.size, 0, none⟩), ?_, ?_, fun g' w' _ hx _ hw => ⟨(hx.sh key _ z1z).trans z42, b, hw, hb⟩⟩
 ·simp [Instr.range, z05 ht, zbh]
 ·simp only [RepV]; exact ⟨_, z1z, by first | rfl | rw [z42]⟩
theorem z5h (z : Array Value) : ∀ n : Nat, (List.range (n * z.size)).map (z[· % z.size]!) = (List.replicate n z.toList).flatten
 | 0 => by simp
 | n + 1 => by
  rw [Nat.add_mul, Nat.one_mul, Nat.add_comm, List.range_add, List.map_append, List.replicate_succ, List.flatten_cons, ← z5h z n, List.map_map]
  congr 1
  ·apply List.ext_getElem?
   intro i
   by_cases h : i < z.size
   ·simp [h, Nat.mod_eq_of_lt h]
   ·simp [h]
  ·apply List.map_congr_left
   intro i _
   simp [Nat.add_mod_left]
theorem z80 (z : Array Value) (n : Nat) : ((Array.range (n * z.size)).map (z[· % z.size]!)).toList = (List.replicate n z.toList).flatten := by
 rw [Array.toList_map, Array.toList_range, z5h]
theorem RepVs.flatten_replicate {z : List V} {zv : List Value} (h : RepVs g z zv) : ∀ n : Nat, RepVs g (List.replicate n z).flatten (List.replicate n zv).flatten
 | 0 => by simpa using z1c
 | n + 1 => by simpa [List.replicate_succ] using RepVs.append h (RepVs.flatten_replicate h n)
theorem z1o {α : Type} {z : List α} (n : Nat) : (List.replicate n z).flatten.length = n * z.length := by simp
end Go.Lift
namespace Go.Lift
open Go
variable {P : Program} {st : St} {g : Gh} {w : World}
theorem z8o : ∀ (l : List Value) (i off : Nat) (arr : Array Value), off + i + l.length ≤ arr.size →
  ((l.zipIdx i).foldl (fun cs (x : Value × Nat) => cs.setIfInBounds (off + x.2) x.1) arr).toList = arr.toList.take (off + i) ++ l ++ arr.toList.drop (off + i + l.length)
 | [], i, off, arr, _ => by simp
 | v :: l, i, off, arr, h => by
  simp only [List.zipIdx_cons, List.foldl_cons]
  rw [z8o l (i + 1) off (arr.setIfInBounds (off + i) v) (by simp at h ⊢; omega)]
  have e := list_seg_step arr.toList (off + i) v l (by simp at h ⊢; omega)
  simpa [Array.toList_setIfInBounds, Nat.add_assoc] using e
def z8y (g : Gh) (place : Nat → Option (Nat × Nat)) : List (Nat × Nat × V) → List (Nat × Value) → Prop
 | [], vs => vs = []
 | (o, s, x) :: l, vs => ∃ i v r, vs = (i, v) :: r ∧ place i = some (o, s) ∧ RepV g x v ∧ z8y g place l r
theorem z8b {place : Nat → Option (Nat × Nat)} : ∀ {parts : List (Nat × Nat × V)} {vs : List (Nat × Value)} {cs cs' : List V} {arr : Array Value}, fillP cs parts = some cs' → z8y g place parts vs → RepVs g cs arr.toList →
  ∃ arr', Instr.fill place arr vs = some arr' ∧ RepVs g cs' arr'.toList ∧ arr'.size = arr.size ∧ cs'.length = cs.length
 | [], vs, cs, cs', arr, h, hp, hr => by
  simp only [fillP, Option.some.injEq] at h
  simp only [z8y] at hp
  subst h; subst hp
  exact ⟨arr, rfl, hr, rfl, rfl⟩
 | (o, s, x) :: l, vs, cs, cs', arr, h, hp, hr => by
  simp only [z8y] at hp
  obtain ⟨i, v, r, rfl, hpl, hx, hp⟩ := hp
  simp only [fillP] at h
  split at h
  ·rename_i hc
   have hrc := RepV.cells hx
   have h1 := hrc.length
   have h2 := hr.length
   simp only [Array.length_toList] at h1 h2
   have hs : (v.cells.toList.zipIdx.foldl (fun cs (x : Value × Nat) => cs.setIfInBounds (o + x.2) x.1) arr).toList = arr.toList.take o ++ v.cells.toList ++ arr.toList.drop (o + v.cells.toList.length) := by
    have := z8o v.cells.toList 0 o arr (by simp; omega)
    simpa using this
   have hsz : (v.cells.toList.zipIdx.foldl (fun cs (x : Value × Nat) => cs.setIfInBounds (o + x.2) x.1) arr).size = arr.size := by
    have := congrArg List.length hs
    simp only [Array.length_toList, List.length_append, List.length_take, List.length_drop] at this
    omega
   obtain ⟨arr', h3, h4, h5, h6⟩ := z8b (arr := v.cells.toList.zipIdx.foldl (fun cs (x : Value × Nat) => cs.setIfInBounds (o + x.2) x.1) arr) h hp (by rw [hs]; exact RepVs.splice hr hrc)
   refine ⟨arr', ?_, h4, h5.trans hsz, h6.trans (z2v (by omega))⟩
   unfold Instr.fill
   simp only [hpl]
   rw [if_neg (by simp; omega), ← h3]
   congr 1
   rw [← Array.foldl_toList]
   simp
  ·cases h
theorem zff {fs : List Field} : ∀ {ps : List Field}, (ps.all fun f => (z4b P f.type).isSome) = true → ∃ places, ps.mapM (fun f => (P.info? f.type).map fun i => (f.offset, i.size)) = some places ∧ ∀ (i : Nat) f n, ps[i]? = some f → z4b P f.type = some n → places[i]? = some (f.offset, n)
 | [], _ => ⟨[], by simp, fun i f n h => by simp at h⟩
 | f :: ps, h => by
  simp only [List.all_cons, Bool.and_eq_true] at h
  obtain ⟨places, h1, h2⟩ := zff (fs := fs) h.2
  obtain ⟨m, hm⟩ := Option.isSome_iff_exists.1 h.1
  obtain ⟨i, hi, rfl⟩ := z3m hm
  refine ⟨(f.offset, i.size) :: places, by simp [hi, h1], fun j f' n hj hn => ?_⟩
  cases j with
  | zero =>
   simp at hj
   subst hj
   rw [hm] at hn
   cases hn
   rfl
  | succ j => simpa using h2 j f' n (by simpa using hj) hn
theorem z7w {t : TypeId} {a : Act} {env : List V} (henv : RepVs g env a.tmps.toList) {place : Nat → Option (Nat × Nat)}
  (hplace : ∀ i o n, (match P.underlying t with | some (.struct fs) => z9g P fs = true ∧ ∃ u, fieldAt? P t i = some (o, n, u) | some (.array _ e) => z4b P e = some n ∧ o = i * n | _ => False) → place i = some (o, n)) :
  ∀ {parts : List (Nat × Operand)} {ps : List (Nat × Nat × Opd)}, zcm P t parts = some ps → z8y g place (ps.map fun (o, s, x) => (o, s, evO env x)) (parts.map fun (i, x) => (i, a.eval x))
 | [], ps, h => by
  simp only [zcm, Option.some.injEq] at h
  subst h
  simp [z8y]
 | (i, x) :: r, ps, h => by
  simp only [zcm] at h
  split at h
  ·rename_i fs y ys hu hy hys
   split at h
   ·rename_i hall
    split at h
    ·rename_i off n u hf
     cases h
     simp only [List.map_cons, z8y]
     exact ⟨i, _, _, rfl, hplace i off n (by rw [hu]; exact ⟨hall, u, hf⟩), z0t henv hy, z7w henv hplace hys⟩
    ·cases h
   ·cases h
  ·rename_i n' e y ys hu hy hys
   split at h
   ·rename_i n hn
    cases h
    simp only [List.map_cons, z8y]
    exact ⟨i, _, _, rfl, hplace i _ n (by rw [hu]; exact ⟨hn, rfl⟩), z0t henv hy, z7w henv hplace hys⟩
   ·cases h
  ·cases h
theorem zvh {t : TypeId} {a : Act} {env : List V} (henv : RepVs g env a.tmps.toList) {z : List V} {parts : Array (Nat × Operand)} {ps : List (Nat × Nat × Opd)} {cs : List V}
  (hz : z8h P t = some z) (hp : zcm P t parts.toList = some ps) (h : fillP z (ps.map fun (o, s, x) => (o, s, evO env x)) = some cs) (hb : zry P t = true) :
  ∃ u, (Instr.build t (parts.map fun (i, x) => (i, a.eval x))).run P w = .ok u w ∧ RepV g (mkAgg cs) u := by
 obtain ⟨i, zv, hi, hzv, hzr⟩ := z6j hz
 have main : ∀ (place : Nat → Option (Nat × Nat)), z8y g place (ps.map fun (o, s, x) => (o, s, evO env x)) (parts.toList.map fun (i, x) => (i, a.eval x)) →
   ∃ arr', Instr.fill place zv.cells (parts.map fun (i, x) => (i, a.eval x)).toList = some arr' ∧ RepVs g cs arr'.toList := by
  intro place hh
  obtain ⟨arr', h1, h2, _⟩ := z8b h hh (hzr g)
  exact ⟨arr', by simpa using h1, h2⟩
 have hbuilt : ∃ cells, P.built t (parts.map fun (i, x) => (i, a.eval x)).toList = some cells ∧ RepVs g cs cells.toList := by
  unfold Program.built
  unfold zry at hb
  cases hu : P.underlying t with
  | none => simp [hu] at hb
  | some d =>
   cases d <;> try (simp [hu] at hb; done)
   case array n e =>
    have he : ∃ m, z4b P e = some m := Option.isSome_iff_exists.1 (by simpa [hu] using hb)
    obtain ⟨m, hm⟩ := he
    obtain ⟨ie, hie, rfl⟩ := z3m hm
    obtain ⟨arr', h1, h2⟩ := main (fun i => some (i * ie.size, ie.size)) (z7w henv (fun i o n hh => by
     rw [hu] at hh
     obtain ⟨h1, rfl⟩ := hh
     rw [hm] at h1
     cases h1
     rfl) hp)
    exact ⟨arr', by simp only [hi, hzv, hie]; exact h1, h2⟩
   case struct fs =>
    have hall : z9g P fs = true := by simpa [hu] using hb
    obtain ⟨places, h1, h2⟩ := zff (fs := fs.toList) (P := P) hall
    obtain ⟨arr', h3, h4⟩ := main (places.toArray[·]?) (z7w henv (fun i o n hh => by
     rw [hu] at hh
     obtain ⟨_, u, hf⟩ := hh
     obtain ⟨fs', f, hu', hfi, rfl, rfl, hn⟩ := z6x hf
     rw [hu] at hu'
     cases hu'
     have := h2 i f n (by simpa using hfi) hn
     simpa using this) hp)
    exact ⟨arr', by simp only [hi, hzv, h1]; exact h3, h4⟩
 obtain ⟨cells, h1, h2⟩ := hbuilt
 exact ⟨_, run_build w t _ cells h1, z95 h2⟩
end Go.Lift
namespace Go.Lift
open Go
variable {P : Program} {st : St} {g : Gh} {w : World}
def RepIx (g : Gh) : List (Nat × V) → List (Nat × Value) → Prop
 | [], vs => vs = []
 | (i, x) :: l, vs => ∃ v r, vs = (i, v) :: r ∧ RepV g x v ∧ RepIx g l r
theorem RepIx.parts (es : Nat) : ∀ {ps : List (Nat × V)} {vs : List (Nat × Value)}, RepIx g ps vs → z8y g (fun i => some (i * es, es)) (ps.map fun (i, v) => (i * es, es, v)) vs
 | [], vs, h => by simpa [z8y, RepIx] using h
 | (i, x) :: l, vs, h => by
  simp only [RepIx] at h
  obtain ⟨v, r, rfl, h1, h2⟩ := h
  simp only [List.map_cons, z8y]
  exact ⟨i, v, _, rfl, rfl, h1, RepIx.parts es h2⟩
theorem RepIx.mono {g' : Gh} (hx : Ext g g') : ∀ {ps : List (Nat × V)} {vs : List (Nat × Value)}, RepIx g ps vs → RepIx g' ps vs
 | [], vs, h => by simpa [RepIx] using h
 | (i, x) :: l, vs, h => by
  simp only [RepIx] at h ⊢
  obtain ⟨v, r, rfl, h1, h2⟩ := h
  exact ⟨v, r, rfl, h1.mono hx, RepIx.mono hx h2⟩
theorem zi7 {a : Act} {env : List V} (henv : RepVs g env a.tmps.toList) : ∀ {l : List (Nat × Operand)} {m : List (Nat × Opd)}, cIxs l = some m → RepIx g (m.map fun (i, x) => (i, evO env x)) (l.map fun (i, x) => (i, a.eval x))
 | [], m, h => by simp [cIxs] at h; subst h; simp [RepIx]
 | (i, x) :: l, m, h => by
  simp only [cIxs] at h
  split at h
  ·rename_i y ys hy hys
   cases h
   simp only [List.map_cons, RepIx]
   exact ⟨_, _, rfl, z0t henv hy, zi7 henv hys⟩
  ·cases h
theorem zmy {e : TypeId} {n b : Nat} {a : Bool} {z : List V} (h : z41 P e = some (n, a, b, z)) : ∃ i zv, P.info? e = some i ∧ i.zero = some zv ∧ i.size = n ∧ i.bytes = b ∧ zv.cells.size = n ∧ 0 < n ∧ b ≤ 65536 ∧ ∀ g, RepVs g z zv.cells.toList := by
 obtain ⟨h1, h2, h3, h4, h5, h6, h7⟩ := z2x h
 obtain ⟨i, zv, hi, hz, hr⟩ := z6j h4
 obtain ⟨i', hi', hs⟩ := z3m h1
 rw [hi] at hi'
 cases hi'
 have hb : i.bytes = b := by unfold zni at h3; rw [hi] at h3; simpa using h3
 have hl := (hr ⟨fun _ _ => none, fun _ => none, fun _ => 0, fun _ => 0, fun _ => 0⟩).length
 exact ⟨i, zv, hi, hz, hs, hb, by simpa [h6] using hl, h5, h7, hr⟩
theorem z4f {α : Type} (f : Nat → α) : (Array.range 0).map f = #[] := by
 apply Array.ext'
 simp
theorem zpd {t e : TypeId} {es eb len : Nat} {ag : Bool} {z : List V} (ht : P.underlying t = some (.slice e)) (he : z41 P e = some (es, ag, eb, z)) {ps : List (Nat × V)} {vs : Array (Nat × Value)} {cs : List V} {key : Nat} (hk : g.blk key = none)
  (hle : len * es ≤ 16777216) (hf : fillP (List.replicate len z).flatten (ps.map fun (i, v) => (i * es, es, v)) = some cs) (hp : RepIx g ps vs.toList) :
  Mk P (Instr.buildSlice t len vs) g w key (.arr key es ag 0 len) (.cells cs) := by
 obtain ⟨i, zv, hi, hz, hs, hb, hzs, h0, hb2, hr⟩ := zmy he
 have hzl : z.length = es := (z2x he).2.2.2.2.2.1
 have hlen : (List.replicate len z).flatten.length = len * es := by rw [z1o, hzl]
 by_cases hl0 : len = 0
 ·subst hl0
  have hvs : vs = #[] ∧ cs = [] := by
   cases hpl : ps with
   | nil =>
    rw [hpl] at hp hf
    simp only [RepIx] at hp
    simp [fillP] at hf
    exact ⟨by simpa using hp, hf⟩
   | cons q r =>
    rw [hpl] at hf hp
    obtain ⟨j, x⟩ := q
    exfalso
    simp only [List.map_cons, fillP] at hf
    split at hf
    ·rename_i hc
     simp at hc
     omega
    ·cases hf
  obtain ⟨rfl, rfl⟩ := hvs
  refine ⟨.cells #[] e (0, 0), 0, 0, .slice (some ⟨w.heap.size, 0, none⟩) 0 0, ?_, ?_, z79 hk (by simpa using z1c) _ _ rfl rfl⟩
  ·simp [Instr.buildSlice, z05 ht, sizeOf, typeInfo, hi, Instr.fill, newRow, zbh]
   rw [z4f]
  ·simp only [RepV]
   exact ⟨_, z1z, 0, 0, rfl, by rw [z3e.1]; omega, by rw [z3e.2]; omega, .inl (by rw [z42])⟩
 ·have hpos : len * es ≠ 0 := by
   have := Nat.mul_pos (Nat.pos_of_ne_zero hl0) h0
   omega
  obtain ⟨arr', h1, h2, h3, h4⟩ := z8b (arr := (Array.range (len * zv.cells.size)).map (zv.cells[· % zv.cells.size]!)) hf (RepIx.parts es hp) (by rw [z80]; exact RepVs.flatten_replicate (hr g) len)
  have hcl : cs.length = len * es := by rw [h4, hlen]
  refine ⟨.cells arr' e (0, 0), cs.length, cs.length, .slice (some ⟨w.heap.size, 0, none⟩) len len, ?_, ?_, z79 hk h2 _ _ rfl rfl⟩
  ·rw [run_buildSlice w t e len vs arr' i zv ht hi hz (by rw [hs]; omega) (by rw [hs]; exact hpos) (by rw [hs, ← hzs] at *; exact h1)]
   rfl
  ·simp only [RepV]
   exact ⟨_, z1z, 0, len, rfl, by rw [z3e.1]; omega, by rw [z3e.2]; omega, .inl (by rw [z42])⟩
theorem zbm {n : Int} (h0 : 0 ≤ n) (h1 : n ≤ 70368744177664) : IntKind.i64.wrap n = n := by
 simp only [IntKind.wrap, IntKind.bits, IntKind.signed]
 simp
 omega
theorem zlx {t e : TypeId} {es eb : Nat} {ag : Bool} {z : List V} (ht : P.underlying t = some (.slice e)) (he : z41 P e = some (es, ag, eb, z)) {l c : Int} {j k : IntKind} {key : Nat} (hk : g.blk key = none)
  (h0 : 0 ≤ l) (hlc : l ≤ c) (hb1 : c * eb ≤ 70368744177664) (hc : c ≤ 70368744177664) :
  Mk P (Instr.makeSlice t (.int j l) (.int k c)) g w key (.arr key es ag 0 l.toNat) (.cells (List.replicate c.toNat z).flatten) := by
 obtain ⟨i, zv, hi, hz, hs, hb, hzs, hes0, hb2, hr⟩ := zmy he
 have hzl : z.length = es := (z2x he).2.2.2.2.2.1
 have hlen : (List.replicate c.toNat z).flatten.length = c.toNat * es := by rw [z1o, hzl]
 have hwl : IntKind.i64.wrap l = l := zbm h0 (by omega)
 have hwc : IntKind.i64.wrap c = c := zbm (by omega) hc
 have hrow : ∀ x, (Array.range (c.toNat * zv.cells.size)).map (zv.cells[· % zv.cells.size]!) = x → RepVs g (List.replicate c.toNat z).flatten x.toList := by
  rintro x rfl
  rw [z80]
  exact RepVs.flatten_replicate (hr g) c.toNat
 have e1 : (eb : Int) * c ≤ 281474976710656 := by rw [Int.mul_comm]; omega
 have e3 : ¬ (281474976710656 < (eb : Int) * c) := by omega
 have e2 : ¬ (c.toNat * eb > 140737488355328) := by
  have : ((c.toNat * eb : Nat) : Int) = c * eb := by simp; rw [Int.max_eq_left (by omega)]
  omega
 refine ⟨.cells ((Array.range (c.toNat * zv.cells.size)).map (zv.cells[· % zv.cells.size]!)) e (0, 0), c.toNat * es, c.toNat * es, .slice (some ⟨w.heap.size, 0, none⟩) l.toNat c.toNat, ?_, ?_, z79 hk (hrow _ rfl) _ _ hlen.symm hlen.symm⟩
 ·by_cases hn : c.toNat * es = 0
  ·have hn' : c.toNat = 0 := by rcases Nat.mul_eq_zero.1 hn with h | h <;> omega
   have e4 : ¬ (c < 0) := by omega
   have e5 : ¬ (l < 0) := by omega
   have e6 : ¬ (c < l) := by omega
   simp [Instr.makeSlice, z05 ht, asInt, asIntOf, typeInfo, hi, hwl, hwc, hb, e3, e4, e5, e6, askRoom, roomBytes, hn', sizeOf, newRow, zbh]
   rw [z4f, z4f]
  ·have e4 : ¬ (c < 0) := by omega
   have e5 : ¬ (l < 0) := by omega
   have e6 : ¬ (c < l) := by omega
   have hz' : (zeroValue e).run P w = .ok zv w := z91 hi hz
   simp [Instr.makeSlice, z05 ht, asInt, asIntOf, typeInfo, hi, hwl, hwc, hb, e3, e4, e5, e6, askRoom, roomBytes, e2, sizeOf, hs, hn, hz', newRow, zbh, hzs]
 ·simp only [RepV]
  exact ⟨_, z1z, 0, c.toNat, rfl, by rw [z3e.1]; omega, by rw [z3e.2]; omega, .inl (by rw [z42])⟩
def Reads (w : World) (v : Value) (n : Nat) (vals : List Value) : Prop :=
 (∃ a c, v = .slice (some a) n c ∧ ∀ (j : Nat) u, vals[j]? = some u → w.cell? (a.add j) = some u) ∨ (∃ c, v = .slice none n c ∧ vals = [])
theorem RepL.cells {H : Still} {b es : Nat} (hes : 0 < es) : ∀ {l : List D} {off : Nat}, RepL H b es l off → ∃ vs, RepC H (l.flatMap cellsD) vs ∧ vs.length = l.length * es ∧ ∀ (j : Nat) u, vs[j]? = some u → H b (off + j) = some u
 | [], off, _ => ⟨[], by simpa using z7z, by simp, fun j u hu => by simp at hu⟩
 | x :: l, off, h => by
  simp only [RepL] at h
  obtain ⟨⟨u, h1, h2, h3⟩, h⟩ := h
  obtain ⟨vs, h4, h5, h6⟩ := RepL.cells hes h
  refine ⟨u.cells.toList ++ vs, ?_, ?_, fun j y hy => ?_⟩
  ·simp only [List.flatMap_cons]
   have := RepVs.append (g := ⟨H, fun _ => none, fun _ => 0, fun _ => 0, fun _ => 0⟩) (z10.2 (RepD.cells h1)) (z10.2 h4)
   rw [← List.map_append] at this
   exact z10.1 this
  ·simp [h2, h5, Nat.add_mul]; omega
  ·by_cases hj : j < es
   ·have hjl : j < u.cells.toList.length := by simp [h2, hj]
    rw [List.getElem?_append_left hjl] at hy
    obtain ⟨y', h7, h8⟩ := h3 j hj
    have : u.cells[j]? = some y := by simpa using hy
    rw [h7] at this
    cases this
    exact h8
   ·have hjl : u.cells.toList.length ≤ j := by simp [h2]; omega
    rw [List.getElem?_append_right hjl] at hy
    simp only [Array.length_toList, h2] at hy
    have := h6 (j - es) y hy
    rwa [show off + es + (j - es) = off + j by omega] at this
theorem zoe (hi : Inv P z0d st g w) {es : Nat} (hes : 0 < es) {x : V} {v : Value} {ys : List V} {n : Nat} (h : rdSl st es x = some (ys, n)) (hx : RepV g x v) :
  ∃ vals, Reads w v n vals ∧ RepVs g ys vals ∧ vals.length = n * es := by
 unfold rdSl at h
 split at h
 ·cases h
  simp only [RepV] at hx
  exact ⟨[], .inr ⟨0, hx, rfl⟩, z1c, by simp⟩
 ·cases h
  simp only [RepV] at hx
  obtain ⟨a, c, rfl⟩ := hx
  exact ⟨[], .inl ⟨a, c, rfl, fun j u hu => by simp at hu⟩, z1c, by simp⟩
 ·rename_i l
  split at h
  ·rename_i hc
   cases h
   simp only [RepV, RepD] at hx
   obtain ⟨a, cap, rfl, _, hl⟩ := hx
   rcases hl with rfl | ⟨b, off, es', rfl, he0, hl⟩
   ·refine ⟨[], ?_, by simpa using z1c, by simp⟩
    cases a with
    | none => exact .inr ⟨cap, rfl, rfl⟩
    | some a => exact .inl ⟨a, cap, rfl, fun j u hu => by simp at hu⟩
   ·obtain ⟨vs, h1, h2, h3⟩ := RepL.cells he0 hl
    refine ⟨vs, .inl ⟨_, cap, rfl, fun j u hu => by rw [z5w]; exact hi.H _ _ _ (h3 j u hu)⟩, z10.2 h1, ?_⟩
    rw [h1.length, hc]
  ·cases h
 ·rename_i k es' ag off len
  split at h
  ·rename_i cs hcs
   split at h
   ·rename_i hc
    cases h
    obtain ⟨hc, rfl⟩ := hc
    simp only [RepV] at hx
    obtain ⟨b, hb, o, cap, rfl, hsz, htot, ho⟩ := hx
    obtain ⟨b', vs, hb', hsz', _, hr, hread⟩ := z51 hi hcs
    obtain rfl : b = b' := Option.some.inj (hb.symm.trans hb')
    have hl := hr.length
    refine ⟨(vs.drop off).take (n * es'), ?_, RepVs.take _ (RepVs.drop _ hr), by simp; omega⟩
    refine .inl ⟨_, cap, rfl, fun j u hu => ?_⟩
    obtain ⟨h1, h2⟩ := z35 hu
    rcases ho with rfl | ⟨rfl, _⟩
    ·rw [List.getElem?_drop] at h1
     rw [z5w, Nat.add_assoc]
     exact hread _ _ h1
    ·simp at h2
   ·cases h
  ·cases h
 ·cases h
theorem Reads.first {v : Value} {n : Nat} {vals : List Value} (h : Reads w v n vals) {es m : Nat} (hl : vals.length = n * es) (hm : m ≤ n) :
  (Builtin.firstCells es m v).run P w = .ok (vals.take (m * es)).toArray w ∧ (Builtin.lenOf v).run P w = .ok n w := by
 rcases h with ⟨a, c, rfl, h⟩ | ⟨c, rfl, rfl⟩
 ·refine ⟨?_, by simp [Builtin.lenOf]⟩
  have hle : m * es ≤ n * es := Nat.mul_le_mul_right _ hm
  have := run_loadCells_list (P := P) w a (vals.take (m * es)) (fun j u hu => h j u (z35 hu).1)
  rw [List.length_take, hl, Nat.min_eq_left hle] at this
  simpa [Builtin.firstCells] using this
 ·exact ⟨by simp [Builtin.firstCells], by simp [Builtin.lenOf]⟩
theorem zzy (hi : Inv P z0d st g w) {t tx ty e : TypeId} {es eb : Nat} {ag : Bool} {z : List V} (ht : P.underlying t = some (.slice e)) (he : z41 P e = some (es, ag, eb, z)) {x y r : V} {vx vy : Value} {st' : St}
  (h : z8l st es x y = some (r, st')) (hx : RepV g x vx) (hy : RepV g y vy) :
  ∃ u w', (Builtin.copy_ #[t, tx] ty #[vx, vy]).run P w = .ok u w' ∧ RepV g r u ∧ Inv P z0d st' g w' ∧ Step st g w st' g w' := by
 obtain ⟨i, zv, hie, hz, hs, hb, hzs, hes0, hb2, hr⟩ := zmy he
 unfold z8l at h
 split at h
 ·cases h
 ·rename_i ys n hrd
  obtain ⟨vals, h1, h2, h3⟩ := zoe hi hes0 hrd hy
  have hlen : (Builtin.lenOf vy).run P w = .ok n w := (h1.first (P := P) h3 (Nat.le_refl n)).2
  have hfc : ∀ m, m ≤ n → (Builtin.firstCells es m vy).run P w = .ok (vals.take (m * es)).toArray w := fun m hm => (h1.first (P := P) h3 hm).1
  split at h
  ·cases h
   simp only [RepV] at hx
   subst hx
   refine ⟨.int .i64 0, w, ?_, by simp [RepV, RepD], hi, Step.refl st g w⟩
   simp [Builtin.copy_, z05 ht, hlen, sizeOf, typeInfo, hie, hs, hfc 0 (Nat.zero_le _), goInt]
  ·cases h
   simp only [RepV] at hx
   obtain ⟨a, c, rfl⟩ := hx
   refine ⟨.int .i64 0, w, ?_, by simp [RepV, RepD], hi, Step.refl st g w⟩
   simp [Builtin.copy_, z05 ht, hlen, sizeOf, typeInfo, hie, hs, hfc 0 (Nat.zero_le _), goInt, storeCells]
  ·rename_i k es' ag' off len
   split at h
   ·rename_i cs ho
    split at h
    ·rename_i hc
     obtain ⟨rfl, hle, hcell⟩ := hc
     cases h
     simp only [RepV] at hx
     obtain ⟨b, hb', o, cap, rfl, hsz, htot, hoo⟩ := hx
     have hmn : Nat.min n len * es' ≤ n * es' := Nat.mul_le_mul_right _ (Nat.min_le_left _ _)
     have hml : Nat.min n len * es' ≤ len * es' := Nat.mul_le_mul_right _ (Nat.min_le_right _ _)
     have hyl := h2.length
     obtain ⟨w', h4, h5, h6⟩ := z9k (off := off) (news := ys.take (Nat.min n len * es')) (vals := vals.take (Nat.min n len * es')) hi ho hb' (by simp; omega)
      (by rw [List.all_eq_true] at hcell ⊢; exact fun x hx => hcell x (List.mem_of_mem_take hx)) (RepVs.take _ h2)
     refine ⟨.int .i64 (Nat.min n len : Nat), w', ?_, by simp [RepV, RepD], h5, h6⟩
     have hoff : storeCells ⟨b, o, none⟩ (vals.take (Nat.min n len * es')) = storeCells ⟨b, g.sh k + off, none⟩ (vals.take (Nat.min n len * es')) := by
      rcases hoo with rfl | ⟨rfl, _⟩
      ·rfl
      ·simp [storeCells]
     have hff := hfc (Nat.min n len) (Nat.min_le_left _ _)
     simp only [Builtin.copy_]
     simp [z05 ht, hlen, sizeOf, typeInfo, hie, hs, hff, goInt, hoff, h4]
    ·cases h
   ·cases h
  ·cases h
end Go.Lift
namespace Go.Lift
open Go
variable {P : Program} {st : St} {g : Gh} {w : World}
theorem zeo (z : Array Value) (n : Nat) : (Builtin.zeroCells z n).toList = (List.replicate n z.toList).flatten := z80 z n
theorem zrq (hi : Inv P z0d st g w) {t ty e : TypeId} {es eb : Nat} {ag : Bool} {z : List V} (ht : P.underlying t = some (.slice e)) (he : z41 P e = some (es, ag, eb, z)) {x : V} {vx : Value} {st' : St}
  (h : z74 st es z x = some st') (hx : RepV g x vx) :
  ∃ w', (Builtin.clear_ #[t] ty #[vx]).run P w = .ok (.tuple #[]) w' ∧ Inv P z0d st' g w' ∧ Step st g w st' g w' := by
 obtain ⟨i, zv, hie, hz, hs, hb, hzs, hes0, hb2, hr⟩ := zmy he
 unfold z74 at h
 split at h
 ·cases h
  simp only [RepV] at hx
  subst hx
  exact ⟨w, by simp [Builtin.clear_, z05 ht], hi, Step.refl st g w⟩
 ·cases h
  simp only [RepV] at hx
  obtain ⟨a, c, rfl⟩ := hx
  exact ⟨w, by simp [Builtin.clear_, z05 ht], hi, Step.refl st g w⟩
 ·cases h
  simp only [RepV, RepD] at hx
  obtain ⟨a, cap, rfl, _⟩ := hx
  exact ⟨w, by cases a <;> simp [Builtin.clear_, z05 ht], hi, Step.refl st g w⟩
 ·rename_i k es' ag' off len
  simp only [RepV] at hx
  obtain ⟨b, hb', o, cap, rfl, hsz, htot, hoo⟩ := hx
  split at h
  ·rename_i h0
   cases h
   subst h0
   exact ⟨w, by simp [Builtin.clear_, z05 ht], hi, Step.refl st g w⟩
  ·rename_i h0
   split at h
   ·rename_i cs ho
    split at h
    ·rename_i hc
     obtain ⟨rfl, hle, hzl, hcell⟩ := hc
     cases h
     obtain rfl : o = g.sh k + off := by rcases hoo with h | h; exact h; omega
     have hll : (List.replicate len z).flatten.length = len * z.length := z1o len
     obtain ⟨w', h4, h5, h6⟩ := z9k (off := off) (news := (List.replicate len z).flatten) (vals := (List.replicate len zv.cells.toList).flatten) hi ho hb' (by rw [hll, hzl]; omega)
      (by
       rw [List.all_eq_true] at hcell ⊢
       intro x hx
       obtain ⟨l, hl, hx⟩ := List.mem_flatten.1 hx
       exact hcell x (List.eq_of_mem_replicate hl ▸ hx)) (RepVs.flatten_replicate (hr g) len)
     refine ⟨w', ?_, h5, h6⟩
     have hz' : (zeroValue e).run P w = .ok zv w := z91 hie hz
     have hlen : ∃ m, len = m + 1 := ⟨len - 1, by omega⟩
     obtain ⟨m, rfl⟩ := hlen
     simp [Builtin.clear_, z05 ht, hz', zeo, h4]
    ·cases h
   ·cases h
 ·cases h
theorem Inv.move (hi : Inv P z0d st g w) {k b key n m s : Nat} {cs cs' : List V} (ho : sget st.s k = some (.cells cs)) (hb : g.blk k = some b) (hk : g.blk key = none) (hlt : key < st.next) {arr : Array Value} {ty : TypeId} {w' : World}
  (hs : w'.heap.size = w.heap.size) (hos : w'.os = w.os) (htp : w'.tape = w.tape) (hout : w'.output = w.output) (hother : ∀ c, c ≠ b → w'.heap[c]? = w.heap[c]?)
  (hh : w'.heap[b]? = some (.cells arr ty (0, 0))) (hn : n = cs'.length) (hnm : n ≤ m) (hm : s + m ≤ arr.size) (hr : RepVs g cs' ((arr.toList.drop s).take n)) :
  Inv P z0d ((st.del k).ins key (.cells cs')) (g.asgS key b n m s) w' ∧ Step st g w ((st.del k).ins key (.cells cs')) (g.asgS key b n m s) w' := by
 obtain ⟨b', hb', hsz, hHn, _⟩ := hi.obj k _ ho
 obtain rfl : b = b' := Option.some.inj (hb.symm.trans hb')
 have hkey : sget st.s key = none := hi.fresh hk
 have hne : key ≠ k := fun e => by rw [e, hb] at hk; cases hk
 have hsub : ∀ {j x}, sget ((st.del k).ins key (.cells cs')).s j = some x → j ≠ key → sget st.s j = some x ∧ j ≠ k := fun {j x} hx hj => by
  simp only [St.ins, St.del, sget, Ne.symm hj, if_false] at hx
  by_cases e : j = k
  ·subst e; rw [z2l] at hx; cases hx
  ·rw [z1n e] at hx; exact ⟨hx, e⟩
 refine ⟨⟨fun j c hj => ?_, fun c o v hv => ?_, fun i j c y z hi' hj hbi hbj => ?_, fun j x hx => ?_⟩, ⟨Ext.asgS hk, Nat.le_refl _, by omega, hos, htp, hout, fun c _ hn => hother c fun e => hn ⟨k, _, ho, e ▸ hb⟩, fun _ _ _ hv => .inl hv, fun c hc => ?_⟩⟩
 ·rw [hs]
  by_cases e : j = key
  ·subst e; rw [z66] at hj; cases hj; exact ⟨hlt, (hi.u k b hb).2⟩
  ·rw [(z2i e).1] at hj; exact hi.u j c hj
 ·by_cases e : c = b
  ·subst e; rw [show (g.asgS key c n m s).H c o = g.H c o from rfl, hHn o] at hv; cases hv
  ·rw [z4v (hother c e)]; exact hi.H c o v hv
 ·by_cases e1 : i = key <;> by_cases e2 : j = key
  ·exact e1.trans e2.symm
  ·subst e1
   rw [z66] at hbi; cases hbi
   rw [(z2i e2).1] at hbj
   obtain ⟨h1, h2⟩ := hsub hj e2
   exact absurd (hi.inj j k b _ _ h1 ho hbj hb) h2
  ·subst e2
   rw [z66] at hbj; cases hbj
   rw [(z2i e1).1] at hbi
   obtain ⟨h1, h2⟩ := hsub hi' e1
   exact absurd (hi.inj i k b _ _ h1 ho hbi hb) h2
  ·rw [(z2i e1).1] at hbi
   rw [(z2i e2).1] at hbj
   exact hi.inj i j c _ _ (hsub hi' e1).1 (hsub hj e2).1 hbi hbj
 ·by_cases e : j = key
  ·subst e
   simp only [St.ins, sget, if_true, Option.some.injEq] at hx
   subst hx
   refine ⟨b, z66, ?_⟩
   have h2 := @zii g j b n m s
   have h3 := @zs8 g j b n m s
   refine ⟨by omega, hHn, arr, ty, hh, by omega, by omega, ?_⟩
   rw [← hn, h3]
   exact RepVs.mono (Ext.asgS hk) hr
  ·obtain ⟨h1, h2⟩ := hsub hx e
   obtain ⟨c, h6, h9⟩ := hi.obj j x h1
   refine ⟨c, by rw [(z2i e).1]; exact h6, h9.mono (Ext.asgS hk) (z2i e).2 (zvq e) (hother c fun e' => h2 (hi.inj j k b _ _ h1 ho (e' ▸ h6) hb)) fun hh => hh⟩
 ·obtain ⟨j, x, h1, h2⟩ := hc
  by_cases e : j = key
  ·subst e; rw [z66] at h2; cases h2; exact .inr ⟨k, _, ho, hb⟩
  ·rw [(z2i e).1] at h2
   exact .inr ⟨j, x, (hsub h1 e).1, h2⟩
theorem Reads.drew {v : Value} {n : Nat} {vals : List Value} (h : Reads w v n vals) : Reads w.drew v n vals := by
 rcases h with ⟨a, c, h1, h⟩ | h
 ·exact .inl ⟨a, c, h1, fun j u hu => h j u hu⟩
 ·exact .inr h
theorem z6e {t tx ty e e' : TypeId} {i : TypeInfo} {zv : Value} (ht : P.underlying t = some (.slice e)) (htx : P.underlying tx = some (.slice e')) (hi : P.info? e = some i) (hz : i.zero = some zv)
  {base : Option Addr} {sLen sCap n : Nat} {y : Value} {olds news : List Value} (ho : Reads w (.slice base sLen sCap) sLen olds) (hol : olds.length = sLen * i.size) (hy : Reads w y n news) (hyl : news.length = n * i.size)
  (hg : sCap < sLen + n) (h63 : sLen + n ≤ 70368744177664) (hb : (sLen + n) * i.bytes ≤ 70368744177664) :
  ∃ C, sLen + n ≤ C ∧ (Builtin.append_ #[t, tx] ty #[.slice base sLen sCap, y]).run P w =
   .ok (.slice (some ⟨w.heap.size, 0, none⟩) (sLen + n) C) (w.drew.alloc (.cells (olds.toArray ++ news.toArray ++ Builtin.zeroCells zv.cells (C - (sLen + n))) e)) := by
 refine ⟨grownCap w (sLen + n) sCap e, by simp only [grownCap, Question.cut]; omega, ?_⟩
 have hn : ¬ (sLen + n ≤ sCap) := by omega
 have h63' : ¬ (9223372036854775807 < ((sLen : Int) + (n : Int))) := by omega
 have h48 := growslice_fits (need := sLen + n) (old := sCap) (bytes := i.bytes) hg (by omega)
 have h48' : ¬ (281474976710656 < Builtin.nextslicecap (sLen + n) sCap * i.bytes) := by omega
 obtain ⟨hf1, hf2⟩ := hy.drew.first (P := P) hyl (Nat.le_refl n)
 obtain ⟨hfo, _⟩ := ho.drew.first (P := P) hol (Nat.le_refl sLen)
 have hlen : (Builtin.lenOf y).run P w = .ok n w := (hy.first (P := P) hyl (Nat.le_refl n)).2
 rw [← hyl, List.take_length] at hf1
 rw [← hol, List.take_length] at hfo
 simp [Builtin.append_, z05 ht, z05 htx, sizeOf, typeInfo, zeroValue, hi, hz, hlen, hn, h63', h48', Question.forced, hf1, hfo, newRow, grownCap]
 congr 2
 apply Array.ext'
 simp [List.append_assoc]
theorem z8t {t tx ty e e' : TypeId} {i : TypeInfo} (ht : P.underlying t = some (.slice e)) (htx : P.underlying tx = some (.slice e')) (hi : P.info? e = some i)
  {a : Addr} {sLen sCap n : Nat} {y : Value} {news : List Value} (hy : Reads w y n news) (hyl : news.length = n * i.size) (hg : sLen + n ≤ sCap) {w' : World} (hst : (storeCells (a.add (sLen * i.size)) news).run P w = .ok () w') :
  (Builtin.append_ #[t, tx] ty #[.slice (some a) sLen sCap, y]).run P w = .ok (.slice (some a) (sLen + n) sCap) w' := by
 obtain ⟨hf1, hf2⟩ := hy.first (P := P) hyl (Nat.le_refl n)
 rw [← hyl, List.take_length] at hf1
 simp [Builtin.append_, z05 ht, z05 htx, sizeOf, typeInfo, hi, hf2, hg, hf1, hst]
theorem z9y {t tx ty e e' : TypeId} {i : TypeInfo} (ht : P.underlying t = some (.slice e)) (htx : P.underlying tx = some (.slice e')) (hi : P.info? e = some i)
  {a : Option Addr} {y : Value} {news : List Value} (hy : Reads w y 0 news) (hyl : news.length = 0 * i.size) :
  (Builtin.append_ #[t, tx] ty #[.slice a 0 0, y]).run P w = .ok (.slice a 0 0) w := by
 obtain ⟨hf1, hf2⟩ := hy.first (P := P) hyl (Nat.le_refl 0)
 simp at hyl
 subst hyl
 simp at hf1
 cases a <;> simp [Builtin.append_, z05 ht, z05 htx, sizeOf, typeInfo, hi, hf2, hf1, storeCells]
theorem zs9 (hi : Inv P z0d st g w) {t tx ty e e' : TypeId} {es eb key : Nat} {ag : Bool} {z : List V} (ht : P.underlying t = some (.slice e)) (htx : P.underlying tx = some (.slice e')) (he : z41 P e = some (es, ag, eb, z)) {x y r : V} {vx vy : Value} {st' : St}
  (hk : g.blk key = none) (hlt : key < st.next) (h : z12 st key es ag eb x y = some (r, st')) (hx : RepV g x vx) (hy : RepV g y vy) :
  ∃ u w' g', (Builtin.append_ #[t, tx] ty #[vx, vy]).run P w = .ok u w' ∧ RepV g' r u ∧ Inv P z0d st' g' w' ∧ Step st g w st' g' w' ∧ ∀ k b, g'.blk k = some b → g.blk k = some b ∨ k = key := by
 obtain ⟨i, zv, hie, hz, rfl, hb, hzs, hes0, hb2, hr⟩ := zmy he
 have hnew : ∀ (b n m k c : Nat), (g.asg key b n m).blk k = some c → g.blk k = some c ∨ k = key := fun b n m k c hc => by
  by_cases e : k = key
  ·exact .inr e
  ·rw [(z1p e).1] at hc; exact .inl hc
 have hnewS : ∀ (b n m s k c : Nat), (g.asgS key b n m s).blk k = some c → g.blk k = some c ∨ k = key := fun b n m s k c hc => by
  by_cases e : k = key
  ·exact .inr e
  ·rw [(z2i e).1] at hc; exact .inl hc
 unfold z12 at h
 split at h
 ·cases h
 ·rename_i ys n hrd
  obtain ⟨vals, h1, h2, h3⟩ := zoe hi hes0 hrd hy
  have hyl := h2.length
  have fresh : ∀ (base : Option Addr), 0 < n → n * eb ≤ 70368744177664 → n ≤ 70368744177664 → vx = .slice base 0 0 → (∃ a, x = a) →
    ∃ u w' g', (Builtin.append_ #[t, tx] ty #[vx, vy]).run P w = .ok u w' ∧ RepV g' (.arr key i.size ag 0 n) u ∧ Inv P z0d (st.ins key (.cells ys)) g' w' ∧ Step st g w (st.ins key (.cells ys)) g' w' ∧ ∀ k b, g'.blk k = some b → g.blk k = some b ∨ k = key := by
   intro base hn hb1 hb2 hv _
   subst hv
   have hR : Reads w (.slice base 0 0) 0 [] := by
    cases base with
    | none => exact .inr ⟨0, rfl, rfl⟩
    | some a => exact .inl ⟨a, 0, rfl, fun j u hu => by simp at hu⟩
   obtain ⟨C, hC, hrun⟩ := z6e (ty := ty) ht htx hie hz hR (by simp) h1 h3 (by omega) (by omega) (by rw [hb]; simpa using hb1)
   have hi' : Inv P z0d st g w.drew := hi.drew _
   have hCs : n * i.size ≤ C * i.size := Nat.mul_le_mul_right _ (by omega)
   have hsz : ((([] : List Value).toArray ++ vals.toArray ++ Builtin.zeroCells zv.cells (C - (0 + n)))).size = C * i.size := by
    simp only [Array.size_append, List.size_toArray, List.length_nil, size_zeroCells, hzs, h3, Nat.zero_add]
    rw [← Nat.add_mul]; congr 1; omega
   obtain ⟨h4, h5⟩ := hi'.ins (k := key) (n := n * i.size) (m := C * i.size) hk hlt (o := .cells ys) (ob := .cells (([] : List Value).toArray ++ vals.toArray ++ Builtin.zeroCells zv.cells (C - (0 + n))) e (0, 0)) (by
    refine ⟨by rw [z3e.1]; omega, fun j => hi'.Hnew j, _, e, z2t, by rw [z3e.2]; omega, by rw [z3e.2, z42, hsz]; omega, ?_⟩
    refine RepVs.mono (Ext.asg hk) ?_
    rw [z42, List.drop_zero]
    have : List.take ys.length (([] : List Value).toArray ++ vals.toArray ++ Builtin.zeroCells zv.cells (C - (0 + n))).toList = vals := by
     simp [hyl]
    rw [this]; exact h2)
   refine ⟨_, _, _, hrun, ?_, h4, (Step.drew st g w _).trans h5, hnew _ _ _⟩
   simp only [RepV]
   refine ⟨w.heap.size, z1z, 0, C, by simp, ?_, ?_, .inl (by rw [show (g.asg key w.drew.heap.size (n * i.size) (C * i.size)).sh key = 0 from z42])⟩
   ·rw [show (g.asg key w.drew.heap.size (n * i.size) (C * i.size)).sz key = n * i.size from z3e.1]; omega
   ·rw [show (g.asg key w.drew.heap.size (n * i.size) (C * i.size)).tot key = C * i.size from z3e.2]; omega
  split at h
  ·simp only [RepV] at hx
   split at h
   ·rename_i hn
    cases h
    subst hn
    subst hx
    exact ⟨_, w, g, z9y ht htx hie h1 h3, by simp [RepV], hi, Step.refl st g w, fun k b hb => .inl hb⟩
   ·rename_i hn
    split at h
    ·rename_i hc
     cases h
     exact fresh none (by omega) hc.1 hc.2.1 hx ⟨_, rfl⟩
    ·cases h
  ·rename_i k es' ag' off len
   split at h
   ·rename_i cs ho
    split at h
    ·rename_i hc
     obtain ⟨rfl, rfl, hb1, hb2, hcell⟩ := hc
     simp only [RepV] at hx
     obtain ⟨b, hb', o, cap, rfl, hsz, htot, hoo⟩ := hx
     obtain ⟨b', hb'', hsz', hHn, arr, ty', hheap, hle1, hle2, hcs⟩ := hi.obj k _ ho
     obtain rfl : b = b' := Option.some.inj (hb'.symm.trans hb'')
     have hadd : (len + n) * i.size = len * i.size + n * i.size := Nat.add_mul _ _ _
     have room : ∀ (d : Nat) (cs' : List V), d ≤ off → len + n ≤ cap → off + len * i.size ≤ cs.length → off + (len + n) * i.size ≤ d + cs'.length → d + cs'.length ≤ off + cap * i.size →
       RepVs g cs' (((arr.toList.take (g.sh k + off + len * i.size) ++ vals ++ arr.toList.drop (g.sh k + off + len * i.size + vals.length)).drop (g.sh k + d)).take cs'.length) →
       ∃ u w' g', (Builtin.append_ #[t, tx] ty #[.slice (some ⟨b, o, none⟩) len cap, vy]).run P w = .ok u w' ∧ RepV g' (.arr key i.size ag' (off - d) (len + n)) u ∧ Inv P z0d ((st.del k).ins key (.cells cs')) g' w' ∧ Step st g w ((st.del k).ins key (.cells cs')) g' w' ∧ ∀ k b, g'.blk k = some b → g.blk k = some b ∨ k = key := by
      intro d cs' hd hroom hle hle' hcap hrr
      have hcapm : (len + n) * i.size ≤ cap * i.size := Nat.mul_le_mul_right _ hroom
      have hst := run_storeCells_at P b (g.sh k + off + len * i.size) ty' vals 0 arr w hheap (by omega) (RepVs.oneCells hcell h2)
      simp only [Nat.add_zero] at hst
      have hst' : (storeCells ((⟨b, o, none⟩ : Addr).add (len * i.size)) vals).run P w = .ok () (w.setRow b (arr.toList.take (g.sh k + off + len * i.size) ++ vals ++ arr.toList.drop (g.sh k + off + len * i.size + vals.length)).toArray) := by
       rcases hoo with rfl | ⟨rfl, rfl⟩
       ·rw [z5w]; exact hst
       ·have : vals = [] := List.eq_nil_of_length_eq_zero (by rw [h3]; have : n = 0 := (by omega); simp [this])
        subst this
        simpa [storeCells] using hst
      have hh := setRow_heap w b arr (arr.toList.take (g.sh k + off + len * i.size) ++ vals ++ arr.toList.drop (g.sh k + off + len * i.size + vals.length)).toArray ty' (0, 0) hheap
      obtain ⟨h4, h5⟩ := Inv.move (w' := w.setRow b (arr.toList.take (g.sh k + off + len * i.size) ++ vals ++ arr.toList.drop (g.sh k + off + len * i.size + vals.length)).toArray) hi (n := cs'.length) (m := g.tot k - d) (s := g.sh k + d) ho hb' hk hlt (by simp) rfl rfl rfl (fun c hc => setRow_other w b c _ hc) hh rfl (by omega) (by simp; omega) hrr
      refine ⟨_, _, _, z8t ht htx hie h1 h3 hroom hst', ?_, h4, h5, hnewS _ _ _ _⟩
      simp only [RepV]
      refine ⟨b, z66, o, cap, rfl, by rw [zii.1]; omega, by rw [zii.2]; omega, ?_⟩
      rw [zs8]
      rcases hoo with h | h
      ·exact .inl (by omega)
      ·exact .inr ⟨by omega, h.2⟩
     have ends : off + len * i.size = cs.length → ∃ u w' g', (Builtin.append_ #[t, tx] ty #[.slice (some ⟨b, o, none⟩) len cap, vy]).run P w = .ok u w' ∧ RepV g' (.arr key i.size ag' 0 (len + n)) u ∧ Inv P z0d ((st.del k).ins key (.cells (cs.drop off ++ ys))) g' w' ∧ Step st g w ((st.del k).ins key (.cells (cs.drop off ++ ys))) g' w' ∧ ∀ k b, g'.blk k = some b → g.blk k = some b ∨ k = key := by
      intro hlen
      have hdl : (cs.drop off).length = len * i.size := by simp; omega
      by_cases hroom : len + n ≤ cap
      ·have hcapm : (len + n) * i.size ≤ cap * i.size := Nat.mul_le_mul_right _ hroom
       have := room off (cs.drop off ++ ys) (Nat.le_refl _) hroom (by omega) (by simp; omega) (by simp; omega) (by
        have e1 : ((arr.toList.take (g.sh k + off + len * i.size) ++ vals ++ arr.toList.drop (g.sh k + off + len * i.size + vals.length)).drop (g.sh k + off)).take (cs.drop off ++ ys).length = ((arr.toList.drop (g.sh k)).take cs.length).drop off ++ vals := by
         rw [List.append_assoc, List.drop_append_of_le_length (by simp; omega), ← List.append_assoc, List.take_append_of_le_length (by simp; omega), List.take_of_length_le (by simp; omega)]
         congr 1
         rw [List.drop_take, List.drop_take, List.drop_drop]
         congr 1; omega
        rw [e1]
        exact RepVs.append (RepVs.drop off hcs) h2)
       rwa [Nat.sub_self] at this
      ·have hR : Reads w (.slice (some ⟨b, o, none⟩) len cap) len (((arr.toList.drop (g.sh k)).take cs.length).drop off) := by
        refine .inl ⟨_, cap, rfl, fun j u hu => ?_⟩
        rw [List.getElem?_drop] at hu
        obtain ⟨h6, h7⟩ := z35 hu
        rw [List.getElem?_drop] at h6
        rcases hoo with rfl | ⟨rfl, _⟩
        ·rw [z5w, z5s hheap, Nat.add_assoc]
         simpa using h6
        ·omega
       have hol : (((arr.toList.drop (g.sh k)).take cs.length).drop off).length = len * i.size := by simp; omega
       obtain ⟨C, hC, hrun⟩ := z6e (ty := ty) ht htx hie hz hR hol h1 h3 (by omega) (by omega) (by rw [hb]; exact hb1)
       have hi' : Inv P z0d (st.del k) g w.drew := (hi.del k).1.drew _
       have hCs : (len + n) * i.size ≤ C * i.size := Nat.mul_le_mul_right _ hC
       have hsz : (((((arr.toList.drop (g.sh k)).take cs.length).drop off).toArray ++ vals.toArray ++ Builtin.zeroCells zv.cells (C - (len + n)))).size = C * i.size := by
        simp only [Array.size_append, List.size_toArray, hol, size_zeroCells, hzs, h3]
        rw [← Nat.add_mul, ← Nat.add_mul]; congr 1; omega
       obtain ⟨h4, h5⟩ := hi'.ins (k := key) (n := (len + n) * i.size) (m := C * i.size) hk hlt (o := .cells (cs.drop off ++ ys)) (ob := .cells ((((arr.toList.drop (g.sh k)).take cs.length).drop off).toArray ++ vals.toArray ++ Builtin.zeroCells zv.cells (C - (len + n))) e (0, 0)) (by
        refine ⟨by rw [z3e.1]; simp; omega, fun j => hi'.Hnew j, _, e, z2t, by rw [z3e.2]; simp; omega, by rw [z3e.2, z42, hsz]; omega, ?_⟩
        refine RepVs.mono (Ext.asg hk) ?_
        rw [z42, List.drop_zero]
        have : List.take (cs.drop off ++ ys).length ((((arr.toList.drop (g.sh k)).take cs.length).drop off).toArray ++ vals.toArray ++ Builtin.zeroCells zv.cells (C - (len + n))).toList = ((arr.toList.drop (g.sh k)).take cs.length).drop off ++ vals := by
         simp only [Array.toList_append, List.toList_toArray]
         rw [List.take_append_of_le_length (by simp; omega), List.take_of_length_le (by simp; omega)]
        rw [this]
        exact RepVs.append (RepVs.drop off hcs) h2)
       refine ⟨_, _, _, hrun, ?_, h4, ((hi.del k).2.trans (Step.drew _ g w _)).trans h5, hnew _ _ _⟩
       simp only [RepV]
       refine ⟨w.heap.size, z1z, 0, C, rfl, ?_, ?_, .inl (by rw [show (g.asg key w.drew.heap.size ((len + n) * i.size) (C * i.size)).sh key = 0 from z42])⟩
       ·rw [show (g.asg key w.drew.heap.size ((len + n) * i.size) (C * i.size)).sz key = (len + n) * i.size from z3e.1]; omega
       ·rw [show (g.asg key w.drew.heap.size ((len + n) * i.size) (C * i.size)).tot key = C * i.size from z3e.2]; omega
     split at h
     ·rename_i hc
      obtain ⟨rfl, hlen⟩ := hc
      cases h
      exact ends (by omega)
     ·split at h
      ·rename_i hle
       cases h
       have hcap : len + n ≤ cap := by
        have : (len + n) * i.size ≤ cap * i.size := by omega
        exact Nat.le_of_mul_le_mul_right this hes0
       have hsl : (splice cs (off + len * i.size) ys).length = cs.length := z2v (by omega)
       refine room 0 _ (Nat.zero_le _) hcap (by omega) (by rw [hsl]; omega) (by rw [hsl]; omega) ?_
       rw [hsl, Nat.add_zero, Nat.add_assoc, zb3 (by simp; omega), z9q (by omega) (by simp; omega)]
       exact RepVs.splice hcs h2
      ·split at h
       ·rename_i hlen
        cases h
        exact ends hlen
       ·cases h
    ·cases h
   ·cases h
  ·cases h
end Go.Lift
