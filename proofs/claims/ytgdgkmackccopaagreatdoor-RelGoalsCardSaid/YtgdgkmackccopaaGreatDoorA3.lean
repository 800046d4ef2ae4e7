/- Part A3 of the proof. -/
import Derived.Test.YtgdgkmackccopaaGreatDoorA2
import Derived.Maps.Keyed
import Derived.DeepKeys3
set_option linter.all false
namespace Go.Lift
open Go
variable {P : Program} {st : St} {g : Gh} {w : World}
def zxf : Kc → Value → Prop
 | .b, v => ∃ b, v = .bool b
 | .s, v => ∃ s : ByteArray, v = .string s ∧ s.size ≤ maxLen
 | .i k, v => ∃ n, v = .int k n ∧ (Lit.int k n).wf = true
def ConfV (sh : List Kc) (cs : List Value) : Prop := cs.length = sh.length ∧ ∀ (j : Nat) c v, sh[j]? = some c → cs[j]? = some v → zxf c v
theorem ConfV.seg {sh l : List Kc} {cs : List Value} {o : Nat} (h : ConfV sh cs) (hl : ∀ j, j < l.length → l[j]? = sh[o + j]?) (hle : o + l.length ≤ sh.length) : ConfV l ((cs.drop o).take l.length) := by
 refine ⟨by simp [h.1]; omega, fun j c v hc hv => ?_⟩
 obtain ⟨h1, h2⟩ := z35 hv
 rw [List.getElem?_drop] at h1
 exact h.2 (o + j) c v ((hl j h2).symm.trans hc) h1
theorem zjf {α β : Type} {f : α → Option β} : ∀ {l : List α}, (∀ x ∈ l, ∃ y, f x = some y) → ∃ m, l.mapM f = some m
 | [], _ => ⟨[], by simp⟩
 | x :: l, h => by
  obtain ⟨y, hy⟩ := h x (by simp)
  obtain ⟨m, hm⟩ := zjf (l := l) fun z hz => h z (by simp [hz])
  exact ⟨y :: m, by simp [hy, hm]⟩
theorem z72 {α : Type} {l : List α} : ∀ {m i j : Nat}, i < m → j < l.length → (List.replicate m l).flatten[i * l.length + j]? = l[j]?
 | 0, i, j, h, _ => by omega
 | m + 1, 0, j, _, hj => by
  simp only [List.replicate_succ, List.flatten_cons, Nat.zero_mul, Nat.zero_add]
  rw [List.getElem?_append_left hj]
 | m + 1, i + 1, j, h, hj => by
  simp only [List.replicate_succ, List.flatten_cons]
  rw [List.getElem?_append_right (by rw [Nat.add_mul]; omega), show (i + 1) * l.length + j - l.length = i * l.length + j by rw [Nat.add_mul]; omega]
  exact z72 (by omega) hj
theorem z8n : ∀ n : Nat,
  (∀ (t : TypeId) (sh : List Kc), zdv P n t = some sh → ∀ (D : Nat) (cs : List Value), P.keyTypeAt D t = true → ConfV sh cs → P.cellsOf t = sh.length → ∃ L, P.keyLits D t cs = some L) ∧
  (∀ (fs : List Field) (off : Nat) (m : List Kc), zfy P n off fs = some m → ∀ (D : Nat) (cs : List Value), (∀ f ∈ fs, P.keyTypeAt D f.type = true) → ConfV m (cs.drop off) →
   (∀ f ∈ fs, f.name ≠ "_") ∧ ∃ Ls, fs.mapM (fun f => P.keyLits D f.type ((cs.drop f.offset).take (P.cellsOf f.type))) = some Ls)
 | 0 => ⟨fun t sh h => by simp [zdv] at h, fun fs off m h => by simp [zfy] at h⟩
 | n + 1 => by
  have IH := z8n n
  refine ⟨fun t sh h D cs hk hc hcell => ?_, fun fs off m h D cs hk hc => ?_⟩
  ·cases D with
   | zero => simp [Program.keyTypeAt] at hk
   | succ D =>
    simp only [zdv] at h
    simp only [Program.keyTypeAt] at hk
    split at h
    ·rename_i k hu
     cases h
     obtain ⟨h1, h2⟩ := hc
     obtain ⟨v, rfl⟩ := List.length_eq_one_iff.1 (h1.trans (by simp))
     obtain ⟨n, rfl, hw⟩ := h2 0 _ v (by simp; rfl) (by simp)
     exact ⟨[.int k n], by simp only [Program.keyLits, hu]; simp [hw]⟩
    ·rename_i hu
     cases h
     obtain ⟨h1, h2⟩ := hc
     obtain ⟨v, rfl⟩ := List.length_eq_one_iff.1 (h1.trans (by simp))
     obtain ⟨n, rfl⟩ := h2 0 _ v (by simp; rfl) (by simp)
     exact ⟨[.bool n], by simp only [Program.keyLits, hu]⟩
    ·rename_i hu
     cases h
     obtain ⟨h1, h2⟩ := hc
     obtain ⟨v, rfl⟩ := List.length_eq_one_iff.1 (h1.trans (by simp))
     obtain ⟨n, rfl, hw⟩ := h2 0 _ v (by simp; rfl) (by simp)
     exact ⟨[.string n.data.toList], by simp only [Program.keyLits, hu]; simp [hw]⟩
    ·rename_i fs hu
     simp only [hu, Bool.and_eq_true] at hk
     have hk' : ∀ f ∈ fs.toList, P.keyTypeAt D f.type = true := fun f hf => by
      have := Array.all_eq_true'.1 hk.1.1 f (Array.mem_toList_iff.1 hf)
      simp only [Bool.and_eq_true] at this
      exact this.2
     obtain ⟨h1, Ls, h2⟩ := IH.2 fs.toList 0 sh h D cs hk' (by simpa using hc)
     have h3 : fs.all (fun f => f.name != "_") = true := by
      rw [Array.all_eq_true']
      intro f hf
      simpa using h1 f (Array.mem_toList_iff.2 hf)
     refine ⟨Ls.flatten, ?_⟩
     have h4 : cs.length = P.cellsOf t := by rw [hc.1, hcell]
     cases cs with
     | nil => simp only [Program.keyLits, hu]; rw [if_pos ⟨h4, h3⟩, h2]; rfl
     | cons c cs => simp only [Program.keyLits, hu]; rw [if_pos ⟨h4, h3⟩, h2]; rfl
    ·rename_i m e hu
     simp only [hu] at hk
     split at h
     ·rename_i l hl
      split at h
      ·rename_i hce
       cases h
       have h4 : cs.length = P.cellsOf t := by rw [hc.1, hcell]
       have h5 : ∀ i ∈ List.range m, ∃ L, P.keyLits D e ((cs.drop (i * P.cellsOf e)).take (P.cellsOf e)) = some L := fun i hi => by
        rw [List.mem_range] at hi
        rw [hce]
        refine IH.1 e l hl D _ hk (hc.seg (fun j hj => (z72 hi hj).symm) ?_) hce
        have : (i + 1) * l.length ≤ m * l.length := Nat.mul_le_mul_right _ hi
        rw [Nat.add_mul] at this
        simp
        omega
       obtain ⟨Ls, h6⟩ := zjf h5
       refine ⟨Ls.flatten, ?_⟩
       cases cs with
       | nil => simp only [Program.keyLits, hu]; rw [if_pos h4, h6]; rfl
       | cons c cs => simp only [Program.keyLits, hu]; rw [if_pos h4, h6]; rfl
      ·cases h
     ·cases h
    ·cases h
  ·cases fs with
   | nil => exact ⟨by simp, [], by simp⟩
   | cons f fs =>
    simp only [zfy] at h
    split at h
    ·rename_i l hl
     split at h
     ·rename_i hcond
      simp only [Bool.and_eq_true, bne_iff_ne, ne_eq, beq_iff_eq] at hcond
      obtain ⟨⟨hname, hoff⟩, hcell⟩ := hcond
      split at h
      ·rename_i m' hm'
       cases h
       have hseg : ConfV l (((cs.drop off).drop 0).take l.length) := hc.seg (fun j hj => by rw [Nat.zero_add, List.getElem?_append_left hj]) (by simp)
       obtain ⟨L, hL⟩ := IH.1 f.type l hl D _ (hk f (by simp)) hseg hcell
       have hrest : ConfV m' (cs.drop (off + l.length)) := by
        refine ⟨?_, fun j c v h1 h2 => hc.2 (l.length + j) c v ?_ ?_⟩
        ·have := hc.1
         simp at this ⊢
         omega
        ·rw [List.getElem?_append_right (by omega)]; simpa using h1
        ·rw [List.getElem?_drop] at h2 ⊢; rwa [show off + (l.length + j) = off + l.length + j by omega]
       obtain ⟨h1, Ls, h2⟩ := IH.2 fs (off + l.length) m' hm' D cs (fun f' hf' => hk f' (by simp [hf'])) hrest
       refine ⟨fun f' hf' => ?_, L :: Ls, ?_⟩
       ·rcases List.mem_cons.1 hf' with rfl | hf'
        ·exact hname
        ·exact h1 f' hf'
       ·rw [List.drop_zero] at hL
        simp [hoff, hcell, hL, h2]
      ·cases h
     ·cases h
    ·cases h
end Go.Lift
namespace Go.Lift
open Go Go.Maps
variable {P : Program} {st : St} {g : Gh} {w : World}
theorem zve {c : Kc} {x : D} {v : Value} {H : Still} (h : z7q c x = true) (hx : RepD H x v) : zxf c v := by
 unfold z7q at h
 split at h
 ·simp only [RepD] at hx; exact ⟨_, hx⟩
 ·simp only [RepD] at hx
  obtain ⟨b, rfl, hb⟩ := hx
  refine ⟨b, rfl, ?_⟩
  have : b.size = b.data.toList.length := by rw [Array.length_toList]; rfl
  have hl := congrArg List.length hb
  simp only [List.length_map] at hl
  simp only [decide_eq_true_eq] at h
  unfold maxLen
  omega
 ·simp only [RepD] at hx
  simp only [Bool.and_eq_true, decide_eq_true_eq] at h
  obtain ⟨⟨rfl, h1⟩, h2⟩ := h
  exact ⟨_, hx, by simp [Lit.wf, h1, h2]⟩
 ·cases h
theorem zko : ∀ {sh : List Kc} {ds : List D}, conf sh ds = true → ds.length = sh.length ∧ ∀ (j : Nat) c x, sh[j]? = some c → ds[j]? = some x → z7q c x = true
 | [], [], _ => ⟨rfl, fun j c x h => by simp at h⟩
 | [], _ :: _, h => by simp [conf] at h
 | _ :: _, [], h => by simp [conf] at h
 | c :: sh, x :: ds, h => by
  simp only [conf, Bool.and_eq_true] at h
  obtain ⟨h1, h2⟩ := zko h.2
  refine ⟨by simp [h1], fun j c' x' hc hx => ?_⟩
  cases j with
  | zero => simp at hc hx; subst hc; subst hx; exact h.1
  | succ j => exact h2 j c' x' (by simpa using hc) (by simpa using hx)
theorem z16 {ag : Bool} {sh : List Kc} {x : D} (h : z2g ag sh x = true) : conf sh (cellsD x) = true ∧ (ag = true ↔ ∃ ds, x = .agg ds) := by
 unfold z2g at h
 split at h
 ·simp only [Bool.and_eq_true] at h
  exact ⟨h.2, by simp [h.1]⟩
 ·rename_i hne
  simp only [Bool.and_eq_true, Bool.not_eq_true'] at h
  cases x <;> first | (exact absurd rfl (hne _)) | exact ⟨h.2, by simp [h.1]⟩
theorem zhz {ag : Bool} {sh : List Kc} {x : D} {v : Value} {H : Still} (h : z2g ag sh x = true) (hx : RepD H x v) : ConfV sh v.cells.toList := by
 obtain ⟨h1, h2⟩ := zko (z16 h).1
 have hr := RepD.cells hx
 refine ⟨hr.length.trans h1, fun j c u hc hu => ?_⟩
 have hlt : j < (cellsD x).length := by rw [h1]; exact (List.getElem?_eq_some_iff.1 hc).1
 obtain ⟨u', hu', hr'⟩ := hr.get (i := j) (x := (cellsD x)[j]) (by simp [hlt])
 rw [hu] at hu'
 cases hu'
 exact zve (h2 j c _ hc (by simp [hlt])) hr'
theorem zrm {c : Kc} {x y : D} {v u : Value} {H H' : Still} (h : z7q c x = true) (k : z7q c y = true) (hx : RepD H x v) (hy : RepD H' y u) : (x = y ↔ v = u) ∧ (D.beq x y = true ↔ x = y) := by
 cases c <;> cases x <;> simp only [z7q, Bool.false_eq_true] at h <;> cases y <;> simp only [z7q, Bool.false_eq_true] at k <;> simp only [RepD] at hx hy
 ·subst hx; subst hy
  exact ⟨by simp, by simp [D.beq]⟩
 ·obtain ⟨b, rfl, hb⟩ := hx
  obtain ⟨c, rfl, hc⟩ := hy
  refine ⟨⟨fun e => ?_, fun e => ?_⟩, by simp [D.beq]⟩
  ·cases e
   rw [← hb] at hc
   have := z7a hc
   have : b = c := ByteArray.ext (Array.ext' this.symm)
   rw [this]
  ·cases e
   rw [← hb, ← hc]
 ·subst hx; subst hy
  exact ⟨by simp, by simp [D.beq]⟩
theorem ze5 : ∀ {sh : List Kc} {xs ys : List D} {vs us : List Value} {H H' : Still}, conf sh xs = true → conf sh ys = true → RepC H xs vs → RepC H' ys us → (xs = ys ↔ vs = us) ∧ (D.beqL xs ys = true ↔ xs = ys)
 | [], [], [], vs, us, _, _, _, _, h1, h2 => by
  simp only [RepC] at h1 h2
  subst h1; subst h2
  simp [D.beqL]
 | [], _ :: _, _, _, _, _, _, h, _, _, _ => by simp [conf] at h
 | [], [], _ :: _, _, _, _, _, _, h, _, _ => by simp [conf] at h
 | _ :: _, [], _, _, _, _, _, h, _, _, _ => by simp [conf] at h
 | _ :: _, _ :: _, [], _, _, _, _, _, h, _, _ => by simp [conf] at h
 | c :: sh, x :: xs, y :: ys, vs, us, H, H', h, k, h1, h2 => by
  simp only [conf, Bool.and_eq_true] at h k
  simp only [RepC] at h1 h2
  obtain ⟨v, ws, rfl, h3, h4⟩ := h1
  obtain ⟨u, zs, rfl, h5, h6⟩ := h2
  obtain ⟨e1, e2⟩ := zrm h.1 k.1 h3 h5
  obtain ⟨e3, e4⟩ := ze5 h.2 k.2 h4 h6
  exact ⟨by simp [e1, e3], by simp [D.beqL, e2, e4]⟩
theorem zb6 {ag : Bool} {sh : List Kc} {x y : D} {v u : Value} {H H' : Still} (h : z2g ag sh x = true) (k : z2g ag sh y = true) (hx : RepD H x v) (hy : RepD H' y u) : (x = y ↔ v = u) ∧ (D.beq x y = true ↔ x = y) := by
 cases ag with
 | true =>
  obtain ⟨xs, rfl⟩ := (z16 h).2.1 rfl
  obtain ⟨ys, rfl⟩ := (z16 k).2.1 rfl
  simp only [RepD] at hx hy
  obtain ⟨vs, rfl, hx⟩ := hx
  obtain ⟨us, rfl, hy⟩ := hy
  obtain ⟨e1, e2⟩ := ze5 (z16 h).1 (z16 k).1 hx hy
  simp only [cellsD] at e1 e2
  refine ⟨?_, by simp [D.beq, e2]⟩
  simp only [D.agg.injEq, Value.agg.injEq, e1]
  exact ⟨fun e => Array.ext' e, fun e => by rw [e]⟩
 | false =>
  have hx' : cellsD x = [x] := by
   cases x <;> first | rfl | (exact absurd ((z16 h).2.2 ⟨_, rfl⟩) (by simp))
  have hy' : cellsD y = [y] := by
   cases y <;> first | rfl | (exact absurd ((z16 k).2.2 ⟨_, rfl⟩) (by simp))
  have h1 := (z16 h).1
  have h2 := (z16 k).1
  rw [hx'] at h1
  rw [hy'] at h2
  obtain ⟨e1, e2⟩ := ze5 h1 h2 (z1q.2 ⟨hx, z7z⟩) (z1q.2 ⟨hy, z7z⟩)
  exact ⟨by simpa using e1, by simpa [D.beqL] using e2⟩
theorem zdl {t : TypeId} {ag : Bool} {sh : List Kc} (h : keyT P t = some (ag, sh)) : tagg P t = some ag ∧ zdv P z2d t = some sh ∧ P.keyType t = true ∧ P.keyTypeAt z2d t = true ∧ P.tiled z2d t = true ∧ P.cellsOf t = sh.length := by
 unfold keyT at h
 split at h
 ·rename_i g l h1 h2
  split at h
  ·rename_i hc
   cases h
   simp only [Bool.and_eq_true, decide_eq_true_eq] at hc
   exact ⟨h1, h2, hc.1.1.1, hc.1.1.2, hc.1.2, hc.2⟩
  ·cases h
 ·cases h
theorem z3p {t : TypeId} {ag : Bool} {sh : List Kc} (h : keyT P t = some (ag, sh)) : Keyed P t := by
 obtain ⟨h1, h2, h3, h4, h5, h6⟩ := zdl h
 unfold z2d at *
 simp only [zdv] at h2
 split at h2
 ·rename_i hu; exact int_keyed hu
 ·rename_i hu; exact bool_keyed hu
 ·rename_i hu; exact string_keyed hu
 ·rename_i hu; exact Keyed.of_law (deep_law (by omega) h4 h5 (by rw [hu]))
 ·rename_i hu; exact Keyed.of_law (deep_law (by omega) h4 h5 (by rw [hu]))
 ·cases h2
theorem z3q {t : TypeId} {ag : Bool} {sh : List Kc} (h : keyT P t = some (ag, sh)) {x : D} {v : Value} {H : Still} (hc : z2g ag sh x = true) (hx : RepD H x v) : ∃ l, keyOf P t v = some l := by
 obtain ⟨h1, h2, h3, h4, h5, h6⟩ := zdl h
 have hC := zhz hc hx
 cases ag with
 | true =>
  obtain ⟨ds, rfl⟩ := (z16 hc).2.1 rfl
  simp only [RepD] at hx
  obtain ⟨vs, rfl, hx⟩ := hx
  obtain ⟨L, hL⟩ := (z8n z2d).1 t sh h2 (P.types.size + 1) _ h3 hC h6
  have hsz : vs.size = P.cellsOf t := by
   have := hC.1
   simp only [Value.cells, Array.length_toList] at this
   omega
  unfold tagg at h1
  unfold keyOf
  split at h1 <;> rename_i hu
  ·simp [hu, h3, Value.formed, hsz, hL]
  ·simp [hu, h3, Value.formed, hsz, hL]
  ·cases h1
  ·cases h1
 | false =>
  have hx' : cellsD x = [x] := by
   cases x <;> first | rfl | (exact absurd ((z16 hc).2.2 ⟨_, rfl⟩) (by simp))
  have hv : v.cells = #[v] := by
   cases x <;> simp only [RepD] at hx
   ·subst hx; rfl
   ·subst hx; rfl
   ·obtain ⟨b, rfl, _⟩ := hx; rfl
   ·obtain ⟨a, c, rfl, _⟩ := hx; rfl
   ·exact absurd ((z16 hc).2.2 ⟨_, rfl⟩) (by simp)
  rw [hv] at hC
  unfold z2d at h2
  simp only [zdv] at h2
  unfold tagg at h1
  unfold keyOf
  split at h2 <;> rename_i hu
  ·cases h2
   obtain ⟨n, rfl, hw⟩ := hC.2 0 _ v (by simp; rfl) (by simp)
   simp [hu, mapKey, hw]
  ·cases h2
   obtain ⟨n, rfl⟩ := hC.2 0 _ v (by simp; rfl) (by simp)
   simp [hu, mapKey]
  ·cases h2
   obtain ⟨n, rfl, hw⟩ := hC.2 0 _ v (by simp; rfl) (by simp)
   simp [hu, mapKey, hw]
  ·simp [hu] at h1
  ·simp [hu] at h1
  ·cases h2
end Go.Lift
namespace Go.Lift
open Go Go.Maps
variable {P : Program} {st : St} {g : Gh} {w : World}
theorem zxr {t : TypeId} {x : V} (h : zval P t = some x) : ∃ i zv, P.info? t = some i ∧ i.zero = some zv ∧ ∀ g, RepV g x zv := by
 unfold zval at h
 split at h
 ·rename_i i hi
  split at h
  ·rename_i cs hz
   simp only [Option.map_eq_some_iff] at h
   obtain ⟨l, hl, rfl⟩ := h
   exact ⟨i, _, hi, hz, fun g => z95 (zhy hl)⟩
  ·rename_i z hz
   exact ⟨i, _, hi, by assumption, fun g => zri h⟩
  ·cases h
 ·cases h
theorem y2p {t : TypeId} {sh : List Kc} (ht : keyT P t = some (true, sh)) (hg : P.eqGuardType P.depth t = false) {x y : Operand} {a b : D} {va vb : Value} {neg : Bool} (ha : RepV g (.d a) va) (hb : RepV g (.d b) vb) (ca : z2g true sh a = true) (cb : z2g true sh b = true) :
  ((do eqGuard (if neg then .neq else .eql) t x y va vb; binOp (if neg then .neq else .eql) t va vb : Sem Value)).run P w = .ok (.bool (D.beq a b != neg)) w := by
 simp only [RepV] at ha hb
 obtain ⟨h1, h2, h3, h4, h5, h6⟩ := zdl ht
 obtain ⟨la, hla⟩ := z3q ht ca ha
 obtain ⟨lb, hlb⟩ := z3q ht cb hb
 obtain ⟨e1, e2⟩ := zb6 ca cb ha hb
 have hw : (match P.underlying t with | some (.array _ _) | some (.struct _) => true | _ => false) = true := by
  unfold tagg at h1
  split at h1 <;> rename_i hu <;> first | (cases h1; done) | rw [hu]
 obtain ⟨r, hr, hiff⟩ := run_equal_deep w (m := z2d) (by unfold z2d; omega) h4 hw hla hlb
 have hab : r = D.beq a b := by
  rw [Bool.eq_iff_iff, hiff, e2, e1]
  exact ⟨fun e => (z3p ht).inj hla (e ▸ hlb), fun e => by rw [e, hlb] at hla; exact (Option.some.inj hla).symm⟩
 obtain ⟨xs, rfl⟩ := (z16 ca).2.1 rfl
 obtain ⟨ys, rfl⟩ := (z16 cb).2.1 rfl
 simp only [RepD] at ha hb
 obtain ⟨vs, rfl, _⟩ := ha
 obtain ⟨us, rfl, _⟩ := hb
 cases neg <;> simp [eqGuard, binOp, hg, hr, hab]
theorem RepM.get {kt : TypeId} : ∀ {l : List (D × V)} {es : List MapEntry}, RepM P kt g l es → ∀ {j : Nat} {e : MapEntry}, es[j]? = some e → ∃ p, l[j]? = some p ∧ (∃ ag sh, keyT P kt = some (ag, sh) ∧ z2g ag sh p.1 = true) ∧ RepD g.H p.1 e.key ∧ RepV g p.2 e.val
 | [], es, h, j, e, he => by simp only [RepM] at h; subst h; simp at he
 | (k, x) :: l, es, h, j, e, he => by
  simp only [RepM] at h
  obtain ⟨e', r, rfl, h1, h⟩ := h
  cases j with
  | zero => simp at he; subst he; exact ⟨(k, x), by simp, h1⟩
  | succ j => simpa using RepM.get h (by simpa using he)
theorem RepM.append {kt : TypeId} {k : D} {x : V} {e : MapEntry} (h1 : (∃ ag sh, keyT P kt = some (ag, sh) ∧ z2g ag sh k = true) ∧ RepD g.H k e.key ∧ RepV g x e.val) :
  ∀ {l : List (D × V)} {es : List MapEntry}, RepM P kt g l es → RepM P kt g (l ++ [(k, x)]) (es ++ [e])
 | [], es, h => by
  simp only [RepM] at h
  subst h
  simp only [List.nil_append, RepM]
  exact ⟨e, [], rfl, h1, rfl⟩
 | (k', x') :: l, es, h => by
  simp only [RepM] at h
  obtain ⟨e', r, rfl, h2, h⟩ := h
  simp only [List.cons_append, RepM]
  exact ⟨e', _, rfl, h2, RepM.append h1 h⟩
theorem RepM.set' {kt : TypeId} {k : D} {x : V} {e : MapEntry} (h1 : (∃ ag sh, keyT P kt = some (ag, sh) ∧ z2g ag sh k = true) ∧ RepD g.H k e.key ∧ RepV g x e.val) :
  ∀ {l : List (D × V)} {es : List MapEntry} (j : Nat), RepM P kt g l es → RepM P kt g (l.set j (k, x)) (es.set j e)
 | [], es, j, h => by
  simp only [RepM] at h
  subst h
  simp [RepM]
 | (k', x') :: l, es, j, h => by
  simp only [RepM] at h
  obtain ⟨e', r, rfl, h2, h⟩ := h
  cases j with
  | zero => simp only [List.set_cons_zero, RepM]; exact ⟨e, r, rfl, h1, h⟩
  | succ j => simp only [List.set_cons_succ, RepM]; exact ⟨e', _, rfl, h2, RepM.set' h1 j h⟩
theorem RepM.mem {kt : TypeId} : ∀ {l : List (D × V)} {es : List MapEntry}, RepM P kt g l es → ∀ {p}, p ∈ l → ∃ e ∈ es, (∃ ag sh, keyT P kt = some (ag, sh) ∧ z2g ag sh p.1 = true) ∧ RepD g.H p.1 e.key
 | [], es, h, p, hp => by simp at hp
 | (k, x) :: l, es, h, p, hp => by
  simp only [RepM] at h
  obtain ⟨e', r, rfl, h1, h⟩ := h
  rcases List.mem_cons.1 hp with rfl | hp
  ·exact ⟨e', by simp, h1.1, h1.2.1⟩
  ·obtain ⟨e, he, h2⟩ := RepM.mem h hp
   exact ⟨e, by simp [he], h2⟩
theorem zae : ∀ {l : List (D × V)} {k : D}, (∀ p ∈ l, D.beq p.1 k = false) → z1s l k = none
 | [], _, _ => rfl
 | (a, v) :: l, k, h => by
  simp only [z1s, h (a, v) (by simp), Bool.false_eq_true, if_false]
  exact zae fun p hp => h p (by simp [hp])
theorem zac : ∀ {l : List (D × V)} {k : D} {x : V}, (∀ p ∈ l, D.beq p.1 k = false) → z22 l k x = l ++ [(k, x)]
 | [], _, _, _ => rfl
 | (a, v) :: l, k, x, h => by
  simp only [z22, h (a, v) (by simp), Bool.false_eq_true, if_false, List.cons_append, List.cons.injEq, true_and]
  exact zac fun p hp => h p (by simp [hp])
theorem zad : ∀ {l : List (D × V)} {k : D} {j : Nat} {x : V}, (∀ p ∈ l, D.beq p.1 k = true ↔ p.1 = k) → (l.map Prod.fst).Nodup → l[j]? = some (k, x) → z1s l k = some x
 | [], _, _, _, _, _, h => by simp at h
 | (a, v) :: l, k, j, x, hb, hn, h => by
  simp only [List.map_cons, List.nodup_cons] at hn
  cases j with
  | zero =>
   simp at h
   obtain ⟨rfl, rfl⟩ := h
   simp only [z1s, (hb (a, v) (by simp)).2 rfl, if_true]
  | succ j =>
   have hm : (k, x) ∈ l := List.mem_of_getElem? (by simpa using h)
   have : D.beq a k = false := by
    cases e : D.beq a k with
    | false => rfl
    | true =>
     have := (hb (a, v) (by simp)).1 e
     subst this
     exact absurd (List.mem_map.2 ⟨_, hm, rfl⟩) hn.1
   simp only [z1s, this, Bool.false_eq_true, if_false]
   exact zad (fun p hp => hb p (by simp [hp])) hn.2 (by simpa using h)
theorem zab : ∀ {l : List (D × V)} {k : D} {j : Nat} {x y : V}, (∀ p ∈ l, D.beq p.1 k = true ↔ p.1 = k) → (l.map Prod.fst).Nodup → l[j]? = some (k, x) → z22 l k y = l.set j (k, y)
 | [], _, _, _, _, _, _, h => by simp at h
 | (a, v) :: l, k, j, x, y, hb, hn, h => by
  simp only [List.map_cons, List.nodup_cons] at hn
  cases j with
  | zero =>
   simp at h
   obtain ⟨rfl, rfl⟩ := h
   simp only [z22, (hb (a, v) (by simp)).2 rfl, if_true, List.set_cons_zero]
  | succ j =>
   have hm : (k, x) ∈ l := List.mem_of_getElem? (by simpa using h)
   have : D.beq a k = false := by
    cases e : D.beq a k with
    | false => rfl
    | true =>
     have := (hb (a, v) (by simp)).1 e
     subst this
     exact absurd (List.mem_map.2 ⟨_, hm, rfl⟩) hn.1
   simp only [z22, this, Bool.false_eq_true, if_false, List.set_cons_succ]
   rw [zab (fun p hp => hb p (by simp [hp])) hn.2 (by simpa using h)]
theorem zqz {kt : TypeId} {ag : Bool} {sh : List Kc} (hk : keyT P kt = some (ag, sh)) {l : List (D × V)} {es : List MapEntry} (hr : RepM P kt g l es) (hn : (l.map Prod.fst).Nodup) {kd : D} {v : Value} (hc : z2g ag sh kd = true) (hv : RepD g.H kd v) :
  ((Instr.findKey kt v es).run P w = .ok none w ∧ z1s l kd = none ∧ (∀ x, z22 l kd x = l ++ [(kd, x)]) ∧ kd ∉ l.map Prod.fst) ∨
  ∃ j e x, (Instr.findKey kt v es).run P w = .ok (some (j, e.val)) w ∧ es[j]? = some e ∧ e.key = v ∧ l[j]? = some (kd, x) ∧ RepV g x e.val ∧ z1s l kd = some x ∧ ∀ y, z22 l kd y = l.set j (kd, y) := by
 have K := z3p hk
 obtain ⟨lit, hlit⟩ := z3q hk hc hv
 have hall : ∀ e ∈ es, ∃ l, keyOf P kt e.key = some l := fun e he => by
  obtain ⟨j, hj⟩ := List.getElem?_of_mem he
  obtain ⟨p, _, ⟨ag', sh', h1, h2⟩, h3, _⟩ := hr.get hj
  exact z3q h1 h2 h3
 have hbeq : ∀ p ∈ l, ∃ e ∈ es, (D.beq p.1 kd = true ↔ p.1 = kd) ∧ (p.1 = kd ↔ e.key = v) := fun p hp => by
  obtain ⟨e, he, ⟨ag', sh', h1, h2⟩, h3⟩ := hr.mem hp
  rw [hk] at h1
  cases h1
  obtain ⟨e1, e2⟩ := zb6 h2 hc h3 hv
  exact ⟨e, he, e2, e1⟩
 rcases K.find w hlit es hall with ⟨h1, h2⟩ | ⟨j, e, h1, h2, h3⟩
 ·have hno : ∀ p ∈ l, D.beq p.1 kd = false := fun p hp => by
   obtain ⟨e, he, h3, h4⟩ := hbeq p hp
   cases hb : D.beq p.1 kd with
   | false => rfl
   | true => exact absurd (h4.1 (h3.1 hb)) (h2 e he)
  refine .inl ⟨h1, zae hno, fun x => zac hno, fun hm => ?_⟩
  obtain ⟨p, hp, rfl⟩ := List.mem_map.1 hm
  obtain ⟨e, he, h3, h4⟩ := hbeq p hp
  exact h2 e he (h4.1 rfl)
 ·obtain ⟨⟨k', x⟩, hp, ⟨ag', sh', h4, h5⟩, h6, h7⟩ := hr.get h2
  rw [hk] at h4
  cases h4
  have hkk : k' = kd := (zb6 h5 hc h6 hv).1.2 h3
  subst hkk
  have hb : ∀ p ∈ l, D.beq p.1 k' = true ↔ p.1 = k' := fun p hp => by
   obtain ⟨_, _, h, _⟩ := hbeq p hp
   exact h
  exact .inr ⟨j, e, x, h1, h2, h3, hp, h7, zad hb hn hp, fun y => zab hb hn hp⟩
theorem zbw {b : Nat} {en : Array MapEntry} {cl : Nat} (h : w.heap[b]? = some (.map en cl)) : (getObj b).run P w = .ok (.map en cl) w := by simp [getObj, Sem.run, h]
theorem zpm (hi : Inv P z0d st g w) {t kt e : TypeId} {ag : Bool} {sh : List Kc} {ok : Bool} {zero m k y : V} {vm vk : Value} (ht : P.underlying t = some (.map kt e)) (hk : keyT P kt = some (ag, sh)) (hz : zval P e = some zero)
  (h : z1w st kt ag sh ok zero m k = some y) (hm : RepV g m vm) (hkv : RepV g k vk) : ∃ u, (Instr.lookup t vm vk ok).run P w = .ok u w ∧ RepV g y u := by
 obtain ⟨i, zv, hie, hzv, hzr⟩ := zxr hz
 have hzero : (zeroValue e).run P w = .ok zv w := z91 hie hzv
 have two : ∀ (x : V) (u : Value) (b : Bool), RepV g x u → RepV g (.tup [x, .d (.bool b)]) (.tuple #[u, .bool b]) := fun x u b hx => by
  simp only [RepV]
  exact ⟨_, rfl, z0u.2 ⟨hx, z0u.2 ⟨by simp [RepV, RepD], z1c⟩⟩⟩
 unfold z1w at h
 split at h
 ·rename_i kd
  simp only [RepV] at hkv
  split at h
  ·rename_i hc
   obtain ⟨lit, hlit⟩ := z3q hk hc hkv
   have hcheck := fun em => (z3p hk).check w em hlit
   split at h
   ·cases h
    simp only [RepV] at hm
    subst hm
    have hf : (Instr.findKey kt vk []).run P w = .ok none w := by
     rcases (z3p hk).find w hlit [] (by simp) with h1 | ⟨j, e, _, h2, _⟩
     ·exact h1.1
     ·simp at h2
    cases ok
    ·exact ⟨zv, by simp [Instr.lookup, z05 ht, hcheck, hf, hzero], hzr g⟩
    ·exact ⟨_, by simp [Instr.lookup, z05 ht, hcheck, hf, hzero], two _ _ _ (hzr g)⟩
   ·rename_i j
    simp only [RepV] at hm
    obtain ⟨b, hb, rfl⟩ := hm
    split at h
    ·rename_i kt' es ho
     split at h
     ·rename_i hkt
      subst hkt
      obtain ⟨b', hb', hnd, en, cl, hh, hr⟩ := hi.obj j _ ho
      obtain rfl : b = b' := Option.some.inj (hb.symm.trans hb')
      have hg := zbw (P := P) hh
      rcases zqz (w := w) hk hr hnd hc hkv with ⟨h1, h2, _⟩ | ⟨j', e', x, h1, _, _, _, h5, h6, _⟩
      ·rw [h2] at h
       cases h
       cases ok
       ·exact ⟨zv, by simp [Instr.lookup, z05 ht, hg, hcheck, h1, hzero], hzr g⟩
       ·exact ⟨_, by simp [Instr.lookup, z05 ht, hg, hcheck, h1, hzero], two _ _ _ (hzr g)⟩
      ·rw [h6] at h
       cases h
       cases ok
       ·exact ⟨e'.val, by simp [Instr.lookup, z05 ht, hg, hcheck, h1], h5⟩
       ·exact ⟨_, by simp [Instr.lookup, z05 ht, hg, hcheck, h1], two _ _ _ h5⟩
     ·cases h
    ·cases h
   ·cases h
  ·cases h
 ·cases h
end Go.Lift
namespace Go.Lift
open Go Go.Maps
variable {P : Program} {st : St} {g : Gh} {w : World}
theorem zbv {b : Nat} {en : Array MapEntry} {cl : Nat} (h : w.heap[b]? = some (.map en cl)) (o : Go.Obj) : (setObj b o).run P w = .ok () (World.put w b o) := by simp [setObj, Sem.run, h, World.put]
theorem Inv.writeMap (hi : Inv P z0d st g w) {j b kt : Nat} {es es' : List (D × V)} (ho : sget st.s j = some (.map kt es)) (hb : g.blk j = some b) {en : Array MapEntry} {cl : Nat} (hh : w.heap[b]? = some (.map en cl))
  (hn : (es'.map Prod.fst).Nodup) {en' : Array MapEntry} {cl' : Nat} (hr : RepM P kt g es' en'.toList) :
  Inv P z0d (st.set j (.map kt es')) g (World.put w b (.map en' cl')) ∧ Step st g w (st.set j (.map kt es')) g (World.put w b (.map en' cl')) := by
 have hlt := (hi.u j b hb).2
 refine hi.write ho hb z53 rfl rfl rfl (fun c hc => z1e hc) (fun i v hv => ?_) ⟨hn, en', cl', z3k hlt, hr⟩
 have := hi.H b i v hv
 unfold World.cell? at this
 simp only [hh] at this
 cases this
theorem zde {es : Array MapEntry} {i : Nat} {f : MapEntry → MapEntry} {e : MapEntry} (h : es.toList[i]? = some e) : (es.modify i f).toList = es.toList.set i (f e) := by
 apply List.ext_getElem?
 intro j
 have h' : es[i]? = some e := by simpa using h
 rw [Array.getElem?_toList, Array.getElem?_modify, List.getElem?_set]
 by_cases hj : i = j
 ·subst hj
  obtain ⟨h1, h2⟩ := Array.getElem?_eq_some_iff.1 h'
  simp [h1, h2]
 ·simp [hj]
theorem zfl (hi : Inv P z0d st g w) {t kt e : TypeId} {ag : Bool} {sh : List Kc} {m k x : V} {vm vk vx : Value} {st' : St} (ht : P.underlying t = some (.map kt e)) (hk : keyT P kt = some (ag, sh))
  (h : z54 st kt ag sh m k x = some st') (hm : RepV g m vm) (hkv : RepV g k vk) (hx : RepV g x vx) : ∃ w', (Instr.mapUpdate t vm vk vx).run P w = .ok () w' ∧ Inv P z0d st' g w' ∧ Step st g w st' g w' := by
 unfold z54 at h
 split at h
 ·rename_i kd
  simp only [RepV] at hkv
  split at h
  ·rename_i hc
   obtain ⟨lit, hlit⟩ := z3q hk hc hkv
   have hcheck := fun em => (z3p hk).check w em hlit
   have hstay := (z3p hk).stays w hlit
   split at h
   ·rename_i j
    simp only [RepV] at hm
    obtain ⟨b, hb, rfl⟩ := hm
    split at h
    ·rename_i kt' es ho
     split at h
     ·rename_i hkt
      subst hkt
      cases h
      obtain ⟨b', hb', hnd, en, cl, hh, hr⟩ := hi.obj j _ ho
      obtain rfl : b = b' := Option.some.inj (hb.symm.trans hb')
      have hg := zbw (P := P) hh
      rcases zqz (w := w) hk hr hnd hc hkv with ⟨h1, _, h2, h3⟩ | ⟨j', e', x', h1, h2, h3, h4, _, _, h5⟩
      ·rw [h2]
       obtain ⟨h6, h7⟩ := Inv.writeMap hi ho hb hh (es' := es ++ [(kd, x)]) (en' := en.push { key := vk, val := vx, born := cl }) (cl' := cl + 1)
        (by rw [List.map_append, List.nodup_append]; exact ⟨hnd, by simp, fun a ha b hb e => by simp at hb; subst hb; subst e; exact h3 ha⟩)
        (by rw [Array.toList_push]; exact RepM.append ⟨⟨ag, sh, hk, hc⟩, hkv, hx⟩ hr)
       refine ⟨_, ?_, h6, h7⟩
       simp only [Instr.mapUpdate, z05 ht, Sem.run_bind, Result.andThen_ok, hg, hcheck, h1]
       exact zbv hh _
      ·rw [h5]
       have hkeys : (es.set j' (kd, x)).map Prod.fst = es.map Prod.fst := by
        rw [List.map_set]
        apply List.ext_getElem?
        intro i
        rw [List.getElem?_set]
        by_cases e : j' = i
        ·subst e
         obtain ⟨hlt, hget⟩ := List.getElem?_eq_some_iff.1 h4
         simp [hlt, hget]
        ·simp [e]
       obtain ⟨h6, h7⟩ := Inv.writeMap hi ho hb hh (es' := es.set j' (kd, x)) (en' := en.modify j' fun e => { e with key := vk, val := vx }) (cl' := cl)
        (by rw [hkeys]; exact hnd)
        (by rw [zde h2]; exact RepM.set' ⟨⟨ag, sh, hk, hc⟩, hkv, hx⟩ j' hr)
       refine ⟨_, ?_, h6, h7⟩
       have h2' : en[j']? = some e' := by simpa using h2
       simp only [Instr.mapUpdate, z05 ht, Sem.run_bind, Result.andThen_ok, hg, hcheck, h1, h2', Option.map_some, Option.getD_some, h3, hstay]
       exact zbv hh _
     ·cases h
    ·cases h
   ·cases h
  ·cases h
 ·cases h
theorem zto (hi : Inv P z0d st g w) {ty : TypeId} {x y : V} {v : Value} {st' : St} {base : Nat} {env : List V} {X : Opd} (hev : evO env X = x) (h : evalOp base env st (.nextS X) = some (y, st')) (hx : RepV g x v) :
  ∃ u w', (Instr.next v true ty).run P w = .ok u w' ∧ RepV g y u ∧ Inv P z0d st' g w' ∧ Step st g w st' g w' := by
 simp only [evalOp, hev] at h
 split at h
 ·rename_i k
  simp only [RepV] at hx
  obtain ⟨b, hb, rfl⟩ := hx
  split at h
  ·rename_i s pos ho
   obtain ⟨b', hb', hsh, bs, hh, hs⟩ := hi.obj k _ ho
   rw [hsh, Nat.zero_add]
   obtain rfl : b = b' := Option.some.inj (hb.symm.trans hb')
   have hg : (getObj b).run P w = .ok (.stringIter bs pos) w := by simp [getObj, Sem.run, hh]
   have hsz : bs.size = s.length := by rw [← hs, List.length_map, Array.length_toList]; rfl
   split at h
   ·rename_i hnone
    cases h
    have hge : ¬ pos < bs.size := by rw [hsz]; exact Nat.not_lt.2 (List.getElem?_eq_none_iff.1 hnone)
    refine ⟨_, w, by simp [Instr.next, hg, hge]; rfl, ?_, hi, Step.refl st g w⟩
    simp only [RepV]
    exact ⟨_, rfl, z0u.2 ⟨by simp [RepV, RepD], z1c⟩⟩
   ·rename_i c hc
    split at h
    ·rename_i hlt
     cases h
     have hpos : pos < bs.size := by rw [hsz]; exact (List.getElem?_eq_some_iff.1 hc).1
     have hdec : Utf8.decode bs pos = (c, 1) := by
      have hbyte : (bs.get! (pos + 0)).toNat = c := by
       rw [← hs, List.getElem?_map, Option.map_eq_some_iff] at hc
       obtain ⟨c', hc', rfl⟩ := hc
       have : bs.data[pos]? = some c' := by simpa using hc'
       rw [Nat.add_zero]
       show (bs.data[pos]!).toNat = c'.toNat
       rw [getElem!_def, this]
      unfold Utf8.decode
      simp only [hbyte]
      rw [if_pos (by omega)]
     have hset : (setObj b (.stringIter bs (pos + 1))).run P w = .ok () (World.put w b (.stringIter bs (pos + 1))) := by simp [setObj, Sem.run, hh, World.put]
     have hlt := (hi.u k b hb).2
     obtain ⟨h6, h7⟩ := hi.write (o' := .iter s (pos + 1)) ho hb (w' := World.put w b (.stringIter bs (pos + 1))) z53 rfl rfl rfl (fun c hc => z1e hc) (fun i v hv => by
      have := hi.H b i v hv
      unfold World.cell? at this
      simp only [hh] at this
      cases this) ⟨hsh, bs, z3k hlt, hs⟩
     refine ⟨.tuple #[.bool true, goInt pos, .int .i32 c], _, ?_, ?_, h6, h7⟩
     ·simp [Instr.next, hg, hpos, hdec, hset]
     ·simp only [RepV]
      exact ⟨_, rfl, z0u.2 ⟨by simp [RepV, RepD], z0u.2 ⟨by simp [RepV, RepD, goInt], z0u.2 ⟨by simp [RepV, RepD], z1c⟩⟩⟩⟩
    ·cases h
  ·cases h
 ·cases h
end Go.Lift
namespace Go.Lift
open Go
variable {P : Program} {st : St} {g : Gh} {w : World}
theorem z9o : ∀ {ys : List V} {ds : List D} {vs : List Value}, toDs ys = some ds → RepVs g ys vs → RepC g.H ds vs
 | [], ds, vs, h, hr => by
  simp [toDs] at h
  subst h
  simpa [RepVs, RepC] using hr
 | y :: ys, ds, vs, h, hr => by
  simp only [RepVs] at hr
  obtain ⟨v, ws, rfl, h1, hr⟩ := hr
  cases y <;> simp only [toDs, reduceCtorEq] at h <;> simp only [Option.map_eq_some_iff] at h <;> obtain ⟨l, hl, rfl⟩ := h
  ·exact z1q.2 ⟨by simpa only [RepV] using h1, z9o hl hr⟩
  ·refine z1q.2 ⟨?_, z9o hl hr⟩
   simp only [RepV] at h1
   subst h1
   simp only [RepD]
   exact ⟨none, 0, rfl, by simp, by simp⟩
  ·refine z1q.2 ⟨?_, z9o hl hr⟩
   simp only [RepV] at h1
   obtain ⟨a, c, rfl⟩ := h1
   simp only [RepD]
   exact ⟨some a, c, rfl, by simp, by simp⟩
theorem RepP.take {H : Still} {b : Nat} : ∀ {l : List D} {o : Nat} (n : Nat), RepP H b l o → RepP H b (l.take n) o
 | l, o, 0, _ => by simp [RepP]
 | [], _, n + 1, _ => by simp [RepP]
 | x :: l, o, n + 1, h => by
  simp only [RepP, List.take_succ_cons] at h ⊢
  exact ⟨h.1, RepP.take n h.2⟩
theorem zb7 {H : Still} {b es : Nat} {ag : Bool} (hes : 0 < es) : ∀ {n : Nat} {ds l : List D} {off : Nat}, z4u es ag n ds = some l → ds.all D.isCell = true → RepP H b ds off → RepL H b es l off ∧ l.length = n
 | 0, [], l, off, h, _, _ => by simp [z4u] at h; subst h; simp [RepL]
 | 0, _ :: _, l, off, h, _, _ => by simp [z4u] at h
 | n + 1, ds, l, off, h, hc, hp => by
  simp only [z4u] at h
  split at h
  ·cases h
  ·rename_i hlen
   split at h
   ·cases h
   ·rename_i x hx
    simp only [Option.map_eq_some_iff] at h
    obtain ⟨l', hl', rfl⟩ := h
    have hcd : (ds.drop es).all D.isCell = true := by
     rw [List.all_eq_true] at hc ⊢
     exact fun x hx => hc x (List.mem_of_mem_drop hx)
    obtain ⟨h1, h2⟩ := zb7 hes hl' hcd (hp.drop es)
    obtain ⟨vs, h3, h4⟩ := RepP.cells (hp.take es)
    have hvl : vs.length = es := by rw [h3.length]; simp; omega
    refine ⟨?_, by simp [h2]⟩
    simp only [RepL]
    refine ⟨?_, h1⟩
    cases ag with
    | true =>
     simp only [if_true, Option.some.injEq] at hx
     subst hx
     refine ⟨.agg vs.toArray, by simp only [RepD]; exact ⟨_, rfl, by simpa using h3⟩, by simp [Value.cells, hvl], fun j hj => ?_⟩
     have hj' : j < vs.length := by omega
     exact ⟨vs[j], by simp [Value.cells, hj'], h4 j _ (by simp [hj'])⟩
    | false =>
     simp only [Bool.false_eq_true, if_false] at hx
     split at hx
     ·rename_i y hy
      cases hx
      rw [hy] at h3
      simp only [RepC] at h3
      obtain ⟨v, ws, rfl, h5, rfl⟩ := h3
      have h1 : es = 1 := by simpa using hvl.symm
      subst h1
      have hcell : x.isCell = true := by
       rw [List.all_eq_true] at hc
       exact hc x (List.mem_of_mem_take (hy ▸ List.mem_singleton.2 rfl))
      have hone : v.cells = #[v] := by
       cases x <;> simp only [RepD] at h5
       ·subst h5; rfl
       ·subst h5; rfl
       ·obtain ⟨b, rfl, _⟩ := h5; rfl
       ·obtain ⟨a, c, rfl, _⟩ := h5; rfl
       ·simp [D.isCell] at hcell
      refine ⟨v, h5, by simp [hone], fun j hj => ⟨v, ?_, h4 j v ?_⟩⟩
      ·rw [hone]; obtain rfl : j = 0 := by omega
       rfl
      ·obtain rfl : j = 0 := by omega
       rfl
     ·cases hx
structure Given (P : Program) (st : St) (g : Gh) (w : World) (st' : St) (g' : Gh) : Prop where
 inv : Inv P z0d st' g' w
 step : Step st g w st' g' w
 blk : g'.blk = g.blk
 next : st'.next = st.next
theorem Given.refl (h : Inv P z0d st g w) : Given P st g w st g := ⟨h, Step.refl st g w, rfl, rfl⟩
theorem Given.trans {st' st'' : St} {g' g'' : Gh} (h : Given P st g w st' g') (k : Given P st' g' w st'' g'') : Given P st g w st'' g'' :=
 ⟨k.inv, h.step.trans k.step, k.blk.trans h.blk, k.next.trans h.next⟩
theorem zdt {f : St → V → Option (V × St)} (hf : ∀ {st : St} {g : Gh} {v y : V} {u : Value} {st' : St}, Inv P z0d st g w → f st v = some (y, st') → RepV g v u → ∃ g', Given P st g w st' g' ∧ RepV g' y u) :
  ∀ {l : List V} {st : St} {g : Gh} {ys : List V} {us : List Value} {st' : St}, Inv P z0d st g w → frzL f st l = some (ys, st') → RepVs g l us → ∃ g', Given P st g w st' g' ∧ RepVs g' ys us
 | [], st, g, ys, us, st', hi, h, hr => by
  simp only [frzL, Option.some.injEq, Prod.mk.injEq] at h
  obtain ⟨rfl, rfl⟩ := h
  exact ⟨g, .refl hi, hr⟩
 | x :: l, st, g, ys, us, st', hi, h, hr => by
  simp only [RepVs] at hr
  obtain ⟨u, ws, rfl, h1, hr⟩ := hr
  simp only [frzL] at h
  split at h
  ·cases h
  ·rename_i y st1 hx
   split at h
   ·cases h
   ·rename_i ys' st2 hl
    cases h
    obtain ⟨g1, h2, h3⟩ := hf hi hx h1
    obtain ⟨g2, h4, h5⟩ := zdt hf h2.inv hl (RepVs.mono h2.step.ext hr)
    exact ⟨g2, h2.trans h4, z0u.2 ⟨h3.mono h4.step.ext, h5⟩⟩
theorem zbt {es off len b o cap sh : Nat} {ag : Bool} {ds l : List D} {H : Still} (hes : 0 < es) (hle : off + len * es ≤ ds.length) (hsz : ds.length ≤ off + cap * es) (ho : o = sh + off ∨ (len = 0 ∧ cap = 0)) (hc : ds.all D.isCell = true)
  (hp : RepP H b ds sh) (h : z4u es ag len ((ds.drop off).take (len * es)) = some l) : RepD H (.sl l) (.slice (some ⟨b, o, none⟩) len cap) := by
 obtain ⟨h1, h2⟩ := zb7 (H := H) (b := b) (off := sh + off) hes h (by
  rw [List.all_eq_true] at hc ⊢
  exact fun x hx => hc x (List.mem_of_mem_drop (List.mem_of_mem_take hx))) ((hp.drop off).take (len * es))
 have hlc : len ≤ cap := Nat.le_of_mul_le_mul_right (c := es) (by omega) hes
 simp only [RepD]
 refine ⟨_, cap, by rw [h2], ⟨by omega, fun e => by cases e⟩, ?_⟩
 rcases ho with rfl | ⟨rfl, _⟩
 ·exact .inr ⟨b, _, es, rfl, hes, h1⟩
 ·exact .inl (List.eq_nil_of_length_eq_zero h2)
theorem zk0 : ∀ (n : Nat) {st : St} {g : Gh} {v y : V} {u : Value} {st' : St}, Inv P z0d st g w → frz n st v = some (y, st') → RepV g v u → ∃ g', Given P st g w st' g' ∧ RepV g' y u
 | 0, _, _, _, _, _, _, _, h, _ => by simp [frz] at h
 | n + 1, st, g, v, y, u, st', hi, h, hr => by
  cases v <;> simp only [frz] at h
  case arr k es ag off len =>
   simp only [RepV] at hr
   obtain ⟨b, hb, o, cap, rfl, hsz, htot, ho⟩ := hr
   split at h
   ·rename_i cs hcs
    split at h
    ·rename_i hc
     split at h
     ·cases h
     ·rename_i ys st1 hys
      split at h
      ·cases h
      ·rename_i ds hds
       split at h
       ·rename_i hall
        split at h
        ·rename_i l cs' hl hcs'
         cases h
         obtain ⟨b', hb', hsz', hHn, arr, ty, hheap, hle1, hle2, hrc⟩ := hi.obj k _ hcs
         obtain rfl : b = b' := Option.some.inj (hb.symm.trans hb')
         obtain ⟨g1, h1, h2⟩ := zdt (fun hi h hr => zk0 n hi h hr) hi hys hrc
         obtain ⟨b'', hb'', hsz'', hHn', _⟩ := h1.inv.obj k _ hcs'
         rw [h1.blk, hb] at hb''
         cases hb''
         have hdl := (z9o hds h2).length
         have hshk := h1.step.ext.sh k b hb
         have hext : Ext g1 (g1.still b (g1.sh k) ((arr.toList.drop (g.sh k)).take cs.length)) := Ext.still hHn'
         have hszk := (h1.step.ext.blk k b hb).2.1
         have hlt : cs.length ≤ arr.toList.length := by simp; omega
         obtain ⟨h3, h4⟩ := h1.inv.freeze (ds := ds) hcs' (by rw [h1.blk]; exact hb) (vs := (arr.toList.drop (g.sh k)).take cs.length)
          (fun j v hv => by rw [z5s hheap, hshk]; have := (z35 hv).1; rw [List.getElem?_drop] at this; simpa using this) (by simp at hdl; omega) (RepC.mono hext.H (z9o hds h2))
         refine ⟨_, h1.trans ⟨h3, h4, rfl, rfl⟩, ?_⟩
         obtain ⟨b3, hb3, _, _, hp⟩ := h3.obj k (.fz ds) (by simp only [St.set]; exact z04 hcs')
         rw [show (g1.still b (g1.sh k) ((arr.toList.drop (g.sh k)).take cs.length)).blk = g1.blk from rfl, h1.blk, hb] at hb3
         cases hb3
         simp only [RepV]
         refine zbt (ag := ag) hc.1 (by simp at hdl; omega) (by simp at hdl; omega) (by rw [show (g1.still b (g1.sh k) ((arr.toList.drop (g.sh k)).take cs.length)).sh k = g1.sh k from rfl, hshk]; exact ho) hall hp hl
        ·cases h
       ·cases h
    ·cases h
   ·rename_i ds hcs
    split at h
    ·rename_i hc
     split at h
     ·cases h
     ·rename_i l hl
      cases h
      obtain ⟨b', hb', hsz', htot', hp⟩ := hi.obj k _ hcs
      obtain rfl : b = b' := Option.some.inj (hb.symm.trans hb')
      refine ⟨g, .refl hi, ?_⟩
      simp only [RepV]
      refine zbt (ag := ag) hc.1 hc.2.1 (by omega) ho hc.2.2 hp hl
    ·cases h
   ·cases h
  case agg l =>
   simp only [RepV] at hr
   obtain ⟨vs, rfl, hr⟩ := hr
   split at h
   ·cases h
   ·rename_i ys st1 hys
    cases h
    obtain ⟨g1, h1, h2⟩ := zdt (fun hi h hr => zk0 n hi h hr) hi hys hr
    exact ⟨g1, h1, z95 h2⟩
  all_goals
   cases h
   exact ⟨g, .refl hi, hr⟩
end Go.Lift
namespace Go.Lift
open Go
variable {P : Program} {st : St} {g : Gh} {w : World}
open Classical in
noncomputable def z3b (st : St) (g : Gh) (w : World) (b0 : Nat) : Still := fun b o =>
 if ∃ k cs, b0 ≤ k ∧ sget st.s k = some (.cells cs) ∧ g.blk k = some b then w.cell? ⟨b, o, none⟩ else g.H b o
theorem z7c (hi : Inv P z0d st g w) (b0 : Nat) : g.H.le (z3b st g w b0) := by
 intro b o v h
 unfold z3b
 split
 ·exact hi.H b o v h
 ·exact h
theorem z88 (hi : Inv P z0d st g w) {b0 b o : Nat} {v : Value} (h : z3b st g w b0 b o = some v) : w.cell? ⟨b, o, none⟩ = some v := by
 unfold z3b at h
 split at h
 ·exact h
 ·exact hi.H b o v h
theorem zm6 (hi : Inv P z0d st g w) {b0 k : Nat} {cs : List V} (hk : b0 ≤ k) (h : scells st.s k = some cs) :
  ∃ b vs, g.blk k = some b ∧ g.sz k = cs.length ∧ RepVs g cs vs ∧ ∀ (j : Nat) u, vs[j]? = some u → z3b st g w b0 b (g.sh k + j) = some u := by
 obtain ⟨b, vs, h1, h2, h3, h4, h5⟩ := z51 hi h
 unfold scells at h
 split at h
 ·rename_i cs' ho
  refine ⟨b, vs, h1, h2, h4, fun j u hu => ?_⟩
  unfold z3b
  rw [if_pos ⟨k, cs', hk, ho, h1⟩]
  exact h5 j u hu
 ·rename_i ds ho
  cases h
  obtain ⟨b', hb', hsz, htot, hp⟩ := hi.obj k _ ho
  obtain ⟨vs', h6, h7⟩ := RepP.cells hp
  rw [h1] at hb'
  cases hb'
  refine ⟨b, vs', h1, h2, z10.2 h6, fun j u hu => z7c hi b0 _ _ _ ?_⟩
  exact h7 j u hu
 ·cases h
theorem zcx {f : V → Option D} {H : Still} : ∀ {l : List V} {ds : List D} {us : List Value}, (∀ x ∈ l, ∀ y u, f x = some y → RepV g x u → RepD H y u) → l.mapM f = some ds → RepVs g l us → RepC H ds us
 | [], ds, us, _, h, hr => by
  simp at h
  subst h
  simpa [RepVs, RepC] using hr
 | x :: l, ds, us, hf, h, hr => by
  simp only [RepVs] at hr
  obtain ⟨u, ws, rfl, h1, hr⟩ := hr
  simp only [List.mapM_cons, Option.bind_eq_bind, Option.pure_def] at h
  cases hx : f x with
  | none => simp [hx] at h
  | some y =>
   cases hl : l.mapM f with
   | none => simp [hx, hl] at h
   | some ys =>
    simp [hx, hl] at h
    subst h
    exact z1q.2 ⟨hf x (by simp) y u hx h1, zcx (fun z hz => hf z (by simp [hz])) hl hr⟩
theorem zcw (hi : Inv P z0d st g w) (b0 : Nat) : ∀ (n : Nat) {v : V} {x : D} {u : Value}, snap st.s b0 n v = some x → RepV g v u → RepD (z3b st g w b0) x u
 | 0, _, _, _, h, _ => by simp [snap] at h
 | n + 1, v, x, u, h, hr => by
  cases v <;> simp only [snap] at h <;> try (cases h; done)
  case d y =>
   cases h
   simp only [RepV] at hr
   exact hr.mono (z7c hi b0)
  case nilS =>
   cases h
   simp only [RepV] at hr
   subst hr
   simp only [RepD]
   exact ⟨none, 0, rfl, by simp, by simp⟩
  case emp =>
   cases h
   simp only [RepV] at hr
   obtain ⟨a, c, rfl⟩ := hr
   simp only [RepD]
   exact ⟨some a, c, rfl, by simp, by simp⟩
  case arr k es ag off len =>
   split at h
   ·cases h
   ·rename_i hk
    split at h
    ·rename_i cs hcs
     split at h
     ·rename_i hc
      split at h
      ·rename_i ds hds
       split at h
       ·rename_i hall
        simp only [Option.map_eq_some_iff] at h
        obtain ⟨l, hl, rfl⟩ := h
        simp only [RepV] at hr
        obtain ⟨b, hb, o, cap, rfl, hsz, htot, ho⟩ := hr
        obtain ⟨b', vs, hb', hsz', hrv, hlive⟩ := zm6 hi (by omega : b0 ≤ k) hcs
        obtain rfl : b = b' := Option.some.inj (hb.symm.trans hb')
        have hC : RepC (z3b st g w b0) ds ((vs.drop off).take (len * es)) := zcx (fun y _ z u hz hu => zcw hi b0 n hz hu) hds (RepVs.take _ (RepVs.drop _ hrv))
        have hP : RepP (z3b st g w b0) b ds (g.sh k + off) := RepP.of_get hC fun j u hu => by
         have := (z35 hu).1
         rw [List.getElem?_drop] at this
         rw [Nat.add_assoc]
         exact hlive _ _ this
        obtain ⟨h1, h2⟩ := zb7 hc.1 hl hall hP
        have hlc : len ≤ cap := Nat.le_of_mul_le_mul_right (c := es) (by omega) hc.1
        simp only [RepD]
        refine ⟨_, cap, by rw [h2], ⟨by omega, fun e => by cases e⟩, ?_⟩
        rcases ho with rfl | ⟨rfl, _⟩
        ·exact .inr ⟨b, _, es, rfl, hc.1, h1⟩
        ·exact .inl (List.eq_nil_of_length_eq_zero h2)
       ·cases h
      ·cases h
     ·cases h
    ·cases h
  case agg l =>
   split at h
   ·rename_i ds hds
    split at h
    ·cases h
     simp only [RepV] at hr
     obtain ⟨vs, rfl, hr⟩ := hr
     simp only [RepD]
     exact ⟨vs, rfl, zcx (fun y _ z u hz hu => zcw hi b0 n hz hu) hds hr⟩
    ·cases h
   ·cases h
theorem z3w (hi : Inv P z0d st g w) (b0 : Nat) : ∀ {l : List V} {ds : List D} {us : List Value}, z0p st.s b0 l = some ds → RepVs g l us → RepC (z3b st g w b0) ds us
 | [], ds, us, h, hr => by
  simp [z0p] at h
  subst h
  simpa [RepVs, RepC] using hr
 | x :: l, ds, us, h, hr => by
  simp only [RepVs] at hr
  obtain ⟨u, ws, rfl, h1, hr⟩ := hr
  simp only [z0p] at h
  split at h
  ·cases h
  ·rename_i y hy
   simp only [Option.map_eq_some_iff] at h
   obtain ⟨m, hm, rfl⟩ := h
   exact z1q.2 ⟨zcw hi b0 _ hy h1, z3w hi b0 hm hr⟩
theorem zqw {H H' : Still} {x : D} {v : Value} (hf : x.flatC = true) (h : RepD H x v) : RepD H' x v := by
 cases x with
 | bool b => simpa only [RepD] using h
 | int k n => simpa only [RepD] using h
 | str s => simpa only [RepD] using h
 | agg l => simp [D.flatC] at hf
 | sl l =>
  cases l with
  | cons y l => simp [D.flatC] at hf
  | nil =>
   simp only [RepD] at h ⊢
   obtain ⟨a, c, e, h1, _⟩ := h
   exact ⟨a, c, e, h1, by simp⟩
theorem zcc {H H' : Still} : ∀ {l : List D} {vs : List Value}, l.all D.flatC = true → RepC H l vs → RepC H' l vs
 | [], vs, _, h => by simpa [RepC] using h
 | x :: l, vs, hf, h => by
  simp only [RepC] at h
  obtain ⟨v, ws, rfl, h1, h⟩ := h
  rw [List.all_cons, Bool.and_eq_true] at hf
  exact z1q.2 ⟨zqw hf.1 h1, zcc hf.2 h⟩
theorem zzn {H H' : Still} {x : D} {v : Value} (hf : x.flat = true) (h : RepD H x v) : RepD H' x v := by
 cases x with
 | bool b => simpa only [RepD] using h
 | int k n => simpa only [RepD] using h
 | str s => simpa only [RepD] using h
 | sl l =>
  cases l with
  | cons y l => simp [D.flat] at hf
  | nil =>
   simp only [RepD] at h ⊢
   obtain ⟨a, c, e, h1, _⟩ := h
   exact ⟨a, c, e, h1, by simp⟩
 | agg l =>
  simp only [RepD] at h ⊢
  obtain ⟨vs, e, h⟩ := h
  exact ⟨vs, e, zcc (by simpa [D.flat] using hf) h⟩
theorem z99 {H H' : Still} : ∀ {l : List D} {vs : List Value}, l.all D.flat = true → RepC H l vs → RepC H' l vs
 | [], vs, _, h => by simpa [RepC] using h
 | x :: l, vs, hf, h => by
  simp only [RepC] at h
  obtain ⟨v, ws, rfl, h1, h⟩ := h
  rw [List.all_cons, Bool.and_eq_true] at hf
  exact z1q.2 ⟨zzn hf.1 h1, z99 hf.2 h⟩
end Go.Lift
namespace Go.Lift
open Go
variable {P : Program} {st : St} {g : Gh} {w : World}
theorem z6a {a : Act} {env : List V} (henv : RepVs g env a.tmps.toList) {x : Option Operand} {y : Option Opd} (h : cOpt x = some y) : RepO g (y.map (evO env)) (x.map a.eval) := by
 cases x with
 | none => simp [cOpt] at h; subst h; simp [RepO]
 | some x =>
  simp only [cOpt, Option.map_eq_some_iff] at h
  obtain ⟨z, hz, rfl⟩ := h
  exact ⟨_, rfl, z0t henv hz⟩
def Calm : Op → Prop
 | .move _ => True
 | .assign _ => True
 | .pick _ _ _ => True
 | .build _ _ => True
 | .load _ _ => True
 | .nilCheck _ => True
 | .binOp _ _ _ _ _ => True
 | .unOp _ _ _ => True
 | .convert _ _ _ => True
 | .makeFunc _ _ _ => True
 | .slice _ _ _ _ _ => True
 | .fieldAddr _ _ _ => True
 | .field _ _ _ => True
 | .indexAddr _ _ _ => True
 | .index _ _ _ => True
 | .lookup _ _ _ _ => True
 | .extract _ _ => True
 | _ => False
theorem y04 (hi : Inv P z0d st g w) {o : Oper} {a : Act} {env : List V} (henv : RepVs g env a.tmps.toList) {ai base : Nat} {ik : IK} (hc : cOp? P ai o = some ik) {v : V} {st' : St} (h : evalOp base env st ik = some (v, st')) (hcalm : Calm o.op) :
  st' = st ∧ ∃ u, (execOp a.eval o).run P w = .ok (.value u) w ∧ RepV g v u := by
 unfold cOp? at hc
 unfold execOp
 cases ho : o.op <;> simp only [ho] at hc hcalm ⊢ <;> simp only [Calm] at hcalm
 case move x =>
  simp only [Option.map_eq_some_iff] at hc
  obtain ⟨y, hy, rfl⟩ := hc
  simp only [evalOp] at h
  cases h
  exact ⟨rfl, _, rfl, z0t henv hy⟩
 case assign x =>
  simp only [Option.map_eq_some_iff] at hc
  obtain ⟨y, hy, rfl⟩ := hc
  simp only [evalOp] at h
  cases h
  exact ⟨rfl, _, rfl, z0t henv hy⟩
 case pick c x y =>
  split at hc
  ·rename_i c' x' y' h1 h2 h3
   cases hc
   simp only [evalOp] at h
   split at h
   ·rename_i t ht
    cases h
    have hcv := z0t henv h1
    rw [ht] at hcv
    simp only [RepV, RepD] at hcv
    refine ⟨rfl, _, by simp [hcv, asBool]; rfl, ?_⟩
    cases t
    ·exact z0t henv h3
    ·exact z0t henv h2
   ·cases h
  ·cases hc
 case build t parts =>
  split at hc
  ·rename_i z ps hz hps
   split at hc
   ·rename_i hb
    cases hc
    simp only [evalOp] at h
    split at h
    ·rename_i cs hcs
     cases h
     obtain ⟨u, hu, hr⟩ := zvh (w := w) henv hz hps hcs hb
     exact ⟨rfl, u, by simp [hu], hr⟩
    ·cases h
   ·cases hc
  ·cases hc
 case load t x =>
  split at hc
  ·rename_i n gg y hn ha hy
   split at hc
   ·rename_i hag
    cases hc
    simp only [evalOp] at h
    split at h
    ·rename_i v' hv
     cases h
     obtain ⟨u, hu, hr⟩ := zpp hi hn ha hag hv (z0t henv hy)
     exact ⟨rfl, u, by simp [hu], hr⟩
    ·cases h
   ·cases hc
  ·cases hc
 case nilCheck x =>
  simp only [Option.map_eq_some_iff] at hc
  obtain ⟨y, hy, rfl⟩ := hc
  have hx := z0t henv hy
  simp only [evalOp] at h
  split at h <;> rename_i e <;> cases h <;> rw [e] at hx <;> have hx0 := hx <;> simp only [RepV] at hx
  ·obtain ⟨b, _, hx⟩ := hx; rw [hx] at hx0 ⊢; exact ⟨rfl, _, rfl, hx0⟩
  ·obtain ⟨b, o, hx, _⟩ := hx; rw [hx] at hx0 ⊢; exact ⟨rfl, _, rfl, hx0⟩
  ·obtain ⟨b, c, hx, _⟩ := hx; rw [hx] at hx0 ⊢; exact ⟨rfl, _, rfl, hx0⟩
 case unOp op t x =>
  simp only [Option.map_eq_some_iff] at hc
  obtain ⟨y, hy, rfl⟩ := hc
  simp only [evalOp] at h
  split at h
  ·rename_i v' hv
   cases h
   obtain ⟨u, hu, hr⟩ := y3m (P := P) (w := w) hv (z0t henv hy)
   exact ⟨rfl, u, by simp [hu], hr⟩
  ·cases h
 case convert s d x =>
  split at hc
  ·rename_i j k y h1 h2 hy
   cases hc
   simp only [evalOp] at h
   split at h
   ·rename_i n hn
    cases h
    have := zvc (w := w) h1 h2 hn (z0t henv hy)
    exact ⟨rfl, _, by simp [this]; rfl, by simp [RepV, RepD]⟩
   ·cases h
  ·rename_i j y h1 h2 hy
   cases hc
   simp only [evalOp] at h
   split at h
   ·rename_i n hn
    split at h
    ·rename_i hlt
     cases h
     obtain ⟨u, hu, hr⟩ := zvb (w := w) h1 h2 hn (z0t henv hy) hlt.1 hlt.2
     exact ⟨rfl, u, by simp [hu], hr⟩
    ·cases h
   ·cases h
  ·cases hc
 case makeFunc fn first cap =>
  cases fn <;> simp only [reduceCtorEq] at hc
  rename_i f
  split at hc
  ·rename_i xs ys h1 h2
   cases hc
   simp only [evalOp] at h
   cases h
   refine ⟨rfl, _, by simp [Instr.makeFunc]; rfl, ?_⟩
   simp only [RepV]
   refine ⟨_, _, rfl, ?_, ?_⟩
   ·simpa using z8c henv h1
   ·simpa using z8c henv h2
  ·cases hc
 case fieldAddr t x i =>
  split at hc
  ·rename_i off n u y hf hy
   split at hc
   ·rename_i h0
    cases hc
    simp only [evalOp] at h
    split at h
    ·rename_i v' hv
     cases h
     obtain ⟨u, hu, hr⟩ := zut (w := w) hf h0 hv (z0t henv hy)
     exact ⟨rfl, u, by simp [hu], hr⟩
    ·cases h
   ·cases hc
  ·cases hc
 case field t x i =>
  split at hc
  ·rename_i off n u y hf hy
   split at hc
   ·rename_i gg hg
    split at hc
    ·rename_i hag
     cases hc
     simp only [evalOp] at h
     split at h
     ·rename_i v' hv
      cases h
      obtain ⟨fs, f, hu, hfi, rfl, rfl, hn⟩ := z6x hf
      obtain ⟨cs, u, he, hu', hr⟩ := zk3 (w := w) hn hg hag hv (z0t henv hy)
      exact ⟨rfl, u, by simp [Instr.field, z05 hu, hfi, he, asAgg, hu'], hr⟩
     ·cases h
    ·cases hc
   ·cases hc
  ·cases hc
 case indexAddr t x i =>
  split at hc
  ·rename_i y j hy hj
   split at hc
   ·rename_i k e hu
    split at hc
    ·rename_i n a' b' z' he
     cases hc
     simp only [evalOp] at h
     split at h
     ·rename_i n' hn'
      split at h
      ·rename_i v' hv
       cases h
       obtain ⟨ki, hki⟩ := z5v hn' (z0t henv hj)
       obtain ⟨u, hu', hr⟩ := zqh (w := w) (k := ki) hu he hv (z0t henv hy)
       exact ⟨rfl, u, by simp [hki, hu'], hr⟩
      ·cases h
     ·cases h
    ·cases hc
   ·rename_i e hu
    split at hc
    ·rename_i n a' b' z' he
     cases hc
     simp only [evalOp] at h
     split at h
     ·rename_i n' hn'
      split at h
      ·rename_i v' hv
       cases h
       obtain ⟨ki, hki⟩ := z5v hn' (z0t henv hj)
       obtain ⟨u, hu', hr⟩ := zqe (w := w) (k := ki) hu he hv (z0t henv hy)
       exact ⟨rfl, u, by simp [hki, hu'], hr⟩
      ·cases h
     ·cases h
    ·cases hc
   ·cases hc
  ·cases hc
 case index t x i =>
  split at hc
  ·rename_i y j hy hj
   split at hc
   ·rename_i k e hu
    split at hc
    ·rename_i n a' b' z' he
     split at hc
     ·rename_i hag
      cases hc
      simp only [evalOp] at h
      split at h
      ·rename_i n' hn'
       split at h
       ·rename_i v' hv
        cases h
        obtain ⟨ki, hki⟩ := z5v hn' (z0t henv hj)
        obtain ⟨u, hu', hr⟩ := zqc (w := w) (k := ki) hu he hag hv (z0t henv hy)
        exact ⟨rfl, u, by simp [hki, hu'], hr⟩
       ·cases h
      ·cases h
     ·cases hc
    ·cases hc
   ·rename_i hu
    cases hc
    simp only [evalOp] at h
    split at h
    ·rename_i s n' hs hn'
     split at h
     ·rename_i v' hv
      cases h
      obtain ⟨ki, hki⟩ := z5v hn' (z0t henv hj)
      obtain ⟨u, hu', hr⟩ := zqa (w := w) (k := ki) hu hv (hs ▸ z0t henv hy)
      exact ⟨rfl, u, by simp [hki, hu'], hr⟩
     ·cases h
    ·cases h
   ·cases hc
  ·cases hc
 case extract x i =>
  simp only [Option.map_eq_some_iff] at hc
  obtain ⟨y, hy, rfl⟩ := hc
  simp only [evalOp] at h
  split at h
  ·rename_i vs hvs
   split at h
   ·rename_i v' hv
    cases h
    obtain ⟨u, hu, hr⟩ := y2g (P := P) (w := w) hv (hvs ▸ z0t henv hy)
    exact ⟨rfl, u, by simp [hu], hr⟩
   ·cases h
  ·cases h
 case lookup t x i ok =>
  split at hc
  ·rename_i k e m j hu hm hj
   split at hc
   ·rename_i ga sh hk
    split at hc
    ·rename_i zv hz
     cases hc
     simp only [evalOp] at h
     split at h
     ·rename_i v' hv
      cases h
      obtain ⟨u, hu', hr⟩ := zpm hi hu hk hz hv (z0t henv hm) (z0t henv hj)
      exact ⟨rfl, u, by simp [hu'], hr⟩
     ·cases h
    ·cases hc
   ·cases hc
  ·cases hc
 case slice t x lo hi' mx =>
  cases mx <;> simp only [reduceCtorEq] at hc
  split at hc
  ·rename_i y lo' hi'' hy hlo hhi
   split at hc
   ·rename_i hu
    cases hc
    simp only [evalOp] at h
    split at h
    ·rename_i s hs
     split at h
     ·rename_i l' h' hb
      cases h
      obtain ⟨u, hu', hr⟩ := znr (w := w) hu hb (z6a henv hlo) (z6a henv hhi) (hs ▸ z0t henv hy)
      exact ⟨rfl, u, by simp [hu'], hr⟩
     ·cases h
    ·cases h
   ·rename_i e hu
    split at hc
    ·rename_i n a' b' z' he
     cases hc
     have hst : st' = st := by
      simp only [evalOp] at h
      repeat' split at h
      all_goals first | (cases h; done) | (cases h; rfl)
     subst hst
     obtain ⟨u, hu', hr⟩ := znt (w := w) (lo := y) (hi' := y) hi hu he rfl h (z6a henv hlo) (z6a henv hhi) (z0t henv hy)
     exact ⟨rfl, u, by simp [hu'], hr⟩
    ·cases hc
   ·rename_i k e hu
    split at hc
    ·rename_i n a' b' z' he
     cases hc
     simp only [evalOp] at h
     split at h
     ·rename_i k' off hx
      split at h
      ·rename_i cs hcs
       split at h
       ·rename_i l' h' hb
        split at h
        ·rename_i hle
         cases h
         obtain ⟨u, hu', hr⟩ := znu hi hu he hcs hb hle (z6a henv hlo) (z6a henv hhi) (hx ▸ z0t henv hy)
         exact ⟨rfl, u, by simp [hu'], hr⟩
        ·cases h
       ·cases h
      ·cases h
     ·cases h
    ·cases hc
   ·cases hc
  ·cases hc
 case binOp op t x y yt =>
  unfold cBin at hc
  split at hc
  ·rename_i p q hp hq
   have hx := z0t henv hp
   have hy := z0t henv hq
   split at hc
   ·cases hc
    simp only [evalOp] at h
    split at h
    ·rename_i v' hv
     cases h
     obtain ⟨u, hu, hr⟩ := y36 (P := P) (w := w) (t := t) (x := x) (y := y) hv hx hy
     refine ⟨rfl, u, ?_, hr⟩
     simp only [Sem.run_bind] at hu ⊢
     rw [hu]
     rfl
    ·cases h
   ·have key : ∀ (neg : Bool), op = (if neg then .neq else .eql) → ∀ ik', ik = ik' →
      ((∃ sh, keyT P t = some (true, sh) ∧ P.eqGuardType P.depth t = false ∧ ik' = .eqA neg sh p q) ∨ (z8a P t = true ∧ ik' = .eqB neg p q) ∨ cNil P neg t x y p q = some ik') →
      st' = st ∧ ∃ u, (do pure (Next.value (← (do eqGuard op t x y (a.eval x) (a.eval y); binOp op t (a.eval x) (a.eval y) : Sem Value)))).run P w = .ok (.value u) w ∧ RepV g v u := by
     rintro neg rfl ik' rfl hcase
     rcases hcase with ⟨sh, hk, hg, rfl⟩ | ⟨hb, rfl⟩ | hn
     ·simp only [evalOp] at h
      split at h
      ·rename_i d1 d2 e1 e2
       split at h
       ·rename_i hcc
        cases h
        simp only [Bool.and_eq_true] at hcc
        have := y2p (w := w) (x := x) (y := y) (neg := neg) hk hg (e1 ▸ hx) (e2 ▸ hy) hcc.1 hcc.2
        refine ⟨rfl, .bool (D.beq d1 d2 != neg), ?_, by simp only [RepV, RepD]⟩
        simp only [Sem.run_bind] at this ⊢
        rw [this]
        rfl
       ·cases h
      ·cases h
     ·simp only [evalOp] at h
      split at h
      ·rename_i d1 d2 e1 e2
       cases h
       have := y2o (w := w) (x := x) (y := y) (neg := neg) hb (e1 ▸ hx) (e2 ▸ hy)
       refine ⟨rfl, .bool ((d1 == d2) != neg), ?_, by simp only [RepV, RepD]⟩
       simp only [Sem.run_bind] at this ⊢
       rw [this]
       rfl
      ·cases h
     ·unfold cNil at hn
      split at hn
      ·cases hn
      ·rename_i kd hkd
       have cst : ∀ {z : Operand}, z85 z = some kd → ∃ c, z = .const c ∧ a.eval z = c := fun {z} hz => by
        cases z <;> simp only [z85, reduceCtorEq] at hz
        exact ⟨_, rfl, rfl⟩
       split at hn
       ·rename_i hny
        cases hn
        simp only [evalOp] at h
        split at h
        ·rename_i b hb
         cases h
         obtain ⟨c, hc, hcv⟩ := cst hny
         have := (zkg (w := w) (neg := neg) hkd hb hx hny hc x y).1
         rw [← hcv] at this
         refine ⟨rfl, .bool (b != neg), ?_, by simp only [RepV, RepD]⟩
         simp only [Sem.run_bind] at this ⊢
         rw [this]
         rfl
        ·cases h
       ·split at hn
        ·rename_i hnx
         cases hn
         simp only [evalOp] at h
         split at h
         ·rename_i b hb
          cases h
          obtain ⟨c, hc, hcv⟩ := cst hnx
          have := (zkg (w := w) (neg := neg) hkd hb hy hnx hc x y).2
          rw [← hcv] at this
          refine ⟨rfl, .bool (b != neg), ?_, by simp only [RepV, RepD]⟩
          simp only [Sem.run_bind] at this ⊢
          rw [this]
          rfl
         ·cases h
        ·cases hn
    split at hc
    ·split at hc
     ·rename_i sh hk
      split at hc
      ·cases hc
      ·rename_i hg
       cases hc
       exact key false rfl _ rfl (.inl ⟨sh, hk, by simpa using hg, rfl⟩)
     ·split at hc
      ·rename_i hb
       cases hc
       exact key false rfl _ rfl (.inr (.inl ⟨hb, rfl⟩))
      ·exact key false rfl _ rfl (.inr (.inr hc))
    ·split at hc
     ·rename_i sh hk
      split at hc
      ·cases hc
      ·rename_i hg
       cases hc
       exact key true rfl _ rfl (.inl ⟨sh, hk, by simpa using hg, rfl⟩)
     ·split at hc
      ·rename_i hb
       cases hc
       exact key true rfl _ rfl (.inr (.inl ⟨hb, rfl⟩))
      ·exact key true rfl _ rfl (.inr (.inr hc))
    ·cases hc
  ·cases hc
end Go.Lift
namespace Go.Lift
open Go
variable {P : Program} {st : St} {g : Gh} {w : World}
def zmv : Op → Prop
 | .alloc _ => True
 | .box _ _ => True
 | .makeMap _ _ => True
 | .makeSlice _ _ _ => True
 | .range _ _ => True
 | .buildSlice _ _ _ => True
 | _ => False
theorem zhg {o : Oper} {a : Act} {env : List V} (henv : RepVs g env a.tmps.toList) {ai base : Nat} {ik : IK} (hc : cOp? P ai o = some ik) {v : V} {st' : St} (h : evalOp base env st (z2b ik) = some (v, st')) (hm : zmv o.op) (hk : g.blk (base + ai) = none) :
  ∃ s obj, execOp a.eval o = (do pure (.value (← s))) ∧ st' = st.ins (base + ai) obj ∧ Mk P s g w (base + ai) v obj := by
 unfold cOp? at hc
 unfold execOp
 cases ho : o.op <;> simp only [ho] at hc hm ⊢ <;> simp only [zmv] at hm
 case alloc t =>
  simp only [Option.map_eq_some_iff] at hc
  obtain ⟨z, hz, rfl⟩ := hc
  simp only [z2b, evalOp] at h
  cases h
  exact ⟨_, _, rfl, rfl, zvt hk hz⟩
 case box t x =>
  simp only [Option.map_eq_some_iff] at hc
  obtain ⟨y, hy, rfl⟩ := hc
  simp only [z2b, evalOp] at h
  split at h
  ·cases h
   exact ⟨_, _, rfl, rfl, y34 hk (z0t henv hy)⟩
  ·cases h
 case makeMap t r =>
  cases r <;> simp only [reduceCtorEq] at hc
  split at hc
  ·cases hc
   simp only [z2b, evalOp] at h
   cases h
   exact ⟨_, _, rfl, rfl, ztr hk⟩
  ·cases hc
 case range t x =>
  split at hc
  ·rename_i y hu hy
   cases hc
   simp only [z2b, evalOp] at h
   split at h
   ·rename_i s hs
    cases h
    exact ⟨_, _, rfl, rfl, zog hu (hs ▸ z0t henv hy)⟩
   ·cases h
  ·cases hc
 case makeSlice t l c =>
  split at hc
  ·rename_i e he
   split at hc
   ·rename_i n a' b' z l' c' hel hl hcc
    cases hc
    simp only [z2b, evalOp] at h
    split at h
    ·rename_i li ci hli hci
     split at h
     ·rename_i hcond
      cases h
      have hu : P.underlying t = some (.slice e) := by
       unfold zbi at he
       split at he
       ·rename_i e' hu; cases he; exact hu
       ·cases he
      obtain ⟨k1, hk1⟩ := z5v hli (z0t henv hl)
      obtain ⟨k2, hk2⟩ := z5v hci (z0t henv hcc)
      refine ⟨_, _, rfl, rfl, ?_⟩
      rw [hk1, hk2]
      exact zlx hu hel hk hcond.1 hcond.2.1 hcond.2.2.1 hcond.2.2.2.1
     ·cases h
    ·cases h
   ·cases hc
  ·cases hc
 case buildSlice t len parts =>
  split at hc
  ·rename_i e he
   split at hc
   ·rename_i n a' b' z ps hel hps
    cases hc
    simp only [z2b, evalOp, if_true] at h
    split at h
    ·rename_i hcond
     split at h
     ·rename_i cs hcs
      split at h
      ·cases h
       have hu : P.underlying t = some (.slice e) := by
        unfold zbi at he
        split at he
        ·rename_i e' hu; cases he; exact hu
        ·cases he
       refine ⟨_, _, rfl, rfl, zpd hu hel hk hcond.1 hcs ?_⟩
       simpa using zi7 henv hps
      ·cases h
     ·cases h
    ·cases h
   ·cases hc
  ·cases hc
theorem zqq {env : List V} : ∀ {ps : List (Nat × Opd)} {st : St} {g : Gh} {qs : List (Nat × V)} {st' : St} {vs : List (Nat × Value)}, Inv P z0d st g w → frzP env st ps = some (qs, st') → RepIx g (ps.map fun (i, x) => (i, evO env x)) vs →
  ∃ g', Given P st g w st' g' ∧ RepIx g' qs vs
 | [], st, g, qs, st', vs, hi, h, hr => by
  simp only [frzP, Option.some.injEq, Prod.mk.injEq] at h
  obtain ⟨rfl, rfl⟩ := h
  exact ⟨g, .refl hi, by simpa [RepIx] using hr⟩
 | (i, x) :: ps, st, g, qs, st', vs, hi, h, hr => by
  simp only [List.map_cons, RepIx] at hr
  obtain ⟨v, r, rfl, h1, hr⟩ := hr
  simp only [frzP] at h
  split at h
  ·cases h
  ·rename_i y st1 hx
   split at h
   ·cases h
   ·rename_i ys st2 hl
    cases h
    obtain ⟨g1, h2, h3⟩ := zk0 _ hi hx h1
    obtain ⟨g2, h4, h5⟩ := zqq h2.inv hl (RepIx.mono h2.step.ext hr)
    refine ⟨g2, h2.trans h4, ?_⟩
    simp only [RepIx]
    exact ⟨v, r, rfl, h3.mono h4.step.ext, h5⟩
def Acts : Op → Prop
 | .store _ _ _ => True
 | .mapUpdate _ _ _ _ => True
 | .insert _ _ _ _ => True
 | .next _ _ => True
 | .buildSlice _ _ _ => True
 | .call c => match c.callee with
  | .builtin _ => True
  | _ => False
 | _ => False
theorem z8r {o : Oper} {a : Act} {env : List V} (hi : Inv P z0d st g w) (henv : RepVs g env a.tmps.toList) {ai base : Nat} {t : TypeId} {len : Nat} {parts : Array (Nat × Operand)} (ho : o.op = .buildSlice t len parts) {ik : IK} (hc : cOp? P ai o = some ik) {v : V} {st' : St} (h : evalOp base env st ik = some (v, st'))
  (hk : g.blk (base + ai) = none) (hlt : base + ai < st.next) : Does P (execOp a.eval o) st g w v st' (· = base + ai) := by
 unfold cOp? at hc
 unfold execOp
 simp only [ho] at hc ⊢
 split at hc
 ·rename_i e he
  split at hc
  ·rename_i n a' b' z ps hel hps
   cases hc
   simp only [evalOp, Bool.false_eq_true, if_false] at h
   split at h
   ·cases h
   ·rename_i qs st1 hfz
    split at h
    ·rename_i hcond
     split at h
     ·rename_i cs hcs
      split at h
      ·cases h
       have hu : P.underlying t = some (.slice e) := by
        unfold zbi at he
        split at he
        ·rename_i e' hu; cases he; exact hu
        ·cases he
       obtain ⟨g1, h1, h2⟩ := zqq hi hfz (zi7 henv hps)
       have hk1 : g1.blk (base + ai) = none := by rw [h1.blk]; exact hk
       obtain ⟨u, w', g', h3, h4, h5, h6, h7⟩ := (zpd (w := w) hu hel hk1 hcond.1 hcs (by simpa using h2) : Mk P (Instr.buildSlice t len (parts.map fun (i, x) => (i, a.eval x))) g1 w (base + ai) _ _).does h1.inv hk1 (by rw [h1.next]; exact hlt) (new := (· = base + ai)) rfl
       exact ⟨u, w', g', h3, h4, h5, h1.step.trans h6, fun k b hb => by rw [← h1.blk]; exact h7 k b hb⟩
      ·cases h
     ·cases h
    ·cases h
  ·cases hc
 ·cases hc
theorem Does.of_val {s : Sem Value} {v : V} {st' : St} {new : Nat → Prop} (h : ∃ u w' g', s.run P w = .ok u w' ∧ RepV g' v u ∧ Inv P z0d st' g' w' ∧ Step st g w st' g' w' ∧ ∀ k b, g'.blk k = some b → g.blk k = some b ∨ new k) : Does P (do pure (.value (← s))) st g w v st' new := by
 obtain ⟨u, w', g', h1, h2, h3, h4, h5⟩ := h
 exact Does.made h1 h2 h3 h4 h5
theorem z9v {t e : TypeId} (he : zbi P t = some e) : P.underlying t = some (.slice e) := by
 unfold zbi at he
 split at he
 ·rename_i e' hu; cases he; exact hu
 ·cases he
theorem y3c (hi : Inv P z0d st g w) {o : Oper} {a : Act} {env : List V} (henv : RepVs g env a.tmps.toList) {ai base : Nat} {ik : IK} (hc : cOp? P ai o = some ik) {v : V} {st' : St} (h : evalOp base env st ik = some (v, st')) (ha : Acts o.op)
  (hk : g.blk (base + ai) = none) (hlt : base + ai < st.next) : Does P (execOp a.eval o) st g w v st' (· = base + ai) := by
 have hc0 := hc
 unfold cOp? at hc
 cases ho : o.op <;> simp only [ho] at hc ha <;> simp only [Acts] at ha
 case buildSlice t len parts => exact z8r hi henv ho hc0 h hk hlt
 all_goals unfold execOp; simp only [ho]
 case store t x y =>
  split at hc
  ·rename_i n p q hn hp hq
   cases hc
   simp only [evalOp] at h
   split at h
   ·rename_i st1 hs
    cases h
    obtain ⟨w', h1, h2, h3⟩ := zsz hi hn hs (z0t henv hp) (z0t henv hq)
    exact Does.done h1 h2 h3 fun k b hb => .inl hb
   ·cases h
  ·cases hc
 case mapUpdate t m k x =>
  split at hc
  ·rename_i kt e m' k' x' hu hm hk' hx
   split at hc
   ·rename_i ga sh hkt
    cases hc
    simp only [evalOp] at h
    split at h
    ·rename_i st1 hs
     cases h
     obtain ⟨w', h1, h2, h3⟩ := zfl hi hu hkt hs (z0t henv hm) (z0t henv hk') (z0t henv hx)
     exact Does.done h1 h2 h3 fun k b hb => .inl hb
    ·cases h
   ·cases hc
  ·cases hc
 case insert t m k x =>
  split at hc
  ·rename_i kt e m' k' x' hu hm hk' hx
   split at hc
   ·rename_i ga sh hkt
    cases hc
    simp only [evalOp] at h
    split at h
    ·rename_i st1 hs
     cases h
     obtain ⟨w', h1, h2, h3⟩ := zfl hi hu hkt hs (z0t henv hm) (z0t henv hk') (z0t henv hx)
     exact Does.done h1 h2 h3 fun k b hb => .inl hb
    ·cases h
   ·cases hc
  ·cases hc
 case next x isS =>
  cases isS <;> simp only [reduceCtorEq] at hc
  simp only [Option.map_eq_some_iff] at hc
  obtain ⟨y, hy, rfl⟩ := hc
  obtain ⟨u, w', h1, h2, h3, h4⟩ := zto (P := P) (ty := o.type) hi rfl h (z0t henv hy)
  exact Does.made h1 h2 h3 h4 fun k b hb => .inl hb
 case call c =>
  split at ha
  ·rename_i bi hcal
   simp only [zgd, hcal] at hc
   have hres : ((do let d ← resolve a.eval c o.type; invoke d.target d.args : Sem Next)) = builtin bi c.argTypes o.type (c.args.map fun | .const _ => true | _ => false) (c.args.map a.eval) := by
    simp only [resolve, hcal]
    rfl
   rw [hres]
   have hats : ∀ {l : List TypeId}, c.argTypes.toList = l → c.argTypes = l.toArray := fun {l} e => by rw [← e]
   have has : ∀ {l : List Operand}, c.args.toList = l → c.args.map a.eval = (l.map a.eval).toArray := fun {l} e => by
    subst e
    apply Array.ext'
    rw [Array.toList_map]
   split at hc
   ·rename_i t x ht hx
    rw [hats ht, has hx]
    simp only [builtin]
    split at hc
    ·rename_i n e hu
     cases hc
     simp only [evalOp] at h
     cases h
     refine Does.val hi (u := .int .i64 n) ?_ (by simp [RepV, RepD])
     simp [Builtin.len_, z05 hu, goInt]
    ·rename_i p hu
     split at hc
     ·rename_i n e hu2
      cases hc
      simp only [evalOp] at h
      cases h
      refine Does.val hi (u := .int .i64 n) ?_ (by simp [RepV, RepD])
      simp [Builtin.len_, z05 hu, z05 hu2, goInt]
     ·cases hc
    ·rename_i hu
     simp only [Option.map_eq_some_iff] at hc
     obtain ⟨y, hy, rfl⟩ := hc
     simp only [evalOp] at h
     split at h
     ·rename_i n hn
      cases h
      exact Does.val hi (zyz hu hn (z0t henv hy)) (by simp [RepV, RepD])
     ·cases h
    ·rename_i e hu
     simp only [Option.map_eq_some_iff] at hc
     obtain ⟨y, hy, rfl⟩ := hc
     simp only [evalOp] at h
     split at h
     ·rename_i n hn
      cases h
      exact Does.val hi (y26 hu hn (z0t henv hy)) (by simp [RepV, RepD])
     ·cases h
    ·rename_i kt e hu
     simp only [Option.map_eq_some_iff] at hc
     obtain ⟨y, hy, rfl⟩ := hc
     simp only [evalOp] at h
     split at h
     ·rename_i n hn
      cases h
      exact Does.val hi (zz1 hi hu hn (z0t henv hy)) (by simp [RepV, RepD])
     ·cases h
    ·cases hc
   ·rename_i t x ht hx
    rw [hats ht, has hx]
    simp only [builtin]
    split at hc
    ·rename_i e hu
     simp only [Option.map_eq_some_iff] at hc
     obtain ⟨y, hy, rfl⟩ := hc
     simp only [evalOp] at h
     split at h
     ·rename_i hn
      cases h
      exact Does.val hi (y03 hu hn (z0t henv hy)) (by simp [RepV, RepD])
     ·cases h
    ·cases hc
   ·rename_i t u x y ht hx
    rw [hats ht, has hx]
    simp only [builtin]
    split at hc
    ·rename_i e' hu'
     split at hc
     ·rename_i e he
      split at hc
      ·rename_i n a' b' z p q hel hp hq
       cases hc
       simp only [evalOp] at h
       exact Does.of_val (zs9 hi (z9v he) hu' hel hk hlt h (z0t henv hp) (z0t henv hq))
      ·cases hc
     ·cases hc
    ·cases hc
   ·rename_i t u x y ht hx
    rw [hats ht, has hx]
    simp only [builtin]
    split at hc
    ·rename_i e' hu'
     split at hc
     ·rename_i e he
      split at hc
      ·rename_i n a' b' z p q hel hp hq
       cases hc
       simp only [evalOp] at h
       obtain ⟨u, w', h1, h2, h3, h4⟩ := zzy hi (z9v he) hel h (z0t henv hp) (z0t henv hq)
       exact Does.made h1 h2 h3 h4 fun k b hb => .inl hb
      ·cases hc
     ·cases hc
    ·cases hc
   ·rename_i t x ht hx
    rw [hats ht, has hx]
    simp only [builtin]
    split at hc
    ·rename_i e he
     split at hc
     ·rename_i n a' b' z p hel hp
      cases hc
      simp only [evalOp] at h
      split at h
      ·rename_i st1 hs
       cases h
       obtain ⟨w', h1, h2, h3⟩ := zrq (ty := o.type) hi (z9v he) hel hs (z0t henv hp)
       exact Does.made h1 z50 h2 h3 fun k b hb => .inl hb
      ·cases h
     ·cases hc
    ·cases hc
   ·simp only [Option.map_eq_some_iff] at hc
    obtain ⟨ys, hys, rfl⟩ := hc
    simp only [builtin]
    simp only [evalOp] at h
    split at h
    ·rename_i v' hv
     cases h
     obtain ⟨u, hu, hr⟩ := zyp (P := P) (w := w) (isMax := true) (ats := c.argTypes) (ty := o.type) hv (z8c henv hys)
     refine Does.val hi (u := u) ?_ hr
     rw [has rfl]
     simpa using hu
    ·cases h
   ·simp only [Option.map_eq_some_iff] at hc
    obtain ⟨ys, hys, rfl⟩ := hc
    simp only [builtin]
    simp only [evalOp] at h
    split at h
    ·rename_i v' hv
     cases h
     obtain ⟨u, hu, hr⟩ := zyp (P := P) (w := w) (isMax := false) (ats := c.argTypes) (ty := o.type) hv (z8c henv hys)
     refine Does.val hi (u := u) ?_ hr
     rw [has rfl]
     simpa using hu
    ·cases h
   ·cases hc
  ·cases ha
end Go.Lift
