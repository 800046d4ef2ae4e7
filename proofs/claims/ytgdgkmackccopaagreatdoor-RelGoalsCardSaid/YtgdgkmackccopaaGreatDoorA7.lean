/- Part A7 of the proof. -/
import Derived.Test.YtgdgkmackccopaaGreatDoorA6
import Derived.Test.YtgdgkmackccopaaGreatDoorA1
import Derived.Test.YtgdgkmackccopaaGreatDoorA5
import Derived.ChangeArms
import Derived.WideKeyArgs
import Derived.Test.YtgdgkmackccopaaGreatDoorA50
import Derived.CallsIn
import Derived.ChangeSame
import Derived.Test.YtgdgkmackccopaaGreatDoorA53
import Derived.Test.YtgdgkmackccopaaGreatDoorA4
set_option linter.all false
namespace Go.Lift
open Go
variable {G : Nat → Option IFun}
theorem zlm {f : Nat} {F : IFun} (hG : G f = some F) (hp : F.pure = true) (hn : F.nil2 = false) {first args cap xs : List V} {st : St} (h : first ++ args ++ cap = xs) :
  z06 G (.fn f first cap) args st = z06 G (.fn f [] []) xs st := by
 subst h
 rw [z1l, z1l]
 simp only [z13, hG, hn, hp, List.nil_append, List.append_nil, Bool.false_and, Bool.false_eq_true, if_false, if_true]
def RO (res : List IR) (us : List V) (next : Nat) (e : Ex) (env : List V) (st : St) : Prop := e.fin ∧ ∃ vs, z28 st env res = some vs ∧ next ≤ st.low ∧ z6b st.s next vs = some us
def RU (o : Option (List V)) (st : St) (next : Nat) (us : List V) : Prop := ∃ vs, o = some vs ∧ next ≤ st.low ∧ z6b st.s next vs = some us
theorem zwb {res : List IR} {us : List V} {next : Nat} {env : List V} {st : St} : RO res us next .ret env st = RU (z28 st env res) st next us := by simp [RO, RU]
theorem zwc {res : List IR} {us : List V} {next : Nat} {env : List V} {st : St} : RO res us next .nrm env st = RU (z28 st env res) st next us := by simp [RO, RU]
theorem ru1 {st : St} {next : Nat} {x y : D} (hl : next ≤ st.low) (h : x = y) : RU (some [.d x]) st next [.d y] := ⟨_, rfl, hl, by rw [← h]; exact zou (rs := [x])⟩
theorem z5e {f : Nat} {F : IFun} (hG : G f = some F) (hn : F.nil2 = false) (hp : F.pure = false) (hpop : F.pop = true) {first cap args us : List V} {st : St}
  (h : ∀ e : List V, e.length = (first ++ args ++ cap).length + (F.nt - (first ++ args ++ cap).length) → (∀ i, i < (first ++ args ++ cap).length → e.getD i .undef = (first ++ args ++ cap).getD i .undef) → PC (z0i (z06 G) z0h none F.body e { s := st.s, next := st.next, low := st.next }) (RO F.res us st.next) .mk) :
  z06 G (.fn f first cap) args st = some (tupV us, st) := y19 hG hn hp hpop h
theorem zjh {k n a : Nat} (h : k < n) : (k < n + a) = True := eq_true (Nat.lt_of_lt_of_le h (Nat.le_add_right _ _))
theorem zaf {n a : Nat} (h : 0 < a) : (n < n + a) = True := eq_true (by omega)
theorem z01 {a b c : Nat} (h : a ≤ b) (k : a ≤ c) : a ≤ Nat.min b c := Nat.le_min.2 ⟨h, k⟩
def TellsT (G : Nat → Option IFun) (fv : V) (s : List (Nat × Obj)) (n0 : Nat) {α : Type} (enc : α → D) (dom : α → Prop) (p : α → Bool) : Prop :=
 ∀ a, dom a → ∀ s' nx lw, Sub n0 s s' → n0 ≤ nx → z06 G fv [.d (enc a)] { s := s', next := nx, low := lw } = some (.d (.bool (p a)), { s := s', next := nx, low := lw })
open Classical in
noncomputable def unT {α : Type} (enc : α → D) (dom : α → Prop) (p : α → Bool) (x : D) : Bool := decide (∃ a, dom a ∧ enc a = x ∧ p a = true)
open Classical in
theorem TellsT.same {fv : V} {s : List (Nat × Obj)} {n0 : Nat} {α : Type} {enc : α → D} {dom : α → Prop} {p : α → Bool} (h : TellsT G fv s n0 enc dom p) {a : α} (ha : dom a) : unT enc dom p (enc a) = p a := by
 unfold unT
 cases hp : p a with
 | true => exact decide_eq_true ⟨a, ha, rfl, hp⟩
 | false =>
  refine decide_eq_false ?_
  rintro ⟨b, hb, e, hq⟩
  have h1 := h a ha s n0 0 (Sub.refl _ _) (Nat.le_refl _)
  have h2 := h b hb s n0 0 (Sub.refl _ _) (Nat.le_refl _)
  rw [e, h1, hp, hq] at h2
  cases h2
theorem TellsT.tells {fv : V} {s : List (Nat × Obj)} {n0 : Nat} {α : Type} {enc : α → D} {l : List α} {p : α → Bool} (h : TellsT G fv s n0 enc (· ∈ l) p) : Tells G fv s n0 (· ∈ l.map enc) (unT enc (· ∈ l) p) := by
 intro x hx s' nx lw h1 h2
 obtain ⟨a, ha, rfl⟩ := List.mem_map.1 hx
 rw [h.same ha]
 exact h a ha s' nx lw h1 h2
theorem TellsT.sub {fv : V} {s s1 : List (Nat × Obj)} {n0 n1 : Nat} {α : Type} {enc : α → D} {dom : α → Prop} {p : α → Bool} (h : TellsT G fv s n0 enc dom p) (hs : Sub n0 s s1) (hn : n0 ≤ n1) : TellsT G fv s1 n1 enc dom p :=
 fun a ha s' nx lw h1 h2 => h a ha s' nx lw (hs.trans h1 hn) (Nat.le_trans hn h2)
theorem z3y {fv : V} {s : List (Nat × Obj)} {n0 : Nat} {α : Type} {enc : α → D} {dom : α → Prop} {p : α → Bool} (h : ∀ a, dom a → ∀ st, z06 G fv [.d (enc a)] st = some (.d (.bool (p a)), st)) : TellsT G fv s n0 enc dom p :=
 fun a ha _ _ _ _ _ => h a ha _
section
variable {α : Type} {enc : α → D} {l : List α} {p : α → Bool} {es : Nat} {ag : Bool} {fv : V} {s : List (Nat × Obj)} {nx lw : Nat}
theorem zul (h : ∀ a ∈ l, unT enc (· ∈ l) p (enc a) = p a) : idxP (unT enc (· ∈ l) p) (l.map enc) = idxL p l := by
 rw [zuk]
 unfold idxL
 have : l.findIdx? (fun x => unT enc (· ∈ l) p (enc x)) = l.findIdx? p := by
  have : ∀ (m : List α), (∀ a ∈ m, a ∈ l) → m.findIdx? (fun x => unT enc (· ∈ l) p (enc x)) = m.findIdx? p := by
   intro m
   induction m with
   | nil => intro _; rfl
   | cons a m ih =>
    intro hm
    rw [List.findIdx?_cons, List.findIdx?_cons, h a (hm a (by simp)), ih fun b hb => hm b (by simp [hb])]
  exact this l fun a ha => ha
 rw [this]
theorem zhn {f : Nat} (hG : G f = some (z46 es ag)) (hl : l.length ≤ 9223372036854775807) (he : ∀ a ∈ l, Elt es ag (enc a)) (hf : TellsT G fv s nx enc (· ∈ l) p) :
  z06 G (.fn f [] []) [.d (.sl (l.map enc)), fv] { s := s, next := nx, low := lw } = some (.d (.int .i64 (idxL p l)), { s := s, next := nx, low := lw }) := by
 rw [zwu hG (by simpa using hl) (fun x hx => by obtain ⟨a, ha, rfl⟩ := List.mem_map.1 hx; exact he a ha) hf.tells, zul fun a ha => hf.same ha]
theorem zzz {f idx : Nat} (hG : G f = some (z7r idx)) (hI : G idx = some (z46 es ag)) (hl : l.length ≤ 9223372036854775807) (he : ∀ a ∈ l, Elt es ag (enc a)) (hf : TellsT G fv s nx enc (· ∈ l) p) :
  z06 G (.fn f [] []) [.d (.sl (l.map enc)), fv] { s := s, next := nx, low := lw } = some (.d (.bool (l.any p)), { s := s, next := nx, low := lw }) := by
 rw [zxg hG hI (by simpa using hl) (fun x hx => by obtain ⟨a, ha, rfl⟩ := List.mem_map.1 hx; exact he a ha) hf.tells]
 have : (l.map enc).any (unT enc (· ∈ l) p) = l.any p := by
  rw [List.any_map]
  rw [Bool.eq_iff_iff, List.any_eq_true, List.any_eq_true]
  exact ⟨fun ⟨a, ha, h⟩ => ⟨a, ha, by rw [← hf.same ha]; exact h⟩, fun ⟨a, ha, h⟩ => ⟨a, ha, by simp only [Function.comp]; rw [hf.same ha]; exact h⟩⟩
 rw [this]
theorem z4t {f con idx c : Nat} (hG : G f = some (zhv con c)) (hC : G con = some (z7r idx)) (hI : G idx = some (z46 es ag)) (hc : G c = some (evC es ag) ∨ G c = some evC1) (hcell : fv.isCell = true)
  (hcv : cellsV fv = [fv]) (hl : l.length ≤ 9223372036854775807) (he : ∀ a ∈ l, Elt es ag (enc a)) (hf : TellsT G fv s nx enc (· ∈ l) p) :
  z06 G (.fn f [] []) [.d (.sl (l.map enc)), fv] { s := s, next := nx, low := lw } = some (.d (.bool (l.all p)), { s := s, next := nx, low := lw }) := by
 rw [zuv hG hC hI hc hcell hcv (by simpa using hl) (fun x hx => by obtain ⟨a, ha, rfl⟩ := List.mem_map.1 hx; exact he a ha) hf.tells]
 have : (l.map enc).all (unT enc (· ∈ l) p) = l.all p := by
  rw [List.all_map]
  rw [Bool.eq_iff_iff, List.all_eq_true, List.all_eq_true]
  exact ⟨fun h a ha => by rw [← hf.same ha]; exact h a ha, fun h a ha => by simp only [Function.comp]; rw [hf.same ha]; exact h a ha⟩
 rw [this]
end
theorem z8i {s : List (Nat × Obj)} {k j : Nat} {o : Obj} (h : (k = j) = False) : sget (sset s k o) j = sget s j := z0m (fun e => by rw [← h]; exact e.symm)
theorem z4n {k k' : D} {x : V} : ∀ {es : List (D × V)}, z1s (z22 es k x) k' = if D.beq k k' = true then some x else z1s es k'
 | [] => by simp [z22, z1s]
 | (a, u) :: r => by
  simp only [z22]
  split
  ·rename_i h
   have e := D.eq_of_beq h
   subst e
   simp only [z1s]
   split <;> rfl
  ·rename_i h
   simp only [z1s]
   split
   ·rename_i h2
    have e := D.eq_of_beq h2
    subst e
    rw [if_neg (fun h3 => by rw [D.eq_of_beq h3] at h; exact h (D.beq_refl _))]
   ·exact z4n
theorem z86 {s : List (Nat × Obj)} {nx lw j kt : Nat} {ag : Bool} {sh : List Kc} {zero : V} {kd : D} {es : List (D × V)} (hc : z2g ag sh kd = true) (ho : sget s j = some (.map kt es)) :
  z1w { s := s, next := nx, low := lw } kt ag sh false zero (.map j) (.d kd) = some ((z1s es kd).getD zero) := by
 simp only [z1w, hc, St.get, ho, if_true]
 cases z1s es kd <;> rfl
theorem z4m {s : List (Nat × Obj)} {nx lw j kt : Nat} {ag : Bool} {sh : List Kc} {x : V} {kd : D} {es : List (D × V)} (hc : z2g ag sh kd = true) (ho : sget s j = some (.map kt es)) :
  z54 { s := s, next := nx, low := lw } kt ag sh (.map j) (.d kd) x = some { s := sset s j (.map kt (z22 es kd x)), next := nx, low := Nat.min lw j } := by
 simp only [z54, hc, St.get, ho, if_true, St.set]
end Go.Lift
namespace Go.Lift
open Go
def CVs (R : V → D → Prop) : List V → List D → Prop
 | [], [] => True
 | v :: vs, d :: ds => R v d ∧ CVs R vs ds
 | _, _ => False
theorem CVs.imp {R R' : V → D → Prop} (h : ∀ v d, R v d → R' v d) : ∀ {vs : List V} {ds : List D}, CVs R vs ds → CVs R' vs ds
 | [], [], _ => trivial
 | _ :: _, _ :: _, hh => ⟨h _ _ hh.1, CVs.imp h hh.2⟩
 | [], _ :: _, hh => hh.elim
 | _ :: _, [], hh => hh.elim
theorem CVs.append {R : V → D → Prop} : ∀ {vs ws : List V} {ds es : List D}, CVs R vs ds → CVs R ws es → CVs R (vs ++ ws) (ds ++ es)
 | [], _, [], _, _, k => k
 | _ :: _, _, _ :: _, _, h, k => ⟨h.1, CVs.append h.2 k⟩
 | [], _, _ :: _, _, h, _ => h.elim
 | _ :: _, _, [], _, h, _ => h.elim
theorem CVs.length {R : V → D → Prop} : ∀ {vs : List V} {ds : List D}, CVs R vs ds → vs.length = ds.length
 | [], [], _ => rfl
 | _ :: _, _ :: _, h => by simp [CVs.length h.2]
 | [], _ :: _, h => h.elim
 | _ :: _, [], h => h.elim
def CQ (s : List (Nat × Obj)) (lv : Bool) (S : Nat → Prop) : Nat → V → D → Prop
 | 0, v, d => v = .d d ∧ d.isCell = true ∧ (lv = true → d.flatC = true)
 | n + 1, v, d => (v = .d d ∧ d.isCell = true ∧ (lv = true → d.flatC = true)) ∨ ((v = .nilS ∨ v = .emp) ∧ d = .sl []) ∨
  ∃ k es ag cs ds, v = .arr k es ag 0 ds.length ∧ d = .sl ds ∧ S k ∧ sget s k = some (.cells cs) ∧ 0 < es ∧ (∀ x ∈ ds, Elt es ag x) ∧ CVs (CQ s lv S n) cs (ds.flatMap cellsD)
section
variable {s s' : List (Nat × Obj)} {lv : Bool} {S S' : Nat → Prop} {n : Nat} {v : V} {d : D}
theorem CQ.ofD (h : d.isCell = true) (hl : lv = true → d.flatC = true) : CQ s lv S n (.d d) d := by
 cases n with
 | zero => exact ⟨rfl, h, hl⟩
 | succ n => exact .inl ⟨rfl, h, hl⟩
theorem CQ.str {x : List Nat} : CQ s lv S n (.d (.str x)) (.str x) := CQ.ofD rfl fun _ => rfl
theorem CQ.int {k : IntKind} {x : Int} : CQ s lv S n (.d (.int k x)) (.int k x) := CQ.ofD rfl fun _ => rfl
theorem CQ.nil : CQ s lv S (n + 1) .nilS (.sl []) := .inr (.inl ⟨.inl rfl, rfl⟩)
theorem CQ.data {l : List D} : CQ s false S n (.d (.sl l)) (.sl l) := CQ.ofD rfl fun h => by cases h
theorem CQ.none : CQ s lv S n (.d (.sl [])) (.sl []) := CQ.ofD rfl fun _ => rfl
theorem CQ.cell (h : CQ s lv S n v d) : v.isCell = true ∧ cellsV v = [v] ∧ d.isCell = true := by
 have hd : ∀ x : D, x.isCell = true → (V.d x).isCell = true ∧ cellsV (.d x) = [.d x] := fun x hx => by
  refine ⟨hx, ?_⟩
  cases x <;> first | rfl | simp [D.isCell] at hx
 cases n with
 | zero =>
  obtain ⟨rfl, h1, _⟩ := h
  exact ⟨(hd d h1).1, (hd d h1).2, h1⟩
 | succ n =>
  rcases h with ⟨rfl, h1, _⟩ | ⟨rfl | rfl, rfl⟩ | ⟨k, es, ag, cs, ds, rfl, rfl, _⟩
  ·exact ⟨(hd d h1).1, (hd d h1).2, h1⟩
  ·exact ⟨rfl, rfl, rfl⟩
  ·exact ⟨rfl, rfl, rfl⟩
  ·exact ⟨rfl, rfl, rfl⟩
theorem CQ.frame : ∀ {n : Nat} {v : V} {d : D}, (∀ j, S j → sget s' j = sget s j) → CQ s lv S n v d → CQ s' lv S n v d
 | 0, _, _, _, h => h
 | n + 1, v, d, hs, h => by
  rcases h with h | h | ⟨k, es, ag, cs, ds, h1, h2, h3, h5, h6, h7, h8⟩
  ·exact .inl h
  ·exact .inr (.inl h)
  ·exact .inr (.inr ⟨k, es, ag, cs, ds, h1, h2, h3, by rw [hs k h3]; exact h5, h6, h7, h8.imp fun v d => CQ.frame hs⟩)
theorem CQ.mono (hS : ∀ j, S j → S' j) : ∀ {n : Nat} {v : V} {d : D}, CQ s lv S n v d → CQ s lv S' n v d
 | 0, _, _, h => h
 | n + 1, v, d, h => by
  rcases h with h | h | ⟨k, es, ag, cs, ds, h1, h2, h3, h5, h6, h7, h8⟩
  ·exact .inl h
  ·exact .inr (.inl h)
  ·exact .inr (.inr ⟨k, es, ag, cs, ds, h1, h2, hS k h3, h5, h6, h7, h8.imp fun v d => CQ.mono hS⟩)
theorem CQ.dep : ∀ {n m : Nat} {v : V} {d : D}, n ≤ m → CQ s lv S n v d → CQ s lv S m v d
 | 0, 0, _, _, _, h => h
 | 0, m + 1, _, _, _, h => .inl h
 | n + 1, 0, _, _, hm, _ => by omega
 | n + 1, m + 1, v, d, hm, h => by
  rcases h with h | h | ⟨k, es, ag, cs, ds, h1, h2, h3, h5, h6, h7, h8⟩
  ·exact .inl h
  ·exact .inr (.inl h)
  ·exact .inr (.inr ⟨k, es, ag, cs, ds, h1, h2, h3, h5, h6, h7, h8.imp fun v d => CQ.dep (by omega)⟩)
end
abbrev Iv (lo hi : Nat) : Nat → Prop := fun j => lo ≤ j ∧ j < hi
def CV (s : List (Nat × Obj)) (lv : Bool) (lo n hi : Nat) (v : V) (d : D) : Prop := CQ s lv (Iv lo hi) n v d
theorem CV.str {s : List (Nat × Obj)} {lv : Bool} {lo n hi : Nat} {x : List Nat} : CV s lv lo n hi (.d (.str x)) (.str x) := CQ.str
theorem CV.int {s : List (Nat × Obj)} {lv : Bool} {lo n hi : Nat} {k : IntKind} {x : Int} : CV s lv lo n hi (.d (.int k x)) (.int k x) := CQ.int
theorem CV.data {s : List (Nat × Obj)} {lo n hi : Nat} {l : List D} : CV s false lo n hi (.d (.sl l)) (.sl l) := CQ.data
theorem CV.hi {s : List (Nat × Obj)} {lv : Bool} {lo n hi hi' : Nat} {v : V} {d : D} (h : CV s lv lo n hi v d) (hh : hi ≤ hi') : CV s lv lo n hi' v d := CQ.mono (fun j h => ⟨h.1, Nat.lt_of_lt_of_le h.2 hh⟩) h
theorem CV.lo {s : List (Nat × Obj)} {lv : Bool} {lo lo' n hi : Nat} {v : V} {d : D} (hh : lo' ≤ lo) (h : CV s lv lo n hi v d) : CV s lv lo' n hi v d := CQ.mono (fun j h => ⟨Nat.le_trans hh h.1, h.2⟩) h
theorem z2r {es : Nat} {ag : Bool} (h0 : 0 < es) : ∀ {ds : List D}, (∀ x ∈ ds, Elt es ag x) → z4u es ag ds.length (ds.flatMap cellsD) = some ds
 | [], _ => rfl
 | x :: ds, h => by
  have hx := h x (by simp)
  have hl := hx.len
  simp only [List.flatMap_cons, List.length_cons, z4u]
  rw [if_neg (by simp; omega)]
  have h1 : (cellsD x ++ ds.flatMap cellsD).take es = cellsD x := by rw [← hl, List.take_left]
  have h2 : (cellsD x ++ ds.flatMap cellsD).drop es = ds.flatMap cellsD := by rw [← hl, List.drop_left]
  rw [h1, h2, z2r h0 fun y hy => h y (by simp [hy])]
  rcases hx with ⟨rfl, cs, rfl, _⟩ | ⟨rfl, rfl, hc⟩
  ·rfl
  ·cases x <;> first | rfl | simp [D.isCell] at hc
theorem z27 {es : Nat} {ag : Bool} {ds : List D} (h : ∀ x ∈ ds, Elt es ag x) : (ds.flatMap cellsD).all D.isCell = true ∧ (ds.flatMap cellsD).length = ds.length * es := by
 induction ds with
 | nil => simp
 | cons x ds ih =>
  have hx := h x (by simp)
  obtain ⟨h1, h2⟩ := ih fun y hy => h y (by simp [hy])
  have hl := hx.len
  refine ⟨?_, by simp [h2, hl, Nat.succ_mul]; omega⟩
  rw [List.flatMap_cons, List.all_append, h1, Bool.and_true]
  rcases hx with ⟨rfl, cs, rfl, _, hc⟩ | ⟨rfl, rfl, hc⟩
  ·exact hc
  ·cases x <;> first | rfl | simp [D.isCell] at hc
theorem z3l {R : V → D → Prop} {f : V → Option D} (h : ∀ v d, R v d → f v = some d) : ∀ {vs : List V} {ds : List D}, CVs R vs ds → vs.mapM f = some ds
 | [], [], _ => rfl
 | v :: vs, d :: ds, hh => by
  rw [List.mapM_cons, h v d hh.1, z3l h hh.2]
  rfl
 | [], _ :: _, hh => hh.elim
 | _ :: _, [], hh => hh.elim
theorem CQ.snap {s : List (Nat × Obj)} {lv : Bool} {S : Nat → Prop} {b : Nat} (hb : ∀ j, S j → b ≤ j) : ∀ {n m : Nat} {v : V} {d : D}, n < m → CQ s lv S n v d → Go.Lift.snap s b m v = some d
 | 0, m + 1, _, _, _, h => by
  obtain ⟨rfl, _⟩ := h
  rfl
 | n + 1, m + 1, v, d, hm, h => by
  rcases h with ⟨rfl, _⟩ | ⟨rfl | rfl, rfl⟩ | ⟨k, es, ag, cs, ds, rfl, rfl, h3, h5, h6, h7, h8⟩
  ·rfl
  ·rfl
  ·rfl
  ·obtain ⟨k1, k2⟩ := z27 h7
   have hl := h8.length
   have := hb k h3
   simp only [Go.Lift.snap]
   rw [if_neg (by omega)]
   simp only [scells, h5]
   rw [if_pos ⟨h6, by omega⟩, List.drop_zero, List.take_of_length_le (by omega), z3l (fun v d hv => CQ.snap hb (by omega) hv) h8]
   simp only [k1, if_true]
   rw [z2r h6 h7]
   rfl
 | 0, 0, _, _, h, _ => by omega
 | _ + 1, 0, _, _, h, _ => by omega
theorem z7u {cs : List V} : cellsV (mkAgg cs) = cs := by
 unfold mkAgg
 split
 ·rename_i ds h
  have : cs = ds.map V.d := zbf h
  rw [this]
  rfl
 ·rfl
theorem y2s {x : List Nat} : cellsV (.d (.str x)) = [.d (.str x)] := rfl
theorem y2u {k : IntKind} {x : Int} : cellsV (.d (.int k x)) = [.d (.int k x)] := rfl
theorem zzw {x : Bool} : cellsV (.d (.bool x)) = [.d (.bool x)] := rfl
theorem y4a {l : List D} : cellsV (.d (.sl l)) = [.d (.sl l)] := rfl
theorem y2x {l : List D} : cellsV (.d (.agg l)) = l.map V.d := rfl
theorem zzv : cellsV .nilS = [.nilS] := rfl
theorem y2v : cellsV .emp = [.emp] := rfl
theorem y2w {k es off len : Nat} {ag : Bool} : cellsV (.arr k es ag off len) = [.arr k es ag off len] := rfl
theorem y2t {k o : Nat} : cellsV (.ptr k o) = [.ptr k o] := rfl
theorem y4b {f : Nat} {a b : List V} : cellsV (.fn f a b) = [.fn f a b] := rfl
theorem zfv {x : List Nat} : V.isCell (.d (.str x)) = true := rfl
theorem zjy {k : IntKind} {x : Int} : V.isCell (.d (.int k x)) = true := rfl
theorem zzk {x : Bool} : V.isCell (.d (.bool x)) = true := rfl
theorem y3y {l : List D} : V.isCell (.d (.sl l)) = true := rfl
theorem zzj : V.isCell .nilS = true := rfl
theorem y2d : V.isCell .emp = true := rfl
theorem zwv {k es off len : Nat} {ag : Bool} : V.isCell (.arr k es ag off len) = true := rfl
theorem y2c {k o : Nat} : V.isCell (.ptr k o) = true := rfl
theorem y3z {f : Nat} {a b : List V} : V.isCell (.fn f a b) = true := rfl
theorem ztw {a : D} : mkAgg [.d a] = .d (.agg [a]) := rfl
theorem ztv {a b : D} : mkAgg [.d a, .d b] = .d (.agg [a, b]) := rfl
theorem ztu {a b c : D} : mkAgg [.d a, .d b, .d c] = .d (.agg [a, b, c]) := rfl
theorem ztt {a b c d : D} : mkAgg [.d a, .d b, .d c, .d d] = .d (.agg [a, b, c, d]) := rfl
theorem zir {s : List (Nat × Obj)} {lv : Bool} {S : Nat → Prop} {b n m : Nat} (hb : ∀ j, S j → b ≤ j) {cs : List V} {ds : List D} (hm : n < m) (h : CVs (CQ s lv S n) cs ds) : Go.Lift.snap s b (m + 1) (mkAgg cs) = some (.agg ds) := by
 have h1 := z3l (fun v d hv => CQ.snap (m := m) hb hm hv) h
 have h2 : ds.all D.isCell = true := by
  clear h1
  induction cs generalizing ds with
  | nil => cases ds with
   | nil => rfl
   | cons d ds => exact h.elim
  | cons v cs ih => cases ds with
   | nil => exact h.elim
   | cons d ds =>
    simp only [List.all_cons, h.1.cell.2.2, ih h.2, Bool.and_self]
 unfold mkAgg
 split
 ·rename_i es he
  have e : cs = es.map V.d := zbf he
  subst e
  have : ∀ {es ds : List D}, (es.map V.d).mapM (Go.Lift.snap s b m) = some ds → es = ds := by
   intro es
   induction es with
   | nil => intro ds hd; simp at hd; exact hd.symm
   | cons e es ih =>
    intro ds hd
    rw [List.map_cons, List.mapM_cons] at hd
    cases m with
    | zero => omega
    | succ m =>
     simp only [Go.Lift.snap] at hd
     cases hx : (es.map V.d).mapM (Go.Lift.snap s b (m + 1)) with
     | none => rw [hx] at hd; cases hd
     | some xs =>
      rw [hx] at hd
      cases hd
      rw [ih hx]
  rw [this h1]
  rfl
 ·simp only [Go.Lift.snap, h1, h2, if_true]
theorem znp {s : List (Nat × Obj)} {lv : Bool} {lo b n hi m : Nat} (hb : b ≤ lo) {cs : List V} {ds : List D} (hm : n < m) (h : CVs (CV s lv lo n hi) cs ds) : Go.Lift.snap s b (m + 1) (mkAgg cs) = some (.agg ds) := zir (fun j h => Nat.le_trans hb h.1) hm h
def GP (s : List (Nat × Obj)) (lv : Bool) (S : Nat → Prop) (n es : Nat) (ag : Bool) (v : V) (ds : List D) : Prop :=
 (v = .nilS ∧ ds = []) ∨ ∃ k cs, v = .arr k es ag 0 ds.length ∧ S k ∧ sget s k = some (.cells cs) ∧ CVs (CQ s lv (fun j => S j ∧ j ≠ k) n) cs (ds.flatMap cellsD)
def Gr (s : List (Nat × Obj)) (lv : Bool) (lo n hi es : Nat) (ag : Bool) (v : V) (ds : List D) : Prop := GP s lv (Iv lo hi) n es ag v ds
def away : V → Nat → Prop
 | .arr k _ _ _ _, j => k ≠ j
 | _, _ => True
def grow (v : V) (s : List (Nat × Obj)) : List (Nat × Obj) := match v with
 | .arr k _ _ _ _ => sdel s k
 | _ => s
def z8u (v : V) (low : Nat) : Nat := match v with
 | .arr k _ _ _ _ => Nat.min low k
 | _ => low
theorem z0y {s : List (Nat × Obj)} {k j : Nat} (h : k ≠ j) : sget (sdel s k) j = sget s j := by
 induction s with
 | nil => rfl
 | cons p s ih =>
  obtain ⟨i, o⟩ := p
  simp only [sdel]
  split
  ·rename_i e
   subst e
   simp only [sget, h, if_false, ih]
  ·simp only [sget, ih]
theorem zqk {v : V} {s : List (Nat × Obj)} {j : Nat} (h : away v j) : sget (grow v s) j = sget s j := by
 cases v <;> first | rfl | exact z0y h
section
variable {s s' : List (Nat × Obj)} {lv : Bool} {S S' : Nat → Prop} {n es : Nat} {ag : Bool} {v : V} {ds : List D}
theorem GP.away (h : GP s lv S n es ag v ds) {j : Nat} (hj : ¬ S j) : Go.Lift.away v j := by
 rcases h with ⟨rfl, _⟩ | ⟨k, cs, rfl, h1, _⟩
 ·trivial
 ·exact fun e => hj (e ▸ h1)
theorem GP.cell (h : GP s lv S n es ag v ds) : v.isCell = true ∧ cellsV v = [v] := by
 rcases h with ⟨rfl, _⟩ | ⟨k, cs, rfl, _⟩ <;> exact ⟨rfl, rfl⟩
theorem GP.cv (h : GP s lv S n es ag v ds) (h0 : 0 < es) (he : ∀ x ∈ ds, Elt es ag x) : CQ s lv S (n + 1) v (.sl ds) := by
 rcases h with ⟨rfl, rfl⟩ | ⟨k, cs, rfl, h1, h3, h4⟩
 ·exact .inr (.inl ⟨.inl rfl, rfl⟩)
 ·exact .inr (.inr ⟨k, es, ag, cs, ds, rfl, rfl, h1, h3, h0, he, h4.imp fun v d hv => hv.mono fun j h => h.1⟩)
theorem GP.nil : GP s lv S n es ag .nilS [] := .inl ⟨rfl, rfl⟩
theorem GP.frame (hs : ∀ j, S j → sget s' j = sget s j) (h : GP s lv S n es ag v ds) : GP s' lv S n es ag v ds := by
 rcases h with h | ⟨k, cs, h1, h2, h4, h5⟩
 ·exact .inl h
 ·exact .inr ⟨k, cs, h1, h2, by rw [hs k h2]; exact h4, h5.imp fun v d hv => hv.frame fun j a => hs j a.1⟩
theorem GP.mono (hS : ∀ j, S j → S' j) (h : GP s lv S n es ag v ds) : GP s lv S' n es ag v ds := by
 rcases h with h | ⟨k, cs, h1, h2, h4, h5⟩
 ·exact .inl h
 ·exact .inr ⟨k, cs, h1, hS k h2, h4, h5.imp fun v d hv => hv.mono fun j a => ⟨hS j a.1, a.2⟩⟩
end
section
variable {s s' : List (Nat × Obj)} {lv : Bool} {lo hi n es : Nat} {ag : Bool} {v : V} {ds : List D}
theorem Gr.away (h : Gr s lv lo n hi es ag v ds) {j : Nat} (hj : j < lo ∨ hi ≤ j) : Go.Lift.away v j := GP.away h (fun e => by have := e.1; have := e.2; omega)
theorem Gr.cell (h : Gr s lv lo n hi es ag v ds) : v.isCell = true ∧ cellsV v = [v] := GP.cell h
theorem Gr.cv (h : Gr s lv lo n hi es ag v ds) (h0 : 0 < es) (he : ∀ x ∈ ds, Elt es ag x) : CV s lv lo (n + 1) hi v (.sl ds) := GP.cv h h0 he
theorem Gr.nil : Gr s lv lo n hi es ag .nilS [] := .inl ⟨rfl, rfl⟩
theorem Gr.frame (hs : ∀ j, lo ≤ j → j < hi → sget s' j = sget s j) (h : Gr s lv lo n hi es ag v ds) : Gr s' lv lo n hi es ag v ds := GP.frame (fun j h => hs j h.1 h.2) h
end
theorem Gr.hi {s : List (Nat × Obj)} {lv : Bool} {lo hi n es : Nat} {ag : Bool} {v : V} {ds : List D} {hi' : Nat} (h : Gr s lv lo n hi es ag v ds) (hh : hi ≤ hi') : Gr s lv lo n hi' es ag v ds := GP.mono (fun j h => ⟨h.1, Nat.lt_of_lt_of_le h.2 hh⟩) h
def PP (s : List (Nat × Obj)) (lv : Bool) (S : Nat → Prop) (n es : Nat) (ag : Bool) (xv : V) (ds : List D) (c0 : List V) : Prop :=
 xv = .nilS ∧ c0 = [] ∧ ds = [] ∨ ∃ k, xv = .arr k es ag 0 ds.length ∧ S k ∧ CVs (CQ s lv (fun j => S j ∧ j ≠ k) n) c0 (ds.flatMap cellsD)
theorem y38 {s : List (Nat × Obj)} {lv : Bool} {S : Nat → Prop} {nx lw n key k1 m es eb : Nat} {ag : Bool} {xv : V} {ds : List D} {ys : List V} (hx : GP s lv S n es ag xv ds) (he : ∀ x ∈ ds, Elt es ag x) (hy : sget s k1 = some (.cells ys))
  (hl : ys.length = m * es) (hm : 0 < m) (hb : (ds.length + m) * eb ≤ 70368744177664) (hb2 : ds.length + m ≤ 70368744177664) (hc : ys.all V.isCell = true) :
  ∃ c0, z12 { s := s, next := nx, low := lw } key es ag eb xv (.arr k1 es ag 0 m) = some (.arr key es ag 0 (ds.length + m), { s := (key, .cells (c0 ++ ys)) :: grow xv s, next := nx, low := z8u xv lw }) ∧ PP s lv S n es ag xv ds c0 := by
 have hr : rdSl { s := s, next := nx, low := lw } es (.arr k1 es ag 0 m) = some (ys, m) := by
  simp only [rdSl, St.cells?, scells, hy]
  rw [if_pos ⟨by omega, trivial⟩, List.drop_zero, List.take_of_length_le (by omega)]
 rcases hx with ⟨rfl, rfl⟩ | ⟨k, cs, rfl, h1, h3, h4⟩
 ·refine ⟨[], ?_, .inl ⟨rfl, rfl, rfl⟩⟩
  simp only [z12, hr]
  rw [if_neg (by omega), if_pos ⟨by simpa using hb, by simpa using hb2, hc⟩]
  simp [St.ins, grow, z8u]
 ·refine ⟨cs, ?_, .inr ⟨k, rfl, h1, h4⟩⟩
  have hcl := h4.length
  rw [(z27 he).2] at hcl
  simp only [z12, hr, St.get, h3]
  rw [if_pos ⟨trivial, trivial, hb, hb2, hc⟩, if_pos ⟨trivial, hcl.symm⟩]
  simp [St.ins, St.del, grow, z8u]
theorem z00 {s : List (Nat × Obj)} {k j : Nat} {o : Obj} (h : k ≠ j) : sget ((k, o) :: s) j = sget s j := by simp only [sget, h, if_false]
theorem z02 {s : List (Nat × Obj)} {k : Nat} {o : Obj} : sget ((k, o) :: s) k = some o := by simp only [sget, if_true]
theorem z03 {s : List (Nat × Obj)} {k j : Nat} {o : Obj} (h : k ≠ j) : sget (sset s k o) j = sget s j := z0m (Ne.symm h)
theorem z07 {v : V} {s : List (Nat × Obj)} {j : Nat} (h : away v j) : sget (grow v s) j = sget s j := zqk h
theorem z52 {s s0 : List (Nat × Obj)} {lv : Bool} {S : Nat → Prop} {nx lw n key k1 m es eb : Nat} {ag : Bool} {xv : V} {ds : List D} {ys : List V} {K : V → St → Prop} {k : Dm K} (hx : GP s0 lv S n es ag xv ds) (hf : ∀ j, S j → sget s j = sget s0 j) (he : ∀ x ∈ ds, Elt es ag x) (hy : sget s k1 = some (.cells ys))
  (hl : ys.length = m * es) (hm : 0 < m) (hb : (ds.length + m) * eb ≤ 70368744177664) (hb2 : ds.length + m ≤ 70368744177664) (hc : ys.all V.isCell = true)
  (h : ∀ c0, PP s0 lv S n es ag xv ds c0 → K (.arr key es ag 0 (ds.length + m)) { s := (key, .cells (c0 ++ ys)) :: grow xv s, next := nx, low := z8u xv lw }) :
  PV (z12 { s := s, next := nx, low := lw } key es ag eb xv (.arr k1 es ag 0 m)) K k := by
 obtain ⟨c0, h1, h2⟩ := y38 (nx := nx) (lw := lw) (key := key) (eb := eb) (hx.frame hf) he hy hl hm hb hb2 hc
 rw [h1]
 refine pv_some.symm ▸ h c0 ?_
 rcases h2 with h2 | ⟨k, e, a, c⟩
 ·exact .inl h2
 ·exact .inr ⟨k, e, a, c.imp fun v d hv => hv.frame fun j p => (hf j p.1).symm⟩
theorem z5p {s s' : List (Nat × Obj)} {lv : Bool} {S S' : Nat → Prop} {n key es m : Nat} {ag : Bool} {xv : V} {ds new : List D} {c0 ys : List V} (h : PP s lv S n es ag xv ds c0)
  (hf : ∀ j, S j → Go.Lift.away xv j → sget s' j = sget s j) (hS : ∀ j, S j → S' j) (hk : S' key) (hn' : ¬ S key) (ho : sget s' key = some (.cells (c0 ++ ys))) (hm : new.length = m) (hn : CVs (CQ s' lv (fun j => S' j ∧ j ≠ key) n) ys (new.flatMap cellsD)) :
  GP s' lv S' n es ag (.arr key es ag 0 (ds.length + m)) (ds ++ new) := by
 refine .inr ⟨key, c0 ++ ys, by rw [List.length_append, hm], hk, ho, ?_⟩
 rw [List.flatMap_append]
 refine CVs.append ?_ hn
 rcases h with ⟨_, rfl, rfl⟩ | ⟨k, rfl, h1, h3⟩
 ·exact trivial
 ·exact h3.imp fun v d hv => (hv.frame fun j a => hf j a.1 (fun e => a.2 e.symm)).mono fun j a => ⟨hS j a.1, fun e => hn' (e ▸ a.1)⟩
theorem zdp {s s' : List (Nat × Obj)} {lv : Bool} {S S' : Nat → Prop} {key es N : Nat} {ag : Bool} {xv : V} {ds T : List D} (new : List D) {c0 ys : List V} (h : PP s lv S 0 es ag xv ds c0)
  (hk : S' key) (ho : sget s' key = some (.cells (c0 ++ ys))) (hN : N = ds.length + new.length) (hT : T = ds ++ new) (hn : CVs (CQ s' lv S' 0) ys (new.flatMap cellsD)) :
  GP s' lv S' 0 es ag (.arr key es ag 0 N) T := by
 subst hN hT
 refine .inr ⟨key, c0 ++ ys, by rw [List.length_append], hk, ho, ?_⟩
 rw [List.flatMap_append]
 refine CVs.append ?_ (hn.imp fun v d hv => hv)
 rcases h with ⟨_, rfl, rfl⟩ | ⟨k, rfl, h1, h3⟩
 ·exact trivial
 ·exact h3.imp fun v d hv => hv
theorem zkn {s : List (Nat × Obj)} {lv : Bool} {S : Nat → Prop} {n k es N : Nat} {ag : Bool} {cs : List V} (ds : List D) (hk : S k) (ho : sget s k = some (.cells cs)) (h0 : 0 < es) (he : ∀ x ∈ ds, Elt es ag x) (hN : N = ds.length) (hc : CVs (CQ s lv S n) cs (ds.flatMap cellsD)) :
  CQ s lv S (n + 1) (.arr k es ag 0 N) (.sl ds) := by
 subst hN
 exact .inr (.inr ⟨k, es, ag, cs, ds, rfl, rfl, hk, ho, h0, he, hc⟩)
def Part (s : List (Nat × Obj)) (lv : Bool) (lo n hi es : Nat) (ag : Bool) (xv : V) (ds : List D) (c0 : List V) : Prop := PP s lv (Iv lo hi) n es ag xv ds c0
theorem z5i {s s0 : List (Nat × Obj)} {lv : Bool} {nx lw lo n hi key k1 m es eb : Nat} {ag : Bool} {xv : V} {ds : List D} {ys : List V} {K : V → St → Prop} {k : Dm K} (hx : Gr s0 lv lo n hi es ag xv ds) (hf : ∀ j, lo ≤ j → j < hi → sget s j = sget s0 j) (he : ∀ x ∈ ds, Elt es ag x) (hy : sget s k1 = some (.cells ys))
  (hl : ys.length = m * es) (hm : 0 < m) (hb : (ds.length + m) * eb ≤ 70368744177664) (hb2 : ds.length + m ≤ 70368744177664) (hc : ys.all V.isCell = true)
  (h : ∀ c0, Part s0 lv lo n hi es ag xv ds c0 → K (.arr key es ag 0 (ds.length + m)) { s := (key, .cells (c0 ++ ys)) :: grow xv s, next := nx, low := z8u xv lw }) :
  PV (z12 { s := s, next := nx, low := lw } key es ag eb xv (.arr k1 es ag 0 m)) K k := z52 hx (fun j h => hf j h.1 h.2) he hy hl hm hb hb2 hc h
theorem z5o {s s' : List (Nat × Obj)} {lv : Bool} {lo n hi hi' key es m : Nat} {ag : Bool} {xv : V} {ds new : List D} {c0 ys : List V} (h : Part s lv lo n hi es ag xv ds c0)
  (hf : ∀ j, lo ≤ j → j < hi → Go.Lift.away xv j → sget s' j = sget s j) (h1 : lo ≤ key) (h2 : hi ≤ key) (h3 : key < hi') (ho : sget s' key = some (.cells (c0 ++ ys))) (hm : new.length = m) (hn : CVs (CV s' lv lo n key) ys (new.flatMap cellsD)) :
  Gr s' lv lo n hi' es ag (.arr key es ag 0 (ds.length + m)) (ds ++ new) :=
 z5p h (fun j a => hf j a.1 a.2) (fun j a => ⟨a.1, by have := a.2; omega⟩) ⟨h1, h3⟩ (fun e => by have := e.2; omega) ho hm (hn.imp fun v d hv => CQ.mono (fun j a => ⟨⟨a.1, by have := a.2; omega⟩, by have := a.2; omega⟩) hv)
def mkSlV (key es : Nat) (ag : Bool) (zero : List V) (len : Nat) (o : Option (List V)) (st : St) : Option (V × St) :=
 if len * es ≤ 16777216 ∧ zero.length = es then
  match o with
  | some cs => if cs.all V.isCell then some (.arr key es ag 0 len, st.ins key (.cells cs)) else none
  | none => none
 else none
def zy1 (x : V) (lo hi : Option V) (st : St) : Option (V × St) := match x with
 | .d (.str s) => (match z3d lo hi s.length s.length with
  | some (l, h) => some (.d (.str ((s.drop l).take (h - l))), st)
  | none => none)
 | _ => none
theorem zmc {cl : z11} {base : Nat} {env : List V} {st : St} {dst : Option Nat} {g : Option (Nat × Bool)} {kp : List Nat} {x : Opd} {lo hi : Option Opd} :
  evalIOp cl base env st ⟨dst, .sliceS x lo hi, g, kp⟩ = zy1 (evO env x) (lo.map (evO env)) (hi.map (evO env)) st := rfl
theorem ia_0 {k es : Nat} {ag : Bool} {len : Nat} : z0a es (.arr k es ag 0 (len + 1)) 0 = some (.ptr k 0) := by
 simp only [z0a]
 rw [if_pos ⟨by omega, by omega, trivial⟩]
 simp
theorem y44 {k es : Nat} {ag : Bool} : z0a es (.arr k es ag 0 1) 0 = some (.ptr k 0) := ia_0
theorem y43 {k es : Nat} {ag : Bool} : z0a es (.arr k es ag 0 2) 0 = some (.ptr k 0) := ia_0 (len := 1)
theorem y42 {k es : Nat} {ag : Bool} : z0a es (.arr k es ag 0 2) 1 = some (.ptr k es) := by
 simp only [z0a]
 rw [if_pos ⟨by omega, by omega, trivial⟩]
 simp
def zxe (k : IntKind) (x : V) (st : St) : Option (V × St) := match asI x with
 | some n => some (.d (.int k (k.wrap n)), st)
 | none => none
def zrk (x : V) (st : St) : Option (V × St) := match asI x with
 | some n => if 0 ≤ n ∧ n < 128 then some (.d (.str [n.toNat]), st) else none
 | none => none
theorem zmg {k j : IntKind} {n : Int} {st : St} : zxe k (.d (.int j n)) st = some (.d (.int k (k.wrap n)), st) := rfl
theorem zcg {k : IntKind} {n : Nat} {st : St} (h : n < 128) : zrk (.d (.int k (n : Nat))) st = some (.d (.str [n]), st) := by
 simp only [zrk, asI]
 rw [if_pos (by omega)]
 simp
section
variable {cl : z11} {base : Nat} {env : List V} {st : St} {dst : Option Nat} {g : Option (Nat × Bool)} {kp : List Nat}
theorem zra {k : IntKind} {x : Opd} : evalIOp cl base env st ⟨dst, .convI k x, g, kp⟩ = zxe k (evO env x) st := rfl
theorem zr9 {x : Opd} : evalIOp cl base env st ⟨dst, .convS x, g, kp⟩ = zrk (evO env x) st := rfl
end
theorem zeq {n : Int} (h1 : -2147483648 ≤ n) (h2 : n ≤ 2147483647) : IntKind.i32.wrap n = n := by
 unfold IntKind.wrap
 simp only [IntKind.bits, IntKind.signed, Bool.true_and, decide_eq_true_eq, ge_iff_le, Int.reducePow, Nat.reduceSub]
 split <;> omega
theorem z0s {x : Option (V × St)} {R K : V → St → Prop} {k : Dm K} (h : PostV x R) (hk : ∀ v st, R v st → K v st) : PV x K k := PostV.mono h hk
theorem zux {cl : z11} {base : Nat} {env : List V} {st : St} {dst : Option Nat} {g : Option (Nat × Bool)} {kp : List Nat} {ai es len : Nat} {ag : Bool} {z : List V} {ps : List (Nat × Opd)} :
  evalIOp cl base env st ⟨dst, .mkSl ai es ag true z len ps, g, kp⟩ = mkSlV (base + ai) es ag z len (fillP (List.replicate len z).flatten ((ps.map fun (i, x) => (i, evO env x)).map fun (i, v) => (i * es, es, v))) st := rfl
theorem rql1 {s : List (Nat × Obj)} {v : V} {x : D} {rs : List D} (h1 : snap s 0 z09 v = some x) (h : [x] = rs) : RQ (some [v]) s rs := ⟨_, rfl, by rw [← h]; simp [z0p, h1]⟩
theorem rql2 {s : List (Nat × Obj)} {v w : V} {x y : D} {rs : List D} (h1 : snap s 0 z09 v = some x) (h2 : snap s 0 z09 w = some y) (h : [x, y] = rs) : RQ (some [v, w]) s rs := ⟨_, rfl, by rw [← h]; simp [z0p, h1, h2]⟩
theorem zex {s : List (Nat × Obj)} {k : Nat} {o : Obj} (h : (sget s k).isSome = true) : sget (sset s k o) k = some o := by
 cases hs : sget s k with
 | none => rw [hs] at h; cases h
 | some x => exact z04 hs
theorem zt6 {k : Nat} : sdel [] k = [] := rfl
theorem zo0 {k j : Nat} {o : Obj} {s : List (Nat × Obj)} : sdel ((k, o) :: s) j = if k = j then sdel s j else (k, o) :: sdel s j := rfl
theorem nat1 : ((1 : Nat) : Int) = 1 := rfl
theorem nat2 : ((2 : Nat) : Int) = 2 := rfl
theorem zel {x y : D} : V.beq (.d x) (.d y) = D.beq x y := by simp [V.beq]
theorem zcp : V.beqL [] [] = true := by simp [V.beqL]
theorem z44 {x y : V} {l m : List V} : V.beqL (x :: l) (y :: m) = (V.beq x y && V.beqL l m) := by simp [V.beqL]
theorem zsg {k o : Nat} : V.beq (.ptr k o) (.ptr k o) = true := by simp [V.beq]
theorem z4y : V.beq .nilS .nilS = true := by simp [V.beq]
theorem z43 {k es off len : Nat} {ag : Bool} : V.beq (.arr k es ag off len) (.arr k es ag off len) = true := by simp [V.beq]
theorem GP.len {s : List (Nat × Obj)} {lv : Bool} {S : Nat → Prop} {n es : Nat} {ag : Bool} {v : V} {ds : List D} (h : GP s lv S n es ag v ds) : opLen false v = some ds.length := by
 rcases h with ⟨rfl, rfl⟩ | ⟨k, cs, rfl, _⟩ <;> rfl
theorem GP.beq {s : List (Nat × Obj)} {lv : Bool} {S : Nat → Prop} {n es : Nat} {ag : Bool} {v : V} {ds : List D} (h : GP s lv S n es ag v ds) : V.beq v v = true := by
 rcases h with ⟨rfl, _⟩ | ⟨k, cs, rfl, _⟩
 ·exact z4y
 ·exact z43
theorem Gr.beq {s : List (Nat × Obj)} {lv : Bool} {lo n hi es : Nat} {ag : Bool} {v : V} {ds : List D} (h : Gr s lv lo n hi es ag v ds) : V.beq v v = true := GP.beq h
theorem CQ.beq {s : List (Nat × Obj)} {lv : Bool} {S : Nat → Prop} {n : Nat} {v : V} {d : D} (h : CQ s lv S n v d) : V.beq v v = true := by
 cases n with
 | zero => obtain ⟨rfl, _⟩ := h; rw [zel, D.beq_refl]
 | succ n =>
  rcases h with ⟨rfl, _⟩ | ⟨rfl | rfl, _⟩ | ⟨k, es, ag, cs, ds, rfl, _⟩
  ·rw [zel, D.beq_refl]
  ·exact z4y
  ·simp [V.beq]
  ·exact z43
theorem CVs.beq {s : List (Nat × Obj)} {lv : Bool} {S : Nat → Prop} {n : Nat} : ∀ {cs : List V} {ds : List D}, CVs (CQ s lv S n) cs ds → V.beqL cs cs = true
 | [], [], _ => zcp
 | v :: cs, d :: ds, h => by rw [z44, h.1.beq, CVs.beq h.2]; rfl
 | [], _ :: _, h => h.elim
 | _ :: _, [], h => h.elim
def z61 (key es : Nat) (ag : Bool) (eb : Nat) (zero : List V) (len cap : V) (st : St) : Option (V × St) := match asI len, asI cap with
 | some l, some c =>
  if 0 ≤ l ∧ l ≤ c ∧ c * eb ≤ 70368744177664 ∧ c ≤ 70368744177664 ∧ zero.length = es ∧ zero.all V.isCell then
   some (.arr key es ag 0 l.toNat, st.ins key (.cells (List.replicate c.toNat zero).flatten))
  else none
 | _, _ => none
section
variable {cl : z11} {base : Nat} {env : List V} {st : St} {dst : Option Nat} {g : Option (Nat × Bool)} {kp : List Nat}
theorem zhu {ai es eb : Nat} {ag : Bool} {z : List V} {l c : Opd} : evalIOp cl base env st ⟨dst, .mkslice ai es ag eb z l c, g, kp⟩ = z61 (base + ai) es ag eb z (evO env l) (evO env c) st := rfl
end
theorem zfj {key es eb n : Nat} {ag : Bool} {zero : List V} {st : St} (h1 : n * eb ≤ 70368744177664) (h2 : n ≤ 70368744177664) (h3 : zero.length = es) (h4 : zero.all V.isCell = true) :
  z61 key es ag eb zero (.d (.int .i64 n)) (.d (.int .i64 n)) st = some (.arr key es ag 0 n, st.ins key (.cells (List.replicate n zero).flatten)) := by
 simp only [z61, asI]
 rw [if_pos ⟨by omega, by omega, by omega, by omega, h3, h4⟩]
 simp
theorem zva {s : List (Nat × Obj)} {nx lw k es : Nat} {ag : Bool} {cs : List V} {l : List D} (ho : sget s k = some (.cells cs)) (hl : cs.length = l.length * es) (he : ∀ x ∈ l, Elt es ag x) :
  z8l { s := s, next := nx, low := lw } es (.arr k es ag 0 l.length) (.d (.sl l)) = some (.d (.int .i64 l.length), { s := sset s k (.cells ((l.flatMap cellsD).map V.d)), next := nx, low := Nat.min lw k }) := by
 obtain ⟨h1, h2⟩ := z27 he
 have hr : rdSl { s := s, next := nx, low := lw } es (.d (.sl l)) = some ((l.flatMap cellsD).map V.d, l.length) := by
  simp only [rdSl]
  rw [if_pos h2]
 have hm : Nat.min l.length l.length = l.length := Nat.min_self _
 simp only [z8l, hr, St.get, ho, hm]
 rw [if_pos ⟨trivial, by omega, by rw [List.all_map]; exact h1⟩]
 have hs : splice cs 0 (((l.flatMap cellsD).map V.d).take (l.length * es)) = (l.flatMap cellsD).map V.d := by
  rw [List.take_of_length_le (by rw [List.length_map, h2]; exact Nat.le_refl _)]
  unfold splice
  rw [List.take_zero, List.drop_eq_nil_of_le (by rw [List.length_map, h2]; omega)]
  simp
 rw [hs]
 rfl
def zq6 (v : V) (a b : St) : Bool := match v with
 | .ptr k _ => (match a.get k, b.get k with
  | some o, some p => Obj.beq o p
  | _, _ => false)
 | .map k => (match a.get k, b.get k with
  | some o, some p => Obj.beq o p
  | _, _ => false)
 | .arr k _ _ _ _ => (match a.get k, b.get k with
  | some o, some p => Obj.beq o p
  | _, _ => false)
 | _ => true
def ztl (a b : Option Obj) : Bool := match a, b with
 | some o, some p => Obj.beq o p
 | _, _ => false
theorem zud {env : List V} {a b : St} : kept env a b [] = true := rfl
theorem zq3 {env : List V} {a b : St} {t : Nat} {r : List Nat} : kept env a b (t :: r) = (zq6 (env.getD t .undef) a b && kept env a b r) := rfl
theorem zq4 {k o : Nat} {a b : St} : zq6 (.ptr k o) a b = ztl (sget a.s k) (sget b.s k) := rfl
theorem zq5 {k es off len : Nat} {ag : Bool} {a b : St} : zq6 (.arr k es ag off len) a b = ztl (sget a.s k) (sget b.s k) := rfl
theorem zm8 {ds : List D} {a b : St} : zq6 (.dptr ds) a b = true := rfl
theorem zzb {d : D} {a b : St} : zq6 (.d d) a b = true := rfl
theorem zhc {c d : List V} : ztl (some (.cells c)) (some (.cells d)) = V.beqL c d := by simp [ztl, Obj.beq]
theorem zuy {cl : z11} {base : Nat} {env : List V} {st : St} {dst : Option Nat} {g : Option (Nat × Bool)} {kp : List Nat} {ai es : Nat} {ag nf : Bool} {z : List V} :
  evalIOp cl base env st ⟨dst, .mkSl ai es ag nf z 0 [], g, kp⟩ = mkSlV (base + ai) es ag z 0 (some []) st := by cases nf <;> rfl
theorem z9j {s : List (Nat × Obj)} {S : Nat → Prop} {n : Nat} : ∀ {ds : List D}, ds.all D.isCell = true → CVs (CQ s false S n) (ds.map V.d) ds
 | [], _ => trivial
 | d :: ds, h => by
  simp only [List.all_cons, Bool.and_eq_true] at h
  exact aI (CQ.ofD h.1 (fun h => by cases h)) (z9j h.2)
theorem zq8 : zfs 0 .emp = some false := rfl
theorem zm9 : zfs 0 .nilS = some true := rfl
theorem zma {x : D} {l : List D} : zfs 0 (.d (.sl (x :: l))) = some false := rfl
theorem zq9 {k es off len : Nat} {ag : Bool} : zfs 0 (.arr k es ag off len) = some false := rfl
variable {G : Nat → Option IFun}
theorem ziq {f : Nat} {F : IFun} (hG : G f = some F) (hp : F.pure = false) (hpop : F.pop = false) {args : List V} (hn : zjw args = false) {st : St} {R : V → St → Prop}
  (h : ∀ e : List V, e.length = args.length + (F.nt - args.length) → (∀ i, i < args.length → e.getD i .undef = args.getD i .undef) → PC (z0i (z06 G) z0h none F.body e { s := st.s, next := st.next, low := st.next }) (RS F.res R .mk st.low) .mk) :
  PostV (z06 G (.fn f [] []) args st) R := by
 have h' := h (args ++ List.replicate (F.nt - args.length) .undef) (by simp) (fun i hi => by
  simp only [List.getD_eq_getElem?_getD]
  rw [List.getElem?_append_left hi])
 obtain ⟨vs, st1, h1, h2⟩ := z7x (R := fun vs st' => R (tupV vs) { s := st'.s, next := st'.next, low := Nat.min st.low st'.low }) h'
 refine ⟨_, _, ?_, h2⟩
 rw [z1l]
 simp only [z13, hG, hp, hpop, List.nil_append, List.append_nil, hn, Bool.and_false, Bool.false_and, Bool.false_eq_true, if_false, h1]
theorem z4o {f : Nat} {F : IFun} (hG : G f = some F) (hp : F.pure = true) (hn : F.nil2 = false) {args : List V} {ds rs : List D} {st : St} (ha : z0p st.s 0 args = some ds) (hf : rs.all D.flat = true)
  (h : z06 G (.fn f [] []) (ds.map V.d) { s := [], next := 0, low := 0 } = some (tupV (rs.map V.d), { s := [], next := 0, low := 0 })) :
  z06 G (.fn f [] []) args st = some (tupV (rs.map V.d), st) := by
 rw [z1l] at h ⊢
 simp only [z13, hG, hp, hn, List.nil_append, List.append_nil, Bool.false_and, Bool.false_eq_true, if_false, if_true, z17, ha] at h ⊢
 cases hb : z4h G F (ds.map V.d) { s := [], next := 0, low := 0 } with
 | none => rw [hb] at h; simp at h
 | some p =>
  obtain ⟨vs, st1⟩ := p
  rw [hb] at h
  simp only at h ⊢
  cases hr : z0p st1.s 0 vs with
  | none => rw [hr] at h; simp at h
  | some rs' =>
   rw [hr] at h
   have ht : z0p [] 0 (ds.map V.d) = some ds := z17 ds
   simp only [z37, ht, D.beqL_refl, if_true, ite_self, Option.some.injEq, Prod.mk.injEq, and_true] at h
   have e : tupV (rs'.map V.d) = tupV (rs.map V.d) := h
   have hfl : rs' = rs := by
    match rs', rs, e with
    | [], [], _ => rfl
    | [a], [b], e => simp [tupV] at e; rw [e]
    | [], [b], e => simp [tupV] at e
    | [], b :: c :: r, e => simp [tupV] at e
    | [a], [], e => simp [tupV] at e
    | [a], b :: c :: r, e => simp [tupV] at e
    | a :: b :: r, [], e => simp [tupV] at e
    | a :: b :: r, [c], e => simp [tupV] at e
    | a :: b :: r, c :: d :: q, e =>
     simp only [List.map_cons, tupV, V.tup.injEq, List.cons.injEq, V.d.injEq] at e
     obtain ⟨rfl, rfl, e⟩ := e
     congr 2
     exact (List.map_inj_right (by intro x y h; cases h; rfl)).1 e
   rw [hfl]
   simp only [hf, if_true]
end Go.Lift
namespace Go.Lift
open Go Go.ChangeShapes Go.WideShapes
def z4c (w : World) : Still := fun b o => w.cell? ⟨b, o, none⟩
def Rd (P : Program) (t : TypeId) {α : Type} (e : α → D) (ok : α → Prop) : Prop :=
 ∀ (H : Type) (enc : TypeId × Value → H) (w : World) (n : Nat) (cs : List Value) (x : DataW H × List MemPlace), DataW.trod enc P w 0 (fun _ => true) true n t cs = some x → ∃ a : α, ok a ∧ RepC (z4c w) (cellsD (e a)) cs
variable {P : Program} {t : TypeId}
theorem zem {H : Still} {x : D} {v : Value} (h : RepD H x v) : RepC H [x] [v] := by
 simp only [RepC]
 exact ⟨v, [], rfl, h, rfl⟩
theorem y17 {k : IntKind} (ht : P.underlying t = some (.int k)) : Rd P t (D.int k) (fun n => k.min ≤ n ∧ n ≤ k.max) := fun H enc w n cs x h => by
 obtain ⟨b, rfl, _, hw⟩ := DataW.trod_int ht h
 simp only [Lit.wf, Bool.and_eq_true, decide_eq_true_eq] at hw
 exact ⟨b, hw, zem (by simp only [RepD])⟩
def zsh {α : Type} (e : α → D) : Prop := (∀ a, ∃ ds, e a = .agg ds) ∨ ∀ a, cellsD (e a) = [e a] ∧ ∀ ds, e a ≠ .agg ds
theorem zcl {w : World} {a : Addr} : ∀ {l : List Nat} {cs : List Value}, l.mapM (fun i => w.cell? (a.add i)) = some cs → cs.length = l.length ∧ ∀ (j i : Nat), l[j]? = some i → ∃ y, cs[j]? = some y ∧ w.cell? (a.add i) = some y
 | [], cs, h => by simp at h; subst h; simp
 | i :: l, cs, h => by
  simp only [List.mapM_cons] at h
  cases h1 : w.cell? (a.add i) with
  | none => rw [h1] at h; simp at h
  | some y =>
   rw [h1] at h
   cases h2 : l.mapM (fun i => w.cell? (a.add i)) with
   | none => rw [h2] at h; simp at h
   | some ys =>
    rw [h2] at h
    simp at h
    subst h
    obtain ⟨k1, k2⟩ := zcl h2
    refine ⟨by simp [k1], fun j i' hj => ?_⟩
    cases j with
    | zero => simp at hj; subst hj; exact ⟨y, by simp, h1⟩
    | succ j => simpa using k2 j i' (by simpa using hj)
theorem cells?_at {w : World} {b : Nat} {a : Addr} {n : Nat} {cs : List Value} (h : w.cells? b a n = some cs) : cs.length = n ∧ ∀ j, j < n → ∃ y, cs[j]? = some y ∧ w.cell? (a.add j) = some y := by
 unfold World.cells? at h
 split at h
 ·obtain ⟨h1, h2⟩ := zcl h
  exact ⟨by simpa using h1, fun j hj => h2 j j (by simp [hj])⟩
 ·cases h
theorem zgl {a : Addr} {n : Nat} : (a.add n).block = a.block := by unfold Addr.add; split <;> rfl
theorem zse {a : Addr} {n : Nat} : (a.add n).off = a.off + n := by unfold Addr.add; split <;> simp [*]
theorem zgc {w : World} {a : Addr} {y : Value} (h : w.cell? a = some y) : a.spot = none := by
 unfold World.cell? at h
 split at h
 ·split at h
  ·cases h
  ·rename_i hs
   cases e : a.spot with
   | none => rfl
   | some s => rw [e] at hs; simp at hs
 ·cases h
theorem zcu {w : World} {a : Addr} {y : Value} (h : w.cell? a = some y) : z4c w a.block a.off = some y := by
 have hs := zgc h
 unfold z4c
 rw [← h]
 cases a
 simp only at hs
 subst hs
 rfl
theorem zy6 {α : Type} {e : α → D} (hu : zsh e) {H : Still} {a : α} {cs : List Value} (h : RepC H (cellsD (e a)) cs) : ∃ u : Value, RepD H (e a) u ∧ u.cells.toList = cs := by
 rcases hu with hu | hu
 ·obtain ⟨ds, hd⟩ := hu a
  rw [hd] at h ⊢
  exact ⟨.agg cs.toArray, by simp only [RepD]; exact ⟨_, rfl, by simpa [cellsD] using h⟩, by simp [Value.cells]⟩
 ·obtain ⟨hc, hn⟩ := hu a
  rw [hc] at h
  simp only [RepC] at h
  obtain ⟨v, ws, rfl, h1, rfl⟩ := h
  refine ⟨v, h1, ?_⟩
  cases hx : e a with
  | agg ds => exact absurd hx (hn ds)
  | bool b => rw [hx] at h1; simp only [RepD] at h1; subst h1; rfl
  | int k m => rw [hx] at h1; simp only [RepD] at h1; subst h1; rfl
  | str s => rw [hx] at h1; simp only [RepD] at h1; obtain ⟨b, rfl, _⟩ := h1; rfl
  | sl l => rw [hx] at h1; simp only [RepD] at h1; obtain ⟨a, c, rfl, _⟩ := h1; rfl
theorem zob {H : Still} {b es : Nat} : ∀ {l : List D} {off : Nat}, (∀ (i : Nat) (x : D), l[i]? = some x → ∃ u, RepD H x u ∧ u.cells.size = es ∧ ∀ j, j < es → ∃ y, u.cells[j]? = some y ∧ H b (off + i * es + j) = some y) → RepL H b es l off
 | [], _, _ => by simp only [RepL]
 | x :: l, off, h => by
  simp only [RepL]
  refine ⟨by simpa using h 0 x (by simp), zob fun i y hy => ?_⟩
  have := h (i + 1) y (by simpa using hy)
  rwa [Nat.succ_mul, show off + (i * es + es) = off + es + i * es by omega] at this
theorem zhi {α : Type} {l : List Nat} {Q : Nat → α → Prop} : (∀ i ∈ l, ∃ a, Q i a) → ∃ as : List α, as.length = l.length ∧ ∀ (j i : Nat) (a : α), l[j]? = some i → as[j]? = some a → Q i a := by
 induction l with
 | nil => exact fun _ => ⟨[], rfl, by simp⟩
 | cons i l ih =>
  intro h
  obtain ⟨a, ha⟩ := h i (by simp)
  obtain ⟨as, h1, h2⟩ := ih fun j hj => h j (by simp [hj])
  refine ⟨a :: as, by simp [h1], fun j i' a' hj ha' => ?_⟩
  cases j with
  | zero => simp at hj ha'; subst hj ha'; exact ha
  | succ j => exact h2 j i' a' (by simpa using hj) (by simpa using ha')
theorem ztc {s : TypeId} {α : Type} {e : α → D} {ok : α → Prop} (ht : P.underlying t = some (.slice s)) (hs : 0 < P.cellsOf s) (hu : zsh e) (hr : Rd P s e ok) :
  Rd P t (fun l : List α => D.sl (l.map e)) (fun l => l.length ≤ 9223372036854775807 ∧ ∀ a ∈ l, ok a) := fun H enc w n cs x h => by
 rcases DataW.trod_slice ht h with ⟨rfl, _⟩ | ⟨a, len, cap, elems, rest, n', _, rfl, _, _, hcap, hmax, hlen, helem, _, _⟩
 ·refine ⟨[], ⟨by simp, by simp⟩, zem ?_⟩
  simp only [RepD, List.map_nil]
  exact ⟨none, 0, rfl, ⟨by simp, fun _ => rfl⟩, .inl trivial⟩
 ·have hm : maxLen = 9223372036854775807 := rfl
  have hQ : ∀ i ∈ List.range len, ∃ y : α, ok y ∧ ∃ ds : List Value, w.cells? 0 (a.add (i * P.cellsOf s)) (P.cellsOf s) = some ds ∧ RepC (z4c w) (cellsD (e y)) ds := fun i hi => by
   have hi' : i < len := by simpa using hi
   have h1 := helem i hi'
   rw [List.getElem?_eq_getElem (by omega)] at h1
   simp only [Option.bind_eq_some_iff] at h1
   obtain ⟨ds, h2, h3⟩ := h1
   obtain ⟨y, hy, hrep⟩ := hr H enc w n' ds _ h3
   exact ⟨y, hy, ds, h2, hrep⟩
  obtain ⟨as, hl, hall⟩ := zhi hQ
  simp only [List.length_range] at hl
  have hall' : ∀ (j : Nat) (y : α), as[j]? = some y → ok y ∧ ∃ ds : List Value, w.cells? 0 (a.add (j * P.cellsOf s)) (P.cellsOf s) = some ds ∧ RepC (z4c w) (cellsD (e y)) ds := fun j y hy => by
   have hj : j < as.length := by
    rcases Nat.lt_or_ge j as.length with h | h
    ·exact h
    ·rw [List.getElem?_eq_none h] at hy; cases hy
   exact hall j j y (List.getElem?_range (by omega)) hy
  refine ⟨as, ⟨by omega, fun y hy => ?_⟩, zem ?_⟩
  ·obtain ⟨j, hj⟩ := List.mem_iff_getElem?.1 hy
   exact (hall' j y hj).1
  ·simp only [RepD]
   refine ⟨some a, cap, by rw [List.length_map, hl], ⟨by rw [List.length_map, hl]; exact hcap, by simp⟩, ?_⟩
   rcases Nat.eq_zero_or_pos len with h0 | hpos
   ·left
    have : as = [] := List.eq_nil_of_length_eq_zero (by omega)
    simp [this]
   ·right
    have hsp : a.spot = none := by
     obtain ⟨y, hy⟩ : ∃ y, as[0]? = some y := ⟨as[0], by simp [List.getElem?_eq_getElem (show 0 < as.length by omega)]⟩
     obtain ⟨_, ds, h2, _⟩ := hall' 0 y hy
     obtain ⟨_, h3⟩ := cells?_at h2
     obtain ⟨z, _, hz⟩ := h3 0 hs
     have := zgc hz
     simpa [Addr.add] using this
    refine ⟨a.block, a.off, P.cellsOf s, ?_, hs, zob fun i x hx => ?_⟩
    ·cases a; simp only at hsp; rw [hsp]
    ·rw [List.getElem?_map] at hx
     simp only [Option.map_eq_some_iff] at hx
     obtain ⟨y, hy, rfl⟩ := hx
     obtain ⟨_, ds, h2, h3⟩ := hall' i y hy
     obtain ⟨u, hu1, hu2⟩ := zy6 hu h3
     obtain ⟨h4, h5⟩ := cells?_at h2
     refine ⟨u, hu1, ?_, fun j hj => ?_⟩
     ·rw [← Array.length_toList, hu2, h4]
     ·obtain ⟨z, hz1, hz2⟩ := h5 j hj
      refine ⟨z, ?_, ?_⟩
      ·rw [← Array.getElem?_toList, hu2, hz1]
      ·have := zcu hz2
       rwa [zgl, zgl, zse, zse] at this
theorem ziz {α : Type} {e : α → D} {ok : α → Prop} (hu : zsh e) (hr : Rd P t e ok) {H : Type} {enc : TypeId × Value → H} {w : World} {v : Value} {d : DataW H} {ps : List MemPlace}
  (hv : Value.okWide P w .any 0 t v ∨ True) (hf : (∀ a, ∃ ds, e a = .agg ds) → ∃ cs, v = .agg cs) (hn : (∀ a, ∀ ds, e a ≠ .agg ds) → ∀ cs, v ≠ .agg cs)
  (h : DataW.Trod enc P w 0 (fun _ => true) true t v d ps) : ∃ a : α, ok a ∧ RepD (z4c w) (e a) v := by
 obtain ⟨n, hn'⟩ := h
 obtain ⟨a, ha, hrep⟩ := hr H enc w n _ _ hn'
 refine ⟨a, ha, ?_⟩
 rcases hu with hu | hu
 ·obtain ⟨cs, rfl⟩ := hf hu
  obtain ⟨ds, hd⟩ := hu a
  rw [hd] at hrep ⊢
  simp only [RepD]
  exact ⟨cs, rfl, by simpa [cellsD, Value.cells] using hrep⟩
 ·have hv' := hn fun a => (hu a).2
  rw [(hu a).1] at hrep
  simp only [RepC] at hrep
  obtain ⟨u, ws, hcs, h1, rfl⟩ := hrep
  have : v.cells = #[v] := by
   cases v <;> first | rfl | exact absurd rfl (hv' _)
  rw [this] at hcs
  simp at hcs
  rw [hcs]
  exact h1
end Go.Lift
namespace Go.Lift
open Go Go.ChangeShapes Go.WideShapes
variable {P : Program}
theorem zi3 {G : Nat → Option IFun} (hT : zsi P G) (hmix : P.follows .mixedOrders = true) {f : Nat} {args : Array Value} {ds : List D} {W : World} {b : Bool} {st' : St}
  (hrep : RepC (z4c W) ds args.toList) (hcall : z06 G (.fn f [] []) (ds.map V.d) { s := [], next := 0, low := 0 } = some (.d (.bool b), st')) :
  Calls P f args W fun e W' => e = .returned (.bool b) ∧ W'.os = W.os ∧ W'.output = W.output ∧ W.heap.size ≤ W'.heap.size ∧ ∀ i, i < W.heap.size → W'.heap[i]? = W.heap[i]? := by
 obtain ⟨n, hn⟩ := z5t.1 hcall
 have hinv : Inv P z0d { s := [], next := 0, low := 0 } (z8w (z4c W)) W := z9d fun _ _ _ h => h
 have hu : RepV (z8w (z4c W)) (.fn f [] []) (.func (.func f) #[] #[]) := by
  simp only [RepV]
  exact ⟨_, _, rfl, z1c, z1c⟩
 have h := zrv hT hmix n (.fn f [] []) (ds.map V.d) _ _ _ hn (z8w (z4c W)) W (.func (.func f) #[] #[]) args hinv hu (z10.2 hrep)
 cases n with
 | zero => simp [call] at hn
 | succ n =>
  have hf : ∃ F, G f = some F := by
   simp only [call] at hn
   split at hn
   ·cases hn
   ·exact ⟨_, by assumption⟩
  obtain ⟨F, hF⟩ := hf
  obtain ⟨d, vs, ws, e, hv, hw, h1, h2⟩ := zdx hT hF (w := W) (us := args) hu
  cases e
  have hrun : ((do let d ← Deferred.ofValue (.func (.func f) #[] #[]) args; invoke d.target d.args : Sem Next)).run P W = .ok (.enter f args) W := by
   obtain ⟨fn, k1, k2, _, _, k3⟩ := hT f F hF
   have hb' : fn.body ≠ none := fun e => by rw [e] at k3; cases k3
   have hnm : fn.name ≠ "runtime.NumGoroutine" := fun e => by rw [e] at k2; simp at k2
   simp [Deferred.ofValue, invoke, callFunc, k1, hnm, hb', Sem.run]
  rw [hrun] at h
  refine ((callsIn_wide (n := 0)).1 h).mono fun e W' ⟨v, he, g', hv', hi, hs, _⟩ => ?_
  simp only [RepV, RepD] at hv'
  subst hv'
  exact ⟨he, hs.os, hs.output, hs.size, fun i hi => hs.same i hi z77⟩
theorem zlh {W W' : World} (h : ∀ i, i < W.heap.size → W'.heap[i]? = W.heap[i]?) {p : MemPlace} (hp : p.block < W.heap.size) : W.sameAt W' p := by
 cases p with
 | cell b off =>
  simp only [World.sameAt, World.cell?]
  rw [h b hp]
 | map b => exact h b hp
theorem z9n {H : Type} {enc : TypeId × Value → H} (hl : laidOutB P = true) {W W' : World} (h : ∀ i, i < W.heap.size → W'.heap[i]? = W.heap[i]?) {sp : Nat → Bool} : ∀ {ts : List TypeId} {vs : List Value} {ds : List (DataW H)} {ps : List MemPlace},
  (∀ t ∈ ts, P.readableRec t = true ∧ t < P.types.size) → (∀ p ∈ ps, p.block < W.heap.size) → (∀ p ∈ ps, sp p.block = true) → DataW.TrodAll enc P W 0 (fun _ => true) true ts vs ds ps → DataW.TrodAll enc P W' 0 sp true ts vs ds ps
 | [], vs, ds, ps, _, _, _, hr => by
  obtain ⟨rfl, rfl, rfl⟩ := trodAll_nil hr
  exact trodAll_mk0
 | t :: ts, vs, ds, ps, ht, hp, hs, hr => by
  obtain ⟨v, vs1, d, ds1, p, q, rfl, rfl, rfl, h1, h2⟩ := trodAll_cons hr
  obtain ⟨k1, k2⟩ := ht t (by simp)
  exact ⟨p, q, WideElems.Trod_stays hl k1 k2 h1 (fun x hx => zlh h (hp x (List.mem_append_left _ hx))) (fun x hx => hs x (List.mem_append_left _ hx)), z9n hl h (fun t ht' => ht t (List.mem_cons_of_mem _ ht')) (fun x hx => hp x (List.mem_append_right _ hx)) (fun x hx => hs x (List.mem_append_right _ hx)) h2, rfl⟩
theorem zh3 {tb : TypeId} {H : Type} {enc : TypeId × Value → H} {f : Func} {s : ChangeSpec} {apart handsOn : Bool} {W W' : World} {args : Array Value} {b : Bool} {ds gs : List (DataW H)} {before : List MemPlace}
  (hl : laidOutB P = true) (hts : ∀ t ∈ f.params.toList, P.readableRec t = true ∧ t < P.types.size) (hv : s.vars = [])
  (hres : f.resultTypes.toList = [tb]) (hrs : f.resultTypes.size = 1) (htb : P.underlying tb = some .bool)
  (hfn : s.fn H (ds ++ gs) = { results := [.lit (.bool b)], args := ds }) (hW : DataW.Whole enc P f.params.toList s.vars apart W args.toList ds gs before)
  (h : W'.os = W.os ∧ W'.output = W.output ∧ W.heap.size ≤ W'.heap.size ∧ ∀ i, i < W.heap.size → W'.heap[i]? = W.heap[i]?) :
  s.post enc P f apart true handsOn false W args (.bool b) W' := by
 obtain ⟨ho, hu, hsz, hh⟩ := h
 have hlt : ∀ p ∈ before, p.block < W.heap.size := fun p hp => hW.lt p hp
 have hW' := hW
 obtain ⟨p, q, hA, hV, rfl, hfz, hnd⟩ := hW
 rw [hv] at hV
 obtain ⟨hgs, hq⟩ : gs = [] ∧ q = [] := by
  cases gs with
  | nil => exact ⟨rfl, by simpa [DataW.TrodVars] using hV⟩
  | cons g gs => simp [DataW.TrodVars] at hV
 subst hq
 refine ⟨ds, gs, _, [], p, [], hW', ?_, ?_, ?_, ?_, fun h => by cases h⟩
 ·rw [hres, hfn, hrs]
  exact trodAll_mk1 ⟨1, by simp [DataW.trod, htb, Value.cells]⟩
 ·rw [hfn]
  exact z9n hl hh hts (fun x hx => hlt x (by simp [hx])) (fun x hx => by simpa using hlt x (by simp [hx])) hA
 ·rw [hv, hfn]
  rfl
 ·refine ⟨ho, hu, fun i hi => ?_⟩
  rw [hh i hi]
  cases W.heap[i]? with
  | none => rfl
  | some o => cases o with
   | cells c t fr => exact ⟨rfl, rfl, rfl, fun _ _ => rfl⟩
   | map es c => exact .inr ⟨rfl, rfl⟩
   | _ => rfl
end Go.Lift
namespace Go.Lift
open Go
def nlS (v : V) : Prop := v = .nilS ∨ v = .emp ∨ v = .d (.sl [])
def PK (R : Nat → Nat → Prop) (es : Nat) (v : V) : Prop := nlS v ∨ ∃ k es' ag n, v = .arr k es' ag 0 n ∧ n ≤ 9223372036854775807 ∧ (0 < n → es' = es ∧ R k n)
def E0 (cs : List V) : Prop := ∃ x, cs = [.d (.str x)]
def E1 (R : Nat → Nat → Prop) (cs : List V) : Prop := ∃ x b, cs = [.d (.str x), b] ∧ PK R 1 b
def E3 (cs : List V) : Prop := ∃ x k i k' j, cs = [.d (.str x), .d (.int k i), .d (.int k' j)]
theorem y1q {R : Nat → Nat → Prop} {es : Nat} : PK R es .nilS := .inl (.inl rfl)
theorem z0 : E0 [.d (.str [])] := ⟨_, rfl⟩
theorem z1 {R : Nat → Nat → Prop} : E1 R [.d (.str []), .nilS] := ⟨_, _, rfl, y1q⟩
theorem z3 : E3 [.d (.str []), .d (.int .i64 0), .d (.int .i64 0)] := ⟨_, _, _, _, _, rfl⟩
section
variable {s0 s : List (Nat × Obj)} {S : Nat → Prop} {k n : Nat}
end
section
variable {s0 s : List (Nat × Obj)} {S : Nat → Prop} {nx lw : Nat} {v : V} {K : V → St → Prop} {k : Dm K}
end
theorem zkl {s : List (Nat × Obj)} {lv : Bool} {S : Nat → Prop} {n : Nat} {v : V} {k : IntKind} {x : Int} (h : CQ s lv S n v (.int k x)) : v = .d (.int k x) := by
 cases n with
 | zero => exact h.1
 | succ n =>
  rcases h with h | ⟨_, h⟩ | ⟨k, es, ag, cs, ds, _, h, _⟩
  ·exact h.1
  ·cases h
  ·cases h
end Go.Lift
namespace Go.Lift
open Go
abbrev Ent := Nat × List D × List D
def St.nul : St := { s := [], next := 0, low := 0 }
def Good (G : Nat → Option IFun) (e : Ent) : Prop := ∃ F, G e.1 = some F ∧ F.pure = true ∧ F.nil2 = false ∧ z06 G (.fn e.1 [] []) (e.2.1.map V.d) St.nul = some (tupV (e.2.2.map V.d), St.nul)
def zm1 : List Ent → Nat → List D → Option (List D)
 | [], _, _ => none
 | (f', ds', rs) :: T, f, ds => cond (Nat.beq f f') (cond (D.beqL ds ds') (some rs) (zm1 T f ds)) (zm1 T f ds)
def hasF : List Ent → Nat → Bool
 | [], _ => false
 | (f', _, _) :: T, f => cond (Nat.beq f f') true (hasF T f)
def zpf (T : List Ent) : y0h := fun f => cond (hasF T f) (some fun first args cap st => match first, cap with
 | [], [] => match z0p st.s 0 args with
  | none => none
  | some ds => match zm1 T f ds with
   | none => none
   | some rs => cond (rs.all D.flat) (some (tupV (rs.map V.d), st)) (match frzL (frz z09) st args with
    | none => none
    | some (ys, st2) => match z0p [] 0 ys with
     | none => none
     | some es => cond (D.beqL es ds) (some (tupV (rs.map V.d), st2)) none)
 | _, _ => none) none
theorem zag : ∀ {T : List Ent} {f : Nat} {ds rs : List D}, zm1 T f ds = some rs → (f, ds, rs) ∈ T
 | [], _, _, _, h => by cases h
 | (f', ds', rs') :: T, f, ds, rs, h => by
  simp only [zm1] at h
  cases h1 : Nat.beq f f' with
  | false => rw [h1] at h; exact List.mem_cons_of_mem _ (zag h)
  | true =>
   rw [h1] at h
   cases h2 : D.beqL ds ds' with
   | false => rw [h2] at h; exact List.mem_cons_of_mem _ (zag h)
   | true =>
    rw [h2] at h
    cases h
    rw [Nat.eq_of_beq_eq_true h1, D.eq_of_beqL h2]
    exact List.mem_cons_self
theorem zn8 : ∀ {rs rs' : List D}, tupV (rs'.map V.d) = tupV (rs.map V.d) → rs' = rs := by
 intro rs rs' e
 match rs', rs, e with
 | [], [], _ => rfl
 | [a], [b], e => simp [tupV] at e; rw [e]
 | [], [b], e => simp [tupV] at e
 | [], b :: c :: r, e => simp [tupV] at e
 | [a], [], e => simp [tupV] at e
 | [a], b :: c :: r, e => simp [tupV] at e
 | a :: b :: r, [], e => simp [tupV] at e
 | a :: b :: r, [c], e => simp [tupV] at e
 | a :: b :: r, c :: d :: q, e =>
  simp only [List.map_cons, tupV, V.tup.injEq, List.cons.injEq, V.d.injEq] at e
  obtain ⟨rfl, rfl, e⟩ := e
  congr 2
  exact (List.map_inj_right (by intro x y h; cases h; rfl)).1 e
theorem zd6 {G : Nat → Option IFun} {f : Nat} {F : IFun} (hG : G f = some F) (hp : F.pure = true) (hn : F.nil2 = false) {ds rs : List D} {st : St}
  (h : z06 G (.fn f [] []) (ds.map V.d) St.nul = some (tupV (rs.map V.d), St.nul)) :
  z06 G (.fn f [] []) (ds.map V.d) st = some (tupV (rs.map V.d), st) := by
 unfold St.nul at h
 rw [z1l] at h ⊢
 simp only [z13, hG, hp, hn, List.nil_append, List.append_nil, Bool.false_and, Bool.false_eq_true, if_false, if_true, z17] at h ⊢
 cases hb : z4h G F (ds.map V.d) { s := [], next := 0, low := 0 } with
 | none => rw [hb] at h; simp at h
 | some p =>
  obtain ⟨vs, st1⟩ := p
  rw [hb] at h
  simp only at h ⊢
  cases hr : z0p st1.s 0 vs with
  | none => rw [hr] at h; simp at h
  | some rs' =>
   rw [hr] at h
   simp only [z37, z17, D.beqL_refl, if_true, ite_self, Option.some.injEq, Prod.mk.injEq, and_true] at h ⊢
   exact h
theorem zu3 {G : Nat → Option IFun} {f : Nat} {F : IFun} (hG : G f = some F) (hp : F.pure = true) (hn : F.nil2 = false) {args ys : List V} {ds rs es : List D} {st st2 : St} (ha : z0p st.s 0 args = some ds) (hfl : rs.all D.flat = false)
  (hz : frzL (frz z09) st args = some (ys, st2)) (he : z0p [] 0 ys = some es) (hb : D.beqL es ds = true) (h : z06 G (.fn f [] []) (ds.map V.d) St.nul = some (tupV (rs.map V.d), St.nul)) :
  z06 G (.fn f [] []) args st = some (tupV (rs.map V.d), st2) := by
 unfold St.nul at h
 rw [z1l] at h ⊢
 simp only [z13, hG, hp, hn, List.nil_append, List.append_nil, Bool.false_and, Bool.false_eq_true, if_false, if_true, z17, ha] at h ⊢
 cases hb' : z4h G F (ds.map V.d) { s := [], next := 0, low := 0 } with
 | none => rw [hb'] at h; simp at h
 | some p =>
  obtain ⟨vs, st1⟩ := p
  rw [hb'] at h
  simp only at h ⊢
  cases hr : z0p st1.s 0 vs with
  | none => rw [hr] at h; simp at h
  | some rs' =>
   rw [hr] at h
   have ht : z0p [] 0 (ds.map V.d) = some ds := z17 ds
   simp only [z37, ht, D.beqL_refl, if_true, ite_self, Option.some.injEq, Prod.mk.injEq, and_true] at h
   have e : rs' = rs := zn8 h
   rw [e]
   simp only [hfl, Bool.false_eq_true, if_false, hz, he, hb, if_true]
theorem zyq {G : Nat → Option IFun} {T : List Ent} (hT : ∀ e ∈ T, Good G e) : ∀ f g first args cap st r, zpf T f = some g → g first args cap st = some r → z06 G (.fn f first cap) args st = some r := by
 intro f g first args cap st r hg h
 unfold zpf at hg
 cases hf : hasF T f with
 | false => rw [hf] at hg; cases hg
 | true =>
  rw [hf] at hg
  cases hg
  match first, cap with
  | [], [] =>
   simp only at h
   cases hd : z0p st.s 0 args with
   | none => rw [hd] at h; cases h
   | some ds =>
    rw [hd] at h
    simp only at h
    cases hl : zm1 T f ds with
    | none => rw [hl] at h; cases h
    | some rs =>
     rw [hl] at h
     simp only at h
     obtain ⟨F, h1, h2, h3, h4⟩ := hT _ (zag hl)
     cases hfl : rs.all D.flat with
     | true =>
      rw [hfl] at h
      cases h
      exact z4o h1 h2 h3 hd hfl h4
     | false =>
      rw [hfl] at h
      simp only [cond_false] at h
      cases hz : frzL (frz z09) st args with
      | none => rw [hz] at h; cases h
      | some p =>
       obtain ⟨ys, st2⟩ := p
       rw [hz] at h
       simp only at h
       cases he : z0p [] 0 ys with
       | none => rw [he] at h; cases h
       | some es =>
        rw [he] at h
        simp only at h
        cases hb : D.beqL es ds with
        | false => rw [hb] at h; cases h
        | true =>
         rw [hb] at h
         cases h
         exact zu3 h1 h2 h3 hd hfl hz he hb h4
  | _ :: _, _ => cases h
  | [], _ :: _ => cases h
theorem z63 {G : Nat → Option IFun} {T : List Ent} (hT : ∀ e ∈ T, Good G e) {f m n : Nat} {ds rs : List D} {F : IFun} (h1 : G f = some F) (h2 : F.pure = true) (h3 : F.nil2 = false)
  (h : zbk G (zpf T) m n (.fn f [] []) (ds.map V.d) St.nul = some (tupV (rs.map V.d), St.nul)) : Good G (f, ds, rs) :=
 ⟨F, h1, h2, h3, zvf (zyq hT) n _ _ _ _ h⟩
theorem all_nil {G : Nat → Option IFun} : ∀ e ∈ ([] : List Ent), Good G e := fun _ h => by cases h
theorem all_cons {G : Nat → Option IFun} {e : Ent} {T : List Ent} (h : Good G e) (hT : ∀ e ∈ T, Good G e) : ∀ x ∈ e :: T, Good G x := fun x hx => (List.mem_cons.1 hx).elim (fun h' => h' ▸ h) (hT x)
end Go.Lift
namespace Go.Lift
open Go
def D.sc : D → Bool
 | .bool _ => true
 | .int _ _ => true
 | .str _ => true
 | _ => false
def scs (ds : List D) : List V := ds.map V.d
theorem zgw {x : D} (h : x.sc = true) : x.isCell = true ∧ cellsD x = [x] ∧ x.flatC = true := by
 cases x <;> first | exact ⟨rfl, rfl, rfl⟩ | cases h
theorem z71 {ds : List D} (h : ds.all D.sc = true) : ds.flatMap cellsD = ds ∧ ds.all D.isCell = true := by
 induction ds with
 | nil => exact ⟨rfl, rfl⟩
 | cons x ds ih =>
  simp only [List.all_cons, Bool.and_eq_true] at h
  obtain ⟨h1, h2⟩ := ih h.2
  obtain ⟨k1, k2, _⟩ := zgw h.1
  exact ⟨by rw [List.flatMap_cons, k2, h1]; rfl, by simp [k1, h2]⟩
theorem zw5 {x : D} (h : x.sc = true) : Elt 1 false x := .inr ⟨rfl, rfl, (zgw h).1⟩
section
variable {ds : List D} {i : Nat}
theorem z4d : (scs ds).length = ds.length := by simp [scs]
theorem zbu (h : i < ds.length) : (i + 1 ≤ (scs ds).length) = True ∧ ((scs ds).drop i).take 1 = [.d ds[i]] := by
 refine ⟨by rw [z4d]; exact eq_true (by omega), ?_⟩
 have h' : i < (scs ds).length := by rw [z4d]; exact h
 rw [List.drop_eq_getElem_cons h', List.take_succ_cons, List.take_zero]
 simp [scs]
theorem z6m {x : D} (h : i < ds.length) : (i + 1 ≤ (scs ds).length) = True ∧ (scs ds).take i ++ [.d x] ++ (scs ds).drop (i + 1) = scs (ds.set i x) := by
 refine ⟨by rw [z4d]; exact eq_true (by omega), ?_⟩
 unfold scs
 rw [List.map_set, List.set_eq_take_append_cons_drop, if_pos (by simpa using h)]
 simp
end
theorem z5n {k n i : Nat} {ag : Bool} (h : i < n) : z0a 1 (.arr k 1 ag 0 n) (i : Int) = some (.ptr k i) := by
 simp only [z0a]
 rw [if_pos ⟨by omega, by omega, trivial⟩]
 simp
theorem zo1 {s : List (Nat × Obj)} {nx lw k : Nat} {ds : List D} (h : sget s k = some (.cells (scs ds))) : rdSl { s := s, next := nx, low := lw } 1 (.arr k 1 false 0 ds.length) = some (scs ds, ds.length) := by
 simp only [rdSl, St.cells?, scells, h, z4d]
 rw [if_pos ⟨by omega, trivial⟩, List.drop_zero, List.take_of_length_le (by rw [z4d]; omega)]
theorem zo2 {s : List (Nat × Obj)} {nx lw key k k1 eb n m : Nat} {ds es : List D} (h1 : sget s k = some (.cells (scs ds))) (h2 : sget s k1 = some (.cells (scs es))) (hs : ds.all D.sc = true) (hs2 : es.all D.sc = true)
  (hn : n = ds.length) (hm : m = es.length) (hb : (ds.length + es.length) * eb ≤ 70368744177664) (hb2 : ds.length + es.length ≤ 70368744177664) :
  z12 { s := s, next := nx, low := lw } key 1 false eb (.arr k 1 false 0 n) (.arr k1 1 false 0 m) = some (.arr key 1 false 0 (n + m), { s := (key, .cells (scs (ds ++ es))) :: sdel s k, next := nx, low := Nat.min lw k }) := by
 subst hn hm
 have hr := zo1 (nx := nx) (lw := lw) h2
 have hc : (scs es).all V.isCell = true := by
  unfold scs
  rw [List.all_map]
  exact (z71 hs2).2
 simp only [z12, hr, St.get, h1]
 rw [if_pos ⟨trivial, trivial, hb, hb2, hc⟩, if_pos ⟨trivial, by rw [z4d]; omega⟩]
 simp [St.ins, St.del, scs]
theorem ziu {s : List (Nat × Obj)} {nx lw key k1 eb m : Nat} {es : List D} (h2 : sget s k1 = some (.cells (scs es))) (hs2 : es.all D.sc = true) (h0 : 0 < es.length) (hm : m = es.length) (hb : es.length * eb ≤ 70368744177664) (hb2 : es.length ≤ 70368744177664) :
  z12 { s := s, next := nx, low := lw } key 1 false eb .nilS (.arr k1 1 false 0 m) = some (.arr key 1 false 0 m, { s := (key, .cells (scs es)) :: s, next := nx, low := lw }) := by
 subst hm
 have hr := zo1 (nx := nx) (lw := lw) h2
 have hc : (scs es).all V.isCell = true := by
  unfold scs
  rw [List.all_map]
  exact (z71 hs2).2
 simp only [z12, hr]
 rw [if_neg (by omega), if_pos ⟨hb, hb2, hc⟩]
 simp [St.ins]
theorem zgv {s : List (Nat × Obj)} {k j : Nat} (h : (k = j) = False) : sget (sdel s k) j = sget s j := z0y (fun e => by rw [← h]; exact e)
theorem zey {key eb n : Nat} {x : D} {st : St} (hx : x.sc = true) (h1 : n * eb ≤ 70368744177664) (h2 : n ≤ 70368744177664) :
  z61 key 1 false eb [.d x] (.d (.int .i64 n)) (.d (.int .i64 n)) st = some (.arr key 1 false 0 n, st.ins key (.cells (scs (List.replicate n x)))) := by
 rw [zfj (es := 1) (zero := [V.d x]) h1 h2 rfl (by simp [(zgw hx).1, V.isCell])]
 have : ∀ n, (List.replicate n [V.d x]).flatten = scs (List.replicate n x) := by
  intro n
  induction n with
  | zero => rfl
  | succ n ih => rw [List.replicate_succ, List.replicate_succ, List.flatten_cons, ih]; rfl
 rw [this]
theorem zw4 {s : List (Nat × Obj)} {S : Nat → Prop} {k : Nat} {ds : List D} (hk : S k) (h : sget s k = some (.cells (scs ds))) (hs : ds.all D.sc = true) : CQ s false S 1 (.arr k 1 false 0 ds.length) (.sl ds) := by
 refine zkn ds hk h (by omega) (fun x hx => zw5 (List.all_eq_true.1 hs x hx)) rfl ?_
 obtain ⟨h1, h2⟩ := z71 hs
 rw [h1]
 exact z9j h2
theorem zd0 {s : List (Nat × Obj)} {k : Nat} {ds : List D} (h : sget s k = some (.cells (scs ds))) (hs : ds.all D.sc = true) : snap s 0 z09 (.arr k 1 false 0 ds.length) = some (.sl ds) :=
 CQ.snap (b := 0) (S := fun _ => True) (fun _ _ => Nat.zero_le _) (n := 1) (m := 12) (by decide) (zw4 trivial h hs)
theorem zpl {f : List V → St → Option (Ex × List V × St)} {env0 : List V} {st0 : St} {Q : Ex → List V → St → Prop} {q : Dm (f, env0, st0, Q)}
  (h : PC (f env0 st0) (onN (fun env st => LP f env st Q .mk) Q) .mk) : LP f env0 st0 Q q := by
 unfold LP
 rw [zbx]
 obtain ⟨e, env, st, h1, h2⟩ := h
 rw [h1]
 cases e with
 | nrm => exact h2
 | _ => exact ⟨_, _, _, rfl, h2⟩
def mbs (n : Nat) (o : List Nat) : List D := (List.range n).map fun x => D.bool (decide (x ∈ o))
theorem z6r {n : Nat} {o : List Nat} : (mbs n o).length = n := by simp [mbs]
theorem zyt {n : Nat} : List.replicate n (D.bool false) = mbs n [] := by
 unfold mbs
 apply List.ext_getElem
 ·simp
 ·intro i h1 h2; simp
theorem zfk {n x : Nat} {o : List Nat} (h : x < n) : (mbs n o)[x]'(by rw [z6r]; exact h) = .bool (decide (x ∈ o)) := by simp [mbs]
theorem zpg {n x : Nat} {o : List Nat} (h : x < n) : (mbs n o).set x (.bool true) = mbs n (o ++ [x]) := by
 apply List.ext_getElem
 ·simp [z6r]
 ·intro i h1 h2
  have hi : i < n := by simpa [z6r] using h1
  rw [List.getElem_set, zfk hi, zfk hi]
  by_cases e : x = i
  ·subst e; simp
  ·rw [if_neg e]
   congr 1
   rw [decide_eq_decide]
   simp [Ne.symm e]
theorem zdw {cl : z11} {base : Nat} {env : List V} {st : St} {dst : Option Nat} {g : Option (Nat × Bool)} {kp : List Nat} {x : Opd} : evalIOp cl base env st ⟨dst, .lenM x, g, kp⟩ = zu4 (z4k st (evO env x)) st := by
 simp only [evalIOp, evalOp, zu4]
 cases z4k st (evO env x) <;> rfl
theorem zjm {s : List (Nat × Obj)} {nx lw j kt : Nat} {es : List (D × V)} (ho : sget s j = some (.map kt es)) : z4k { s := s, next := nx, low := lw } (.map j) = some es.length := by
 simp only [z4k, St.get, ho]
theorem z6s {s : List (Nat × Obj)} {nx lw j kt : Nat} {ag : Bool} {sh : List Kc} {zero v : V} {kd : D} {es : List (D × V)} (hc : z2g ag sh kd = true) (ho : sget s j = some (.map kt es)) (h : z1s es kd = some v) :
  z1w { s := s, next := nx, low := lw } kt ag sh true zero (.map j) (.d kd) = some (.tup [v, .d (.bool true)]) := by
 simp only [z1w, hc, St.get, ho, h, if_true]
theorem z6t {s : List (Nat × Obj)} {nx lw j kt : Nat} {ag : Bool} {sh : List Kc} {zero : V} {kd : D} {es : List (D × V)} (hc : z2g ag sh kd = true) (ho : sget s j = some (.map kt es)) (h : z1s es kd = none) :
  z1w { s := s, next := nx, low := lw } kt ag sh true zero (.map j) (.d kd) = some (.tup [zero, .d (.bool false)]) := by
 simp only [z1w, hc, St.get, ho, h, if_true]
def zjd (x : V) (st : St) : Option (V × St) := match x with
 | .ptr k o => some (.ptr k o, st)
 | .dptr ds => some (.dptr ds, st)
 | .fn f a b => some (.fn f a b, st)
 | _ => none
theorem zr5 {cl : z11} {base : Nat} {env : List V} {st : St} {dst : Option Nat} {g : Option (Nat × Bool)} {kp : List Nat} {x : Opd} : evalIOp cl base env st ⟨dst, .nilck x, g, kp⟩ = zjd (evO env x) st := rfl
theorem zpa {k o : Nat} {st : St} : zjd (.ptr k o) st = some (.ptr k o, st) := rfl
theorem zlv {ds : List D} {st : St} : zjd (.dptr ds) st = some (.dptr ds, st) := rfl
theorem ztn {f : Nat} {a b : List V} {st : St} : zjd (.fn f a b) st = some (.fn f a b, st) := rfl
theorem zqs {n : Nat} {st : St} : ∀ {ds : List D}, frzL (frz (n + 1)) st (ds.map V.d) = some (ds.map V.d, st)
 | [] => rfl
 | x :: ds => by simp only [List.map_cons, frzL, frz, zqs]
theorem znf : ∀ {ds : List D}, toDs (ds.map V.d) = some ds
 | [] => rfl
 | x :: ds => by simp only [List.map_cons, toDs, znf, Option.map_some]
theorem zuo {s : List (Nat × Obj)} {nx lw k es : Nat} {ag : Bool} {l : List D} (h0 : 0 < es) (he : ∀ x ∈ l, Elt es ag x) (ho : sget s k = some (.cells ((l.flatMap cellsD).map V.d))) :
  frz z09 { s := s, next := nx, low := lw } (.arr k es ag 0 l.length) = some (.d (.sl l), { s := sset s k (.fz (l.flatMap cellsD)), next := nx, low := Nat.min lw k }) := by
 obtain ⟨h1, h2⟩ := z27 he
 simp only [z09, frz, St.get, ho]
 rw [if_pos ⟨h0, by simp only [List.length_map]; omega⟩]
 simp only [zqs, znf, h1, if_true, ho]
 have : z4u es ag l.length (((l.flatMap cellsD).drop 0).take (l.length * es)) = some l := by
  rw [List.drop_zero, List.take_of_length_le (by omega)]
  exact z2r h0 he
 rw [this]
 rfl
theorem zbr {s : List (Nat × Obj)} {v : V} {d : D} (h : snap s 0 z09 v = some d) {ys : List D} : ∀ {xs : List D}, z0p s 0 (xs.map V.d ++ v :: ys.map V.d) = some (xs ++ d :: ys)
 | [] => by simp only [List.map_nil, List.nil_append, z0p, h, z17]; rfl
 | x :: xs => by
  have := zbr h (ys := ys) (xs := xs)
  simp only [List.map_cons, List.cons_append, z0p, this, z09, snap]; rfl
theorem zk1 {st st' : St} {v : V} {d : D} (h : frz z09 st v = some (.d d, st')) {ys : List D} : ∀ {xs : List D}, frzL (frz z09) st (xs.map V.d ++ v :: ys.map V.d) = some ((xs ++ d :: ys).map V.d, st')
 | [] => by simp only [List.map_nil, List.nil_append, frzL, h, z37]; rfl
 | x :: xs => by
  have := zk1 h (ys := ys) (xs := xs)
  simp only [z09] at this
  simp only [List.map_cons, List.cons_append, frzL, z09, frz, this]
theorem zcs : ∀ {rs' rs : List D}, tupV (rs'.map V.d) = tupV (rs.map V.d) → rs' = rs
 | [], [], _ => rfl
 | [a], [b], e => by simp [tupV] at e; rw [e]
 | [], [b], e => by simp [tupV] at e
 | [], b :: c :: r, e => by simp [tupV] at e
 | [a], [], e => by simp [tupV] at e
 | [a], b :: c :: r, e => by simp [tupV] at e
 | a :: b :: r, [], e => by simp [tupV] at e
 | a :: b :: r, [c], e => by simp [tupV] at e
 | a :: b :: r, c :: d :: q, e => by
  simp only [List.map_cons, tupV, V.tup.injEq, List.cons.injEq, V.d.injEq] at e
  obtain ⟨rfl, rfl, e⟩ := e
  congr 2
  exact (List.map_inj_right (by intro x y h; cases h; rfl)).1 e
theorem zm4 {G : Nat → Option IFun} {f : Nat} {F : IFun} (hG : G f = some F) (hp : F.pure = true) (hn : F.nil2 = false) {xs ys : List D} {k es : Nat} {ag : Bool} {l rs : List D} {s : List (Nat × Obj)} {nx lw : Nat} (h0 : 0 < es) (he : ∀ x ∈ l, Elt es ag x) (ho : sget s k = some (.cells ((l.flatMap cellsD).map V.d)))
  (hf : rs.all D.flat = false)
  (h : z06 G (.fn f [] []) ((xs ++ .sl l :: ys).map V.d) { s := [], next := 0, low := 0 } = some (tupV (rs.map V.d), { s := [], next := 0, low := 0 })) :
  z06 G (.fn f [] []) (xs.map V.d ++ .arr k es ag 0 l.length :: ys.map V.d) { s := s, next := nx, low := lw } = some (tupV (rs.map V.d), { s := sset s k (.fz (l.flatMap cellsD)), next := nx, low := Nat.min lw k }) := by
 have hsn : snap s 0 z09 (.arr k es ag 0 l.length) = some (.sl l) :=
  CQ.snap (b := 0) (S := fun _ => True) (fun _ _ => Nat.zero_le _) (n := 1) (m := 12) (by decide) (zkn l trivial ho h0 he rfl (z9j (z27 he).1))
 have ha := zbr (xs := xs) (ys := ys) hsn
 have hfz := zk1 (xs := xs) (ys := ys) (zuo (nx := nx) (lw := lw) h0 he ho)
 rw [z1l] at h ⊢
 simp only [z13, hG, hp, hn, List.nil_append, List.append_nil, Bool.false_and, Bool.false_eq_true, if_false, if_true, z17, ha, hfz] at h ⊢
 cases hb : z4h G F ((xs ++ .sl l :: ys).map V.d) { s := [], next := 0, low := 0 } with
 | none => rw [hb] at h; simp at h
 | some p =>
  obtain ⟨vs, st1⟩ := p
  rw [hb] at h
  simp only at h ⊢
  cases hr' : z0p st1.s 0 vs with
  | none => rw [hr'] at h; simp at h
  | some rs' =>
   rw [hr'] at h
   have ht : z0p [] 0 ((xs ++ .sl l :: ys).map V.d) = some (xs ++ .sl l :: ys) := z17 _
   simp only [z37, ht, D.beqL_refl, if_true, ite_self, Option.some.injEq, Prod.mk.injEq, and_true] at h
   have e := zcs h
   subst e
   simp only [hf, Bool.false_eq_true, if_false, D.beqL_refl, if_true]
theorem ze9 {s : List (Nat × Obj)} {nx lw k n es : Nat} {ag : Bool} {cs : List V} (h : sget s k = some (.cells cs)) (hn : cs.length = n * es) : rdSl { s := s, next := nx, low := lw } es (.arr k es ag 0 n) = some (cs, n) := by
 simp only [rdSl, St.cells?, scells, h]
 rw [if_pos ⟨by omega, trivial⟩, List.drop_zero, List.take_of_length_le (by omega)]
theorem zgb {s : List (Nat × Obj)} {nx lw key k k1 eb es n m : Nat} {ag : Bool} {cs ds : List V} (h1 : sget s k = some (.cells cs)) (h2 : sget s k1 = some (.cells ds)) (hn : cs.length = n * es) (hm : ds.length = m * es) (hc : ds.all V.isCell = true)
  (hb : (n + m) * eb ≤ 70368744177664) (hb2 : n + m ≤ 70368744177664) :
  z12 { s := s, next := nx, low := lw } key es ag eb (.arr k es ag 0 n) (.arr k1 es ag 0 m) = some (.arr key es ag 0 (n + m), { s := (key, .cells (cs ++ ds)) :: sdel s k, next := nx, low := Nat.min lw k }) := by
 have hr := ze9 (nx := nx) (lw := lw) (ag := ag) h2 hm
 simp only [z12, hr, St.get, h1]
 rw [if_pos ⟨trivial, trivial, hb, hb2, hc⟩, if_pos ⟨trivial, by omega⟩]
 rfl
theorem zea {s : List (Nat × Obj)} {nx lw key k k1 eb es n m off : Nat} {ag : Bool} {cs ds : List V} (h1 : sget s k = some (.cells cs)) (h2 : sget s k1 = some (.cells ds)) (hn : cs.length = off + n * es) (hm : ds.length = m * es) (hes : 0 < es) (h0 : 0 < m) (hc : ds.all V.isCell = true)
  (hb : (n + m) * eb ≤ 70368744177664) (hb2 : n + m ≤ 70368744177664) :
  z12 { s := s, next := nx, low := lw } key es ag eb (.arr k es ag off n) (.arr k1 es ag 0 m) = some (.arr key es ag 0 (n + m), { s := (key, .cells (cs.drop off ++ ds)) :: sdel s k, next := nx, low := Nat.min lw k }) := by
 have hr := ze9 (nx := nx) (lw := lw) (ag := ag) h2 hm
 have h3 : 0 < m * es := Nat.mul_pos h0 hes
 have h4 : (n + m) * es = n * es + m * es := Nat.add_mul _ _ _
 simp only [z12, hr, St.get, h1]
 rw [if_pos ⟨trivial, trivial, hb, hb2, hc⟩]
 by_cases ho : off = 0
 ·subst ho
  rw [if_pos ⟨rfl, by omega⟩]
  simp [St.ins, St.del]
 ·rw [if_neg (by omega), if_neg (by omega), if_pos (by omega)]
  rfl
theorem zyc {G : Nat → Option IFun} {f : Nat} {F : IFun} (hG : G f = some F) (hp : F.pure = true) (hn : F.nil2 = false) {ds : List D} {P : List D → Prop}
  (h : ∀ e : List V, e.length = (ds.map V.d).length + (F.nt - (ds.map V.d).length) → (∀ i, i < ds.length → e.getD i .undef = (ds.map V.d).getD i .undef) → PC (z0i (z06 G) z0h none F.body e { s := [], next := 0, low := 0 }) (fun x env st => x.fin ∧ ∃ vs, z28 st env F.res = some vs ∧ ∃ rs, z0p st.s 0 vs = some rs ∧ P rs) .mk) :
  ∃ rs, P rs ∧ ∀ st, z06 G (.fn f [] []) (ds.map V.d) st = some (tupV (rs.map V.d), st) := by
 have h1 := h (ds.map V.d ++ List.replicate (F.nt - (ds.map V.d).length) .undef) (by simp) (fun i hi => by
  simp only [List.getD_eq_getElem?_getD]
  rw [List.getElem?_append_left (by simpa using hi)])
 obtain ⟨x, env, st1, h2, h3, vs, h4, rs, h5, h6⟩ := h1
 refine ⟨rs, h6, fun st => ?_⟩
 refine z81 hG hp hn ?_ st
 exact ⟨x, env, st1, h2, h3, vs, h4, h5⟩
def RX (res : List IR) (P : List D → Prop) (_ : Dm P) (e : Ex) (env : List V) (st : St) : Prop := e.fin ∧ ∃ vs, z28 st env res = some vs ∧ ∃ rs, z0p st.s 0 vs = some rs ∧ P rs
def RXQ (o : Option (List V)) (s : List (Nat × Obj)) (P : List D → Prop) : Prop := ∃ vs, o = some vs ∧ ∃ rs, z0p s 0 vs = some rs ∧ P rs
theorem y12 {res : List IR} {P : List D → Prop} {d : Dm P} {env : List V} {st : St} : RX res P d .ret env st = RXQ (z28 st env res) st.s P := by simp [RX, RXQ]
theorem y13 {res : List IR} {P : List D → Prop} {d : Dm P} {env : List V} {st : St} : RX res P d .nrm env st = RXQ (z28 st env res) st.s P := by simp [RX, RXQ]
theorem zte {G : Nat → Option IFun} {f : Nat} {F : IFun} (hG : G f = some F) (hp : F.pure = true) (hn : F.nil2 = false) {ds : List D} {P : List D → Prop}
  (h : ∀ e : List V, e.length = (ds.map V.d).length + (F.nt - (ds.map V.d).length) → (∀ i, i < ds.length → e.getD i .undef = (ds.map V.d).getD i .undef) → PC (z0i (z06 G) z0h none F.body e { s := [], next := 0, low := 0 }) (RX F.res P .mk) .mk) :
  ∃ rs, P rs ∧ ∀ st, z06 G (.fn f [] []) (ds.map V.d) st = some (tupV (rs.map V.d), st) := zyc hG hp hn h
end Go.Lift
namespace Go.Lift
open Go
def CZ (s : List (Nat × Obj)) : (Nat → Prop) → Nat → V → D → Prop
 | _, 0, v, d => v = .d d
 | S, n + 1, v, d => v = .d d ∨ ((v = .nilS ∨ v = .emp) ∧ d = .sl []) ∨
  ∃ k es ag ds, v = .arr k es ag 0 ds.length ∧ d = .sl ds ∧ S k ∧ 0 < es ∧ (∀ x ∈ ds, Elt es ag x) ∧
   ((∃ cs, sget s k = some (.cells cs) ∧ CVs (CZ s (fun j => S j ∧ j ≠ k) n) cs (ds.flatMap cellsD)) ∨ sget s k = some (.fz (ds.flatMap cellsD)))
theorem CZ.ofD {s : List (Nat × Obj)} {S : Nat → Prop} {n : Nat} {d : D} : CZ s S n (.d d) d := by
 cases n with
 | zero => rfl
 | succ n => exact .inl rfl
theorem CZ.mono {s : List (Nat × Obj)} : ∀ {n m : Nat} {S S' : Nat → Prop} {v : V} {d : D}, n ≤ m → (∀ j, S j → S' j) → CZ s S n v d → CZ s S' m v d
 | 0, m, _, _, v, d, _, _, h => by
  have h : v = .d d := h
  subst h
  exact CZ.ofD
 | n + 1, 0, _, _, _, _, hm, _, _ => by omega
 | n + 1, m + 1, S, S', v, d, hm, hS, h => by
  refine h.imp id fun h => h.imp id ?_
  rintro ⟨k, es, ag, ds, e1, e2, e3, e4, e5, e6⟩
  refine ⟨k, es, ag, ds, e1, e2, hS _ e3, e4, e5, e6.imp ?_ id⟩
  rintro ⟨cs, f1, f2⟩
  exact ⟨cs, f1, CVs.imp (fun v d h => CZ.mono (by omega) (fun j hj => ⟨hS _ hj.1, hj.2⟩) h) f2⟩
theorem CVs.fun_ {R R' : V → D → Prop} (h : ∀ v d d', R v d → R' v d' → d = d') : ∀ {vs : List V} {ds ds' : List D}, CVs R vs ds → CVs R' vs ds' → ds = ds'
 | [], [], [], _, _ => rfl
 | [], _ :: _, _, a, _ => a.elim
 | [], [], _ :: _, _, b => b.elim
 | _ :: _, [], _, a, _ => a.elim
 | _ :: _, _ :: _, [], _, b => b.elim
 | _ :: _, _ :: _, _ :: _, a, b => by rw [h _ _ _ a.1 b.1, CVs.fun_ h a.2 b.2]
theorem zus {es es' : Nat} {ag : Bool} {ds ds' : List D} (h0 : 0 < es) (he : ∀ x ∈ ds, Elt es ag x) (he' : ∀ x ∈ ds', Elt es ag x) (hl : ds.length = ds'.length) (h : ds.flatMap cellsD = ds'.flatMap cellsD) : ds = ds' := by
 have a := z2r (ag := ag) h0 he
 have b := z2r (ag := ag) h0 he'
 rw [h, hl, b] at a
 exact (Option.some.inj a).symm
theorem CZ.uniq {s : List (Nat × Obj)} : ∀ {n m : Nat} {S S' : Nat → Prop} {v : V} {d d' : D}, CZ s S n v d → CZ s S' m v d' → d = d'
 | 0, 0, _, _, v, d, d', h, h' => by
  have h : v = .d d := h
  have h' : v = .d d' := h'
  rw [h] at h'
  injection h'
 | 0, m + 1, _, _, v, d, d', h, h' => by
  have h : v = .d d := h
  subst h
  rcases h' with e | ⟨e | e, _⟩ | ⟨_, _, _, _, e, _⟩
  ·injection e
  ·cases e
  ·cases e
  ·cases e
 | n + 1, 0, _, _, v, d, d', h, h' => by
  have h' : v = .d d' := h'
  subst h'
  rcases h with e | ⟨e | e, _⟩ | ⟨_, _, _, _, e, _⟩
  ·injection e with e; exact e.symm
  ·cases e
  ·cases e
  ·cases e
 | n + 1, m + 1, S, S', v, d, d', h, h' => by
  rcases h with rfl | ⟨hv, rfl⟩ | ⟨k, es, ag, ds, rfl, rfl, e3, e4, e5, e6⟩
  ·rcases h' with e | ⟨e | e, _⟩ | ⟨_, _, _, _, e, _⟩
   ·injection e
   ·cases e
   ·cases e
   ·cases e
  ·rcases h' with rfl | ⟨_, rfl⟩ | ⟨_, _, _, _, rfl, _⟩
   ·rcases hv with e | e <;> cases e
   ·rfl
   ·rcases hv with e | e <;> cases e
  ·rcases h' with e | ⟨e | e, _⟩ | ⟨k', es', ag', ds', e, rfl, g3, g4, g5, g6⟩
   ·cases e
   ·cases e
   ·cases e
   ·injection e with e1 e2 e3' e4' e5'
    subst e1; subst e2; subst e3'
    congr 1
    refine zus (es' := es) e4 e5 g5 e5' ?_
    rcases e6 with ⟨cs, f1, f2⟩ | f1 <;> rcases g6 with ⟨cs', f1', f2'⟩ | f1'
    ·rw [f1] at f1'
     injection f1' with f1'
     injection f1' with f1'
     subst f1'
     exact CVs.fun_ (R := CZ s (fun j => S j ∧ j ≠ k) n) (R' := CZ s (fun j => S' j ∧ j ≠ k) m) (fun v d d' a b => CZ.uniq a b) f2 f2'
    ·rw [f1] at f1'; injection f1' with f1'; cases f1'
    ·rw [f1] at f1'; injection f1' with f1'; cases f1'
    ·rw [f1] at f1'; injection f1' with f1'; injection f1'
def Pz (s s' : List (Nat × Obj)) : Prop := ∀ (S : Nat → Prop) n v d, CZ s S n v d → CZ s' S n v d
theorem Pz.refl {s : List (Nat × Obj)} : Pz s s := fun _ _ _ _ h => h
theorem Pz.trans {a b c : List (Nat × Obj)} (h : Pz a b) (h' : Pz b c) : Pz a c := fun S n v d x => h' S n v d (h S n v d x)
theorem y3r {s : List (Nat × Obj)} {k n0 : Nat} {S0 : Nat → Prop} {cs : List V} {l : List D} (hk : sget s k = some (.cells cs)) (hc : CVs (CZ s S0 n0) cs l) : Pz s (sset s k (.fz l)) := by
 intro S n
 induction n generalizing S with
 | zero => exact fun v d h => h
 | succ n ih =>
  intro v d h
  refine h.imp id fun h => h.imp id ?_
  rintro ⟨k', es, ag, ds, e1, e2, e3, e4, e5, e6⟩
  refine ⟨k', es, ag, ds, e1, e2, e3, e4, e5, ?_⟩
  by_cases e : k' = k
  ·subst e
   refine .inr ?_
   rw [z04 hk]
   rcases e6 with ⟨cs', f1, f2⟩ | f1
   ·rw [hk] at f1
    injection f1 with f1
    injection f1 with f1
    subst f1
    rw [CVs.fun_ (R := CZ s S0 n0) (R' := CZ s (fun j => S j ∧ j ≠ k') n) (fun v d d' a b => CZ.uniq a b) hc f2]
   ·rw [hk] at f1; injection f1 with f1; cases f1
  ·rw [z0m e]
   exact e6.imp (fun ⟨cs', f1, f2⟩ => ⟨cs', f1, CVs.imp (fun v d h => ih _ v d h) f2⟩) id
def Yd (y : V) (d : D) : Prop := y = .d d ∨ ((y = .nilS ∨ y = .emp) ∧ d = .sl [])
theorem zne : ∀ {ys : List V} {ds : List D}, CVs Yd ys ds → toDs ys = some ds
 | [], [], _ => rfl
 | [], _ :: _, h => h.elim
 | _ :: _, [], h => h.elim
 | y :: ys, d :: ds, h => by
  have e := zne h.2
  rcases h.1 with rfl | ⟨rfl | rfl, rfl⟩ <;> simp [toDs, e]
theorem zno {s : List (Nat × Obj)} {b m : Nat} {y : V} {d : D} (h : Yd y d) : snap s b (m + 1) y = some d := by
 rcases h with rfl | ⟨rfl | rfl, rfl⟩ <;> rfl
def Fz1 (S : Nat → Prop) (s s' : List (Nat × Obj)) : Prop := Pz s s' ∧ ∀ q, ¬ S q → sget s' q = sget s q
theorem zhr {S : Nat → Prop} {n m nx : Nat} (ih : ∀ {v : V} {d : D} {s : List (Nat × Obj)} {lw : Nat}, CZ s S n v d → ∃ y s' lw', frz m { s := s, next := nx, low := lw } v = some (y, { s := s', next := nx, low := lw' }) ∧ Yd y d ∧ Fz1 S s s') :
  ∀ {cs : List V} {ds : List D} {s : List (Nat × Obj)} {lw : Nat}, CVs (CZ s S n) cs ds → ∃ ys s' lw', frzL (frz m) { s := s, next := nx, low := lw } cs = some (ys, { s := s', next := nx, low := lw' }) ∧ CVs Yd ys ds ∧ Fz1 S s s'
 | [], [], s, lw, _ => ⟨[], s, lw, rfl, trivial, Pz.refl, fun _ _ => rfl⟩
 | [], _ :: _, _, _, h => h.elim
 | _ :: _, [], _, _, h => h.elim
 | v :: cs, d :: ds, s, lw, h => by
  obtain ⟨y, s1, l1, a1, a2, a3, a4⟩ := ih (lw := lw) h.1
  obtain ⟨ys, s2, l2, b1, b2, b3, b4⟩ := zhr ih (cs := cs) (ds := ds) (s := s1) (lw := l1) (CVs.imp (fun v d h => a3 _ _ _ _ h) h.2)
  exact ⟨y :: ys, s2, l2, by simp only [frzL, a1, b1], ⟨a2, b2⟩, a3.trans b3, fun q hq => (b4 q hq).trans (a4 q hq)⟩
theorem zqp : ∀ {n m : Nat} {S : Nat → Prop} {v : V} {d : D} {s : List (Nat × Obj)} {nx lw : Nat}, n < m → CZ s S n v d → ∃ y s' lw', frz m { s := s, next := nx, low := lw } v = some (y, { s := s', next := nx, low := lw' }) ∧ Yd y d ∧ Fz1 S s s'
 | 0, m + 1, S, v, d, s, nx, lw, _, h => by
  have h : v = .d d := h
  subst h
  exact ⟨_, s, lw, rfl, .inl rfl, Pz.refl, fun _ _ => rfl⟩
 | n + 1, 0, _, _, _, _, _, _, hm, _ => by omega
 | n + 1, m + 1, S, v, d, s, nx, lw, hm, h => by
  rcases h with rfl | ⟨rfl | rfl, rfl⟩ | ⟨k, es, ag, ds, rfl, rfl, e3, e4, e5, e6⟩
  ·exact ⟨_, s, lw, rfl, .inl rfl, Pz.refl, fun _ _ => rfl⟩
  ·exact ⟨_, s, lw, rfl, .inr ⟨.inl rfl, rfl⟩, Pz.refl, fun _ _ => rfl⟩
  ·exact ⟨_, s, lw, rfl, .inr ⟨.inr rfl, rfl⟩, Pz.refl, fun _ _ => rfl⟩
  ·obtain ⟨h1, h2⟩ := z27 e5
   have hc := z2r (ag := ag) e4 e5
   have ht : ((ds.flatMap cellsD).drop 0).take (ds.length * es) = ds.flatMap cellsD := by rw [List.drop_zero, List.take_of_length_le (by omega)]
   rcases e6 with ⟨cs, f1, f2⟩ | f1
   ·obtain ⟨ys, s1, l1, b1, b2, b3, b4⟩ := zhr (m := m) (nx := nx) (fun h => zqp (by omega) h) (lw := lw) f2
    have hk1 : sget s1 k = some (.cells cs) := by rw [b4 k (fun h => h.2 rfl)]; exact f1
    have hl : cs.length = (ds.flatMap cellsD).length := CVs.length f2
    refine ⟨.d (.sl ds), sset s1 k (.fz (ds.flatMap cellsD)), Nat.min l1 k, ?_, .inl rfl, ?_⟩
    ·have g1 : ({ s := s, next := nx, low := lw } : St).get k = some (.cells cs) := f1
     have g2 : ({ s := s1, next := nx, low := l1 } : St).get k = some (.cells cs) := hk1
     simp only [frz, g1]
     rw [if_pos ⟨e4, by omega⟩]
     simp only [b1, zne b2, h1, if_true, ht, hc, g2]
     rfl
    ·refine ⟨b3.trans (y3r hk1 (CVs.imp (fun v d h => b3 _ _ _ _ h) f2)), fun q hq => ?_⟩
     rw [z0m (fun e => hq (by rw [e]; exact e3))]
     exact b4 q (fun h => hq h.1)
   ·refine ⟨.d (.sl ds), s, lw, ?_, .inl rfl, Pz.refl, fun _ _ => rfl⟩
    have g1 : ({ s := s, next := nx, low := lw } : St).get k = some (.fz (ds.flatMap cellsD)) := f1
    simp only [frz, g1]
    rw [if_pos ⟨e4, by omega, h1⟩, ht, hc]
theorem zv7 : ∀ {ds : List D}, CVs (fun v d => v = V.d d) (ds.map V.d) ds
 | [] => trivial
 | _ :: _ => ⟨rfl, zv7⟩
theorem CZ.snap {s : List (Nat × Obj)} : ∀ {n m : Nat} {S : Nat → Prop} {v : V} {d : D}, n < m → CZ s S n v d → Go.Lift.snap s 0 m v = some d
 | 0, m + 1, _, v, d, _, h => by
  have h : v = .d d := h
  subst h
  rfl
 | n + 1, 0, _, _, _, hm, _ => by omega
 | n + 1, m + 1, S, v, d, hm, h => by
  rcases h with rfl | ⟨rfl | rfl, rfl⟩ | ⟨k, es, ag, ds, rfl, rfl, e3, e4, e5, e6⟩
  ·rfl
  ·rfl
  ·rfl
  ·obtain ⟨h1, h2⟩ := z27 e5
   have hc := z2r (ag := ag) e4 e5
   obtain ⟨cs, f1, f2, f3⟩ : ∃ cs, scells s k = some cs ∧ cs.length = ds.length * es ∧ cs.mapM (Go.Lift.snap s 0 m) = some (ds.flatMap cellsD) := by
    rcases e6 with ⟨cs, f1, f2⟩ | f1
    ·exact ⟨cs, by simp [scells, f1], by rw [CVs.length f2, h2], z3l (fun v d h => CZ.snap (by omega) h) f2⟩
    ·refine ⟨(ds.flatMap cellsD).map V.d, by simp [scells, f1], by rw [List.length_map, h2], ?_⟩
     obtain ⟨m', rfl⟩ : ∃ m', m = m' + 1 := ⟨m - 1, by omega⟩
     exact z3l (R := fun v d => v = V.d d) (fun v d hv => by subst hv; rfl) zv7
   have ht : (cs.drop 0).take (ds.length * es) = cs := by rw [List.drop_zero, List.take_of_length_le (by omega)]
   simp only [Go.Lift.snap, f1, Nat.not_lt_zero, if_false]
   rw [if_pos ⟨e4, by omega⟩, ht, f3]
   simp only [h1, if_true, hc, Option.map_some]
def AZ (s : List (Nat × Obj)) (S : Nat → Prop) (v : V) (d : D) : Prop := CZ s S 9 v d ∨ ∃ cs ds, v = mkAgg cs ∧ d = .agg ds ∧ CVs (CZ s S 9) cs ds ∧ ds.all D.isCell = true
theorem AZ.ofD {s : List (Nat × Obj)} {S : Nat → Prop} {d : D} : AZ s S (.d d) d := .inl CZ.ofD
theorem AZ.step {s s' : List (Nat × Obj)} {S : Nat → Prop} {v : V} {d : D} (h : AZ s S v d) (hp : Pz s s') : AZ s' S v d :=
 h.imp (fun h => hp _ _ _ _ h) fun ⟨cs, ds, a, b, c, e⟩ => ⟨cs, ds, a, b, CVs.imp (fun v d h => hp _ _ _ _ h) c, e⟩
theorem z6q (cs : List V) : (∃ ds, cs = ds.map V.d ∧ mkAgg cs = .d (.agg ds)) ∨ mkAgg cs = .agg cs := by
 unfold mkAgg
 split
 ·rename_i ds h
  refine .inl ⟨ds, ?_, rfl⟩
  exact zbf h
 ·exact .inr rfl
theorem AZ.snap {s : List (Nat × Obj)} {S : Nat → Prop} {v : V} {d : D} (h : AZ s S v d) : Go.Lift.snap s 0 z09 v = some d := by
 rcases h with h | ⟨cs, ds, rfl, rfl, h, hc⟩
 ·exact CZ.snap (by decide) h
 ·have hm := z3l (fun v d h => CZ.snap (m := 11) (by omega) h) h
  rcases z6q cs with ⟨ds', e, e2⟩ | e
  ·rw [e2]
   have : ds' = ds := by
    subst e
    have hd := z3l (R := fun v d => v = V.d d) (f := Go.Lift.snap s 0 11) (fun v d hv => by subst hv; rfl) (zv7 (ds := ds'))
    rw [hm] at hd
    injection hd with hd
    exact hd.symm
   rw [this]; rfl
  ·rw [e]
   show Go.Lift.snap s 0 (11 + 1) (.agg cs) = _
   simp only [Go.Lift.snap, hm, hc, if_true]
theorem AZ.frz {s : List (Nat × Obj)} {S : Nat → Prop} {v : V} {d : D} {nx lw : Nat} (h : AZ s S v d) : ∃ y s' lw', Go.Lift.frz z09 { s := s, next := nx, low := lw } v = some (y, { s := s', next := nx, low := lw' }) ∧ Go.Lift.snap [] 0 z09 y = some d ∧ Fz1 S s s' := by
 rcases h with h | ⟨cs, ds, rfl, rfl, h, hc⟩
 ·obtain ⟨y, s', lw', a, b, c⟩ := zqp (m := z09) (nx := nx) (lw := lw) (by decide) h
  exact ⟨y, s', lw', a, zno b, c⟩
 ·rcases z6q cs with ⟨ds', e, e2⟩ | e
  ·refine ⟨.d (.agg ds'), s, lw, by rw [e2]; rfl, ?_, Pz.refl, fun _ _ => rfl⟩
   have := AZ.snap (.inr ⟨cs, ds, rfl, rfl, h, hc⟩ : AZ s S (mkAgg cs) (.agg ds))
   rw [e2] at this
   exact this
  ·obtain ⟨ys, s', lw', a, b, c⟩ := zhr (m := 11) (nx := nx) (fun h => zqp (by omega) h) (lw := lw) h
   refine ⟨mkAgg ys, s', lw', ?_, ?_, c⟩
   ·rw [e]
    show Go.Lift.frz (11 + 1) _ (.agg cs) = _
    simp only [Go.Lift.frz, a]
   ·have hm : ys.mapM (Go.Lift.snap [] 0 11) = some ds := z3l (fun v d h => zno h) b
    rcases z6q ys with ⟨ds', e, e2⟩ | e
    ·rw [e2]
     have : ds' = ds := by
      subst e
      have hd := z3l (R := fun v d => v = V.d d) (f := Go.Lift.snap [] 0 11) (fun v d hv => by subst hv; rfl) (zv7 (ds := ds'))
      rw [hm] at hd
      injection hd with hd
      exact hd.symm
     rw [this]; rfl
    ·rw [e]
     show Go.Lift.snap [] 0 (11 + 1) (.agg ys) = _
     simp only [Go.Lift.snap, hm, hc, if_true]
theorem zqt {S : Nat → Prop} {nx : Nat} : ∀ {vs : List V} {ds : List D} {s : List (Nat × Obj)} {lw : Nat}, CVs (AZ s S) vs ds → ∃ ys s' lw', frzL (frz z09) { s := s, next := nx, low := lw } vs = some (ys, { s := s', next := nx, low := lw' }) ∧ z0p [] 0 ys = some ds ∧ Fz1 S s s'
 | [], [], s, lw, _ => ⟨[], s, lw, rfl, rfl, Pz.refl, fun _ _ => rfl⟩
 | [], _ :: _, _, _, h => h.elim
 | _ :: _, [], _, _, h => h.elim
 | v :: vs, d :: ds, s, lw, h => by
  obtain ⟨y, s1, l1, a1, a2, a3, a4⟩ := AZ.frz (nx := nx) (lw := lw) h.1
  obtain ⟨ys, s2, l2, b1, b2, b3, b4⟩ := zqt (nx := nx) (vs := vs) (ds := ds) (s := s1) (lw := l1) (CVs.imp (fun v d h => AZ.step h a3) h.2)
  exact ⟨y :: ys, s2, l2, by simp only [frzL, a1, b1], by simp [z0p, a2, b2], a3.trans b3, fun q hq => (b4 q hq).trans (a4 q hq)⟩
theorem z9p {s : List (Nat × Obj)} {S : Nat → Prop} : ∀ {vs : List V} {ds : List D}, CVs (AZ s S) vs ds → z0p s 0 vs = some ds
 | [], [], _ => rfl
 | [], _ :: _, h => h.elim
 | _ :: _, [], h => h.elim
 | v :: vs, d :: ds, h => by simp [z0p, AZ.snap h.1, z9p h.2]
theorem z87 {G : Nat → Option IFun} {f : Nat} {F : IFun} (hG : G f = some F) (hp : F.pure = true) (hn : F.nil2 = false) {vs : List V} {ds rs : List D} {S : Nat → Prop} {s : List (Nat × Obj)} {nx lw : Nat} (ha : CVs (AZ s S) vs ds)
  (h : z06 G (.fn f [] []) (ds.map V.d) { s := [], next := 0, low := 0 } = some (tupV (rs.map V.d), { s := [], next := 0, low := 0 })) :
  PostV (z06 G (.fn f [] []) vs { s := s, next := nx, low := lw }) (fun v st => v = tupV (rs.map V.d) ∧ st.next = nx ∧ Fz1 S s st.s) := by
 cases hf : rs.all D.flat with
 | true => exact ⟨_, _, z4o hG hp hn (z9p ha) hf h, rfl, rfl, Pz.refl, fun _ _ => rfl⟩
 | false =>
  obtain ⟨ys, s', lw', a, b, c⟩ := zqt (nx := nx) (lw := lw) ha
  refine ⟨_, { s := s', next := nx, low := lw' }, ?_, rfl, rfl, c⟩
  have hd := z9p ha
  rw [z1l] at h ⊢
  simp only [z13, hG, hp, hn, List.nil_append, List.append_nil, Bool.false_and, Bool.false_eq_true, if_false, if_true, z17, hd] at h ⊢
  cases hb : z4h G F (ds.map V.d) { s := [], next := 0, low := 0 } with
  | none => rw [hb] at h; simp at h
  | some p =>
   obtain ⟨ws, st1⟩ := p
   rw [hb] at h
   simp only at h ⊢
   cases hr' : z0p st1.s 0 ws with
   | none => rw [hr'] at h; simp at h
   | some rs' =>
    rw [hr'] at h
    have ht : z0p [] 0 (ds.map V.d) = some ds := z17 _
    simp only [z37, ht, D.beqL_refl, if_true, ite_self, Option.some.injEq, Prod.mk.injEq, and_true] at h
    have e := zcs h
    subst e
    simp only [hf, Bool.false_eq_true, if_false, a, b, D.beqL_refl, if_true]
end Go.Lift
namespace Go.Lift
open Go
variable {G : Nat → Option IFun}
def y3e (k : Nat) (env : List V) (Q : Ex → List V → St → Prop) (st : St) : Prop :=
 ∃ e p a b ls pend, st.get k = some (.loop e p a b ls pend) ∧ ls ≠ .busy ∧ (match pend with
  | none => Q .nrm env (st.del k)
  | some x => Q x env (st.del k))
theorem y1f {cl : z11} {lp : (List V → St → Option (Ex × List V × St)) → List V → St → Option (Ex × List V × St)} {f : Opd} {ps : List Nat} {asg body : IC} {env : List V} {st : St} {Q : Ex → List V → St → Prop} {q : Dm Q} {fn : Nat} {first cap : List V}
  (hf : evO env f = .fn fn first cap)
  (h : PostV (cl (.fn fn first cap) [.yld st.next] { s := (st.next, .loop env ps asg body .ready none) :: st.s, next := st.next + 1, low := st.low }) (fun _ st' => y3e st.next env Q st')) :
  PC (z0i cl lp none (.rf f ps asg body) env st) Q q := by
 obtain ⟨v, st', h1, e, p, a, b, ls, pend, h2, h3, h4⟩ := h
 have e0 : okRd st none = true := rfl
 show Post _ _
 simp only [z0i, e0, if_true, hf, h1, h2]
 cases ls with
 | busy => exact absurd rfl h3
 | ready =>
  cases pend with
  | none => exact ⟨_, _, _, rfl, h4⟩
  | some x => exact ⟨_, _, _, rfl, h4⟩
 | done =>
  cases pend with
  | none => exact ⟨_, _, _, rfl, h4⟩
  | some x => exact ⟨_, _, _, rfl, h4⟩
 | exhausted =>
  cases pend with
  | none => exact ⟨_, _, _, rfl, h4⟩
  | some x => exact ⟨_, _, _, rfl, h4⟩
def zxp (k : Nat) (R : V → St → Prop) (x : Ex) (st : St) : Prop :=
 ∃ e p a b, st.get k = some (.loop e p a b .busy none) ∧ (match x with
  | .nrm => R (.d (.bool true)) (st.set k (.loop e p a b .ready none))
  | x => R (.d (.bool false)) (st.set k (.loop e p a b .done (some x))))
theorem y0n {k : Nat} {args : List V} {st : St} {env env1 : List V} {ps : List Nat} {asg body : IC} {R : V → St → Prop}
  (h0 : sget st.s k = some (.loop env ps asg body .ready none)) (h1 : z9u env ps args = some env1)
  (h : PC (z0i (z06 G) z0h (some k) asg env1 st) (fun x env2 st2 => x = .nrm ∧ ∃ e2 p2 a2, st2.get k = some (.loop e2 p2 a2 body .ready none) ∧
   PC (z0i (z06 G) z0h (some k) body env2 (st2.set k (.loop e2 p2 a2 body .busy none))) (fun x _ st3 => zxp k R x st3) .mk) .mk) :
  PostV (z06 G (.yld k) args st) R := by
 obtain ⟨x, env2, st2, hx, rfl, e2, p2, a2, hg, x', env3, st3, hx', e3, p3, a3, b3, hg3, hR⟩ := h
 rw [z1l]
 have h0' : st.get k = some (.loop env ps asg body .ready none) := h0
 simp only [z13, zf3, z5d, h0', h1, hx, hg, hx', hg3]
 cases x' with
 | nrm => exact ⟨_, _, rfl, hR⟩
 | ret => exact ⟨_, _, rfl, hR⟩
 | brk j => exact ⟨_, _, rfl, hR⟩
end Go.Lift
namespace Go.Lift
open Go
def isS : Code → Bool
 | .seq _ _ => true
 | _ => false
theorem y4d {P : Program} {f : Func} {F : IFun} (h : (f.ntmps, cRes P f.results.toList, f.body.map (z0d F.nf P)) = (F.nt, some F.res, some F.body)) : Comp P f F :=
 ⟨congrArg (·.1) h, congrArg (·.2.1) h, congrArg (·.2.2) h⟩
end Go.Lift
namespace Go.Lift
open Go
set_option maxRecDepth 100000
def ZA0 := aI @zwh (aI @zwj (aI @zwe (aI @po_s (aI @po_n (aI @y1d (aI @y1e (aI @y1b (aI @y1c (aI @zwf (aI @zwg (aI @zh8 (aI @zh7 (aI @zh9 (aI @zd9 (aI @zd8 (aI @zow (aI @zov (aI @zj9 (aI @zoq (aI @zos (aI @zop (aI @zor (aI @zwi (aI @zw9 (aI @zwa (aI @zwb (aI @zwc (aI @zw7 (aI @zw8 (aI @y2i (aI @zr4 (aI @zke (aI @zx9 (aI @zr6 (aI @zk7 (aI @zxa (aI @y2h (aI @zx8 (@zx7)))))))))))))))))))))))))))))))))))))))
def ZA1 := aI @zkb (aI @zx4 (aI @zka (aI @zk9 (aI @zg5 (aI @zg6 (aI @zg4 (aI @zx5 (aI @zrb (aI @zx6 (aI @zkd (aI @zg7 (aI @zr8 (aI @zkc (aI @zzp (aI @zmd (aI @zg1 (aI @zr3 (aI @zk8 (aI @zg3 (aI @zg2 (aI @zuz (aI @zv0 (@zuw)))))))))))))))))))))))
def ZA := aI ZA0 (ZA1)
def ZB0 := aI @zrj (aI @y30 (aI @y31 (aI @pv_some (aI @zo4 (aI @zch (aI @zf5 (aI @zo8 (aI @zby (aI @y2k (aI @y2l (aI @zas (aI @z6v (aI @List.length_set.{0} (aI @z9l (aI @zbn (aI @zc9 (aI @zj6 (aI @zj7 (aI @zon (aI @zca (aI @zap (aI @zal (aI @zkv (aI @zkr (aI @zkt (aI @zgg (aI @zrz (aI @zs0 (aI @zks (aI @zku (aI @zgf (aI @zg8 (aI @zak (aI @zk5 (aI @zb8 (aI @z8i (aI @zjh (aI @zaf (@fillP.eq_1)))))))))))))))))))))))))))))))))))))))
def ZB1 := aI @fillP.eq_2 (aI @nat0 (aI @zn3 (aI @zn2 (aI @cond_true.{1} (aI @cond_false.{1} (aI @zs3 (aI @zs4 (aI @zs5 (aI @zs6 (aI @zxi (aI @zxl (aI @zxj (aI @zxk (aI @zgh (aI @zic (aI @zid (aI @zie (aI @zif (aI @zig (aI @zib (aI @zih (aI @zi9 (aI @zef (aI @zee (aI @zn7 (aI @zpu (aI @zjl (aI @zpv (aI @zpw (aI @zhj (aI @zx2 (aI @zk4 (aI @zr0 (aI @zjq (aI @zjp (aI @y33 (aI @y32 (aI @List.map_cons.{0,0} (@List.map_nil.{0,0})))))))))))))))))))))))))))))))))))))))
def ZB2 := aI @decide_true (aI @decide_false (aI @Bool.not_true (aI @Bool.not_false (aI @Bool.false_eq_true (aI @zg9 (aI @decide_eq_true_eq (aI @zc7 (aI @zc8 (aI @List.length_cons.{0} (aI @List.length_nil.{0} (aI @List.length_map.{0,0} (aI @Nat.zero_add (aI @Nat.add_zero (aI @St.ins.eq_1 (aI @St.set.eq_1 (aI @St.get.eq_1 (aI @zdg (aI @scells.eq_1 (aI @sget.eq_1 (aI @sget.eq_2 (aI @sset.eq_1 (aI @sset.eq_2 (aI @opStore.eq_1 (aI @opStore.eq_2 (aI @splice.eq_1 (aI @ofCells.eq_1 (aI @ofCells.eq_2 (aI @ofCellsD.eq_1 (aI @ofCellsD.eq_2 (aI @cellsV.eq_1 (aI @cellsV.eq_2 (aI @cellsV.eq_3 (aI @cellsD.eq_1 (aI @cellsD.eq_2 (aI @mkAgg.eq_1 (aI @allD.eq_1 (aI @allD.eq_2 (aI @allD.eq_3 (@List.drop_zero.{0})))))))))))))))))))))))))))))))))))))))
def ZB3 := aI @List.drop_succ_cons.{0} (aI @List.take_succ_cons.{0} (aI @List.take_zero.{0} (aI @List.nil_append.{0} (aI @List.append_nil.{0} (aI @List.cons_append.{0} (aI @List.all_cons.{0} (aI @List.all_nil.{0} (aI @V.isCell.eq_1 (aI @V.isCell.eq_2 (aI @V.isCell.eq_3 (aI @V.isCell.eq_4 (aI @D.isCell.eq_1 (aI @D.isCell.eq_2 (aI @Bool.and_self (aI @Bool.and_true (aI @Bool.true_and (aI @Option.map_some.{0,0} (aI @Option.map_none.{0,0} (aI @Nat.le_refl (aI @and_self (aI @and_true (aI @true_and (aI @not_false_eq_true (aI @not_true_eq_false (aI @if_false.{1} (aI @if_true.{1} (aI @tupV.eq_1 (aI @tupV.eq_2 (aI @Nat.add_eq_left (@Nat.add_one_ne_zero))))))))))))))))))))))))))))))
def ZB := aI ZB0 (aI ZB1 (aI ZB2 (ZB3)))
def LA0 := aI @zwh (aI @zwj (aI @zwe (aI @po_s (aI @po_n (aI @y1d (aI @y1e (aI @y1b (aI @y1c (aI @zwf (aI @zwg (aI @zh8 (aI @zh7 (aI @zh9 (aI @zd9 (aI @zd8 (aI @zow (aI @zov (aI @zj9 (aI @zoq (aI @zos (aI @zop (aI @zor (aI @zwi (aI @zw9 (aI @zwa (aI @zwb (aI @zwc (aI @zw7 (aI @zw8 (aI @y2i (aI @zr4 (aI @zke (aI @zx9 (aI @zr6 (aI @zk7 (aI @zxa (aI @y2h (aI @zx8 (@zx7)))))))))))))))))))))))))))))))))))))))
def LA1 := aI @zkb (aI @zx4 (aI @zka (aI @zk9 (aI @zg5 (aI @zg6 (aI @zg4 (aI @zx5 (aI @zrb (aI @zx6 (aI @zkd (aI @zg7 (aI @zr8 (aI @zkc (aI @zuy (aI @zux (aI @zhu (aI @zg1 (aI @zmc (aI @zk8 (aI @zg3 (aI @zg2 (aI @zr9 (aI @zra (aI @zr5 (aI @zdw (aI @y12 (@y13)))))))))))))))))))))))))))
def LA := aI LA0 (LA1)
def LB0 := aI @zrj (aI @y30 (aI @y31 (aI @pv_some (aI @zo4 (aI @zch (aI @zf5 (aI @zo8 (aI @zby (aI @y44 (aI @y43 (aI @y42 (aI @zmg (aI @zpa (aI @zlv (aI @ztn (aI @y2k (aI @y2l (aI @zas (aI @z6v (aI @List.length_set.{0} (aI @z9l (aI @zbn (aI @zc9 (aI @zj6 (aI @zj7 (aI @zon (aI @zca (aI @zap (aI @zal (aI @zkv (aI @zkr (aI @zkt (aI @zgg (aI @zrz (aI @zs0 (aI @zks (aI @zku (aI @zgf (@zg8)))))))))))))))))))))))))))))))))))))))
def LB1 := aI @zak (aI @zk5 (aI @zb8 (aI @z8i (aI @zjh (aI @zaf (aI @fillP.eq_1 (aI @fillP.eq_2 (aI @nat0 (aI @zn3 (aI @zn2 (aI @cond_true.{1} (aI @cond_false.{1} (aI @zs3 (aI @zs4 (aI @zs5 (aI @zs6 (aI @zxi (aI @zxl (aI @zxj (aI @zxk (aI @zgh (aI @zic (aI @zid (aI @zie (aI @zif (aI @zig (aI @zib (aI @zih (aI @zi9 (aI @zef (aI @zee (aI @zn7 (aI @zpu (aI @zjl (aI @zpv (aI @zpw (aI @zhj (aI @zx2 (@zk4)))))))))))))))))))))))))))))))))))))))
def LB2 := aI @zr0 (aI @zjq (aI @zjp (aI @y33 (aI @y32 (aI @List.map_cons.{0,0} (aI @List.map_nil.{0,0} (aI @decide_true (aI @decide_false (aI @Bool.not_true (aI @Bool.not_false (aI @Bool.false_eq_true (aI @zg9 (aI @decide_eq_true_eq (aI @zc7 (aI @zc8 (aI @List.length_cons.{0} (aI @List.length_nil.{0} (aI @List.length_map.{0,0} (aI @Nat.zero_add (aI @Nat.add_zero (aI @St.ins.eq_1 (aI @St.set.eq_1 (aI @St.get.eq_1 (aI @zdg (aI @scells.eq_1 (aI @sget.eq_1 (aI @sget.eq_2 (aI @sset.eq_1 (aI @sset.eq_2 (aI @opStore.eq_1 (aI @opStore.eq_2 (aI @splice.eq_1 (aI @ofCells.eq_1 (aI @ofCells.eq_2 (aI @ofCellsD.eq_1 (aI @ofCellsD.eq_2 (aI @cellsD.eq_1 (aI @cellsD.eq_2 (@y2s)))))))))))))))))))))))))))))))))))))))
def LB3 := aI @y2u (aI @zzw (aI @y4a (aI @y2x (aI @zzv (aI @y2v (aI @y2w (aI @y2t (aI @y4b (aI @ztw (aI @ztv (aI @ztu (aI @ztt (aI @z7u (aI @zud (aI @zq3 (aI @zq4 (aI @zq5 (aI @zm8 (aI @zzb (aI @zhc (aI @zcp (aI @z44 (aI @zel (aI @zsg (aI @z4y (aI @z43 (aI @D.beq_refl (aI @mkSlV.eq_1 (aI @mkSlV.eq_2 (aI @zq8 (aI @zm9 (aI @zma (aI @zq9 (aI @List.replicate.eq_1.{0} (aI @List.replicate.eq_2.{0} (aI @List.flatten_cons.{0} (aI @List.flatten_nil.{0} (aI @zex (@Option.isSome_some.{0})))))))))))))))))))))))))))))))))))))))
def LB4 := aI @zqk (aI @zt6 (aI @zo0 (aI @Nat.zero_mul (aI @Nat.zero_le (aI @Nat.le_add_left (aI @Nat.add_assoc (aI @Nat.left_eq_add (aI @nat1 (aI @nat2 (aI @List.drop_zero.{0} (aI @List.drop_succ_cons.{0} (aI @List.take_succ_cons.{0} (aI @List.take_zero.{0} (aI @List.nil_append.{0} (aI @List.append_nil.{0} (aI @List.cons_append.{0} (aI @List.all_cons.{0} (aI @List.all_nil.{0} (aI @zfv (aI @zjy (aI @zzk (aI @y3y (aI @zzj (aI @y2d (aI @zwv (aI @y2c (aI @y3z (aI @D.isCell.eq_1 (aI @D.isCell.eq_2 (aI @Bool.and_self (aI @Bool.and_true (aI @Bool.true_and (aI @Option.map_some.{0,0} (aI @Option.map_none.{0,0} (aI @Nat.le_refl (aI @and_self (aI @and_true (aI @true_and (@not_false_eq_true)))))))))))))))))))))))))))))))))))))))
def LB5 := aI @not_true_eq_false (aI @if_false.{1} (aI @if_true.{1} (aI @tupV.eq_1 (aI @tupV.eq_2 (aI @Nat.add_eq_left (@Nat.add_one_ne_zero))))))
def LB := aI LB0 (aI LB1 (aI LB2 (aI LB3 (aI LB4 (LB5)))))
theorem zf {x b n : Nat} (h : b + n ≤ x) (h0 : 0 < n) : (∀ a, (x + a = b) = False) ∧ (∀ a, (b = x + a) = False) ∧ (x = b) = False ∧ (b = x) = False ∧ (∀ j, j < n → (x = b + j) = False) ∧ ∀ j, j < n → (b + j = x) = False := by
 refine ⟨fun a => ?_, fun a => ?_, ?_, ?_, fun j hj => ?_, fun j hj => ?_⟩ <;> simp <;> omega
theorem zf0 {x n : Nat} (h : n ≤ x) : ∀ j, j < n → (x = j) = False := fun j hj => by simp; omega
theorem cf1 {x a : Nat} (h : a < x) : (x = a) = False ∧ ∀ j, (x + j = a) = False := by
 refine ⟨?_, fun j => ?_⟩ <;> simp <;> omega
theorem cf2 {x a : Nat} {s : List (Nat × Obj)} {o : Obj} (h : a < x) (hc : sget s a = some o) : a < x ∧ ∀ o', sget (sset s a o') a = some o' := ⟨h, fun _ => z04 hc⟩
end Go.Lift
