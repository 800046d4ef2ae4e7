/- Part A7 of the proof. -/
import Derived.Test.YtedmfhgagnfbnaaGreatDoorA6
import Derived.Test.YtedmfhgagnfbnaaGreatDoorA1
import Derived.Test.YtedmfhgagnfbnaaGreatDoorA5
import Derived.ChangeArms
import Derived.WideKeyArgs
import Derived.Test.YtedmfhgagnfbnaaGreatDoorA50
import Derived.CallsIn
import Derived.ChangeSame
import Derived.Test.YtedmfhgagnfbnaaGreatDoorA53
import Derived.Test.YtedmfhgagnfbnaaGreatDoorA4
set_option linter.all false
namespace Go.Lift
open Go
variable {G : Nat → Option IFun}
theorem pure_first {f : Nat} {F : IFun} (hG : G f = some F) (hp : F.pure = true) (hn : F.nil2 = false) {first args cap xs : List V} {st : St} (h : first ++ args ++ cap = xs) :
    callW G (.fn f first cap) args st = callW G (.fn f [] []) xs st := by
  subst h
  rw [callW_eq, callW_eq]
  simp only [callStep, hG, hn, hp, List.nil_append, List.append_nil, Bool.false_and, Bool.false_eq_true, if_false, if_true]
def RO (res : List IR) (us : List V) (next : Nat) (e : Ex) (env : List V) (st : St) : Prop := e.fin ∧ ∃ vs, resVs st env res = some vs ∧ next ≤ st.low ∧ outVs st.s next vs = some us
def RU (o : Option (List V)) (st : St) (next : Nat) (us : List V) : Prop := ∃ vs, o = some vs ∧ next ≤ st.low ∧ outVs st.s next vs = some us
theorem ro_ret {res : List IR} {us : List V} {next : Nat} {env : List V} {st : St} : RO res us next .ret env st = RU (resVs st env res) st next us := by simp [RO, RU]
theorem ro_nrm {res : List IR} {us : List V} {next : Nat} {env : List V} {st : St} : RO res us next .nrm env st = RU (resVs st env res) st next us := by simp [RO, RU]
theorem ru1 {st : St} {next : Nat} {x y : D} (hl : next ≤ st.low) (h : x = y) : RU (some [.d x]) st next [.d y] := ⟨_, rfl, hl, by rw [← h]; exact outVs_d (rs := [x])⟩
theorem pop_ro {f : Nat} {F : IFun} (hG : G f = some F) (hn : F.nil2 = false) (hp : F.pure = false) (hpop : F.pop = true) {first cap args us : List V} {st : St}
    (h : ∀ e : List V, e.length = (first ++ args ++ cap).length + (F.nt - (first ++ args ++ cap).length) → (∀ i, i < (first ++ args ++ cap).length → e.getD i .undef = (first ++ args ++ cap).getD i .undef) → PC (evalG (callW G) roundsW none F.body e { s := st.s, next := st.next, low := st.next }) (RO F.res us st.next) .mk) :
    callW G (.fn f first cap) args st = some (tupV us, st) := pop_pc hG hn hp hpop h
theorem lt_add_l {k n a : Nat} (h : k < n) : (k < n + a) = True := eq_true (Nat.lt_of_lt_of_le h (Nat.le_add_right _ _))
theorem lt_self_add {n a : Nat} (h : 0 < a) : (n < n + a) = True := eq_true (by omega)
theorem le_min' {a b c : Nat} (h : a ≤ b) (k : a ≤ c) : a ≤ Nat.min b c := Nat.le_min.2 ⟨h, k⟩
def TellsT (G : Nat → Option IFun) (fv : V) (s : List (Nat × Obj)) (n0 : Nat) {α : Type} (enc : α → D) (dom : α → Prop) (p : α → Bool) : Prop :=
  ∀ a, dom a → ∀ s' nx lw, Sub n0 s s' → n0 ≤ nx → callW G fv [.d (enc a)] { s := s', next := nx, low := lw } = some (.d (.bool (p a)), { s := s', next := nx, low := lw })
open Classical in
noncomputable def unT {α : Type} (enc : α → D) (dom : α → Prop) (p : α → Bool) (x : D) : Bool := decide (∃ a, dom a ∧ enc a = x ∧ p a = true)
open Classical in
theorem TellsT.same {fv : V} {s : List (Nat × Obj)} {n0 : Nat} {α : Type} {enc : α → D} {dom : α → Prop} {p : α → Bool} (h : TellsT G fv s n0 enc dom p) {a : α} (ha : dom a) : unT enc dom p (enc a) = p a := by
  unfold unT
  cases hp : p a with
  | true => exact decide_eq_true ⟨a, ha, rfl, hp⟩
  | false =>
    refine decide_eq_false ?_
    rintro ⟨b, hb, e, hq⟩
    have h1 := h a ha s n0 0 (Sub.refl _ _) (Nat.le_refl _)
    have h2 := h b hb s n0 0 (Sub.refl _ _) (Nat.le_refl _)
    rw [e, h1, hp, hq] at h2
    cases h2
theorem TellsT.tells {fv : V} {s : List (Nat × Obj)} {n0 : Nat} {α : Type} {enc : α → D} {l : List α} {p : α → Bool} (h : TellsT G fv s n0 enc (· ∈ l) p) : Tells G fv s n0 (· ∈ l.map enc) (unT enc (· ∈ l) p) := by
  intro x hx s' nx lw h1 h2
  obtain ⟨a, ha, rfl⟩ := List.mem_map.1 hx
  rw [h.same ha]
  exact h a ha s' nx lw h1 h2
theorem TellsT.dom {fv : V} {s : List (Nat × Obj)} {n0 : Nat} {α : Type} {enc : α → D} {dom dom' : α → Prop} {p : α → Bool} (h : TellsT G fv s n0 enc dom p) (hd : ∀ x, dom' x → dom x) : TellsT G fv s n0 enc dom' p := fun a ha => h a (hd a ha)
theorem TellsT.sub {fv : V} {s s1 : List (Nat × Obj)} {n0 n1 : Nat} {α : Type} {enc : α → D} {dom : α → Prop} {p : α → Bool} (h : TellsT G fv s n0 enc dom p) (hs : Sub n0 s s1) (hn : n0 ≤ n1) : TellsT G fv s1 n1 enc dom p :=
  fun a ha s' nx lw h1 h2 => h a ha s' nx lw (hs.trans h1 hn) (Nat.le_trans hn h2)
theorem tellsT_pure {fv : V} {s : List (Nat × Obj)} {n0 : Nat} {α : Type} {enc : α → D} {dom : α → Prop} {p : α → Bool} (h : ∀ a, dom a → ∀ st, callW G fv [.d (enc a)] st = some (.d (.bool (p a)), st)) : TellsT G fv s n0 enc dom p :=
  fun a ha _ _ _ _ _ => h a ha _
section
variable {α : Type} {enc : α → D} {l : List α} {p : α → Bool} {es : Nat} {ag : Bool} {fv : V} {s : List (Nat × Obj)} {nx lw : Nat}
theorem idxL_map (h : ∀ a ∈ l, unT enc (· ∈ l) p (enc a) = p a) : idxP (unT enc (· ∈ l) p) (l.map enc) = idxL p l := by
  rw [idxP_map]
  unfold idxL
  have : l.findIdx? (fun x => unT enc (· ∈ l) p (enc x)) = l.findIdx? p := by
    have : ∀ (m : List α), (∀ a ∈ m, a ∈ l) → m.findIdx? (fun x => unT enc (· ∈ l) p (enc x)) = m.findIdx? p := by
      intro m
      induction m with
      | nil => intro _; rfl
      | cons a m ih =>
        intro hm
        rw [List.findIdx?_cons, List.findIdx?_cons, h a (hm a (by simp)), ih fun b hb => hm b (by simp [hb])]
    exact this l fun a ha => ha
  rw [this]
theorem idxT_ok {f : Nat} (hG : G f = some (idxFun es ag)) (hl : l.length ≤ 9223372036854775807) (he : ∀ a ∈ l, Elt es ag (enc a)) (hf : TellsT G fv s nx enc (· ∈ l) p) :
    callW G (.fn f [] []) [.d (.sl (l.map enc)), fv] { s := s, next := nx, low := lw } = some (.d (.int .i64 (idxL p l)), { s := s, next := nx, low := lw }) := by
  rw [idx_ok hG (by simpa using hl) (fun x hx => by obtain ⟨a, ha, rfl⟩ := List.mem_map.1 hx; exact he a ha) hf.tells, idxL_map fun a ha => hf.same ha]
theorem conT_ok {f idx : Nat} (hG : G f = some (conFun idx)) (hI : G idx = some (idxFun es ag)) (hl : l.length ≤ 9223372036854775807) (he : ∀ a ∈ l, Elt es ag (enc a)) (hf : TellsT G fv s nx enc (· ∈ l) p) :
    callW G (.fn f [] []) [.d (.sl (l.map enc)), fv] { s := s, next := nx, low := lw } = some (.d (.bool (l.any p)), { s := s, next := nx, low := lw }) := by
  rw [con_ok hG hI (by simpa using hl) (fun x hx => by obtain ⟨a, ha, rfl⟩ := List.mem_map.1 hx; exact he a ha) hf.tells]
  have : (l.map enc).any (unT enc (· ∈ l) p) = l.any p := by
    rw [List.any_map]
    rw [Bool.eq_iff_iff, List.any_eq_true, List.any_eq_true]
    exact ⟨fun ⟨a, ha, h⟩ => ⟨a, ha, by rw [← hf.same ha]; exact h⟩, fun ⟨a, ha, h⟩ => ⟨a, ha, by simp only [Function.comp]; rw [hf.same ha]; exact h⟩⟩
  rw [this]
theorem everyT_ok {f con idx c : Nat} (hG : G f = some (evFun con c)) (hC : G con = some (conFun idx)) (hI : G idx = some (idxFun es ag)) (hc : G c = some (evC es ag) ∨ G c = some evC1) (hcell : fv.isCell = true)
    (hcv : cellsV fv = [fv]) (hl : l.length ≤ 9223372036854775807) (he : ∀ a ∈ l, Elt es ag (enc a)) (hf : TellsT G fv s nx enc (· ∈ l) p) :
    callW G (.fn f [] []) [.d (.sl (l.map enc)), fv] { s := s, next := nx, low := lw } = some (.d (.bool (l.all p)), { s := s, next := nx, low := lw }) := by
  rw [every_ok hG hC hI hc hcell hcv (by simpa using hl) (fun x hx => by obtain ⟨a, ha, rfl⟩ := List.mem_map.1 hx; exact he a ha) hf.tells]
  have : (l.map enc).all (unT enc (· ∈ l) p) = l.all p := by
    rw [List.all_map]
    rw [Bool.eq_iff_iff, List.all_eq_true, List.all_eq_true]
    exact ⟨fun h a ha => by rw [← hf.same ha]; exact h a ha, fun h a ha => by simp only [Function.comp]; rw [hf.same ha]; exact h a ha⟩
  rw [this]
end
theorem sget_sset_ne {s : List (Nat × Obj)} {k j : Nat} {o : Obj} (h : (k = j) = False) : sget (sset s k o) j = sget s j := sget_sset_other (fun e => by rw [← h]; exact e.symm)
theorem mapGet_put {k k' : D} {x : V} : ∀ {es : List (D × V)}, mapGet (mapPut es k x) k' = if D.beq k k' = true then some x else mapGet es k'
  | [] => by simp [mapPut, mapGet]
  | (a, u) :: r => by
    simp only [mapPut]
    split
    · rename_i h
      have e := D.eq_of_beq h
      subst e
      simp only [mapGet]
      split <;> rfl
    · rename_i h
      simp only [mapGet]
      split
      · rename_i h2
        have e := D.eq_of_beq h2
        subst e
        rw [if_neg (fun h3 => by rw [D.eq_of_beq h3] at h; exact h (D.beq_refl _))]
      · exact mapGet_put
theorem lookup_map {s : List (Nat × Obj)} {nx lw j kt : Nat} {ag : Bool} {sh : List Kc} {zero : V} {kd : D} {es : List (D × V)} (hc : confD ag sh kd = true) (ho : sget s j = some (.map kt es)) :
    opLookup { s := s, next := nx, low := lw } kt ag sh false zero (.map j) (.d kd) = some ((mapGet es kd).getD zero) := by
  simp only [opLookup, hc, St.get, ho, if_true]
  cases mapGet es kd <;> rfl
theorem mapUpd_map {s : List (Nat × Obj)} {nx lw j kt : Nat} {ag : Bool} {sh : List Kc} {x : V} {kd : D} {es : List (D × V)} (hc : confD ag sh kd = true) (ho : sget s j = some (.map kt es)) :
    opMapUpd { s := s, next := nx, low := lw } kt ag sh (.map j) (.d kd) x = some { s := sset s j (.map kt (mapPut es kd x)), next := nx, low := Nat.min lw j } := by
  simp only [opMapUpd, hc, St.get, ho, if_true, St.set]
end Go.Lift
namespace Go.Lift
open Go
def CVs (R : V → D → Prop) : List V → List D → Prop
  | [], [] => True
  | v :: vs, d :: ds => R v d ∧ CVs R vs ds
  | _, _ => False
theorem CVs.imp {R R' : V → D → Prop} (h : ∀ v d, R v d → R' v d) : ∀ {vs : List V} {ds : List D}, CVs R vs ds → CVs R' vs ds
  | [], [], _ => trivial
  | _ :: _, _ :: _, hh => ⟨h _ _ hh.1, CVs.imp h hh.2⟩
  | [], _ :: _, hh => hh.elim
  | _ :: _, [], hh => hh.elim
theorem CVs.append {R : V → D → Prop} : ∀ {vs ws : List V} {ds es : List D}, CVs R vs ds → CVs R ws es → CVs R (vs ++ ws) (ds ++ es)
  | [], _, [], _, _, k => k
  | _ :: _, _, _ :: _, _, h, k => ⟨h.1, CVs.append h.2 k⟩
  | [], _, _ :: _, _, h, _ => h.elim
  | _ :: _, _, [], _, h, _ => h.elim
theorem CVs.length {R : V → D → Prop} : ∀ {vs : List V} {ds : List D}, CVs R vs ds → vs.length = ds.length
  | [], [], _ => rfl
  | _ :: _, _ :: _, h => by simp [CVs.length h.2]
  | [], _ :: _, h => h.elim
  | _ :: _, [], h => h.elim
def CQ (s : List (Nat × Obj)) (lv : Bool) (S : Nat → Prop) : Nat → V → D → Prop
  | 0, v, d => v = .d d ∧ d.isCell = true ∧ (lv = true → d.flatC = true)
  | n + 1, v, d => (v = .d d ∧ d.isCell = true ∧ (lv = true → d.flatC = true)) ∨ ((v = .nilS ∨ v = .emp) ∧ d = .sl []) ∨
    ∃ k es ag cs ds, v = .arr k es ag 0 ds.length ∧ d = .sl ds ∧ S k ∧ sget s k = some (.cells cs) ∧ 0 < es ∧ (∀ x ∈ ds, Elt es ag x) ∧ CVs (CQ s lv S n) cs (ds.flatMap cellsD)
section
variable {s s' : List (Nat × Obj)} {lv : Bool} {S S' : Nat → Prop} {n : Nat} {v : V} {d : D}
theorem CQ.ofD (h : d.isCell = true) (hl : lv = true → d.flatC = true) : CQ s lv S n (.d d) d := by
  cases n with
  | zero => exact ⟨rfl, h, hl⟩
  | succ n => exact .inl ⟨rfl, h, hl⟩
theorem CQ.str {x : List Nat} : CQ s lv S n (.d (.str x)) (.str x) := CQ.ofD rfl fun _ => rfl
theorem CQ.int {k : IntKind} {x : Int} : CQ s lv S n (.d (.int k x)) (.int k x) := CQ.ofD rfl fun _ => rfl
theorem CQ.nil : CQ s lv S (n + 1) .nilS (.sl []) := .inr (.inl ⟨.inl rfl, rfl⟩)
theorem CQ.data {l : List D} : CQ s false S n (.d (.sl l)) (.sl l) := CQ.ofD rfl fun h => by cases h
theorem CQ.none : CQ s lv S n (.d (.sl [])) (.sl []) := CQ.ofD rfl fun _ => rfl
theorem CQ.cell (h : CQ s lv S n v d) : v.isCell = true ∧ cellsV v = [v] ∧ d.isCell = true := by
  have hd : ∀ x : D, x.isCell = true → (V.d x).isCell = true ∧ cellsV (.d x) = [.d x] := fun x hx => by
    refine ⟨hx, ?_⟩
    cases x <;> first | rfl | simp [D.isCell] at hx
  cases n with
  | zero =>
    obtain ⟨rfl, h1, _⟩ := h
    exact ⟨(hd d h1).1, (hd d h1).2, h1⟩
  | succ n =>
    rcases h with ⟨rfl, h1, _⟩ | ⟨rfl | rfl, rfl⟩ | ⟨k, es, ag, cs, ds, rfl, rfl, _⟩
    · exact ⟨(hd d h1).1, (hd d h1).2, h1⟩
    · exact ⟨rfl, rfl, rfl⟩
    · exact ⟨rfl, rfl, rfl⟩
    · exact ⟨rfl, rfl, rfl⟩
theorem CQ.frame : ∀ {n : Nat} {v : V} {d : D}, (∀ j, S j → sget s' j = sget s j) → CQ s lv S n v d → CQ s' lv S n v d
  | 0, _, _, _, h => h
  | n + 1, v, d, hs, h => by
    rcases h with h | h | ⟨k, es, ag, cs, ds, h1, h2, h3, h5, h6, h7, h8⟩
    · exact .inl h
    · exact .inr (.inl h)
    · exact .inr (.inr ⟨k, es, ag, cs, ds, h1, h2, h3, by rw [hs k h3]; exact h5, h6, h7, h8.imp fun v d => CQ.frame hs⟩)
theorem CQ.mono (hS : ∀ j, S j → S' j) : ∀ {n : Nat} {v : V} {d : D}, CQ s lv S n v d → CQ s lv S' n v d
  | 0, _, _, h => h
  | n + 1, v, d, h => by
    rcases h with h | h | ⟨k, es, ag, cs, ds, h1, h2, h3, h5, h6, h7, h8⟩
    · exact .inl h
    · exact .inr (.inl h)
    · exact .inr (.inr ⟨k, es, ag, cs, ds, h1, h2, hS k h3, h5, h6, h7, h8.imp fun v d => CQ.mono hS⟩)
theorem CQ.dep : ∀ {n m : Nat} {v : V} {d : D}, n ≤ m → CQ s lv S n v d → CQ s lv S m v d
  | 0, 0, _, _, _, h => h
  | 0, m + 1, _, _, _, h => .inl h
  | n + 1, 0, _, _, hm, _ => by omega
  | n + 1, m + 1, v, d, hm, h => by
    rcases h with h | h | ⟨k, es, ag, cs, ds, h1, h2, h3, h5, h6, h7, h8⟩
    · exact .inl h
    · exact .inr (.inl h)
    · exact .inr (.inr ⟨k, es, ag, cs, ds, h1, h2, h3, h5, h6, h7, h8.imp fun v d => CQ.dep (by omega)⟩)
end
abbrev Iv (lo hi : Nat) : Nat → Prop := fun j => lo ≤ j ∧ j < hi
def CV (s : List (Nat × Obj)) (lv : Bool) (lo n hi : Nat) (v : V) (d : D) : Prop := CQ s lv (Iv lo hi) n v d
theorem CV.d {s : List (Nat × Obj)} {lv : Bool} {lo n hi : Nat} {d : D} (h : d.isCell = true) (hl : lv = true → d.flatC = true) : CV s lv lo n hi (.d d) d := CQ.ofD h hl
theorem CV.str {s : List (Nat × Obj)} {lv : Bool} {lo n hi : Nat} {x : List Nat} : CV s lv lo n hi (.d (.str x)) (.str x) := CQ.str
theorem CV.int {s : List (Nat × Obj)} {lv : Bool} {lo n hi : Nat} {k : IntKind} {x : Int} : CV s lv lo n hi (.d (.int k x)) (.int k x) := CQ.int
theorem CV.nil {s : List (Nat × Obj)} {lv : Bool} {lo n hi : Nat} : CV s lv lo (n + 1) hi .nilS (.sl []) := CQ.nil
theorem CV.data {s : List (Nat × Obj)} {lo n hi : Nat} {l : List D} : CV s false lo n hi (.d (.sl l)) (.sl l) := CQ.data
theorem CV.cell {s : List (Nat × Obj)} {lv : Bool} {lo n hi : Nat} {v : V} {d : D} (h : CV s lv lo n hi v d) : v.isCell = true ∧ cellsV v = [v] ∧ d.isCell = true := CQ.cell h
theorem CV.frame {s s' : List (Nat × Obj)} {lv : Bool} {lo n hi : Nat} {v : V} {d : D} (hs : ∀ j, lo ≤ j → j < hi → sget s' j = sget s j) (h : CV s lv lo n hi v d) : CV s' lv lo n hi v d := CQ.frame (fun j h => hs j h.1 h.2) h
theorem CV.hi {s : List (Nat × Obj)} {lv : Bool} {lo n hi hi' : Nat} {v : V} {d : D} (h : CV s lv lo n hi v d) (hh : hi ≤ hi') : CV s lv lo n hi' v d := CQ.mono (fun j h => ⟨h.1, Nat.lt_of_lt_of_le h.2 hh⟩) h
theorem CV.lo {s : List (Nat × Obj)} {lv : Bool} {lo lo' n hi : Nat} {v : V} {d : D} (hh : lo' ≤ lo) (h : CV s lv lo n hi v d) : CV s lv lo' n hi v d := CQ.mono (fun j h => ⟨Nat.le_trans hh h.1, h.2⟩) h
theorem CV.n {s : List (Nat × Obj)} {lv : Bool} {lo n m hi : Nat} {v : V} {d : D} (hm : n ≤ m) (h : CV s lv lo n hi v d) : CV s lv lo m hi v d := CQ.dep hm h
theorem chunks_elt {es : Nat} {ag : Bool} (h0 : 0 < es) : ∀ {ds : List D}, (∀ x ∈ ds, Elt es ag x) → chunks es ag ds.length (ds.flatMap cellsD) = some ds
  | [], _ => rfl
  | x :: ds, h => by
    have hx := h x (by simp)
    have hl := hx.len
    simp only [List.flatMap_cons, List.length_cons, chunks]
    rw [if_neg (by simp; omega)]
    have h1 : (cellsD x ++ ds.flatMap cellsD).take es = cellsD x := by rw [← hl, List.take_left]
    have h2 : (cellsD x ++ ds.flatMap cellsD).drop es = ds.flatMap cellsD := by rw [← hl, List.drop_left]
    rw [h1, h2, chunks_elt h0 fun y hy => h y (by simp [hy])]
    rcases hx with ⟨rfl, cs, rfl, _⟩ | ⟨rfl, rfl, hc⟩
    · rfl
    · cases x <;> first | rfl | simp [D.isCell] at hc
theorem cellsD_all {es : Nat} {ag : Bool} {ds : List D} (h : ∀ x ∈ ds, Elt es ag x) : (ds.flatMap cellsD).all D.isCell = true ∧ (ds.flatMap cellsD).length = ds.length * es := by
  induction ds with
  | nil => simp
  | cons x ds ih =>
    have hx := h x (by simp)
    obtain ⟨h1, h2⟩ := ih fun y hy => h y (by simp [hy])
    have hl := hx.len
    refine ⟨?_, by simp [h2, hl, Nat.succ_mul]; omega⟩
    rw [List.flatMap_cons, List.all_append, h1, Bool.and_true]
    rcases hx with ⟨rfl, cs, rfl, _, hc⟩ | ⟨rfl, rfl, hc⟩
    · exact hc
    · cases x <;> first | rfl | simp [D.isCell] at hc
theorem mapM_cvs {R : V → D → Prop} {f : V → Option D} (h : ∀ v d, R v d → f v = some d) : ∀ {vs : List V} {ds : List D}, CVs R vs ds → vs.mapM f = some ds
  | [], [], _ => rfl
  | v :: vs, d :: ds, hh => by
    rw [List.mapM_cons, h v d hh.1, mapM_cvs h hh.2]
    rfl
  | [], _ :: _, hh => hh.elim
  | _ :: _, [], hh => hh.elim
theorem CQ.snap {s : List (Nat × Obj)} {lv : Bool} {S : Nat → Prop} {b : Nat} (hb : ∀ j, S j → b ≤ j) : ∀ {n m : Nat} {v : V} {d : D}, n < m → CQ s lv S n v d → Go.Lift.snap s b m v = some d
  | 0, m + 1, _, _, _, h => by
    obtain ⟨rfl, _⟩ := h
    rfl
  | n + 1, m + 1, v, d, hm, h => by
    rcases h with ⟨rfl, _⟩ | ⟨rfl | rfl, rfl⟩ | ⟨k, es, ag, cs, ds, rfl, rfl, h3, h5, h6, h7, h8⟩
    · rfl
    · rfl
    · rfl
    · obtain ⟨k1, k2⟩ := cellsD_all h7
      have hl := h8.length
      have := hb k h3
      simp only [Go.Lift.snap]
      rw [if_neg (by omega)]
      simp only [scells, h5]
      rw [if_pos ⟨h6, by omega⟩, List.drop_zero, List.take_of_length_le (by omega), mapM_cvs (fun v d hv => CQ.snap hb (by omega) hv) h8]
      simp only [k1, if_true]
      rw [chunks_elt h6 h7]
      rfl
  | 0, 0, _, _, h, _ => by omega
  | _ + 1, 0, _, _, h, _ => by omega
theorem CV.snap {s : List (Nat × Obj)} {lv : Bool} {lo b : Nat} (hb : b ≤ lo) {n hi m : Nat} {v : V} {d : D} (hm : n < m) (h : CV s lv lo n hi v d) : Go.Lift.snap s b m v = some d := CQ.snap (fun j h => Nat.le_trans hb h.1) hm h
theorem cellsV_mk {cs : List V} : cellsV (mkAgg cs) = cs := by
  unfold mkAgg
  split
  · rename_i ds h
    have : cs = ds.map V.d := allD_ok h
    rw [this]
    rfl
  · rfl
theorem cv_str {x : List Nat} : cellsV (.d (.str x)) = [.d (.str x)] := rfl
theorem cv_int {k : IntKind} {x : Int} : cellsV (.d (.int k x)) = [.d (.int k x)] := rfl
theorem cv_bool {x : Bool} : cellsV (.d (.bool x)) = [.d (.bool x)] := rfl
theorem cv_sl {l : List D} : cellsV (.d (.sl l)) = [.d (.sl l)] := rfl
theorem cv_agg {l : List D} : cellsV (.d (.agg l)) = l.map V.d := rfl
theorem cv_nilS : cellsV .nilS = [.nilS] := rfl
theorem cv_emp : cellsV .emp = [.emp] := rfl
theorem cv_arr {k es off len : Nat} {ag : Bool} : cellsV (.arr k es ag off len) = [.arr k es ag off len] := rfl
theorem cv_ptr {k o : Nat} : cellsV (.ptr k o) = [.ptr k o] := rfl
theorem cv_fn {f : Nat} {a b : List V} : cellsV (.fn f a b) = [.fn f a b] := rfl
theorem ic_str {x : List Nat} : V.isCell (.d (.str x)) = true := rfl
theorem ic_int {k : IntKind} {x : Int} : V.isCell (.d (.int k x)) = true := rfl
theorem ic_bool {x : Bool} : V.isCell (.d (.bool x)) = true := rfl
theorem ic_sl {l : List D} : V.isCell (.d (.sl l)) = true := rfl
theorem ic_nilS : V.isCell .nilS = true := rfl
theorem ic_emp : V.isCell .emp = true := rfl
theorem ic_arr {k es off len : Nat} {ag : Bool} : V.isCell (.arr k es ag off len) = true := rfl
theorem ic_ptr {k o : Nat} : V.isCell (.ptr k o) = true := rfl
theorem ic_fn {f : Nat} {a b : List V} : V.isCell (.fn f a b) = true := rfl
theorem mkAgg_d1 {a : D} : mkAgg [.d a] = .d (.agg [a]) := rfl
theorem mkAgg_d2 {a b : D} : mkAgg [.d a, .d b] = .d (.agg [a, b]) := rfl
theorem mkAgg_d3 {a b c : D} : mkAgg [.d a, .d b, .d c] = .d (.agg [a, b, c]) := rfl
theorem mkAgg_d4 {a b c d : D} : mkAgg [.d a, .d b, .d c, .d d] = .d (.agg [a, b, c, d]) := rfl
theorem snap_mkP {s : List (Nat × Obj)} {lv : Bool} {S : Nat → Prop} {b n m : Nat} (hb : ∀ j, S j → b ≤ j) {cs : List V} {ds : List D} (hm : n < m) (h : CVs (CQ s lv S n) cs ds) : Go.Lift.snap s b (m + 1) (mkAgg cs) = some (.agg ds) := by
  have h1 := mapM_cvs (fun v d hv => CQ.snap (m := m) hb hm hv) h
  have h2 : ds.all D.isCell = true := by
    clear h1
    induction cs generalizing ds with
    | nil => cases ds with
      | nil => rfl
      | cons d ds => exact h.elim
    | cons v cs ih => cases ds with
      | nil => exact h.elim
      | cons d ds =>
        simp only [List.all_cons, h.1.cell.2.2, ih h.2, Bool.and_self]
  unfold mkAgg
  split
  · rename_i es he
    have e : cs = es.map V.d := allD_ok he
    subst e
    have : ∀ {es ds : List D}, (es.map V.d).mapM (Go.Lift.snap s b m) = some ds → es = ds := by
      intro es
      induction es with
      | nil => intro ds hd; simp at hd; exact hd.symm
      | cons e es ih =>
        intro ds hd
        rw [List.map_cons, List.mapM_cons] at hd
        cases m with
        | zero => omega
        | succ m =>
          simp only [Go.Lift.snap] at hd
          cases hx : (es.map V.d).mapM (Go.Lift.snap s b (m + 1)) with
          | none => rw [hx] at hd; cases hd
          | some xs =>
            rw [hx] at hd
            cases hd
            rw [ih hx]
    rw [this h1]
    rfl
  · simp only [Go.Lift.snap, h1, h2, if_true]
theorem snap_mk {s : List (Nat × Obj)} {lv : Bool} {lo b n hi m : Nat} (hb : b ≤ lo) {cs : List V} {ds : List D} (hm : n < m) (h : CVs (CV s lv lo n hi) cs ds) : Go.Lift.snap s b (m + 1) (mkAgg cs) = some (.agg ds) := snap_mkP (fun j h => Nat.le_trans hb h.1) hm h
def GP (s : List (Nat × Obj)) (lv : Bool) (S : Nat → Prop) (n es : Nat) (ag : Bool) (v : V) (ds : List D) : Prop :=
  (v = .nilS ∧ ds = []) ∨ ∃ k cs, v = .arr k es ag 0 ds.length ∧ S k ∧ sget s k = some (.cells cs) ∧ CVs (CQ s lv (fun j => S j ∧ j ≠ k) n) cs (ds.flatMap cellsD)
def Gr (s : List (Nat × Obj)) (lv : Bool) (lo n hi es : Nat) (ag : Bool) (v : V) (ds : List D) : Prop := GP s lv (Iv lo hi) n es ag v ds
def away : V → Nat → Prop
  | .arr k _ _ _ _, j => k ≠ j
  | _, _ => True
def grow (v : V) (s : List (Nat × Obj)) : List (Nat × Obj) := match v with
  | .arr k _ _ _ _ => sdel s k
  | _ => s
def growL (v : V) (low : Nat) : Nat := match v with
  | .arr k _ _ _ _ => Nat.min low k
  | _ => low
theorem sget_sdel_ne {s : List (Nat × Obj)} {k j : Nat} (h : k ≠ j) : sget (sdel s k) j = sget s j := by
  induction s with
  | nil => rfl
  | cons p s ih =>
    obtain ⟨i, o⟩ := p
    simp only [sdel]
    split
    · rename_i e
      subst e
      simp only [sget, h, if_false, ih]
    · simp only [sget, ih]
theorem grow_ne {v : V} {s : List (Nat × Obj)} {j : Nat} (h : away v j) : sget (grow v s) j = sget s j := by
  cases v <;> first | rfl | exact sget_sdel_ne h
section
variable {s s' : List (Nat × Obj)} {lv : Bool} {S S' : Nat → Prop} {n es : Nat} {ag : Bool} {v : V} {ds : List D}
theorem GP.away (h : GP s lv S n es ag v ds) {j : Nat} (hj : ¬ S j) : Go.Lift.away v j := by
  rcases h with ⟨rfl, _⟩ | ⟨k, cs, rfl, h1, _⟩
  · trivial
  · exact fun e => hj (e ▸ h1)
theorem GP.cell (h : GP s lv S n es ag v ds) : v.isCell = true ∧ cellsV v = [v] := by
  rcases h with ⟨rfl, _⟩ | ⟨k, cs, rfl, _⟩ <;> exact ⟨rfl, rfl⟩
theorem GP.cv (h : GP s lv S n es ag v ds) (h0 : 0 < es) (he : ∀ x ∈ ds, Elt es ag x) : CQ s lv S (n + 1) v (.sl ds) := by
  rcases h with ⟨rfl, rfl⟩ | ⟨k, cs, rfl, h1, h3, h4⟩
  · exact .inr (.inl ⟨.inl rfl, rfl⟩)
  · exact .inr (.inr ⟨k, es, ag, cs, ds, rfl, rfl, h1, h3, h0, he, h4.imp fun v d hv => hv.mono fun j h => h.1⟩)
theorem GP.nil : GP s lv S n es ag .nilS [] := .inl ⟨rfl, rfl⟩
theorem GP.frame (hs : ∀ j, S j → sget s' j = sget s j) (h : GP s lv S n es ag v ds) : GP s' lv S n es ag v ds := by
  rcases h with h | ⟨k, cs, h1, h2, h4, h5⟩
  · exact .inl h
  · exact .inr ⟨k, cs, h1, h2, by rw [hs k h2]; exact h4, h5.imp fun v d hv => hv.frame fun j a => hs j a.1⟩
theorem GP.mono (hS : ∀ j, S j → S' j) (h : GP s lv S n es ag v ds) : GP s lv S' n es ag v ds := by
  rcases h with h | ⟨k, cs, h1, h2, h4, h5⟩
  · exact .inl h
  · exact .inr ⟨k, cs, h1, hS k h2, h4, h5.imp fun v d hv => hv.mono fun j a => ⟨hS j a.1, a.2⟩⟩
end
section
variable {s s' : List (Nat × Obj)} {lv : Bool} {lo hi n es : Nat} {ag : Bool} {v : V} {ds : List D}
theorem Gr.away (h : Gr s lv lo n hi es ag v ds) {j : Nat} (hj : j < lo ∨ hi ≤ j) : Go.Lift.away v j := GP.away h (fun e => by have := e.1; have := e.2; omega)
theorem Gr.cell (h : Gr s lv lo n hi es ag v ds) : v.isCell = true ∧ cellsV v = [v] := GP.cell h
theorem Gr.cv (h : Gr s lv lo n hi es ag v ds) (h0 : 0 < es) (he : ∀ x ∈ ds, Elt es ag x) : CV s lv lo (n + 1) hi v (.sl ds) := GP.cv h h0 he
theorem Gr.nil : Gr s lv lo n hi es ag .nilS [] := .inl ⟨rfl, rfl⟩
theorem Gr.frame (hs : ∀ j, lo ≤ j → j < hi → sget s' j = sget s j) (h : Gr s lv lo n hi es ag v ds) : Gr s' lv lo n hi es ag v ds := GP.frame (fun j h => hs j h.1 h.2) h
end
theorem Gr.hi {s : List (Nat × Obj)} {lv : Bool} {lo hi n es : Nat} {ag : Bool} {v : V} {ds : List D} {hi' : Nat} (h : Gr s lv lo n hi es ag v ds) (hh : hi ≤ hi') : Gr s lv lo n hi' es ag v ds := GP.mono (fun j h => ⟨h.1, Nat.lt_of_lt_of_le h.2 hh⟩) h
def PP (s : List (Nat × Obj)) (lv : Bool) (S : Nat → Prop) (n es : Nat) (ag : Bool) (xv : V) (ds : List D) (c0 : List V) : Prop :=
  xv = .nilS ∧ c0 = [] ∧ ds = [] ∨ ∃ k, xv = .arr k es ag 0 ds.length ∧ S k ∧ CVs (CQ s lv (fun j => S j ∧ j ≠ k) n) c0 (ds.flatMap cellsD)
theorem app_gr {s : List (Nat × Obj)} {lv : Bool} {S : Nat → Prop} {nx lw n key k1 m es eb : Nat} {ag : Bool} {xv : V} {ds : List D} {ys : List V} (hx : GP s lv S n es ag xv ds) (he : ∀ x ∈ ds, Elt es ag x) (hy : sget s k1 = some (.cells ys))
    (hl : ys.length = m * es) (hm : 0 < m) (hb : (ds.length + m) * eb ≤ 70368744177664) (hb2 : ds.length + m ≤ 70368744177664) (hc : ys.all V.isCell = true) :
    ∃ c0, opAppend { s := s, next := nx, low := lw } key es ag eb xv (.arr k1 es ag 0 m) = some (.arr key es ag 0 (ds.length + m), { s := (key, .cells (c0 ++ ys)) :: grow xv s, next := nx, low := growL xv lw }) ∧ PP s lv S n es ag xv ds c0 := by
  have hr : rdSl { s := s, next := nx, low := lw } es (.arr k1 es ag 0 m) = some (ys, m) := by
    simp only [rdSl, St.cells?, scells, hy]
    rw [if_pos ⟨by omega, trivial⟩, List.drop_zero, List.take_of_length_le (by omega)]
  rcases hx with ⟨rfl, rfl⟩ | ⟨k, cs, rfl, h1, h3, h4⟩
  · refine ⟨[], ?_, .inl ⟨rfl, rfl, rfl⟩⟩
    simp only [opAppend, hr]
    rw [if_neg (by omega), if_pos ⟨by simpa using hb, by simpa using hb2, hc⟩]
    simp [St.ins, grow, growL]
  · refine ⟨cs, ?_, .inr ⟨k, rfl, h1, h4⟩⟩
    have hcl := h4.length
    rw [(cellsD_all he).2] at hcl
    simp only [opAppend, hr, St.get, h3]
    rw [if_pos ⟨trivial, trivial, hb, hb2, hc⟩, if_pos ⟨trivial, hcl.symm⟩]
    simp [St.ins, St.del, grow, growL]
theorem sget_cons_ne {s : List (Nat × Obj)} {k j : Nat} {o : Obj} (h : k ≠ j) : sget ((k, o) :: s) j = sget s j := by simp only [sget, h, if_false]
theorem sget_cons_eq {s : List (Nat × Obj)} {k : Nat} {o : Obj} : sget ((k, o) :: s) k = some o := by simp only [sget, if_true]
theorem sget_sset_nn {s : List (Nat × Obj)} {k j : Nat} {o : Obj} (h : k ≠ j) : sget (sset s k o) j = sget s j := sget_sset_other (Ne.symm h)
theorem sget_grow_nn {v : V} {s : List (Nat × Obj)} {j : Nat} (h : away v j) : sget (grow v s) j = sget s j := grow_ne h
theorem pv_appP {s s0 : List (Nat × Obj)} {lv : Bool} {S : Nat → Prop} {nx lw n key k1 m es eb : Nat} {ag : Bool} {xv : V} {ds : List D} {ys : List V} {K : V → St → Prop} {k : Dm K} (hx : GP s0 lv S n es ag xv ds) (hf : ∀ j, S j → sget s j = sget s0 j) (he : ∀ x ∈ ds, Elt es ag x) (hy : sget s k1 = some (.cells ys))
    (hl : ys.length = m * es) (hm : 0 < m) (hb : (ds.length + m) * eb ≤ 70368744177664) (hb2 : ds.length + m ≤ 70368744177664) (hc : ys.all V.isCell = true)
    (h : ∀ c0, PP s0 lv S n es ag xv ds c0 → K (.arr key es ag 0 (ds.length + m)) { s := (key, .cells (c0 ++ ys)) :: grow xv s, next := nx, low := growL xv lw }) :
    PV (opAppend { s := s, next := nx, low := lw } key es ag eb xv (.arr k1 es ag 0 m)) K k := by
  obtain ⟨c0, h1, h2⟩ := app_gr (nx := nx) (lw := lw) (key := key) (eb := eb) (hx.frame hf) he hy hl hm hb hb2 hc
  rw [h1]
  refine pv_some.symm ▸ h c0 ?_
  rcases h2 with h2 | ⟨k, e, a, c⟩
  · exact .inl h2
  · exact .inr ⟨k, e, a, c.imp fun v d hv => hv.frame fun j p => (hf j p.1).symm⟩
theorem gp_part {s s' : List (Nat × Obj)} {lv : Bool} {S S' : Nat → Prop} {n key es m : Nat} {ag : Bool} {xv : V} {ds new : List D} {c0 ys : List V} (h : PP s lv S n es ag xv ds c0)
    (hf : ∀ j, S j → Go.Lift.away xv j → sget s' j = sget s j) (hS : ∀ j, S j → S' j) (hk : S' key) (hn' : ¬ S key) (ho : sget s' key = some (.cells (c0 ++ ys))) (hm : new.length = m) (hn : CVs (CQ s' lv (fun j => S' j ∧ j ≠ key) n) ys (new.flatMap cellsD)) :
    GP s' lv S' n es ag (.arr key es ag 0 (ds.length + m)) (ds ++ new) := by
  refine .inr ⟨key, c0 ++ ys, by rw [List.length_append, hm], hk, ho, ?_⟩
  rw [List.flatMap_append]
  refine CVs.append ?_ hn
  rcases h with ⟨_, rfl, rfl⟩ | ⟨k, rfl, h1, h3⟩
  · exact trivial
  · exact h3.imp fun v d hv => (hv.frame fun j a => hf j a.1 (fun e => a.2 e.symm)).mono fun j a => ⟨hS j a.1, fun e => hn' (e ▸ a.1)⟩
theorem gp_more {s s' : List (Nat × Obj)} {lv : Bool} {S S' : Nat → Prop} {n key es N : Nat} {ag : Bool} {xv : V} {ds T : List D} (new : List D) {c0 ys : List V} (h : PP s lv S n es ag xv ds c0)
    (hf : ∀ j, S j → Go.Lift.away xv j → sget s' j = sget s j) (hS : ∀ j, S j → S' j) (hk : S' key) (hn' : ¬ S key) (ho : sget s' key = some (.cells (c0 ++ ys))) (hN : N = ds.length + new.length) (hT : T = ds ++ new) (hn : CVs (CQ s' lv (fun j => S' j ∧ j ≠ key) n) ys (new.flatMap cellsD)) :
    GP s' lv S' n es ag (.arr key es ag 0 N) T := by
  subst hN hT
  exact gp_part h hf hS hk hn' ho rfl hn
theorem gp_more0 {s s' : List (Nat × Obj)} {lv : Bool} {S S' : Nat → Prop} {key es N : Nat} {ag : Bool} {xv : V} {ds T : List D} (new : List D) {c0 ys : List V} (h : PP s lv S 0 es ag xv ds c0)
    (hk : S' key) (ho : sget s' key = some (.cells (c0 ++ ys))) (hN : N = ds.length + new.length) (hT : T = ds ++ new) (hn : CVs (CQ s' lv S' 0) ys (new.flatMap cellsD)) :
    GP s' lv S' 0 es ag (.arr key es ag 0 N) T := by
  subst hN hT
  refine .inr ⟨key, c0 ++ ys, by rw [List.length_append], hk, ho, ?_⟩
  rw [List.flatMap_append]
  refine CVs.append ?_ (hn.imp fun v d hv => hv)
  rcases h with ⟨_, rfl, rfl⟩ | ⟨k, rfl, h1, h3⟩
  · exact trivial
  · exact h3.imp fun v d hv => hv
theorem cq_arr {s : List (Nat × Obj)} {lv : Bool} {S : Nat → Prop} {n k es N : Nat} {ag : Bool} {cs : List V} (ds : List D) (hk : S k) (ho : sget s k = some (.cells cs)) (h0 : 0 < es) (he : ∀ x ∈ ds, Elt es ag x) (hN : N = ds.length) (hc : CVs (CQ s lv S n) cs (ds.flatMap cellsD)) :
    CQ s lv S (n + 1) (.arr k es ag 0 N) (.sl ds) := by
  subst hN
  exact .inr (.inr ⟨k, es, ag, cs, ds, rfl, rfl, hk, ho, h0, he, hc⟩)
def Part (s : List (Nat × Obj)) (lv : Bool) (lo n hi es : Nat) (ag : Bool) (xv : V) (ds : List D) (c0 : List V) : Prop := PP s lv (Iv lo hi) n es ag xv ds c0
theorem pv_app {s s0 : List (Nat × Obj)} {lv : Bool} {nx lw lo n hi key k1 m es eb : Nat} {ag : Bool} {xv : V} {ds : List D} {ys : List V} {K : V → St → Prop} {k : Dm K} (hx : Gr s0 lv lo n hi es ag xv ds) (hf : ∀ j, lo ≤ j → j < hi → sget s j = sget s0 j) (he : ∀ x ∈ ds, Elt es ag x) (hy : sget s k1 = some (.cells ys))
    (hl : ys.length = m * es) (hm : 0 < m) (hb : (ds.length + m) * eb ≤ 70368744177664) (hb2 : ds.length + m ≤ 70368744177664) (hc : ys.all V.isCell = true)
    (h : ∀ c0, Part s0 lv lo n hi es ag xv ds c0 → K (.arr key es ag 0 (ds.length + m)) { s := (key, .cells (c0 ++ ys)) :: grow xv s, next := nx, low := growL xv lw }) :
    PV (opAppend { s := s, next := nx, low := lw } key es ag eb xv (.arr k1 es ag 0 m)) K k := pv_appP hx (fun j h => hf j h.1 h.2) he hy hl hm hb hb2 hc h
theorem gr_part {s s' : List (Nat × Obj)} {lv : Bool} {lo n hi hi' key es m : Nat} {ag : Bool} {xv : V} {ds new : List D} {c0 ys : List V} (h : Part s lv lo n hi es ag xv ds c0)
    (hf : ∀ j, lo ≤ j → j < hi → Go.Lift.away xv j → sget s' j = sget s j) (h1 : lo ≤ key) (h2 : hi ≤ key) (h3 : key < hi') (ho : sget s' key = some (.cells (c0 ++ ys))) (hm : new.length = m) (hn : CVs (CV s' lv lo n key) ys (new.flatMap cellsD)) :
    Gr s' lv lo n hi' es ag (.arr key es ag 0 (ds.length + m)) (ds ++ new) :=
  gp_part h (fun j a => hf j a.1 a.2) (fun j a => ⟨a.1, by have := a.2; omega⟩) ⟨h1, h3⟩ (fun e => by have := e.2; omega) ho hm (hn.imp fun v d hv => CQ.mono (fun j a => ⟨⟨a.1, by have := a.2; omega⟩, by have := a.2; omega⟩) hv)
def mkSlV (key es : Nat) (ag : Bool) (zero : List V) (len : Nat) (o : Option (List V)) (st : St) : Option (V × St) :=
  if len * es ≤ 16777216 ∧ zero.length = es then
    match o with
    | some cs => if cs.all V.isCell then some (.arr key es ag 0 len, st.ins key (.cells cs)) else none
    | none => none
  else none
def sliceSV (x : V) (lo hi : Option V) (st : St) : Option (V × St) := match x with
  | .d (.str s) => (match bounds lo hi s.length s.length with
    | some (l, h) => some (.d (.str ((s.drop l).take (h - l))), st)
    | none => none)
  | _ => none
theorem ev_sliceSN {cl : CallF} {base : Nat} {env : List V} {st : St} {dst : Option Nat} {g : Option (Nat × Bool)} {kp : List Nat} {x : Opd} {lo hi : Option Opd} :
    evalIOp cl base env st ⟨dst, .sliceS x lo hi, g, kp⟩ = sliceSV (evO env x) (lo.map (evO env)) (hi.map (evO env)) st := rfl
theorem slice_at {s : List Nat} {j : Nat} {k k' : IntKind} {st : St} (h : j < s.length) : sliceSV (.d (.str s)) (some (.d (.int k j))) (some (.d (.int k' ((j + 1 : Nat) : Int)))) st = some (.d (.str [s[j]]), st) := by
  simp only [sliceSV, bounds, asI]
  rw [if_pos (by omega), if_pos (by omega)]
  simp only [Int.toNat_natCast]
  have : (s.drop j).take (j + 1 - j) = [s[j]] := by
    rw [List.drop_eq_getElem_cons h, show j + 1 - j = 1 by omega]
    rfl
  rw [this]
theorem ia_0 {k es : Nat} {ag : Bool} {len : Nat} : opIaddrS es (.arr k es ag 0 (len + 1)) 0 = some (.ptr k 0) := by
  simp only [opIaddrS]
  rw [if_pos ⟨by omega, by omega, trivial⟩]
  simp
theorem ia_01 {k es : Nat} {ag : Bool} : opIaddrS es (.arr k es ag 0 1) 0 = some (.ptr k 0) := ia_0
theorem ia_02 {k es : Nat} {ag : Bool} : opIaddrS es (.arr k es ag 0 2) 0 = some (.ptr k 0) := ia_0 (len := 1)
theorem ia_12 {k es : Nat} {ag : Bool} : opIaddrS es (.arr k es ag 0 2) 1 = some (.ptr k es) := by
  simp only [opIaddrS]
  rw [if_pos ⟨by omega, by omega, trivial⟩]
  simp
def convIV (k : IntKind) (x : V) (st : St) : Option (V × St) := match asI x with
  | some n => some (.d (.int k (k.wrap n)), st)
  | none => none
def convSV (x : V) (st : St) : Option (V × St) := match asI x with
  | some n => if 0 ≤ n ∧ n < 128 then some (.d (.str [n.toNat]), st) else none
  | none => none
theorem convIV_int {k j : IntKind} {n : Int} {st : St} : convIV k (.d (.int j n)) st = some (.d (.int k (k.wrap n)), st) := rfl
theorem convSV_nat {k : IntKind} {n : Nat} {st : St} (h : n < 128) : convSV (.d (.int k (n : Nat))) st = some (.d (.str [n]), st) := by
  simp only [convSV, asI]
  rw [if_pos (by omega)]
  simp
section
variable {cl : CallF} {base : Nat} {env : List V} {st : St} {dst : Option Nat} {g : Option (Nat × Bool)} {kp : List Nat}
theorem ev_convIN {k : IntKind} {x : Opd} : evalIOp cl base env st ⟨dst, .convI k x, g, kp⟩ = convIV k (evO env x) st := rfl
theorem ev_convSN {x : Opd} : evalIOp cl base env st ⟨dst, .convS x, g, kp⟩ = convSV (evO env x) st := rfl
end
theorem wrap32_id {n : Int} (h1 : -2147483648 ≤ n) (h2 : n ≤ 2147483647) : IntKind.i32.wrap n = n := by
  unfold IntKind.wrap
  simp only [IntKind.bits, IntKind.signed, Bool.true_and, decide_eq_true_eq, ge_iff_le, Int.reducePow, Nat.reduceSub]
  split <;> omega
theorem pv_post {x : Option (V × St)} {R K : V → St → Prop} {k : Dm K} (h : PostV x R) (hk : ∀ v st, R v st → K v st) : PV x K k := PostV.mono h hk
theorem ev_mkSlN {cl : CallF} {base : Nat} {env : List V} {st : St} {dst : Option Nat} {g : Option (Nat × Bool)} {kp : List Nat} {ai es len : Nat} {ag : Bool} {z : List V} {ps : List (Nat × Opd)} :
    evalIOp cl base env st ⟨dst, .mkSl ai es ag true z len ps, g, kp⟩ = mkSlV (base + ai) es ag z len (fillP (List.replicate len z).flatten ((ps.map fun (i, x) => (i, evO env x)).map fun (i, v) => (i * es, es, v))) st := rfl
theorem rql1 {s : List (Nat × Obj)} {v : V} {x : D} {rs : List D} (h1 : snap s 0 snapDepth v = some x) (h : [x] = rs) : RQ (some [v]) s rs := ⟨_, rfl, by rw [← h]; simp [toDAll, h1]⟩
theorem rql2 {s : List (Nat × Obj)} {v w : V} {x y : D} {rs : List D} (h1 : snap s 0 snapDepth v = some x) (h2 : snap s 0 snapDepth w = some y) (h : [x, y] = rs) : RQ (some [v, w]) s rs := ⟨_, rfl, by rw [← h]; simp [toDAll, h1, h2]⟩
theorem sget_sset_is {s : List (Nat × Obj)} {k : Nat} {o : Obj} (h : (sget s k).isSome = true) : sget (sset s k o) k = some o := by
  cases hs : sget s k with
  | none => rw [hs] at h; cases h
  | some x => exact sget_sset_same hs
theorem sdel_nil {k : Nat} : sdel [] k = [] := rfl
theorem sdel_cons {k j : Nat} {o : Obj} {s : List (Nat × Obj)} : sdel ((k, o) :: s) j = if k = j then sdel s j else (k, o) :: sdel s j := rfl
theorem nat1 : ((1 : Nat) : Int) = 1 := rfl
theorem nat2 : ((2 : Nat) : Int) = 2 := rfl
theorem V_beq_d {x y : D} : V.beq (.d x) (.d y) = D.beq x y := by simp [V.beq]
theorem V_beqL_nil : V.beqL [] [] = true := by simp [V.beqL]
theorem V_beqL_cons {x y : V} {l m : List V} : V.beqL (x :: l) (y :: m) = (V.beq x y && V.beqL l m) := by simp [V.beqL]
theorem V_beq_ptr {k o : Nat} : V.beq (.ptr k o) (.ptr k o) = true := by simp [V.beq]
theorem V_beq_nilS : V.beq .nilS .nilS = true := by simp [V.beq]
theorem V_beq_arr {k es off len : Nat} {ag : Bool} : V.beq (.arr k es ag off len) (.arr k es ag off len) = true := by simp [V.beq]
theorem GP.len {s : List (Nat × Obj)} {lv : Bool} {S : Nat → Prop} {n es : Nat} {ag : Bool} {v : V} {ds : List D} (h : GP s lv S n es ag v ds) : opLen false v = some ds.length := by
  rcases h with ⟨rfl, rfl⟩ | ⟨k, cs, rfl, _⟩ <;> rfl
theorem GP.beq {s : List (Nat × Obj)} {lv : Bool} {S : Nat → Prop} {n es : Nat} {ag : Bool} {v : V} {ds : List D} (h : GP s lv S n es ag v ds) : V.beq v v = true := by
  rcases h with ⟨rfl, _⟩ | ⟨k, cs, rfl, _⟩
  · exact V_beq_nilS
  · exact V_beq_arr
theorem Gr.beq {s : List (Nat × Obj)} {lv : Bool} {lo n hi es : Nat} {ag : Bool} {v : V} {ds : List D} (h : Gr s lv lo n hi es ag v ds) : V.beq v v = true := GP.beq h
theorem CQ.beq {s : List (Nat × Obj)} {lv : Bool} {S : Nat → Prop} {n : Nat} {v : V} {d : D} (h : CQ s lv S n v d) : V.beq v v = true := by
  cases n with
  | zero => obtain ⟨rfl, _⟩ := h; rw [V_beq_d, D.beq_refl]
  | succ n =>
    rcases h with ⟨rfl, _⟩ | ⟨rfl | rfl, _⟩ | ⟨k, es, ag, cs, ds, rfl, _⟩
    · rw [V_beq_d, D.beq_refl]
    · exact V_beq_nilS
    · simp [V.beq]
    · exact V_beq_arr
theorem CVs.beq {s : List (Nat × Obj)} {lv : Bool} {S : Nat → Prop} {n : Nat} : ∀ {cs : List V} {ds : List D}, CVs (CQ s lv S n) cs ds → V.beqL cs cs = true
  | [], [], _ => V_beqL_nil
  | v :: cs, d :: ds, h => by rw [V_beqL_cons, h.1.beq, CVs.beq h.2]; rfl
  | [], _ :: _, h => h.elim
  | _ :: _, [], h => h.elim
theorem CVs.getStr {s : List (Nat × Obj)} {lv : Bool} {S : Nat → Prop} : ∀ {cs : List V} {l : List (List Nat)}, CVs (CQ s lv S 0) cs ((l.map D.str).flatMap cellsD) → ∀ {j : Nat} (hj : j < l.length), (cs.drop j).take 1 = [.d (.str l[j])]
  | [], [], _, j, hj => by simp at hj
  | v :: cs, x :: l, h, j, hj => by
    cases j with
    | zero =>
      have h1 : v = .d (.str x) := h.1.1
      simp [h1]
    | succ j =>
      have := CVs.getStr (cs := cs) (l := l) h.2 (j := j) (by simpa using hj)
      simpa using this
  | [], _ :: _, h, _, _ => h.elim
  | _ :: _, [], h, _, _ => h.elim
theorem GP.strAt {s : List (Nat × Obj)} {lv : Bool} {S : Nat → Prop} {v : V} {l : List (List Nat)} (h : GP s lv S 0 1 false v (l.map D.str)) {j : Nat} (hj : j < l.length) :
    ∃ k cs, v = .arr k 1 false 0 l.length ∧ S k ∧ sget s k = some (.cells cs) ∧ V.beqL cs cs = true ∧ opIaddrS 1 v (j : Int) = some (.ptr k j) ∧
      j + 1 ≤ cs.length ∧ (cs.drop j).take 1 = [.d (.str l[j])] := by
  rcases h with ⟨_, e⟩ | ⟨k, cs, rfl, h1, h2, h3⟩
  · cases l with
    | nil => simp at hj
    | cons x l => simp at e
  · have hl := h3.length
    rw [(cellsD_all (es := 1) (ag := false) (fun x hx => by obtain ⟨a, _, rfl⟩ := List.mem_map.1 hx; exact .inr ⟨rfl, rfl, rfl⟩)).2, List.length_map, Nat.mul_one] at hl
    have hg := CVs.getStr h3 hj
    refine ⟨k, cs, by simp, h1, h2, h3.beq, ?_, by omega, hg⟩
    simp only [opIaddrS]
    rw [if_pos ⟨by omega, by simp; omega, trivial⟩]
    simp
def mksliceV (key es : Nat) (ag : Bool) (eb : Nat) (zero : List V) (len cap : V) (st : St) : Option (V × St) := match asI len, asI cap with
  | some l, some c =>
    if 0 ≤ l ∧ l ≤ c ∧ c * eb ≤ 70368744177664 ∧ c ≤ 70368744177664 ∧ zero.length = es ∧ zero.all V.isCell then
      some (.arr key es ag 0 l.toNat, st.ins key (.cells (List.replicate c.toNat zero).flatten))
    else none
  | _, _ => none
section
variable {cl : CallF} {base : Nat} {env : List V} {st : St} {dst : Option Nat} {g : Option (Nat × Bool)} {kp : List Nat}
theorem ev_mksliceN {ai es eb : Nat} {ag : Bool} {z : List V} {l c : Opd} : evalIOp cl base env st ⟨dst, .mkslice ai es ag eb z l c, g, kp⟩ = mksliceV (base + ai) es ag eb z (evO env l) (evO env c) st := rfl
end
theorem mkslice_n {key es eb n : Nat} {ag : Bool} {zero : List V} {st : St} (h1 : n * eb ≤ 70368744177664) (h2 : n ≤ 70368744177664) (h3 : zero.length = es) (h4 : zero.all V.isCell = true) :
    mksliceV key es ag eb zero (.d (.int .i64 n)) (.d (.int .i64 n)) st = some (.arr key es ag 0 n, st.ins key (.cells (List.replicate n zero).flatten)) := by
  simp only [mksliceV, asI]
  rw [if_pos ⟨by omega, by omega, by omega, by omega, h3, h4⟩]
  simp
theorem flat_len {n es : Nat} {zero : List V} (h : zero.length = es) : (List.replicate n zero).flatten.length = n * es := by
  induction n with
  | zero => simp
  | succ n ih => rw [List.replicate_succ, List.flatten_cons, List.length_append, ih, h, Nat.succ_mul]; omega
theorem copy_all {s : List (Nat × Obj)} {nx lw k es : Nat} {ag : Bool} {cs : List V} {l : List D} (ho : sget s k = some (.cells cs)) (hl : cs.length = l.length * es) (he : ∀ x ∈ l, Elt es ag x) :
    opCopy { s := s, next := nx, low := lw } es (.arr k es ag 0 l.length) (.d (.sl l)) = some (.d (.int .i64 l.length), { s := sset s k (.cells ((l.flatMap cellsD).map V.d)), next := nx, low := Nat.min lw k }) := by
  obtain ⟨h1, h2⟩ := cellsD_all he
  have hr : rdSl { s := s, next := nx, low := lw } es (.d (.sl l)) = some ((l.flatMap cellsD).map V.d, l.length) := by
    simp only [rdSl]
    rw [if_pos h2]
  have hm : Nat.min l.length l.length = l.length := Nat.min_self _
  simp only [opCopy, hr, St.get, ho, hm]
  rw [if_pos ⟨trivial, by omega, by rw [List.all_map]; exact h1⟩]
  have hs : splice cs 0 (((l.flatMap cellsD).map V.d).take (l.length * es)) = (l.flatMap cellsD).map V.d := by
    rw [List.take_of_length_le (by rw [List.length_map, h2]; exact Nat.le_refl _)]
    unfold splice
    rw [List.take_zero, List.drop_eq_nil_of_le (by rw [List.length_map, h2]; omega)]
    simp
  rw [hs]
  rfl
def keptV (v : V) (a b : St) : Bool := match v with
  | .ptr k _ => (match a.get k, b.get k with
    | some o, some p => Obj.beq o p
    | _, _ => false)
  | .map k => (match a.get k, b.get k with
    | some o, some p => Obj.beq o p
    | _, _ => false)
  | .arr k _ _ _ _ => (match a.get k, b.get k with
    | some o, some p => Obj.beq o p
    | _, _ => false)
  | _ => true
def objEq (a b : Option Obj) : Bool := match a, b with
  | some o, some p => Obj.beq o p
  | _, _ => false
theorem kept_nil {env : List V} {a b : St} : kept env a b [] = true := rfl
theorem kept_cons {env : List V} {a b : St} {t : Nat} {r : List Nat} : kept env a b (t :: r) = (keptV (env.getD t .undef) a b && kept env a b r) := rfl
theorem keptV_ptr {k o : Nat} {a b : St} : keptV (.ptr k o) a b = objEq (sget a.s k) (sget b.s k) := rfl
theorem keptV_arr {k es off len : Nat} {ag : Bool} {a b : St} : keptV (.arr k es ag off len) a b = objEq (sget a.s k) (sget b.s k) := rfl
theorem keptV_dptr {ds : List D} {a b : St} : keptV (.dptr ds) a b = true := rfl
theorem keptV_d {d : D} {a b : St} : keptV (.d d) a b = true := rfl
theorem objEq_cells {c d : List V} : objEq (some (.cells c)) (some (.cells d)) = V.beqL c d := by simp [objEq, Obj.beq]
theorem ev_mkSl0 {cl : CallF} {base : Nat} {env : List V} {st : St} {dst : Option Nat} {g : Option (Nat × Bool)} {kp : List Nat} {ai es : Nat} {ag nf : Bool} {z : List V} :
    evalIOp cl base env st ⟨dst, .mkSl ai es ag nf z 0 [], g, kp⟩ = mkSlV (base + ai) es ag z 0 (some []) st := by cases nf <;> rfl
theorem CVs_data {s : List (Nat × Obj)} {S : Nat → Prop} {n : Nat} : ∀ {ds : List D}, ds.all D.isCell = true → CVs (CQ s false S n) (ds.map V.d) ds
  | [], _ => trivial
  | d :: ds, h => by
    simp only [List.all_cons, Bool.and_eq_true] at h
    exact And.intro (CQ.ofD h.1 (fun h => by cases h)) (CVs_data h.2)
theorem app_data {s : List (Nat × Obj)} {nx lw key k es eb : Nat} {ag : Bool} {l : List D} (ho : sget s k = some (.cells [])) (he : ∀ x ∈ l, Elt es ag x) (hb : l.length * eb ≤ 70368744177664) (hb2 : l.length ≤ 70368744177664) :
    opAppend { s := s, next := nx, low := lw } key es ag eb (.arr k es ag 0 0) (.d (.sl l)) = some (.arr key es ag 0 l.length, { s := (key, .cells ((l.flatMap cellsD).map V.d)) :: sdel s k, next := nx, low := Nat.min lw k }) := by
  obtain ⟨h1, h2⟩ := cellsD_all he
  have hr : rdSl { s := s, next := nx, low := lw } es (.d (.sl l)) = some ((l.flatMap cellsD).map V.d, l.length) := by
    simp only [rdSl]
    rw [if_pos h2]
  simp only [opAppend, hr, St.get, ho]
  rw [if_pos ⟨trivial, trivial, by simpa using hb, by simpa using hb2, by rw [List.all_map]; exact h1⟩, if_pos ⟨trivial, by simp⟩]
  simp [St.ins, St.del]
theorem app_more {s : List (Nat × Obj)} {nx lw key k es eb : Nat} {ag : Bool} {l1 l : List D} (ho : sget s k = some (.cells ((l1.flatMap cellsD).map V.d))) (he1 : ∀ x ∈ l1, Elt es ag x) (he : ∀ x ∈ l, Elt es ag x) (hb : (l1.length + l.length) * eb ≤ 70368744177664) (hb2 : l1.length + l.length ≤ 70368744177664) :
    opAppend { s := s, next := nx, low := lw } key es ag eb (.arr k es ag 0 l1.length) (.d (.sl l)) = some (.arr key es ag 0 (l1.length + l.length), { s := (key, .cells (((l1 ++ l).flatMap cellsD).map V.d)) :: sdel s k, next := nx, low := Nat.min lw k }) := by
  obtain ⟨h1, h2⟩ := cellsD_all he
  obtain ⟨_, h4⟩ := cellsD_all he1
  have hr : rdSl { s := s, next := nx, low := lw } es (.d (.sl l)) = some ((l.flatMap cellsD).map V.d, l.length) := by
    simp only [rdSl]
    rw [if_pos h2]
  simp only [opAppend, hr, St.get, ho]
  rw [if_pos ⟨trivial, trivial, hb, hb2, by rw [List.all_map]; exact h1⟩, if_pos ⟨trivial, by rw [List.length_map, h4]⟩]
  simp [St.ins, St.del, List.flatMap_append]
theorem app_nil0 {s : List (Nat × Obj)} {nx lw key k es eb : Nat} {ag : Bool} (ho : sget s k = some (.cells [])) {v : V} (hv : rdSl { s := s, next := nx, low := lw } es v = some ([], 0)) :
    opAppend { s := s, next := nx, low := lw } key es ag eb (.arr k es ag 0 0) v = some (.arr key es ag 0 0, { s := (key, .cells []) :: sdel s k, next := nx, low := Nat.min lw k }) := by
  simp only [opAppend, hv, St.get, ho]
  simp [St.ins, St.del]
theorem cv_arr_data {s : List (Nat × Obj)} {lo hi k es : Nat} {ag : Bool} {l : List D} (h1 : lo ≤ k) (h2 : k < hi) (ho : sget s k = some (.cells ((l.flatMap cellsD).map V.d))) (h0 : 0 < es) (he : ∀ x ∈ l, Elt es ag x) : CV s false lo 1 hi (.arr k es ag 0 l.length) (.sl l) :=
  .inr (.inr ⟨k, es, ag, _, l, rfl, rfl, ⟨h1, h2⟩, ho, h0, he, CVs_data (cellsD_all he).1⟩)
theorem isNil_emp : isNil 0 .emp = some false := rfl
theorem isNil_nilS : isNil 0 .nilS = some true := rfl
theorem isNil_cons {x : D} {l : List D} : isNil 0 (.d (.sl (x :: l))) = some false := rfl
theorem isNil_arr {k es off len : Nat} {ag : Bool} : isNil 0 (.arr k es ag off len) = some false := rfl
variable {G : Nat → Option IFun}
theorem nil2_pc {f : Nat} {F : IFun} (hG : G f = some F) (hn : F.nil2 = true) {rs : List D} (hf : rs.all D.flat = true)
    (h : ∀ v, v = .nilS ∨ v = .emp → ∀ e : List V, e.length = 1 + (F.nt - 1) → e.getD 0 .undef = v → PC (evalG (callW G) roundsW none F.body e { s := [], next := 0, low := 0 }) (RP F.res rs) .mk) (st : St) :
    callW G (.fn f [] []) [.d (.sl [])] st = some (tupV (rs.map V.d), st) := by
  have hh : ∀ v, v = .nilS ∨ v = .emp → ∃ vs st1, bodyW G F [v] { s := [], next := 0, low := 0 } = some (vs, st1) ∧ toDAll st1.s 0 vs = some rs := fun v hv => by
    have h' := h v hv ([v] ++ List.replicate (F.nt - 1) .undef) (by simp; omega) (by simp)
    exact body_post (R := fun vs st' => toDAll st'.s 0 vs = some rs) h'
  obtain ⟨vs1, st1, a1, a2⟩ := hh .nilS (.inl rfl)
  obtain ⟨vs2, st2, b1, b2⟩ := hh .emp (.inr rfl)
  rw [callW_eq]
  have h2 : isNil2 ([] ++ [V.d (.sl [])] ++ []) = true := rfl
  simp only [callStep, hG, hn, h2, Bool.and_self, if_true, a1, b1, a2, b2, hf, D.beqL_refl]
theorem pure2_pc {f : Nat} {F : IFun} (hG : G f = some F) (hp : F.pure = true) {ds rs : List D} (hn : isNil2 (ds.map V.d) = false)
    (h : ∀ e : List V, e.length = (ds.map V.d).length + (F.nt - (ds.map V.d).length) → (∀ i, i < ds.length → e.getD i .undef = (ds.map V.d).getD i .undef) → PC (evalG (callW G) roundsW none F.body e { s := [], next := 0, low := 0 }) (RP F.res rs) .mk) (st : St) :
    callW G (.fn f [] []) (ds.map V.d) st = some (tupV (rs.map V.d), st) := by
  have h' := h (ds.map V.d ++ List.replicate (F.nt - (ds.map V.d).length) .undef) (by simp) (fun i hi => by
    simp only [List.getD_eq_getElem?_getD]
    rw [List.getElem?_append_left (by simpa using hi)])
  obtain ⟨vs, st1, h1, h2⟩ := body_post (R := fun vs st' => toDAll st'.s 0 vs = some rs) h'
  rw [callW_eq]
  simp only [callStep, hG, hp, List.nil_append, List.append_nil, hn, Bool.and_false, Bool.false_eq_true, if_false, if_true, toDAll_map, h1, h2, frzL_map, D.beqL_refl, ite_self]
theorem stay2_pc {f : Nat} {F : IFun} (hG : G f = some F) (hp : F.pure = false) (hpop : F.pop = false) {args : List V} (hn : isNil2 args = false) {st : St} {R : V → St → Prop}
    (h : ∀ e : List V, e.length = args.length + (F.nt - args.length) → (∀ i, i < args.length → e.getD i .undef = args.getD i .undef) → PC (evalG (callW G) roundsW none F.body e { s := st.s, next := st.next, low := st.next }) (RS F.res R .mk st.low) .mk) :
    PostV (callW G (.fn f [] []) args st) R := by
  have h' := h (args ++ List.replicate (F.nt - args.length) .undef) (by simp) (fun i hi => by
    simp only [List.getD_eq_getElem?_getD]
    rw [List.getElem?_append_left hi])
  obtain ⟨vs, st1, h1, h2⟩ := body_post (R := fun vs st' => R (tupV vs) { s := st'.s, next := st'.next, low := Nat.min st.low st'.low }) h'
  refine ⟨_, _, ?_, h2⟩
  rw [callW_eq]
  simp only [callStep, hG, hp, hpop, List.nil_append, List.append_nil, hn, Bool.and_false, Bool.false_and, Bool.false_eq_true, if_false, h1]
theorem live_pure {f : Nat} {F : IFun} (hG : G f = some F) (hp : F.pure = true) (hn : F.nil2 = false) {args : List V} {ds rs : List D} {st : St} (ha : toDAll st.s 0 args = some ds) (hf : rs.all D.flat = true)
    (h : callW G (.fn f [] []) (ds.map V.d) { s := [], next := 0, low := 0 } = some (tupV (rs.map V.d), { s := [], next := 0, low := 0 })) :
    callW G (.fn f [] []) args st = some (tupV (rs.map V.d), st) := by
  rw [callW_eq] at h ⊢
  simp only [callStep, hG, hp, hn, List.nil_append, List.append_nil, Bool.false_and, Bool.false_eq_true, if_false, if_true, toDAll_map, ha] at h ⊢
  cases hb : bodyW G F (ds.map V.d) { s := [], next := 0, low := 0 } with
  | none => rw [hb] at h; simp at h
  | some p =>
    obtain ⟨vs, st1⟩ := p
    rw [hb] at h
    simp only at h ⊢
    cases hr : toDAll st1.s 0 vs with
    | none => rw [hr] at h; simp at h
    | some rs' =>
      rw [hr] at h
      have ht : toDAll [] 0 (ds.map V.d) = some ds := toDAll_map ds
      simp only [frzL_map, ht, D.beqL_refl, if_true, ite_self, Option.some.injEq, Prod.mk.injEq, and_true] at h
      have e : tupV (rs'.map V.d) = tupV (rs.map V.d) := h
      have hfl : rs' = rs := by
        match rs', rs, e with
        | [], [], _ => rfl
        | [a], [b], e => simp [tupV] at e; rw [e]
        | [], [b], e => simp [tupV] at e
        | [], b :: c :: r, e => simp [tupV] at e
        | [a], [], e => simp [tupV] at e
        | [a], b :: c :: r, e => simp [tupV] at e
        | a :: b :: r, [], e => simp [tupV] at e
        | a :: b :: r, [c], e => simp [tupV] at e
        | a :: b :: r, c :: d :: q, e =>
          simp only [List.map_cons, tupV, V.tup.injEq, List.cons.injEq, V.d.injEq] at e
          obtain ⟨rfl, rfl, e⟩ := e
          congr 2
          exact (List.map_inj_right (by intro x y h; cases h; rfl)).1 e
      rw [hfl]
      simp only [hf, if_true]
end Go.Lift
namespace Go.Lift
open Go Go.ChangeShapes Go.WideShapes
def stillOf (w : World) : Still := fun b o => w.cell? ⟨b, o, none⟩
def Rd (P : Program) (t : TypeId) {α : Type} (e : α → D) (ok : α → Prop) : Prop :=
  ∀ (H : Type) (enc : TypeId × Value → H) (w : World) (n : Nat) (cs : List Value) (x : DataW H × List MemPlace), DataW.trod enc P w 0 (fun _ => true) true n t cs = some x → ∃ a : α, ok a ∧ RepC (stillOf w) (cellsD (e a)) cs
variable {P : Program} {t : TypeId}
theorem RepC_one {H : Still} {x : D} {v : Value} (h : RepD H x v) : RepC H [x] [v] := by
  simp only [RepC]
  exact ⟨v, [], rfl, h, rfl⟩
theorem rd_int {k : IntKind} (ht : P.underlying t = some (.int k)) : Rd P t (D.int k) (fun n => k.min ≤ n ∧ n ≤ k.max) := fun H enc w n cs x h => by
  obtain ⟨b, rfl, _, hw⟩ := DataW.trod_int ht h
  simp only [Lit.wf, Bool.and_eq_true, decide_eq_true_eq] at hw
  exact ⟨b, hw, RepC_one (by simp only [RepD])⟩
theorem rd_string (ht : P.underlying t = some .string) : Rd P t D.str (fun s => (∀ c ∈ s, c < 256) ∧ s.length ≤ 9223372036854775807) := fun H enc w n cs x h => by
  obtain ⟨s, rfl, _, hl⟩ := DataW.trod_string ht h
  refine ⟨s.data.toList.map UInt8.toNat, ⟨fun c hc => ?_, ?_⟩, RepC_one (by simp only [RepD]; exact ⟨s, rfl, rfl⟩)⟩
  · obtain ⟨b, _, rfl⟩ := List.mem_map.1 hc
    exact UInt8.toNat_lt b
  · have hm : maxLen = 9223372036854775807 := rfl
    rw [List.length_map]
    have : s.data.toList.length = s.size := rfl
    omega
def Unit1 {α : Type} (e : α → D) : Prop := (∀ a, ∃ ds, e a = .agg ds) ∨ ∀ a, cellsD (e a) = [e a] ∧ ∀ ds, e a ≠ .agg ds
theorem cells_mapM {w : World} {a : Addr} : ∀ {l : List Nat} {cs : List Value}, l.mapM (fun i => w.cell? (a.add i)) = some cs → cs.length = l.length ∧ ∀ (j i : Nat), l[j]? = some i → ∃ y, cs[j]? = some y ∧ w.cell? (a.add i) = some y
  | [], cs, h => by simp at h; subst h; simp
  | i :: l, cs, h => by
    simp only [List.mapM_cons] at h
    cases h1 : w.cell? (a.add i) with
    | none => rw [h1] at h; simp at h
    | some y =>
      rw [h1] at h
      cases h2 : l.mapM (fun i => w.cell? (a.add i)) with
      | none => rw [h2] at h; simp at h
      | some ys =>
        rw [h2] at h
        simp at h
        subst h
        obtain ⟨k1, k2⟩ := cells_mapM h2
        refine ⟨by simp [k1], fun j i' hj => ?_⟩
        cases j with
        | zero => simp at hj; subst hj; exact ⟨y, by simp, h1⟩
        | succ j => simpa using k2 j i' (by simpa using hj)
theorem cells?_at {w : World} {b : Nat} {a : Addr} {n : Nat} {cs : List Value} (h : w.cells? b a n = some cs) : cs.length = n ∧ ∀ j, j < n → ∃ y, cs[j]? = some y ∧ w.cell? (a.add j) = some y := by
  unfold World.cells? at h
  split at h
  · obtain ⟨h1, h2⟩ := cells_mapM h
    exact ⟨by simpa using h1, fun j hj => h2 j j (by simp [hj])⟩
  · cases h
theorem add_block {a : Addr} {n : Nat} : (a.add n).block = a.block := by unfold Addr.add; split <;> rfl
theorem add_off {a : Addr} {n : Nat} : (a.add n).off = a.off + n := by unfold Addr.add; split <;> simp [*]
theorem cell_spot {w : World} {a : Addr} {y : Value} (h : w.cell? a = some y) : a.spot = none := by
  unfold World.cell? at h
  split at h
  · split at h
    · cases h
    · rename_i hs
      cases e : a.spot with
      | none => rfl
      | some s => rw [e] at hs; simp at hs
  · cases h
theorem still_of_cell {w : World} {a : Addr} {y : Value} (h : w.cell? a = some y) : stillOf w a.block a.off = some y := by
  have hs := cell_spot h
  unfold stillOf
  rw [← h]
  cases a
  simp only at hs
  subst hs
  rfl
theorem rd_unit {α : Type} {e : α → D} (hu : Unit1 e) {H : Still} {a : α} {cs : List Value} (h : RepC H (cellsD (e a)) cs) : ∃ u : Value, RepD H (e a) u ∧ u.cells.toList = cs := by
  rcases hu with hu | hu
  · obtain ⟨ds, hd⟩ := hu a
    rw [hd] at h ⊢
    exact ⟨.agg cs.toArray, by simp only [RepD]; exact ⟨_, rfl, by simpa [cellsD] using h⟩, by simp [Value.cells]⟩
  · obtain ⟨hc, hn⟩ := hu a
    rw [hc] at h
    simp only [RepC] at h
    obtain ⟨v, ws, rfl, h1, rfl⟩ := h
    refine ⟨v, h1, ?_⟩
    cases hx : e a with
    | agg ds => exact absurd hx (hn ds)
    | bool b => rw [hx] at h1; simp only [RepD] at h1; subst h1; rfl
    | int k m => rw [hx] at h1; simp only [RepD] at h1; subst h1; rfl
    | str s => rw [hx] at h1; simp only [RepD] at h1; obtain ⟨b, rfl, _⟩ := h1; rfl
    | sl l => rw [hx] at h1; simp only [RepD] at h1; obtain ⟨a, c, rfl, _⟩ := h1; rfl
theorem repL_of {H : Still} {b es : Nat} : ∀ {l : List D} {off : Nat}, (∀ (i : Nat) (x : D), l[i]? = some x → ∃ u, RepD H x u ∧ u.cells.size = es ∧ ∀ j, j < es → ∃ y, u.cells[j]? = some y ∧ H b (off + i * es + j) = some y) → RepL H b es l off
  | [], _, _ => by simp only [RepL]
  | x :: l, off, h => by
    simp only [RepL]
    refine ⟨by simpa using h 0 x (by simp), repL_of fun i y hy => ?_⟩
    have := h (i + 1) y (by simpa using hy)
    rwa [Nat.succ_mul, show off + (i * es + es) = off + es + i * es by omega] at this
theorem list_choose {α : Type} {l : List Nat} {Q : Nat → α → Prop} : (∀ i ∈ l, ∃ a, Q i a) → ∃ as : List α, as.length = l.length ∧ ∀ (j i : Nat) (a : α), l[j]? = some i → as[j]? = some a → Q i a := by
  induction l with
  | nil => exact fun _ => ⟨[], rfl, by simp⟩
  | cons i l ih =>
    intro h
    obtain ⟨a, ha⟩ := h i (by simp)
    obtain ⟨as, h1, h2⟩ := ih fun j hj => h j (by simp [hj])
    refine ⟨a :: as, by simp [h1], fun j i' a' hj ha' => ?_⟩
    cases j with
    | zero => simp at hj ha'; subst hj ha'; exact ha
    | succ j => exact h2 j i' a' (by simpa using hj) (by simpa using ha')
theorem rd_slice {s : TypeId} {α : Type} {e : α → D} {ok : α → Prop} (ht : P.underlying t = some (.slice s)) (hs : 0 < P.cellsOf s) (hu : Unit1 e) (hr : Rd P s e ok) :
    Rd P t (fun l : List α => D.sl (l.map e)) (fun l => l.length ≤ 9223372036854775807 ∧ ∀ a ∈ l, ok a) := fun H enc w n cs x h => by
  rcases DataW.trod_slice ht h with ⟨rfl, _⟩ | ⟨a, len, cap, elems, rest, n', _, rfl, _, _, hcap, hmax, hlen, helem, _, _⟩
  · refine ⟨[], ⟨by simp, by simp⟩, RepC_one ?_⟩
    simp only [RepD, List.map_nil]
    exact ⟨none, 0, rfl, ⟨by simp, fun _ => rfl⟩, .inl trivial⟩
  · have hm : maxLen = 9223372036854775807 := rfl
    have hQ : ∀ i ∈ List.range len, ∃ y : α, ok y ∧ ∃ ds : List Value, w.cells? 0 (a.add (i * P.cellsOf s)) (P.cellsOf s) = some ds ∧ RepC (stillOf w) (cellsD (e y)) ds := fun i hi => by
      have hi' : i < len := by simpa using hi
      have h1 := helem i hi'
      rw [List.getElem?_eq_getElem (by omega)] at h1
      simp only [Option.bind_eq_some_iff] at h1
      obtain ⟨ds, h2, h3⟩ := h1
      obtain ⟨y, hy, hrep⟩ := hr H enc w n' ds _ h3
      exact ⟨y, hy, ds, h2, hrep⟩
    obtain ⟨as, hl, hall⟩ := list_choose hQ
    simp only [List.length_range] at hl
    have hall' : ∀ (j : Nat) (y : α), as[j]? = some y → ok y ∧ ∃ ds : List Value, w.cells? 0 (a.add (j * P.cellsOf s)) (P.cellsOf s) = some ds ∧ RepC (stillOf w) (cellsD (e y)) ds := fun j y hy => by
      have hj : j < as.length := by
        rcases Nat.lt_or_ge j as.length with h | h
        · exact h
        · rw [List.getElem?_eq_none h] at hy; cases hy
      exact hall j j y (List.getElem?_range (by omega)) hy
    refine ⟨as, ⟨by omega, fun y hy => ?_⟩, RepC_one ?_⟩
    · obtain ⟨j, hj⟩ := List.mem_iff_getElem?.1 hy
      exact (hall' j y hj).1
    · simp only [RepD]
      refine ⟨some a, cap, by rw [List.length_map, hl], ⟨by rw [List.length_map, hl]; exact hcap, by simp⟩, ?_⟩
      rcases Nat.eq_zero_or_pos len with h0 | hpos
      · left
        have : as = [] := List.eq_nil_of_length_eq_zero (by omega)
        simp [this]
      · right
        have hsp : a.spot = none := by
          obtain ⟨y, hy⟩ : ∃ y, as[0]? = some y := ⟨as[0], by simp [List.getElem?_eq_getElem (show 0 < as.length by omega)]⟩
          obtain ⟨_, ds, h2, _⟩ := hall' 0 y hy
          obtain ⟨_, h3⟩ := cells?_at h2
          obtain ⟨z, _, hz⟩ := h3 0 hs
          have := cell_spot hz
          simpa [Addr.add] using this
        refine ⟨a.block, a.off, P.cellsOf s, ?_, hs, repL_of fun i x hx => ?_⟩
        · cases a; simp only at hsp; rw [hsp]
        · rw [List.getElem?_map] at hx
          simp only [Option.map_eq_some_iff] at hx
          obtain ⟨y, hy, rfl⟩ := hx
          obtain ⟨_, ds, h2, h3⟩ := hall' i y hy
          obtain ⟨u, hu1, hu2⟩ := rd_unit hu h3
          obtain ⟨h4, h5⟩ := cells?_at h2
          refine ⟨u, hu1, ?_, fun j hj => ?_⟩
          · rw [← Array.length_toList, hu2, h4]
          · obtain ⟨z, hz1, hz2⟩ := h5 j hj
            refine ⟨z, ?_, ?_⟩
            · rw [← Array.getElem?_toList, hu2, hz1]
            · have := still_of_cell hz2
              rwa [add_block, add_block, add_off, add_off] at this
theorem RepC_append {H : Still} : ∀ {l m : List D} {vs ws : List Value}, RepC H l vs → RepC H m ws → RepC H (l ++ m) (vs ++ ws)
  | [], m, vs, ws, h, k => by simp only [RepC] at h; subst h; simpa using k
  | x :: l, m, vs, ws, h, k => by
    simp only [RepC] at h
    obtain ⟨v, us, rfl, h1, h⟩ := h
    exact RepC_cons.2 ⟨h1, RepC_append h k⟩
theorem rd_struct2 {f0 f1 : Field} {α β γ : Type} {e0 : α → D} {e1 : β → D} {o0 : α → Prop} {o1 : β → Prop} {e : γ → D} {ok : γ → Prop} (mk : α → β → γ)
    (ht : P.underlying t = some (.struct #[f0, f1])) (hc : f0.offset = 0 ∧ f1.offset = P.cellsOf f0.type ∧ P.cellsOf t = P.cellsOf f0.type + P.cellsOf f1.type)
    (h0 : Rd P f0.type e0 o0) (h1 : Rd P f1.type e1 o1) (he : ∀ a b, cellsD (e (mk a b)) = cellsD (e0 a) ++ cellsD (e1 b)) (ho : ∀ a b, o0 a → o1 b → ok (mk a b)) : Rd P t e ok := fun H enc w n cs x h => by
  obtain ⟨xs, n', _, _, hl, hsz, hf⟩ := DataW.trod_struct ht h
  have hx : xs.length = 2 := hsz
  have g0 := hf 0 f0 rfl
  have g1 := hf 1 f1 rfl
  rw [List.getElem?_eq_getElem (by omega)] at g0 g1
  obtain ⟨a, ha, ra⟩ := h0 H enc w n' _ _ g0
  obtain ⟨b, hb, rb⟩ := h1 H enc w n' _ _ g1
  refine ⟨mk a b, ho a b ha hb, ?_⟩
  rw [he]
  have := RepC_append ra rb
  rw [hc.1, hc.2.1] at this
  rwa [List.drop_zero, List.take_of_length_le (l := cs.drop _) (by rw [List.length_drop]; omega), List.take_append_drop] at this
theorem rd_struct3 {f0 f1 f2 : Field} {α β δ γ : Type} {e0 : α → D} {e1 : β → D} {e2 : δ → D} {o0 : α → Prop} {o1 : β → Prop} {o2 : δ → Prop} {e : γ → D} {ok : γ → Prop} (mk : α → β → δ → γ)
    (ht : P.underlying t = some (.struct #[f0, f1, f2])) (hc : f0.offset = 0 ∧ f1.offset = P.cellsOf f0.type ∧ f2.offset = P.cellsOf f0.type + P.cellsOf f1.type ∧ P.cellsOf t = P.cellsOf f0.type + P.cellsOf f1.type + P.cellsOf f2.type)
    (h0 : Rd P f0.type e0 o0) (h1 : Rd P f1.type e1 o1) (h2 : Rd P f2.type e2 o2) (he : ∀ a b c, cellsD (e (mk a b c)) = cellsD (e0 a) ++ (cellsD (e1 b) ++ cellsD (e2 c))) (ho : ∀ a b c, o0 a → o1 b → o2 c → ok (mk a b c)) : Rd P t e ok := fun H enc w n cs x h => by
  obtain ⟨xs, n', _, _, hl, hsz, hf⟩ := DataW.trod_struct ht h
  have hx : xs.length = 3 := hsz
  have g0 := hf 0 f0 rfl
  have g1 := hf 1 f1 rfl
  have g2 := hf 2 f2 rfl
  rw [List.getElem?_eq_getElem (by omega)] at g0 g1 g2
  obtain ⟨a, ha, ra⟩ := h0 H enc w n' _ _ g0
  obtain ⟨b, hb, rb⟩ := h1 H enc w n' _ _ g1
  obtain ⟨c, hc', rc⟩ := h2 H enc w n' _ _ g2
  refine ⟨mk a b c, ho a b c ha hb hc', ?_⟩
  rw [he]
  have := RepC_append ra (RepC_append rb rc)
  rw [hc.1, hc.2.1, hc.2.2.1] at this
  rwa [List.drop_zero, List.take_of_length_le (l := cs.drop (P.cellsOf f0.type + P.cellsOf f1.type)) (by rw [List.length_drop]; omega), ← List.drop_drop, List.take_append_drop, List.take_append_drop] at this
theorem rd_value {α : Type} {e : α → D} {ok : α → Prop} (hu : Unit1 e) (hr : Rd P t e ok) {H : Type} {enc : TypeId × Value → H} {w : World} {v : Value} {d : DataW H} {ps : List MemPlace}
    (hv : Value.okWide P w .any 0 t v ∨ True) (hf : (∀ a, ∃ ds, e a = .agg ds) → ∃ cs, v = .agg cs) (hn : (∀ a, ∀ ds, e a ≠ .agg ds) → ∀ cs, v ≠ .agg cs)
    (h : DataW.Trod enc P w 0 (fun _ => true) true t v d ps) : ∃ a : α, ok a ∧ RepD (stillOf w) (e a) v := by
  obtain ⟨n, hn'⟩ := h
  obtain ⟨a, ha, hrep⟩ := hr H enc w n _ _ hn'
  refine ⟨a, ha, ?_⟩
  rcases hu with hu | hu
  · obtain ⟨cs, rfl⟩ := hf hu
    obtain ⟨ds, hd⟩ := hu a
    rw [hd] at hrep ⊢
    simp only [RepD]
    exact ⟨cs, rfl, by simpa [cellsD, Value.cells] using hrep⟩
  · have hv' := hn fun a => (hu a).2
    rw [(hu a).1] at hrep
    simp only [RepC] at hrep
    obtain ⟨u, ws, hcs, h1, rfl⟩ := hrep
    have : v.cells = #[v] := by
      cases v <;> first | rfl | exact absurd rfl (hv' _)
    rw [this] at hcs
    simp at hcs
    rw [hcs]
    exact h1
end Go.Lift
namespace Go.Lift
open Go Go.ChangeShapes Go.WideShapes
variable {P : Program}
theorem closed_call {G : Nat → Option IFun} (hT : Table P G) (hmix : P.follows .mixedOrders = true) {f : Nat} {args : Array Value} {ds : List D} {W : World} {b : Bool} {st' : St}
    (hrep : RepC (stillOf W) ds args.toList) (hcall : callW G (.fn f [] []) (ds.map V.d) { s := [], next := 0, low := 0 } = some (.d (.bool b), st')) :
    Calls P f args W fun e W' => e = .returned (.bool b) ∧ W'.os = W.os ∧ W'.output = W.output ∧ W.heap.size ≤ W'.heap.size ∧ ∀ i, i < W.heap.size → W'.heap[i]? = W.heap[i]? := by
  obtain ⟨n, hn⟩ := callW_iff.1 hcall
  have hinv : Inv P cCode { s := [], next := 0, low := 0 } (dataG (stillOf W)) W := data_inv fun _ _ _ h => h
  have hu : RepV (dataG (stillOf W)) (.fn f [] []) (.func (.func f) #[] #[]) := by
    simp only [RepV]
    exact ⟨_, _, rfl, RepVs_nil, RepVs_nil⟩
  have h := call_ok hT hmix n (.fn f [] []) (ds.map V.d) _ _ _ hn (dataG (stillOf W)) W (.func (.func f) #[] #[]) args hinv hu (RepVs_map_d.2 hrep)
  cases n with
  | zero => simp [call] at hn
  | succ n =>
    have hf : ∃ F, G f = some F := by
      simp only [call] at hn
      split at hn
      · cases hn
      · exact ⟨_, by assumption⟩
    obtain ⟨F, hF⟩ := hf
    obtain ⟨d, vs, ws, e, hv, hw, h1, h2⟩ := enter_ok hT hF (w := W) (us := args) hu
    cases e
    have hrun : ((do let d ← Deferred.ofValue (.func (.func f) #[] #[]) args; invoke d.target d.args : Sem Next)).run P W = .ok (.enter f args) W := by
      obtain ⟨fn, k1, k2, _, _, k3⟩ := hT f F hF
      have hb' : fn.body ≠ none := fun e => by rw [e] at k3; cases k3
      have hnm : fn.name ≠ "runtime.NumGoroutine" := fun e => by rw [e] at k2; simp at k2
      simp [Deferred.ofValue, invoke, callFunc, k1, hnm, hb', Sem.run]
    rw [hrun] at h
    refine ((callsIn_wide (n := 0)).1 h).mono fun e W' ⟨v, he, g', hv', hi, hs, _⟩ => ?_
    simp only [RepV, RepD] at hv'
    subst hv'
    exact ⟨he, hs.os, hs.output, hs.size, fun i hi => hs.same i hi not_live0⟩
theorem sameAt_old {W W' : World} (h : ∀ i, i < W.heap.size → W'.heap[i]? = W.heap[i]?) {p : MemPlace} (hp : p.block < W.heap.size) : W.sameAt W' p := by
  cases p with
  | cell b off =>
    simp only [World.sameAt, World.cell?]
    rw [h b hp]
  | map b => exact h b hp
theorem trodAll_old {H : Type} {enc : TypeId × Value → H} (hl : laidOutB P = true) {W W' : World} (h : ∀ i, i < W.heap.size → W'.heap[i]? = W.heap[i]?) {sp : Nat → Bool} : ∀ {ts : List TypeId} {vs : List Value} {ds : List (DataW H)} {ps : List MemPlace},
    (∀ t ∈ ts, P.readableRec t = true ∧ t < P.types.size) → (∀ p ∈ ps, p.block < W.heap.size) → (∀ p ∈ ps, sp p.block = true) → DataW.TrodAll enc P W 0 (fun _ => true) true ts vs ds ps → DataW.TrodAll enc P W' 0 sp true ts vs ds ps
  | [], vs, ds, ps, _, _, _, hr => by
    obtain ⟨rfl, rfl, rfl⟩ := trodAll_nil hr
    exact trodAll_mk0
  | t :: ts, vs, ds, ps, ht, hp, hs, hr => by
    obtain ⟨v, vs1, d, ds1, p, q, rfl, rfl, rfl, h1, h2⟩ := trodAll_cons hr
    obtain ⟨k1, k2⟩ := ht t (by simp)
    exact ⟨p, q, WideElems.Trod_stays hl k1 k2 h1 (fun x hx => sameAt_old h (hp x (List.mem_append_left _ hx))) (fun x hx => hs x (List.mem_append_left _ hx)), trodAll_old hl h (fun t ht' => ht t (List.mem_cons_of_mem _ ht')) (fun x hx => hp x (List.mem_append_right _ hx)) (fun x hx => hs x (List.mem_append_right _ hx)) h2, rfl⟩
theorem post_closed {tb : TypeId} {H : Type} {enc : TypeId × Value → H} {f : Func} {s : ChangeSpec} {apart handsOn : Bool} {W W' : World} {args : Array Value} {b : Bool} {ds gs : List (DataW H)} {before : List MemPlace}
    (hl : laidOutB P = true) (hts : ∀ t ∈ f.params.toList, P.readableRec t = true ∧ t < P.types.size) (hv : s.vars = [])
    (hres : f.resultTypes.toList = [tb]) (hrs : f.resultTypes.size = 1) (htb : P.underlying tb = some .bool)
    (hfn : s.fn H (ds ++ gs) = { results := [.lit (.bool b)], args := ds }) (hW : DataW.Whole enc P f.params.toList s.vars apart W args.toList ds gs before)
    (h : W'.os = W.os ∧ W'.output = W.output ∧ W.heap.size ≤ W'.heap.size ∧ ∀ i, i < W.heap.size → W'.heap[i]? = W.heap[i]?) :
    s.post enc P f apart true handsOn false W args (.bool b) W' := by
  obtain ⟨ho, hu, hsz, hh⟩ := h
  have hlt : ∀ p ∈ before, p.block < W.heap.size := fun p hp => hW.lt p hp
  have hW' := hW
  obtain ⟨p, q, hA, hV, rfl, hfz, hnd⟩ := hW
  rw [hv] at hV
  obtain ⟨hgs, hq⟩ : gs = [] ∧ q = [] := by
    cases gs with
    | nil => exact ⟨rfl, by simpa [DataW.TrodVars] using hV⟩
    | cons g gs => simp [DataW.TrodVars] at hV
  subst hq
  refine ⟨ds, gs, _, [], p, [], hW', ?_, ?_, ?_, ?_, fun h => by cases h⟩
  · rw [hres, hfn, hrs]
    exact trodAll_mk1 ⟨1, by simp [DataW.trod, htb, Value.cells]⟩
  · rw [hfn]
    exact trodAll_old hl hh hts (fun x hx => hlt x (by simp [hx])) (fun x hx => by simpa using hlt x (by simp [hx])) hA
  · rw [hv, hfn]
    rfl
  · refine ⟨ho, hu, fun i hi => ?_⟩
    rw [hh i hi]
    cases W.heap[i]? with
    | none => rfl
    | some o => cases o with
      | cells c t fr => exact ⟨rfl, rfl, rfl, fun _ _ => rfl⟩
      | map es c => exact .inr ⟨rfl, rfl⟩
      | _ => rfl
end Go.Lift
namespace Go.Lift
open Go
def nlS (v : V) : Prop := v = .nilS ∨ v = .emp ∨ v = .d (.sl [])
def PK (R : Nat → Nat → Prop) (es : Nat) (v : V) : Prop := nlS v ∨ ∃ k es' ag n, v = .arr k es' ag 0 n ∧ n ≤ 9223372036854775807 ∧ (0 < n → es' = es ∧ R k n)
def tcs (E : List V → Prop) : Nat → List V → Prop
  | 0, cs => cs = []
  | n + 1, cs => ∃ a r, cs = a ++ r ∧ E a ∧ tcs E n r
def E0 (cs : List V) : Prop := ∃ x, cs = [.d (.str x)]
def E1 (R : Nat → Nat → Prop) (cs : List V) : Prop := ∃ x b, cs = [.d (.str x), b] ∧ PK R 1 b
def E2 (R : Nat → Nat → Prop) (cs : List V) : Prop := ∃ x b c, cs = [.d (.str x), b, c] ∧ PK R 2 b ∧ PK R 2 c
def E3 (cs : List V) : Prop := ∃ x k i k' j, cs = [.d (.str x), .d (.int k i), .d (.int k' j)]
def Ar (s : List (Nat × Obj)) (S : Nat → Prop) (E : List V → Prop) (k n : Nat) : Prop := S k ∧ ∃ cs, sget s k = some (.cells cs) ∧ tcs E n cs
abbrev A0 (s : List (Nat × Obj)) (S : Nat → Prop) := Ar s S E0
abbrev A1 (s : List (Nat × Obj)) (S : Nat → Prop) := Ar s S (E1 (A0 s S))
abbrev A2 (s : List (Nat × Obj)) (S : Nat → Prop) := Ar s S (E2 (A1 s S))
abbrev A3 (s : List (Nat × Obj)) (S : Nat → Prop) := Ar s S E3
def Sto (s0 : List (Nat × Obj)) (S : Nat → Prop) (s : List (Nat × Obj)) : Prop :=
  (∀ k n, A0 s0 S k n → Ar s S E0 k n) ∧ (∀ k n, A1 s0 S k n → Ar s S (E1 (A0 s0 S)) k n) ∧ (∀ k n, A2 s0 S k n → Ar s S (E2 (A1 s0 S)) k n) ∧ (∀ k n, A3 s0 S k n → Ar s S E3 k n)
theorem Sto.self {s : List (Nat × Obj)} {S : Nat → Prop} : Sto s S s := ⟨fun _ _ h => h, fun _ _ h => h, fun _ _ h => h, fun _ _ h => h⟩
theorem Ar.frame {s s' : List (Nat × Obj)} {S : Nat → Prop} {E : List V → Prop} (hs : ∀ j, S j → sget s' j = sget s j) {k n : Nat} (h : Ar s S E k n) : Ar s' S E k n := ⟨h.1, by rw [hs k h.1]; exact h.2⟩
theorem Sto.frame {s0 s s' : List (Nat × Obj)} {S : Nat → Prop} (hs : ∀ j, S j → sget s' j = sget s j) (h : Sto s0 S s) : Sto s0 S s' :=
  ⟨fun k n a => (h.1 k n a).frame hs, fun k n a => (h.2.1 k n a).frame hs, fun k n a => (h.2.2.1 k n a).frame hs, fun k n a => (h.2.2.2 k n a).frame hs⟩
theorem tcs_len {E : List V → Prop} {es : Nat} (hE : ∀ a, E a → a.length = es) : ∀ {n : Nat} {cs : List V}, tcs E n cs → cs.length = n * es
  | 0, cs, h => by rw [show cs = [] from h]; simp
  | n + 1, cs, ⟨a, r, h1, h2, h3⟩ => by rw [h1, List.length_append, hE a h2, tcs_len hE h3, Nat.add_mul, Nat.one_mul, Nat.add_comm]
theorem tcs_at {E : List V → Prop} {es : Nat} (hE : ∀ a, E a → a.length = es) : ∀ {n : Nat} {cs : List V}, tcs E n cs → ∀ {i : Nat}, i < n → E ((cs.drop (i * es)).take es) ∧ i * es + es ≤ cs.length
  | 0, _, _, i, hi => by omega
  | n + 1, cs, ⟨a, r, h1, h2, h3⟩, 0, _ => by
    have := hE a h2
    subst this
    rw [h1, Nat.zero_mul, List.drop_zero, List.take_left']
    · exact ⟨h2, by simp⟩
    · rfl
  | n + 1, cs, ⟨a, r, h1, h2, h3⟩, i + 1, hi => by
    have hl := hE a h2
    have h4 := tcs_at hE h3 (i := i) (by omega)
    have e : (i + 1) * es = a.length + i * es := by rw [hl, Nat.add_mul, Nat.one_mul, Nat.add_comm]
    rw [h1, e, List.drop_append, List.drop_eq_nil_of_le (by omega), List.nil_append, Nat.add_sub_cancel_left, List.length_append]
    exact ⟨h4.1, by omega⟩
theorem tcs_zero {E : List V → Prop} {z : List V} (h : E z) : ∀ n, tcs E n (List.replicate n z).flatten
  | 0 => rfl
  | n + 1 => ⟨z, (List.replicate n z).flatten, by simp [List.replicate_succ], h, tcs_zero h n⟩
theorem E0_len {a : List V} (h : E0 a) : a.length = 1 := by obtain ⟨x, rfl⟩ := h; rfl
theorem E1_len {R : Nat → Nat → Prop} {a : List V} (h : E1 R a) : a.length = 2 := by obtain ⟨x, b, rfl, _⟩ := h; rfl
theorem E2_len {R : Nat → Nat → Prop} {a : List V} (h : E2 R a) : a.length = 3 := by obtain ⟨x, b, c, rfl, _⟩ := h; rfl
theorem E3_len {a : List V} (h : E3 a) : a.length = 3 := by obtain ⟨x, k, i, k', j, rfl⟩ := h; rfl
theorem PK_str {R : Nat → Nat → Prop} {es : Nat} {x : List Nat} (h : PK R es (.d (.str x))) : False := by
  rcases h with (h | h | h) | ⟨k, e, ag, n, h, _⟩ <;> cases h
theorem PK_int {R : Nat → Nat → Prop} {es : Nat} {k : IntKind} {x : Int} (h : PK R es (.d (.int k x))) : False := by
  rcases h with (h | h | h) | ⟨k, e, ag, n, h, _⟩ <;> cases h
theorem no01 {R : Nat → Nat → Prop} {n m : Nat} {cs : List V} (hn : 0 < n) (hm : 0 < m) (h : tcs E0 n cs) (h' : tcs (E1 R) m cs) : False := by
  obtain ⟨n, rfl⟩ : ∃ j, n = j + 1 := ⟨n - 1, by omega⟩
  obtain ⟨m, rfl⟩ : ∃ j, m = j + 1 := ⟨m - 1, by omega⟩
  obtain ⟨_, r, h1, ⟨x, rfl⟩, h2⟩ := h
  obtain ⟨_, r', h3, ⟨y, b, rfl, hb⟩, h4⟩ := h'
  rw [h3] at h1
  cases n with
  | zero => rw [show r = [] from h2] at h1; simp at h1
  | succ n =>
    obtain ⟨_, q, rfl, ⟨z, rfl⟩, _⟩ := h2
    simp at h1
    rw [h1.2.1] at hb
    exact PK_str hb
theorem no02 {R : Nat → Nat → Prop} {n m : Nat} {cs : List V} (hn : 0 < n) (hm : 0 < m) (h : tcs E0 n cs) (h' : tcs (E2 R) m cs) : False := by
  obtain ⟨n, rfl⟩ : ∃ j, n = j + 1 := ⟨n - 1, by omega⟩
  obtain ⟨m, rfl⟩ : ∃ j, m = j + 1 := ⟨m - 1, by omega⟩
  obtain ⟨_, r, h1, ⟨x, rfl⟩, h2⟩ := h
  obtain ⟨_, r', h3, ⟨y, b, c, rfl, hb, _⟩, h4⟩ := h'
  rw [h3] at h1
  cases n with
  | zero => rw [show r = [] from h2] at h1; simp at h1
  | succ n =>
    obtain ⟨_, q, rfl, ⟨z, rfl⟩, _⟩ := h2
    simp at h1
    rw [h1.2.1] at hb
    exact PK_str hb
theorem no03 {n m : Nat} {cs : List V} (hn : 0 < n) (hm : 0 < m) (h : tcs E0 n cs) (h' : tcs E3 m cs) : False := by
  obtain ⟨n, rfl⟩ : ∃ j, n = j + 1 := ⟨n - 1, by omega⟩
  obtain ⟨m, rfl⟩ : ∃ j, m = j + 1 := ⟨m - 1, by omega⟩
  obtain ⟨_, r, h1, ⟨x, rfl⟩, h2⟩ := h
  obtain ⟨_, r', h3, ⟨y, k, i, k', j, rfl⟩, h4⟩ := h'
  rw [h3] at h1
  cases n with
  | zero => rw [show r = [] from h2] at h1; simp at h1
  | succ n =>
    obtain ⟨_, q, rfl, ⟨z, rfl⟩, _⟩ := h2
    simp at h1
theorem no12 {R R' : Nat → Nat → Prop} {n m : Nat} {cs : List V} (hn : 0 < n) (hm : 0 < m) (h : tcs (E1 R) n cs) (h' : tcs (E2 R') m cs) : False := by
  obtain ⟨n, rfl⟩ : ∃ j, n = j + 1 := ⟨n - 1, by omega⟩
  obtain ⟨m, rfl⟩ : ∃ j, m = j + 1 := ⟨m - 1, by omega⟩
  obtain ⟨_, r, h1, ⟨x, b, rfl, hb⟩, h2⟩ := h
  obtain ⟨_, r', h3, ⟨y, b', c', rfl, hb', hc'⟩, h4⟩ := h'
  rw [h3] at h1
  cases n with
  | zero => rw [show r = [] from h2] at h1; simp at h1
  | succ n =>
    obtain ⟨_, q, rfl, ⟨z, b2, rfl, _⟩, _⟩ := h2
    simp at h1
    rw [h1.2.2.1] at hc'
    exact PK_str hc'
theorem no13 {R : Nat → Nat → Prop} {n m : Nat} {cs : List V} (hn : 0 < n) (hm : 0 < m) (h : tcs (E1 R) n cs) (h' : tcs E3 m cs) : False := by
  obtain ⟨n, rfl⟩ : ∃ j, n = j + 1 := ⟨n - 1, by omega⟩
  obtain ⟨m, rfl⟩ : ∃ j, m = j + 1 := ⟨m - 1, by omega⟩
  obtain ⟨_, r, h1, ⟨x, b, rfl, hb⟩, h2⟩ := h
  obtain ⟨_, r', h3, ⟨y, k, i, k', j, rfl⟩, h4⟩ := h'
  rw [h3] at h1
  simp at h1
  rw [← h1.2.1] at hb
  exact PK_int hb
theorem no23 {R : Nat → Nat → Prop} {n m : Nat} {cs : List V} (hn : 0 < n) (hm : 0 < m) (h : tcs (E2 R) n cs) (h' : tcs E3 m cs) : False := by
  obtain ⟨n, rfl⟩ : ∃ j, n = j + 1 := ⟨n - 1, by omega⟩
  obtain ⟨m, rfl⟩ : ∃ j, m = j + 1 := ⟨m - 1, by omega⟩
  obtain ⟨_, r, h1, ⟨x, b, c, rfl, hb, _⟩, h2⟩ := h
  obtain ⟨_, r', h3, ⟨y, k, i, k', j, rfl⟩, h4⟩ := h'
  rw [h3] at h1
  simp at h1
  rw [← h1.2.1] at hb
  exact PK_int hb
theorem Ar.cs {s : List (Nat × Obj)} {S : Nat → Prop} {E E' : List V → Prop} {k n m : Nat} (h : Ar s S E k n) (h' : Ar s S E' k m) : ∃ cs, tcs E n cs ∧ tcs E' m cs := by
  obtain ⟨_, cs, h1, h2⟩ := h
  obtain ⟨_, cs', h3, h4⟩ := h'
  rw [h1] at h3
  cases h3
  exact ⟨cs, h2, h4⟩
theorem Ar.same {s : List (Nat × Obj)} {S : Nat → Prop} {E : List V → Prop} {es : Nat} (h0 : 0 < es) (hE : ∀ a, E a → a.length = es) {k n m : Nat} (h : Ar s S E k n) (h' : Ar s S E k m) : n = m := by
  obtain ⟨cs, a, b⟩ := h.cs h'
  exact Nat.eq_of_mul_eq_mul_right h0 ((tcs_len hE a).symm.trans (tcs_len hE b))
theorem Ar.zero {s0 s : List (Nat × Obj)} {S : Nat → Prop} {E : List V → Prop} {z : List V} {k n : Nat} (hk : S k) (hz : E z) (ho : (sget s k).isSome = true) : Ar (sset s k (.cells (List.replicate n z).flatten)) S E k n :=
  ⟨hk, _, sget_sset_is ho, tcs_zero hz n⟩
theorem Ar.keep {s : List (Nat × Obj)} {S : Nat → Prop} {E : List V → Prop} {k j n : Nat} {o : Obj} (h : Ar s S E j n) (hj : k ≠ j) : Ar (sset s k o) S E j n :=
  ⟨h.1, by rw [sget_sset_nn hj]; exact h.2⟩
theorem nil_PK {R : Nat → Nat → Prop} {es : Nat} : PK R es .nilS := .inl (.inl rfl)
theorem z0 : E0 [.d (.str [])] := ⟨_, rfl⟩
theorem z1 {R : Nat → Nat → Prop} : E1 R [.d (.str []), .nilS] := ⟨_, _, rfl, nil_PK⟩
theorem z3 : E3 [.d (.str []), .d (.int .i64 0), .d (.int .i64 0)] := ⟨_, _, _, _, _, rfl⟩
theorem Ar.any {s : List (Nat × Obj)} {S : Nat → Prop} {E : List V → Prop} {k : Nat} {cs : List V} (hk : S k) (ho : sget s k = some (.cells cs)) (hc : cs = []) : Ar s S E k 0 := ⟨hk, cs, ho, hc⟩
theorem Sto.clear {s0 s : List (Nat × Obj)} {S : Nat → Prop} {E : List V → Prop} {z : List V} {k n : Nat} (hS : Sto s0 S s) (hn : 0 < n) (ha : Ar s0 S E k n) (hz : E z) (ho : (sget s k).isSome = true)
    (d0 : ∀ m, A0 s0 S k m → 0 < m ∧ (0 < m → E = E0 ∧ m = n)) (d1 : ∀ m, A1 s0 S k m → 0 < m ∧ (0 < m → E = E1 (A0 s0 S) ∧ m = n)) (d2 : ∀ m, A2 s0 S k m → 0 < m ∧ (0 < m → E = E2 (A1 s0 S) ∧ m = n)) (d3 : ∀ m, A3 s0 S k m → 0 < m ∧ (0 < m → E = E3 ∧ m = n)) :
    Sto s0 S (sset s k (.cells (List.replicate n z).flatten)) := by
  refine ⟨fun j m h => ?_, fun j m h => ?_, fun j m h => ?_, fun j m h => ?_⟩
  · by_cases hj : k = j
    · subst hj
      obtain ⟨rfl, rfl⟩ := (d0 m h).2 (d0 m h).1
      exact Ar.zero (s0 := s0) ha.1 hz ho
    · exact (hS.1 j m h).keep hj
  · by_cases hj : k = j
    · subst hj
      obtain ⟨rfl, rfl⟩ := (d1 m h).2 (d1 m h).1
      exact Ar.zero (s0 := s0) ha.1 hz ho
    · exact (hS.2.1 j m h).keep hj
  · by_cases hj : k = j
    · subst hj
      obtain ⟨rfl, rfl⟩ := (d2 m h).2 (d2 m h).1
      exact Ar.zero (s0 := s0) ha.1 hz ho
    · exact (hS.2.2.1 j m h).keep hj
  · by_cases hj : k = j
    · subst hj
      obtain ⟨rfl, rfl⟩ := (d3 m h).2 (d3 m h).1
      exact Ar.zero (s0 := s0) ha.1 hz ho
    · exact (hS.2.2.2 j m h).keep hj
theorem Ar.pos {s : List (Nat × Obj)} {S : Nat → Prop} {E E' : List V → Prop} {es es' : Nat} (h0 : 0 < es) (hE : ∀ a, E a → a.length = es) (hE' : ∀ a, E' a → a.length = es') {k n m : Nat} (hn : 0 < n) (h : Ar s S E k n) (h' : Ar s S E' k m) : 0 < m := by
  obtain ⟨cs, a, b⟩ := h.cs h'
  have l1 := tcs_len hE a
  have l2 := tcs_len hE' b
  have : 0 < n * es := Nat.mul_pos hn h0
  cases m with
  | zero => simp at l2; rw [l2] at l1; simp at l1; omega
  | succ m => omega
section
variable {s0 s : List (Nat × Obj)} {S : Nat → Prop} {k n : Nat}
theorem Ar.no {E E' : List V → Prop} {m : Nat} {P : Prop} (h : Ar s0 S E k n) (h' : Ar s0 S E' k m) (no : ∀ cs, tcs E n cs → tcs E' m cs → False) : P := by
  obtain ⟨cs, a, b⟩ := h.cs h'
  exact (no cs a b).elim
theorem Sto.clear0 (hS : Sto s0 S s) (hn : 0 < n) (ha : A0 s0 S k n) (ho : (sget s k).isSome = true) : Sto s0 S (sset s k (.cells (List.replicate n [.d (.str [])]).flatten)) := by
  refine hS.clear hn ha z0 ho (fun m h => ?_) (fun m h => ?_) (fun m h => ?_) (fun m h => ?_)
  · exact ⟨ha.pos (by decide) (fun _ => E0_len) (fun _ => E0_len) hn h, fun _ => ⟨rfl, h.same (by decide) (fun _ => E0_len) ha⟩⟩
  · have hm := ha.pos (by decide) (fun _ => E0_len) (fun _ => E1_len) hn h
    exact ha.no h fun cs a b => no01 hn hm a b
  · have hm := ha.pos (by decide) (fun _ => E0_len) (fun _ => E2_len) hn h
    exact ha.no h fun cs a b => no02 hn hm a b
  · have hm := ha.pos (by decide) (fun _ => E0_len) (fun _ => E3_len) hn h
    exact ha.no h fun cs a b => no03 hn hm a b
theorem Sto.clear1 (hS : Sto s0 S s) (hn : 0 < n) (ha : A1 s0 S k n) (ho : (sget s k).isSome = true) : Sto s0 S (sset s k (.cells (List.replicate n [.d (.str []), .nilS]).flatten)) := by
  refine hS.clear hn ha z1 ho (fun m h => ?_) (fun m h => ?_) (fun m h => ?_) (fun m h => ?_)
  · have hm := ha.pos (by decide) (fun _ => E1_len) (fun _ => E0_len) hn h
    exact ha.no h fun cs a b => no01 hm hn b a
  · exact ⟨ha.pos (by decide) (fun _ => E1_len) (fun _ => E1_len) hn h, fun _ => ⟨rfl, h.same (by decide) (fun _ => E1_len) ha⟩⟩
  · have hm := ha.pos (by decide) (fun _ => E1_len) (fun _ => E2_len) hn h
    exact ha.no h fun cs a b => no12 hn hm a b
  · have hm := ha.pos (by decide) (fun _ => E1_len) (fun _ => E3_len) hn h
    exact ha.no h fun cs a b => no13 hn hm a b
theorem Sto.clear3 (hS : Sto s0 S s) (hn : 0 < n) (ha : A3 s0 S k n) (ho : (sget s k).isSome = true) : Sto s0 S (sset s k (.cells (List.replicate n [.d (.str []), .d (.int .i64 0), .d (.int .i64 0)]).flatten)) := by
  refine hS.clear hn ha z3 ho (fun m h => ?_) (fun m h => ?_) (fun m h => ?_) (fun m h => ?_)
  · have hm := ha.pos (by decide) (fun _ => E3_len) (fun _ => E0_len) hn h
    exact ha.no h fun cs a b => no03 hm hn b a
  · have hm := ha.pos (by decide) (fun _ => E3_len) (fun _ => E1_len) hn h
    exact ha.no h fun cs a b => no13 hm hn b a
  · have hm := ha.pos (by decide) (fun _ => E3_len) (fun _ => E2_len) hn h
    exact ha.no h fun cs a b => no23 hm hn b a
  · exact ⟨ha.pos (by decide) (fun _ => E3_len) (fun _ => E3_len) hn h, fun _ => ⟨rfl, h.same (by decide) (fun _ => E3_len) ha⟩⟩
end
section
variable {s0 s : List (Nat × Obj)} {S : Nat → Prop} {nx lw : Nat} {v : V} {K : V → St → Prop} {k : Dm K}
theorem splice_all {cs ys : List V} (h : cs.length = ys.length) : splice cs 0 ys = ys := by
  unfold splice
  rw [List.take_zero, List.nil_append, Nat.zero_add, List.drop_eq_nil_of_le (by omega), List.append_nil]
theorem clear_gen {R : Nat → Nat → Prop} {es : Nat} {z : List V} {E : List V → Prop} (hv : PK R es v) (hE : ∀ a, E a → a.length = es) (hz : z.length = es) (hzc : z.all V.isCell = true)
    (hA : ∀ k n, R k n → Ar s S E k n) (hc : ∀ k n, 0 < n → R k n → (sget s k).isSome = true → Sto s0 S (sset s k (.cells (List.replicate n z).flatten))) (hS : Sto s0 S s)
    (h : ∀ s' lw', Sto s0 S s' → (∀ q, ¬ S q → sget s' q = sget s q) → K .undef { s := s', next := nx, low := lw' }) :
    PV (withU (opClearS { s := s, next := nx, low := lw } es z v)) K k := by
  rcases hv with (rfl | rfl | rfl) | ⟨j, es', ag, n, rfl, hb, hn⟩
  · exact pv_some.symm ▸ h s lw hS fun _ _ => rfl
  · exact pv_some.symm ▸ h s lw hS fun _ _ => rfl
  · exact pv_some.symm ▸ h s lw hS fun _ _ => rfl
  · by_cases h0 : n = 0
    · simp only [opClearS, h0, if_true, withU]
      exact pv_some.symm ▸ h s lw hS fun _ _ => rfl
    · obtain ⟨rfl, hR⟩ := hn (by omega)
      obtain ⟨hj, cs, ho, ht⟩ := hA j n hR
      have hl := tcs_len hE ht
      simp only [opClearS, h0, if_false, St.get, ho, Nat.zero_add, hl, hz, hzc, Nat.le_refl, and_self, if_true, withU, St.set]
      rw [splice_all (by rw [hl, flat_len hz])]
      exact pv_some.symm ▸ h _ _ (hc j n (by omega) hR (by rw [ho]; rfl)) fun q hq => sget_sset_nn (fun e => hq (e ▸ hj))
theorem pv_clear0 (hS : Sto s0 S s) (hv : PK (A0 s0 S) 1 v) (h : ∀ s' lw', Sto s0 S s' → (∀ q, ¬ S q → sget s' q = sget s q) → K .undef { s := s', next := nx, low := lw' }) :
    PV (withU (opClearS { s := s, next := nx, low := lw } 1 [.d (.str [])] v)) K k :=
  clear_gen hv (fun _ => E0_len) rfl rfl hS.1 (fun _ _ hn ha ho => hS.clear0 hn ha ho) hS h
theorem pv_clear1 (hS : Sto s0 S s) (hv : PK (A1 s0 S) 2 v) (h : ∀ s' lw', Sto s0 S s' → (∀ q, ¬ S q → sget s' q = sget s q) → K .undef { s := s', next := nx, low := lw' }) :
    PV (withU (opClearS { s := s, next := nx, low := lw } 2 [.d (.str []), .nilS] v)) K k :=
  clear_gen hv (fun _ => E1_len) rfl rfl hS.2.1 (fun _ _ hn ha ho => hS.clear1 hn ha ho) hS h
theorem pv_clear3 (hS : Sto s0 S s) (hv : PK (A3 s0 S) 3 v) (h : ∀ s' lw', Sto s0 S s' → (∀ q, ¬ S q → sget s' q = sget s q) → K .undef { s := s', next := nx, low := lw' }) :
    PV (withU (opClearS { s := s, next := nx, low := lw } 3 [.d (.str []), .d (.int .i64 0), .d (.int .i64 0)] v)) K k :=
  clear_gen hv (fun _ => E3_len) rfl rfl hS.2.2.2 (fun _ _ hn ha ho => hS.clear3 hn ha ho) hS h
end
theorem PK.len {R : Nat → Nat → Prop} {es : Nat} {v : V} (h : PK R es v) : ∃ n, opLen false v = some n ∧ n ≤ 9223372036854775807 ∧ (0 < n → ∃ k ag, v = .arr k es ag 0 n ∧ R k n) := by
  rcases h with (rfl | rfl | rfl) | ⟨k, es', ag, n, rfl, hb, hn⟩
  · exact ⟨0, rfl, by omega, fun h => by omega⟩
  · exact ⟨0, rfl, by omega, fun h => by omega⟩
  · exact ⟨0, rfl, by omega, fun h => by omega⟩
  · exact ⟨n, rfl, hb, fun h => ⟨k, ag, by rw [(hn h).1], (hn h).2⟩⟩
theorem PK.cell {R : Nat → Nat → Prop} {es : Nat} {v : V} (h : PK R es v) : v.isCell = true ∧ cellsV v = [v] ∧ V.beq v v = true := by
  rcases h with (rfl | rfl | rfl) | ⟨k, es', ag, n, rfl, hb, hn⟩
  · exact ⟨rfl, rfl, V_beq_nilS⟩
  · exact ⟨rfl, rfl, by simp [V.beq]⟩
  · exact ⟨rfl, rfl, by simp [V.beq, D.beq, D.beqL]⟩
  · exact ⟨rfl, rfl, V_beq_arr⟩
theorem PK.at {R : Nat → Nat → Prop} {E : List V → Prop} {es n i : Nat} {v : V} {s : List (Nat × Obj)} {S : Nat → Prop} (hv : PK R es v) (hE : ∀ a, E a → a.length = es) (hA : ∀ k n, R k n → Ar s S E k n) (hn : opLen false v = some n) (hi : i < n) :
    ∃ k cs a, S k ∧ opIaddrS es v (i : Int) = some (.ptr k (i * es)) ∧ sget s k = some (.cells cs) ∧ i * es + es ≤ cs.length ∧ (cs.drop (i * es)).take es = a ∧ E a := by
  obtain ⟨m, h1, _, h2⟩ := hv.len
  rw [h1] at hn
  cases hn
  obtain ⟨k, ag, rfl, hR⟩ := h2 (by omega)
  obtain ⟨hk, cs, ho, ht⟩ := hA k _ hR
  obtain ⟨h3, h4⟩ := tcs_at hE ht hi
  refine ⟨k, cs, _, hk, ?_, ho, h4, rfl, h3⟩
  simp only [opIaddrS]
  rw [if_pos ⟨by omega, by omega, trivial⟩]
  simp
theorem cvs_split {R : V → D → Prop} : ∀ {xs ys : List D} {cs : List V}, CVs R cs (xs ++ ys) → ∃ a r, cs = a ++ r ∧ CVs R a xs ∧ CVs R r ys
  | [], _, cs, h => ⟨[], cs, rfl, trivial, h⟩
  | _ :: _, _, [], h => h.elim
  | x :: xs, ys, c :: cs, h => by
    obtain ⟨a, r, h1, h2, h3⟩ := cvs_split (xs := xs) (ys := ys) h.2
    exact ⟨c :: a, r, by rw [h1]; rfl, ⟨h.1, h2⟩, h3⟩
theorem tcs_of {α : Type} {f : α → D} {R : V → D → Prop} {E : List V → Prop} : ∀ {l : List α} {cs : List V}, (∀ a ∈ l, ∀ cs, CVs R cs (cellsD (f a)) → E cs) → CVs R cs ((l.map f).flatMap cellsD) → tcs E l.length cs
  | [], [], _, _ => rfl
  | [], _ :: _, _, hh => hh.elim
  | x :: l, cs, h, hh => by
    obtain ⟨a, r, h1, h2, h3⟩ := cvs_split (xs := cellsD (f x)) hh
    exact ⟨a, r, h1, h x List.mem_cons_self a h2, tcs_of (fun b hb => h b (List.mem_cons_of_mem _ hb)) h3⟩
theorem pk_of {α : Type} {f : α → D} {s : List (Nat × Obj)} {S : Nat → Prop} {n es : Nat} {E : List V → Prop} (hes : ∀ a es' ag, Elt es' ag (f a) → es' = es) {v : V} {l : List α} (hl : l.length ≤ 9223372036854775807) (h : ∀ a ∈ l, ∀ cs, CVs (CQ s true S n) cs (cellsD (f a)) → E cs) (hv : CQ s true S (n + 1) v (.sl (l.map f))) : PK (Ar s S E) es v := by
  rcases hv with ⟨rfl, h1, h2⟩ | ⟨h1, _⟩ | ⟨k, es', ag, cs, ds, rfl, h2, h3, h5, h6, h7, h8⟩
  · refine .inl (.inr (.inr ?_))
    have := h2 rfl
    cases l with
    | nil => rfl
    | cons a l => cases this
  · exact .inl (h1.elim .inl fun h => .inr (.inl h))
  · cases h2
    refine .inr ⟨k, es', ag, _, rfl, by rw [List.length_map]; exact hl, fun hn => ?_⟩
    rw [List.length_map] at hn ⊢
    refine ⟨?_, h3, cs, h5, tcs_of h h8⟩
    cases l with
    | nil => simp at hn
    | cons a l => exact hes a _ _ (h7 _ List.mem_cons_self)
theorem cq_str {s : List (Nat × Obj)} {lv : Bool} {S : Nat → Prop} {n : Nat} {v : V} {x : List Nat} (h : CQ s lv S n v (.str x)) : v = .d (.str x) := by
  cases n with
  | zero => exact h.1
  | succ n =>
    rcases h with h | ⟨_, h⟩ | ⟨k, es, ag, cs, ds, _, h, _⟩
    · exact h.1
    · cases h
    · cases h
theorem cq_int {s : List (Nat × Obj)} {lv : Bool} {S : Nat → Prop} {n : Nat} {v : V} {k : IntKind} {x : Int} (h : CQ s lv S n v (.int k x)) : v = .d (.int k x) := by
  cases n with
  | zero => exact h.1
  | succ n =>
    rcases h with h | ⟨_, h⟩ | ⟨k, es, ag, cs, ds, _, h, _⟩
    · exact h.1
    · cases h
    · cases h
theorem pk_strs {s : List (Nat × Obj)} {S : Nat → Prop} {n : Nat} {v : V} {l : List (List Nat)} (hl : l.length ≤ 9223372036854775807) (h : CQ s true S (n + 1) v (.sl (l.map D.str))) : PK (A0 s S) 1 v :=
  pk_of (fun a es' ag h => by
    rcases h with ⟨_, cs, h, _⟩ | ⟨_, h, _⟩
    · cases h
    · exact h) hl (fun a _ cs h => by
    match cs, h with
    | [c], h => rw [cq_str h.1]; exact ⟨_, rfl⟩
    | [], h => exact h.elim
    | _ :: _ :: _, h => exact h.2.elim) h
end Go.Lift
namespace Go.Lift
open Go
abbrev Ent := Nat × List D × List D
def St.nul : St := { s := [], next := 0, low := 0 }
def Good (G : Nat → Option IFun) (e : Ent) : Prop := ∃ F, G e.1 = some F ∧ F.pure = true ∧ F.nil2 = false ∧ callW G (.fn e.1 [] []) (e.2.1.map V.d) St.nul = some (tupV (e.2.2.map V.d), St.nul)
def lookD : List Ent → Nat → List D → Option (List D)
  | [], _, _ => none
  | (f', ds', rs) :: T, f, ds => cond (Nat.beq f f') (cond (D.beqL ds ds') (some rs) (lookD T f ds)) (lookD T f ds)
def hasF : List Ent → Nat → Bool
  | [], _ => false
  | (f', _, _) :: T, f => cond (Nat.beq f f') true (hasF T f)
def memoK (T : List Ent) : Known := fun f => cond (hasF T f) (some fun first args cap st => match first, cap with
  | [], [] => match toDAll st.s 0 args with
    | none => none
    | some ds => match lookD T f ds with
      | none => none
      | some rs => cond (rs.all D.flat) (some (tupV (rs.map V.d), st)) (match frzL (frz snapDepth) st args with
        | none => none
        | some (ys, st2) => match toDAll [] 0 ys with
          | none => none
          | some es => cond (D.beqL es ds) (some (tupV (rs.map V.d), st2)) none)
  | _, _ => none) none
theorem lookD_mem : ∀ {T : List Ent} {f : Nat} {ds rs : List D}, lookD T f ds = some rs → (f, ds, rs) ∈ T
  | [], _, _, _, h => by cases h
  | (f', ds', rs') :: T, f, ds, rs, h => by
    simp only [lookD] at h
    cases h1 : Nat.beq f f' with
    | false => rw [h1] at h; exact List.mem_cons_of_mem _ (lookD_mem h)
    | true =>
      rw [h1] at h
      cases h2 : D.beqL ds ds' with
      | false => rw [h2] at h; exact List.mem_cons_of_mem _ (lookD_mem h)
      | true =>
        rw [h2] at h
        cases h
        rw [Nat.eq_of_beq_eq_true h1, D.eq_of_beqL h2]
        exact List.mem_cons_self
theorem tupV_inj : ∀ {rs rs' : List D}, tupV (rs'.map V.d) = tupV (rs.map V.d) → rs' = rs := by
  intro rs rs' e
  match rs', rs, e with
  | [], [], _ => rfl
  | [a], [b], e => simp [tupV] at e; rw [e]
  | [], [b], e => simp [tupV] at e
  | [], b :: c :: r, e => simp [tupV] at e
  | [a], [], e => simp [tupV] at e
  | [a], b :: c :: r, e => simp [tupV] at e
  | a :: b :: r, [], e => simp [tupV] at e
  | a :: b :: r, [c], e => simp [tupV] at e
  | a :: b :: r, c :: d :: q, e =>
    simp only [List.map_cons, tupV, V.tup.injEq, List.cons.injEq, V.d.injEq] at e
    obtain ⟨rfl, rfl, e⟩ := e
    congr 2
    exact (List.map_inj_right (by intro x y h; cases h; rfl)).1 e
theorem pure_any {G : Nat → Option IFun} {f : Nat} {F : IFun} (hG : G f = some F) (hp : F.pure = true) (hn : F.nil2 = false) {ds rs : List D} {st : St}
    (h : callW G (.fn f [] []) (ds.map V.d) St.nul = some (tupV (rs.map V.d), St.nul)) :
    callW G (.fn f [] []) (ds.map V.d) st = some (tupV (rs.map V.d), st) := by
  unfold St.nul at h
  rw [callW_eq] at h ⊢
  simp only [callStep, hG, hp, hn, List.nil_append, List.append_nil, Bool.false_and, Bool.false_eq_true, if_false, if_true, toDAll_map] at h ⊢
  cases hb : bodyW G F (ds.map V.d) { s := [], next := 0, low := 0 } with
  | none => rw [hb] at h; simp at h
  | some p =>
    obtain ⟨vs, st1⟩ := p
    rw [hb] at h
    simp only at h ⊢
    cases hr : toDAll st1.s 0 vs with
    | none => rw [hr] at h; simp at h
    | some rs' =>
      rw [hr] at h
      simp only [frzL_map, toDAll_map, D.beqL_refl, if_true, ite_self, Option.some.injEq, Prod.mk.injEq, and_true] at h ⊢
      exact h
theorem live_any {G : Nat → Option IFun} {f : Nat} {F : IFun} (hG : G f = some F) (hp : F.pure = true) (hn : F.nil2 = false) {args ys : List V} {ds rs es : List D} {st st2 : St} (ha : toDAll st.s 0 args = some ds) (hfl : rs.all D.flat = false)
    (hz : frzL (frz snapDepth) st args = some (ys, st2)) (he : toDAll [] 0 ys = some es) (hb : D.beqL es ds = true) (h : callW G (.fn f [] []) (ds.map V.d) St.nul = some (tupV (rs.map V.d), St.nul)) :
    callW G (.fn f [] []) args st = some (tupV (rs.map V.d), st2) := by
  unfold St.nul at h
  rw [callW_eq] at h ⊢
  simp only [callStep, hG, hp, hn, List.nil_append, List.append_nil, Bool.false_and, Bool.false_eq_true, if_false, if_true, toDAll_map, ha] at h ⊢
  cases hb' : bodyW G F (ds.map V.d) { s := [], next := 0, low := 0 } with
  | none => rw [hb'] at h; simp at h
  | some p =>
    obtain ⟨vs, st1⟩ := p
    rw [hb'] at h
    simp only at h ⊢
    cases hr : toDAll st1.s 0 vs with
    | none => rw [hr] at h; simp at h
    | some rs' =>
      rw [hr] at h
      have ht : toDAll [] 0 (ds.map V.d) = some ds := toDAll_map ds
      simp only [frzL_map, ht, D.beqL_refl, if_true, ite_self, Option.some.injEq, Prod.mk.injEq, and_true] at h
      have e : rs' = rs := tupV_inj h
      rw [e]
      simp only [hfl, Bool.false_eq_true, if_false, hz, he, hb, if_true]
theorem memo_ok {G : Nat → Option IFun} {T : List Ent} (hT : ∀ e ∈ T, Good G e) : ∀ f g first args cap st r, memoK T f = some g → g first args cap st = some r → callW G (.fn f first cap) args st = some r := by
  intro f g first args cap st r hg h
  unfold memoK at hg
  cases hf : hasF T f with
  | false => rw [hf] at hg; cases hg
  | true =>
    rw [hf] at hg
    cases hg
    match first, cap with
    | [], [] =>
      simp only at h
      cases hd : toDAll st.s 0 args with
      | none => rw [hd] at h; cases h
      | some ds =>
        rw [hd] at h
        simp only at h
        cases hl : lookD T f ds with
        | none => rw [hl] at h; cases h
        | some rs =>
          rw [hl] at h
          simp only at h
          obtain ⟨F, h1, h2, h3, h4⟩ := hT _ (lookD_mem hl)
          cases hfl : rs.all D.flat with
          | true =>
            rw [hfl] at h
            cases h
            exact live_pure h1 h2 h3 hd hfl h4
          | false =>
            rw [hfl] at h
            simp only [cond_false] at h
            cases hz : frzL (frz snapDepth) st args with
            | none => rw [hz] at h; cases h
            | some p =>
              obtain ⟨ys, st2⟩ := p
              rw [hz] at h
              simp only at h
              cases he : toDAll [] 0 ys with
              | none => rw [he] at h; cases h
              | some es =>
                rw [he] at h
                simp only at h
                cases hb : D.beqL es ds with
                | false => rw [hb] at h; cases h
                | true =>
                  rw [hb] at h
                  cases h
                  exact live_any h1 h2 h3 hd hfl hz he hb h4
    | _ :: _, _ => cases h
    | [], _ :: _ => cases h
theorem good_run {G : Nat → Option IFun} {T : List Ent} (hT : ∀ e ∈ T, Good G e) {f m n : Nat} {ds rs : List D} {F : IFun} (h1 : G f = some F) (h2 : F.pure = true) (h3 : F.nil2 = false)
    (h : callK G (memoK T) m n (.fn f [] []) (ds.map V.d) St.nul = some (tupV (rs.map V.d), St.nul)) : Good G (f, ds, rs) :=
  ⟨F, h1, h2, h3, callK_ok (memo_ok hT) n _ _ _ _ h⟩
theorem all_nil {G : Nat → Option IFun} : ∀ e ∈ ([] : List Ent), Good G e := fun _ h => by cases h
theorem all_cons {G : Nat → Option IFun} {e : Ent} {T : List Ent} (h : Good G e) (hT : ∀ e ∈ T, Good G e) : ∀ x ∈ e :: T, Good G x := fun x hx => (List.mem_cons.1 hx).elim (fun h' => h' ▸ h) (hT x)
end Go.Lift
namespace Go.Lift
open Go
def pA : Code → Code
  | .seq a _ => a
  | c => c
def pB : Code → Code
  | .seq _ b => b
  | c => c
def qA : IC → IC
  | .seq a _ => a
  | c => c
def qB : IC → IC
  | .seq _ b => b
  | c => c
def isS : Code → Bool
  | .seq _ _ => true
  | _ => false
def isQ : IC → Bool
  | .seq _ _ => true
  | _ => false
theorem cut_seq {nf : Bool} {P : Program} {c : Code} {F : IC} (h1 : isS c = true) (h2 : isQ F = true) (ha : cCode nf P (pA c) = qA F) (hb : cCode nf P (pB c) = qB F) : cCode nf P c = F := by
  cases c <;> try (cases h1; done)
  cases F <;> try (cases h2; done)
  simp only [pA, pB, qA, qB] at ha hb
  rw [cCode, ha, hb]
theorem cut_body {P : Program} {f : Func} {F : IFun} (h1 : f.ntmps = F.nt) (h2 : cRes P f.results.toList = some F.res) (h3 : f.body.isSome = true) (h4 : cCode F.nf P (f.body.getD .skip) = F.body) : Comp P f F := by
  refine ⟨h1, h2, ?_⟩
  cases hb : f.body with
  | none => rw [hb] at h3; cases h3
  | some b => rw [hb] at h4; simp only [Option.map_some, Option.getD_some] at h4 ⊢; rw [h4]
theorem comp1 {P : Program} {f : Func} {F : IFun} (h : (f.ntmps, cRes P f.results.toList, f.body.map (cCode F.nf P)) = (F.nt, some F.res, some F.body)) : Comp P f F :=
  ⟨congrArg (·.1) h, congrArg (·.2.1) h, congrArg (·.2.2) h⟩
end Go.Lift
namespace Go.Lift
open Go
set_option maxRecDepth 100000
def ZA0 := And.intro @pc_seq (And.intro @pc_reg (And.intro @po_nil (And.intro @po_s (And.intro @po_n (And.intro @po_gs (And.intro @po_gn (And.intro @po_ks (And.intro @po_kn (And.intro @po_kgs (And.intro @po_kgn (And.intro @onN_nrm (And.intro @onN_ret (And.intro @onN_brk (And.intro @outB_nrm (And.intro @outB_ret (And.intro @outB_eq (And.intro @outB_ne (And.intro @pc_block (And.intro @pc_loop (And.intro @pc_cond (And.intro @pc_skip (And.intro @pc_exit (And.intro @pc_ret (And.intro @rp_ret (And.intro @rp_nrm (And.intro @ro_ret (And.intro @ro_nrm (And.intro @rs_ret (And.intro @rs_nrm (And.intro @ev_mv (And.intro @ev_pick (And.intro @ev_alloc (And.intro @ev_box (And.intro @ev_load (And.intro @ev_store (And.intro @ev_bin (And.intro @ev_un (And.intro @ev_eqA (@ev_eqB)))))))))))))))))))))))))))))))))))))))
def ZA1 := And.intro @ev_eqNil (And.intro @ev_mkf (And.intro @ev_faddr (And.intro @ev_field (And.intro @ev_iaddrS (And.intro @ev_iaddrA (And.intro @ev_indexS (And.intro @ev_len (And.intro @ev_call (And.intro @ev_ext (And.intro @ev_build (And.intro @ev_append (And.intro @ev_copy (And.intro @ev_clear (And.intro @ev_mkSl (And.intro @ev_mkslice (And.intro @ev_sliceL (And.intro @ev_sliceS (And.intro @ev_mkmap (And.intro @ev_lookup (And.intro @ev_mapUpd (And.intro @ev_convS (And.intro @ev_convI (@ev_nilck)))))))))))))))))))))))
def ZA := And.intro ZA0 (ZA1)
def ZB0 := And.intro @cp_bool (And.intro @cb_tt (And.intro @cb_ff (And.intro @pv_some (And.intro @rt_some (And.intro @consO_some (And.intro @resVs_nil (And.intro @resVs_t (And.intro @resVs_cell (And.intro @evO_t (And.intro @evO_c (And.intro @getD_set_eq (And.intro @getD_set_ne (And.intro @List.length_set.{0} (And.intro @withSt_some (And.intro @withU_some (And.intro @lenSt_some (And.intro @pickV_tt (And.intro @pickV_ff (And.intro @pickV_b (And.intro @iaddrV_int (And.intro @iaddrAV_int (And.intro @indexSV_int (And.intro @boxV_agg (And.intro @boxV_str (And.intro @boxV_int (And.intro @boxV_bool (And.intro @boxV_sl (And.intro @boxV_fn (And.intro @boxV_ptr (And.intro @boxV_arr (And.intro @boxV_nilS (And.intro @eqBV_bool (And.intro @isNilV_some (And.intro @extV_tup (And.intro @buildV_some (And.intro @sget_sset_ne (And.intro @lt_add_l (And.intro @lt_self_add (@fillP.eq_1)))))))))))))))))))))))))))))))))))))))
def ZB1 := And.intro @fillP.eq_2 (And.intro @nat0 (And.intro @wantV_b (And.intro @wantV_u (And.intro @cond_true.{1} (And.intro @cond_false.{1} (And.intro @beq_tt (And.intro @beq_tf (And.intro @beq_ft (And.intro @beq_ff (And.intro @bt_beq (And.intro @bf_beq (And.intro @bne_tt (And.intro @bne_ff (And.intro @bnot_true (And.intro @bin_lss (And.intro @bin_leq (And.intro @bin_gtr (And.intro @bin_geq (And.intro @bin_eql (And.intro @bin_neq (And.intro @bin_add (And.intro @bin_sub (And.intro @bin_seql (And.intro @bin_sneq (And.intro @un_notB (And.intro @len_str (And.intro @len_sl (And.intro @len_nil (And.intro @len_emp (And.intro @len_arr (And.intro @fa_ptr (And.intro @fa_dptr0 (And.intro @fa_dptr (And.intro @ld_dptr1 (And.intro @ld_dptrA (And.intro @cal_f (And.intro @cal_o (And.intro @List.map_cons.{0,0} (@List.map_nil.{0,0})))))))))))))))))))))))))))))))))))))))
def ZB2 := And.intro @decide_true (And.intro @decide_false (And.intro @Bool.not_true (And.intro @Bool.not_false (And.intro @Bool.false_eq_true (And.intro @dec_false (And.intro @decide_eq_true_eq (And.intro @natCast_lt (And.intro @natCast_le (And.intro @List.length_cons.{0} (And.intro @List.length_nil.{0} (And.intro @List.length_map.{0,0} (And.intro @Nat.zero_add (And.intro @Nat.add_zero (And.intro @St.ins.eq_1 (And.intro @St.set.eq_1 (And.intro @St.get.eq_1 (And.intro @load_ptr (And.intro @scells.eq_1 (And.intro @sget.eq_1 (And.intro @sget.eq_2 (And.intro @sset.eq_1 (And.intro @sset.eq_2 (And.intro @opStore.eq_1 (And.intro @opStore.eq_2 (And.intro @splice.eq_1 (And.intro @ofCells.eq_1 (And.intro @ofCells.eq_2 (And.intro @ofCellsD.eq_1 (And.intro @ofCellsD.eq_2 (And.intro @cellsV.eq_1 (And.intro @cellsV.eq_2 (And.intro @cellsV.eq_3 (And.intro @cellsD.eq_1 (And.intro @cellsD.eq_2 (And.intro @mkAgg.eq_1 (And.intro @allD.eq_1 (And.intro @allD.eq_2 (And.intro @allD.eq_3 (@List.drop_zero.{0})))))))))))))))))))))))))))))))))))))))
def ZB3 := And.intro @List.drop_succ_cons.{0} (And.intro @List.take_succ_cons.{0} (And.intro @List.take_zero.{0} (And.intro @List.nil_append.{0} (And.intro @List.append_nil.{0} (And.intro @List.cons_append.{0} (And.intro @List.all_cons.{0} (And.intro @List.all_nil.{0} (And.intro @V.isCell.eq_1 (And.intro @V.isCell.eq_2 (And.intro @V.isCell.eq_3 (And.intro @V.isCell.eq_4 (And.intro @D.isCell.eq_1 (And.intro @D.isCell.eq_2 (And.intro @Bool.and_self (And.intro @Bool.and_true (And.intro @Bool.true_and (And.intro @Option.map_some.{0,0} (And.intro @Option.map_none.{0,0} (And.intro @Nat.le_refl (And.intro @and_self (And.intro @and_true (And.intro @true_and (And.intro @not_false_eq_true (And.intro @not_true_eq_false (And.intro @if_false.{1} (And.intro @if_true.{1} (And.intro @tupV.eq_1 (And.intro @tupV.eq_2 (And.intro @Nat.add_eq_left (@Nat.add_one_ne_zero))))))))))))))))))))))))))))))
def ZB := And.intro ZB0 (And.intro ZB1 (And.intro ZB2 (ZB3)))
def LA0 := And.intro @pc_seq (And.intro @pc_reg (And.intro @po_nil (And.intro @po_s (And.intro @po_n (And.intro @po_gs (And.intro @po_gn (And.intro @po_ks (And.intro @po_kn (And.intro @po_kgs (And.intro @po_kgn (And.intro @onN_nrm (And.intro @onN_ret (And.intro @onN_brk (And.intro @outB_nrm (And.intro @outB_ret (And.intro @outB_eq (And.intro @outB_ne (And.intro @pc_block (And.intro @pc_loop (And.intro @pc_cond (And.intro @pc_skip (And.intro @pc_exit (And.intro @pc_ret (And.intro @rp_ret (And.intro @rp_nrm (And.intro @ro_ret (And.intro @ro_nrm (And.intro @rs_ret (And.intro @rs_nrm (And.intro @ev_mv (And.intro @ev_pick (And.intro @ev_alloc (And.intro @ev_box (And.intro @ev_load (And.intro @ev_store (And.intro @ev_bin (And.intro @ev_un (And.intro @ev_eqA (@ev_eqB)))))))))))))))))))))))))))))))))))))))
def LA1 := And.intro @ev_eqNil (And.intro @ev_mkf (And.intro @ev_faddr (And.intro @ev_field (And.intro @ev_iaddrS (And.intro @ev_iaddrA (And.intro @ev_indexS (And.intro @ev_len (And.intro @ev_call (And.intro @ev_ext (And.intro @ev_build (And.intro @ev_append (And.intro @ev_copy (And.intro @ev_clear (And.intro @ev_mkSl0 (And.intro @ev_mkSlN (And.intro @ev_mksliceN (And.intro @ev_sliceL (And.intro @ev_sliceSN (And.intro @ev_mkmap (And.intro @ev_lookup (And.intro @ev_mapUpd (And.intro @ev_convSN (And.intro @ev_convIN (@ev_nilck))))))))))))))))))))))))
def LA := And.intro LA0 (LA1)
def LB0 := And.intro @cp_bool (And.intro @cb_tt (And.intro @cb_ff (And.intro @pv_some (And.intro @rt_some (And.intro @consO_some (And.intro @resVs_nil (And.intro @resVs_t (And.intro @resVs_cell (And.intro @ia_01 (And.intro @ia_02 (And.intro @ia_12 (And.intro @convIV_int (And.intro @evO_t (And.intro @evO_c (And.intro @getD_set_eq (And.intro @getD_set_ne (And.intro @List.length_set.{0} (And.intro @withSt_some (And.intro @withU_some (And.intro @lenSt_some (And.intro @pickV_tt (And.intro @pickV_ff (And.intro @pickV_b (And.intro @iaddrV_int (And.intro @iaddrAV_int (And.intro @indexSV_int (And.intro @boxV_agg (And.intro @boxV_str (And.intro @boxV_int (And.intro @boxV_bool (And.intro @boxV_sl (And.intro @boxV_fn (And.intro @boxV_ptr (And.intro @boxV_arr (And.intro @boxV_nilS (And.intro @eqBV_bool (And.intro @isNilV_some (And.intro @extV_tup (@buildV_some)))))))))))))))))))))))))))))))))))))))
def LB1 := And.intro @sget_sset_ne (And.intro @lt_add_l (And.intro @lt_self_add (And.intro @fillP.eq_1 (And.intro @fillP.eq_2 (And.intro @nat0 (And.intro @wantV_b (And.intro @wantV_u (And.intro @cond_true.{1} (And.intro @cond_false.{1} (And.intro @beq_tt (And.intro @beq_tf (And.intro @beq_ft (And.intro @beq_ff (And.intro @bt_beq (And.intro @bf_beq (And.intro @bne_tt (And.intro @bne_ff (And.intro @bnot_true (And.intro @bin_lss (And.intro @bin_leq (And.intro @bin_gtr (And.intro @bin_geq (And.intro @bin_eql (And.intro @bin_neq (And.intro @bin_add (And.intro @bin_sub (And.intro @bin_seql (And.intro @bin_sneq (And.intro @un_notB (And.intro @len_str (And.intro @len_sl (And.intro @len_nil (And.intro @len_emp (And.intro @len_arr (And.intro @fa_ptr (And.intro @fa_dptr0 (And.intro @fa_dptr (And.intro @ld_dptr1 (@ld_dptrA)))))))))))))))))))))))))))))))))))))))
def LB2 := And.intro @cal_f (And.intro @cal_o (And.intro @List.map_cons.{0,0} (And.intro @List.map_nil.{0,0} (And.intro @decide_true (And.intro @decide_false (And.intro @Bool.not_true (And.intro @Bool.not_false (And.intro @Bool.false_eq_true (And.intro @dec_false (And.intro @decide_eq_true_eq (And.intro @natCast_lt (And.intro @natCast_le (And.intro @List.length_cons.{0} (And.intro @List.length_nil.{0} (And.intro @List.length_map.{0,0} (And.intro @Nat.zero_add (And.intro @Nat.add_zero (And.intro @St.ins.eq_1 (And.intro @St.set.eq_1 (And.intro @St.get.eq_1 (And.intro @load_ptr (And.intro @scells.eq_1 (And.intro @sget.eq_1 (And.intro @sget.eq_2 (And.intro @sset.eq_1 (And.intro @sset.eq_2 (And.intro @opStore.eq_1 (And.intro @opStore.eq_2 (And.intro @splice.eq_1 (And.intro @ofCells.eq_1 (And.intro @ofCells.eq_2 (And.intro @ofCellsD.eq_1 (And.intro @ofCellsD.eq_2 (And.intro @cellsD.eq_1 (And.intro @cellsD.eq_2 (And.intro @cv_str (And.intro @cv_int (And.intro @cv_bool (@cv_sl)))))))))))))))))))))))))))))))))))))))
def LB3 := And.intro @cv_agg (And.intro @cv_nilS (And.intro @cv_emp (And.intro @cv_arr (And.intro @cv_ptr (And.intro @cv_fn (And.intro @mkAgg_d1 (And.intro @mkAgg_d2 (And.intro @mkAgg_d3 (And.intro @mkAgg_d4 (And.intro @cellsV_mk (And.intro @kept_nil (And.intro @kept_cons (And.intro @keptV_ptr (And.intro @keptV_arr (And.intro @keptV_dptr (And.intro @keptV_d (And.intro @objEq_cells (And.intro @V_beqL_nil (And.intro @V_beqL_cons (And.intro @V_beq_d (And.intro @V_beq_ptr (And.intro @V_beq_nilS (And.intro @V_beq_arr (And.intro @D.beq_refl (And.intro @mkSlV.eq_1 (And.intro @mkSlV.eq_2 (And.intro @isNil_emp (And.intro @isNil_nilS (And.intro @isNil_cons (And.intro @isNil_arr (And.intro @List.replicate.eq_1.{0} (And.intro @List.replicate.eq_2.{0} (And.intro @List.flatten_cons.{0} (And.intro @List.flatten_nil.{0} (And.intro @sget_sset_is (And.intro @Option.isSome_some.{0} (And.intro @grow_ne (And.intro @sdel_nil (@sdel_cons)))))))))))))))))))))))))))))))))))))))
def LB4 := And.intro @Nat.zero_mul (And.intro @Nat.zero_le (And.intro @Nat.le_add_left (And.intro @Nat.add_assoc (And.intro @Nat.left_eq_add (And.intro @nat1 (And.intro @nat2 (And.intro @List.drop_zero.{0} (And.intro @List.drop_succ_cons.{0} (And.intro @List.take_succ_cons.{0} (And.intro @List.take_zero.{0} (And.intro @List.nil_append.{0} (And.intro @List.append_nil.{0} (And.intro @List.cons_append.{0} (And.intro @List.all_cons.{0} (And.intro @List.all_nil.{0} (And.intro @ic_str (And.intro @ic_int (And.intro @ic_bool (And.intro @ic_sl (And.intro @ic_nilS (And.intro @ic_emp (And.intro @ic_arr (And.intro @ic_ptr (And.intro @ic_fn (And.intro @D.isCell.eq_1 (And.intro @D.isCell.eq_2 (And.intro @Bool.and_self (And.intro @Bool.and_true (And.intro @Bool.true_and (And.intro @Option.map_some.{0,0} (And.intro @Option.map_none.{0,0} (And.intro @Nat.le_refl (And.intro @and_self (And.intro @and_true (And.intro @true_and (And.intro @not_false_eq_true (And.intro @not_true_eq_false (And.intro @if_false.{1} (@if_true.{1})))))))))))))))))))))))))))))))))))))))
def LB5 := And.intro @tupV.eq_1 (And.intro @tupV.eq_2 (And.intro @Nat.add_eq_left (@Nat.add_one_ne_zero)))
def LB := And.intro LB0 (And.intro LB1 (And.intro LB2 (And.intro LB3 (And.intro LB4 (LB5)))))
theorem zf {x b n : Nat} (h : b + n ≤ x) (h0 : 0 < n) : (∀ a, (x + a = b) = False) ∧ (∀ a, (b = x + a) = False) ∧ (x = b) = False ∧ (b = x) = False ∧ (∀ j, j < n → (x = b + j) = False) ∧ ∀ j, j < n → (b + j = x) = False := by
  refine ⟨fun a => ?_, fun a => ?_, ?_, ?_, fun j hj => ?_, fun j hj => ?_⟩ <;> simp <;> omega
theorem zf0 {x n : Nat} (h : n ≤ x) : ∀ j, j < n → (x = j) = False := fun j hj => by simp; omega
theorem cf1 {x a : Nat} (h : a < x) : (x = a) = False ∧ ∀ j, (x + j = a) = False := by
  refine ⟨?_, fun j => ?_⟩ <;> simp <;> omega
theorem cf2 {x a : Nat} {s : List (Nat × Obj)} {o : Obj} (h : a < x) (hc : sget s a = some o) : a < x ∧ ∀ o', sget (sset s a o') a = some o' := ⟨h, fun _ => sget_sset_same hc⟩
end Go.Lift
