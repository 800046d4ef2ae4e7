/- Part B4 of the proof. -/
import Derived.Test.YtedmfhgagnfbnaaGreatDoorB3
import Derived.Test.YtedmfhgagnfbnaaGreatDoorA7
set_option linter.all false
namespace Go.Lift.K
open Go Go.Lift
set_option maxRecDepth 100000
def sameHd (x y : NodeT) : Bool := decide (x.name = y.name) && decide (x.kids.length = y.kids.length)
def twiceL (l : List NodeT) : Bool := (List.range l.length).any fun i => (l.take i).any fun y => sameHd (l.getD i ⟨[], []⟩) y
def fewA (s : SortT) : Bool := decide (s.alts.length ≤ 6) && s.alts.all fewK
def rankOk (s : SortT) : Bool := decide (0 ≤ s.rank) && decide (s.rank ≤ 3)
def nmdA (s : SortT) : Bool := s.alts.all fun x => isName x.name
def kidsIn (n : Nat) (s : SortT) : Bool := s.alts.all fun x => x.kids.all (inR n)
def specType (t : TypeT) : Int :=
  if ((t.sorts.length : Int) < 1 ∨ (24 : Int) < t.sorts.length) ∨ t.sorts.all fewA = false then 2 else
  if t.sorts.all rankOk = false then 3 else
  if t.sorts.all nmdA = false then 4 else
  if inR t.sorts.length t.start = false ∨ t.sorts.all (kidsIn t.sorts.length) = false then 1 else
  if (t.sorts.any fun s => twiceL s.alts) = true then 5 else 0
theorem range_any {n i : Nat} {p : Nat → Bool} (hi : i < n) (h : p i = true) : (List.range n).any p = true := List.any_eq_true.2 ⟨i, by simpa using hi, h⟩
theorem range_none {n : Nat} {p : Nat → Bool} (h : ∀ i, i < n → p i = false) : (List.range n).any p = false := by
  rw [List.any_eq_false]
  intro i hi
  rw [h i (by simpa using hi)]
  simp
theorem take_any {α : Type} {l : List α} {i k : Nat} {p : α → Bool} (hk : k < l.length) (hki : k < i) (h : p l[k] = true) : (l.take i).any p = true :=
  List.any_eq_true.2 ⟨l[k], List.mem_iff_getElem.2 ⟨k, by simp; omega, by simp⟩, h⟩
theorem take_none {α : Type} {l : List α} {i : Nat} {p : α → Bool} (h : ∀ x ∈ l.take i, p x = false) : (l.take i).any p = false := any_none h
theorem twice05_ok {l : List NodeT} (hl : LOk l) (hk : ∀ x ∈ l, x.ok) (st : St) : callW G (.fn 113 [] []) [.d (.sl (l.map NodeT.d))] st = some (.d (.bool (twiceL l)), st) := by
  unfold LOk at hl
  refine pure_pc (ds := [.sl (l.map NodeT.d)]) (rs := [.bool (twiceL l)]) T1.g113 rfl rfl (fun e w_len harg => ?_) st
  have w_len : e.length = 42 := w_len
  have w_0 := harg 0 (by simp)
  clear harg
  simp only [List.map_cons, List.map_nil, List.getD_cons_zero] at w_0
  simp only [T1.i113, ↓ZA, ZB, simprocAttr]
  refine lp_rounds (fun e0 s0 m env st => ∃ (i nxi : Nat), m = l.length - i ∧ (i ≤ l.length) ∧ (∀ j, j < i → ((l.take j).any fun y => sameHd (l.getD j ⟨[], []⟩) y) = false) ∧ env.length = 42 ∧ env.getD 3 .undef = .d (.int .i64 i) ∧ env.getD 0 .undef = .d (.sl (l.map NodeT.d)) ∧ st = { s := s0.s, next := nxi, low := s0.low }) ?_ (l.length) (by refine ⟨0, _, rfl, by omega, by omega, ?_, ?_, ?_, rfl⟩ <;> simp only [w_len, w_0, ZB, simprocAttr])
  rintro m env st ⟨i, nxi, hm, a_0, a_1, w_len, w_3, w_0, rfl⟩
  by_cases hi : i < l.length
  · simp only [hi, w_len, w_3, w_0, ↓ZA, ZB, simprocAttr]
    refine lp_rounds (fun e0 s0 m env st => ∃ (k nxk : Nat), m = i - k ∧ (k ≤ i) ∧ (∀ y ∈ l.take k, sameHd l[i] y = false) ∧ env.length = 42 ∧ env.getD 4 .undef = .d (.int .i64 k) ∧ env.getD 0 .undef = .d (.sl (l.map NodeT.d)) ∧ env.getD 3 .undef = .d (.int .i64 i) ∧ st = { s := s0.s, next := nxk, low := s0.low }) ?_ (i) (by refine ⟨0, _, rfl, by omega, by simp, ?_, ?_, ?_, ?_, rfl⟩ <;> simp only [w_len, w_3, w_0, ZB, simprocAttr])
    rintro m env st ⟨k, nxk, hm, b_0, b_1, w_len, w_4, w_0, w_3, rfl⟩
    by_cases hk' : k < i
    · have hkl : k < l.length := by omega
      have x1 := (hk _ (List.getElem_mem hi)).2.1
      have x2 := (hk _ (List.getElem_mem hkl)).2.1
      unfold LOk at x1 x2
      by_cases h1 : l[i].name = l[k].name
      · by_cases h2 : (l[i].kids.length : Int) = l[k].kids.length
        · have hs : sameHd l[i] l[k] = true := by simp only [sameHd, h1]; simp; omega
          simp only [hk', iaddr_node hi, iaddr_node hkl, h1, h2, w_len, w_4, w_0, w_3, ↓ZA, ZB, simprocAttr]
          exact rq1 (by rw [twiceL, range_any hi (by rw [getD_at hi]; exact take_any hkl hk' hs)])
        · have hs : sameHd l[i] l[k] = false := by simp only [sameHd, h1]; simp; omega
          simp only [hk', iaddr_node hi, iaddr_node hkl, h1, h2, wrap_succ hk' (by omega), w_len, w_4, w_0, w_3, ↓ZA, ZB, simprocAttr]
          exact nx_intro (by refine ⟨_, by omega, k + 1, _, rfl, by omega, takeL_all hkl b_1 hs, ?_, ?_, ?_, ?_, rfl⟩ <;> simp only [w_len, w_0, w_3, ZB, simprocAttr])
      · have hs : sameHd l[i] l[k] = false := by simp [sameHd, h1]
        simp only [hk', iaddr_node hi, iaddr_node hkl, h1, wrap_succ hk' (by omega), w_len, w_4, w_0, w_3, ↓ZA, ZB, simprocAttr]
        exact nx_intro (by refine ⟨_, by omega, k + 1, _, rfl, by omega, takeL_all hkl b_1 hs, ?_, ?_, ?_, ?_, rfl⟩ <;> simp only [w_len, w_0, w_3, ZB, simprocAttr])
    · have hki : k = i := by omega
      subst hki
      simp only [hk', wrap_succ hi (by omega), w_len, w_4, w_3, ↓ZA, ZB, simprocAttr]
      have hx : ∀ j, j < k + 1 → ((l.take j).any fun y => sameHd (l.getD j ⟨[], []⟩) y) = false := fun j hj => by
        by_cases e : j = k
        · subst e; rw [getD_at hi]; exact take_none b_1
        · exact a_1 j (by omega)
      exact nx_intro (by refine ⟨_, by omega, k + 1, _, rfl, by omega, hx, ?_, ?_, ?_, rfl⟩ <;> simp only [w_len, w_0, ZB, simprocAttr])
  · simp only [hi, w_len, w_3, w_0, ↓ZA, ZB, simprocAttr]
    exact rq1 (by rw [twiceL, range_none fun j hj => a_1 j (by omega)])
theorem check05_ok {t : TypeT} (ht : t.ok) (st : St) : callW G (.fn 57 [] []) [.d t.d] st = some (.d (.int .i64 (specType t)), st) := by
  have hl := ht.1
  unfold LOk at hl
  have hT : ∀ {i : Nat} (hi : i < t.sorts.length) (st : St), callW G (.fn 113 [] []) [.d (.sl (t.sorts[i].alts.map NodeT.d))] st = _ := fun hi st => twice05_ok (ht.2.1 _ (List.getElem_mem hi)).2.1 (ht.2.1 _ (List.getElem_mem hi)).2.2 st
  refine pure_pc (ds := [t.d]) (rs := [.int .i64 (specType t)]) T1.g57 rfl rfl (fun e w_len harg => ?_) st
  have w_len : e.length = 170 := w_len
  have w_0 := harg 0 (by simp)
  clear harg
  simp only [List.map_cons, List.map_nil, List.getD_cons_zero] at w_0
  by_cases h1 : (t.sorts.length : Int) < 1 ∨ (24 : Int) < t.sorts.length
  · have h1' := decide_eq_true h1
    simp only [T1.i57, TypeT.d, off05_ok, or_iff_dec, h1', w_len, w_0, ↓ZA, ZB, simprocAttr]
    exact rq1 (by rw [specType, if_pos (.inl h1)])
  simp only [T1.i57, TypeT.d, off05_ok, or_iff_dec, h1, w_len, w_0, ↓ZA, ZB, simprocAttr]
  refine lp_rounds (fun e0 s0 m env st => ∃ (i nxi : Nat), m = t.sorts.length - i ∧ (i ≤ t.sorts.length) ∧ (∀ s ∈ t.sorts.take i, fewA s = true) ∧ env.length = 170 ∧ env.getD 3 .undef = .d (.int .i64 i) ∧ env.getD 1 .undef = .ptr 0 0 ∧ st = { s := s0.s, next := nxi, low := s0.low }) ?_ (t.sorts.length) (by refine ⟨0, _, rfl, by omega, by simp, ?_, ?_, ?_, rfl⟩ <;> simp only [w_len, ZB, simprocAttr])
  rintro m env st ⟨i, nxi, hm, a_0, a_1, w_len, w_3, w_1, rfl⟩
  by_cases hi : i < t.sorts.length
  · have hal := (ht.2.1 _ (List.getElem_mem hi)).2.1
    unfold LOk at hal
    by_cases h2 : (6 : Int) < t.sorts[i].alts.length
    · have hf : fewA t.sorts[i] = false := by
        have : ¬ t.sorts[i].alts.length ≤ 6 := by omega
        simp [fewA, this]
      simp only [hi, iaddr_sort hi, h2, w_len, w_3, w_1, ↓ZA, ZB, simprocAttr]
      exact rq1 (by rw [specType, if_pos (.inr (all_false hi hf))])
    · simp only [hi, iaddr_sort hi, h2, w_len, w_3, w_1, ↓ZA, ZB, simprocAttr]
      refine lp_rounds (fun e0 s0 m env st => ∃ (k nxk : Nat), m = t.sorts[i].alts.length - k ∧ (k ≤ t.sorts[i].alts.length) ∧ (∀ x ∈ t.sorts[i].alts.take k, fewK x = true) ∧ env.length = 170 ∧ env.getD 4 .undef = .d (.int .i64 k) ∧ env.getD 1 .undef = .ptr 0 0 ∧ env.getD 3 .undef = .d (.int .i64 i) ∧ st = { s := s0.s, next := nxk, low := s0.low }) ?_ (t.sorts[i].alts.length) (by refine ⟨0, _, rfl, by omega, by simp, ?_, ?_, ?_, ?_, rfl⟩ <;> simp only [w_len, w_3, w_1, ZB, simprocAttr])
      rintro m env st ⟨k, nxk, hm, b_0, b_1, w_len, w_4, w_1, w_3, rfl⟩
      by_cases hk : k < t.sorts[i].alts.length
      · have hkl := ((ht.2.1 _ (List.getElem_mem hi)).2.2 _ (List.getElem_mem hk)).2.1
        unfold LOk at hkl
        by_cases h3 : (4 : Int) < t.sorts[i].alts[k].kids.length
        · have hf : fewA t.sorts[i] = false := by
            have : fewK t.sorts[i].alts[k] = false := by simp [fewK]; omega
            simp [fewA, all_false hk this]
          simp only [hk, iaddr_sort hi, iaddr_node hk, h3, w_len, w_4, w_1, w_3, ↓ZA, ZB, simprocAttr]
          exact rq1 (by rw [specType, if_pos (.inr (all_false hi hf))])
        · simp only [hk, iaddr_sort hi, iaddr_node hk, h3, wrap_succ hk (by omega), w_len, w_4, w_1, w_3, ↓ZA, ZB, simprocAttr]
          exact nx_intro (by refine ⟨_, by omega, k + 1, _, rfl, by omega, takeL_all hk b_1 (by simp [fewK]; omega), ?_, ?_, ?_, ?_, rfl⟩ <;> simp only [w_len, w_1, w_3, ZB, simprocAttr])
      · have hf : fewA t.sorts[i] = true := by
          have : t.sorts[i].alts.length ≤ 6 := by omega
          simp [fewA, this, List.all_eq_true.2 (takeL_end hk b_1)]
        simp only [hk, iaddr_sort hi, wrap_succ hi (by omega), w_len, w_4, w_1, w_3, ↓ZA, ZB, simprocAttr]
        exact nx_intro (by refine ⟨_, by omega, i + 1, _, rfl, by omega, takeL_all hi a_1 hf, ?_, ?_, ?_, rfl⟩ <;> simp only [w_len, w_1, ZB, simprocAttr])
  have k1 := List.all_eq_true.2 (takeL_end hi a_1)
  have k1' : ¬ (((t.sorts.length : Int) < 1 ∨ (24 : Int) < t.sorts.length) ∨ t.sorts.all fewA = false) := fun h => h.elim h1 (by rw [k1]; simp)
  simp only [hi, w_len, w_3, w_1, ↓ZA, ZB, simprocAttr]
  refine lp_rounds (fun e0 s0 m env st => ∃ (c nxc : Nat), m = t.sorts.length - c ∧ (c ≤ t.sorts.length) ∧ (∀ s ∈ t.sorts.take c, rankOk s = true) ∧ env.length = 170 ∧ env.getD 5 .undef = .d (.int .i64 c) ∧ env.getD 1 .undef = .ptr 0 0 ∧ st = { s := s0.s, next := nxc, low := s0.low }) ?_ (t.sorts.length) (by refine ⟨0, _, rfl, by omega, by simp, ?_, ?_, ?_, rfl⟩ <;> simp only [w_len, w_1, ZB, simprocAttr])
  rintro m env st ⟨c, nxc, hm, c_0, c_1, w_len, w_5, w_1, rfl⟩
  by_cases hc : c < t.sorts.length
  · by_cases h2 : t.sorts[c].rank < 0 ∨ 3 < t.sorts[c].rank
    · have hf : rankOk t.sorts[c] = false := by simp [rankOk]; omega
      simp only [hc, iaddr_sort hc, off05_ok, or_iff_dec, h2, w_len, w_5, w_1, ↓ZA, ZB, simprocAttr]
      exact rq1 (by rw [specType, if_neg k1', if_pos (all_false hc hf)])
    · have hf : rankOk t.sorts[c] = true := by simp [rankOk]; omega
      simp only [hc, iaddr_sort hc, off05_ok, or_iff_dec, h2, wrap_succ hc (by omega), w_len, w_5, w_1, ↓ZA, ZB, simprocAttr]
      exact nx_intro (by refine ⟨_, by omega, c + 1, _, rfl, by omega, takeL_all hc c_1 hf, ?_, ?_, ?_, rfl⟩ <;> simp only [w_len, w_1, ZB, simprocAttr])
  have k2 : ¬ t.sorts.all rankOk = false := by rw [List.all_eq_true.2 (takeL_end hc c_1)]; simp
  simp only [hc, w_len, w_5, w_1, ↓ZA, ZB, simprocAttr]
  refine lp_rounds (fun e0 s0 m env st => ∃ (d nxd : Nat), m = t.sorts.length - d ∧ (d ≤ t.sorts.length) ∧ (∀ s ∈ t.sorts.take d, nmdA s = true) ∧ env.length = 170 ∧ env.getD 6 .undef = .d (.int .i64 d) ∧ env.getD 1 .undef = .ptr 0 0 ∧ st = { s := s0.s, next := nxd, low := s0.low }) ?_ (t.sorts.length) (by refine ⟨0, _, rfl, by omega, by simp, ?_, ?_, ?_, rfl⟩ <;> simp only [w_len, w_1, ZB, simprocAttr])
  rintro m env st ⟨d, nxd, hm, d_0, d_1, w_len, w_6, w_1, rfl⟩
  by_cases hd : d < t.sorts.length
  · have hal := (ht.2.1 _ (List.getElem_mem hd)).2.1
    unfold LOk at hal
    simp only [hd, w_len, w_6, w_1, ↓ZA, ZB, simprocAttr]
    refine lp_rounds (fun e0 s0 m env st => ∃ (e nxe : Nat), m = t.sorts[d].alts.length - e ∧ (e ≤ t.sorts[d].alts.length) ∧ (∀ x ∈ t.sorts[d].alts.take e, isName x.name = true) ∧ env.length = 170 ∧ env.getD 7 .undef = .d (.int .i64 e) ∧ env.getD 1 .undef = .ptr 0 0 ∧ env.getD 6 .undef = .d (.int .i64 d) ∧ st = { s := s0.s, next := nxe, low := s0.low }) ?_ (t.sorts[d].alts.length) (by refine ⟨0, _, rfl, by omega, by simp, ?_, ?_, ?_, ?_, rfl⟩ <;> simp only [w_len, w_6, w_1, ZB, simprocAttr])
    rintro m env st ⟨e, nxe, hm, e_0, e_1, w_len, w_7, w_1, w_6, rfl⟩
    by_cases he : e < t.sorts[d].alts.length
    · have hx := (ht.2.1 _ (List.getElem_mem hd)).2.2 _ (List.getElem_mem he)
      have hN := fun st => named01_ok hx.1 st
      cases h3 : isName t.sorts[d].alts[e].name with
      | false =>
        have hf : nmdA t.sorts[d] = false := by exact all_false (p := fun x : NodeT => isName x.name) he h3
        simp only [he, iaddr_sort hd, iaddr_node he, hN, h3, w_len, w_7, w_1, w_6, ↓ZA, ZB, simprocAttr]
        exact rq1 (by rw [specType, if_neg k1', if_neg k2, if_pos (all_false hd hf)])
      | true =>
        simp only [he, iaddr_sort hd, iaddr_node he, hN, h3, wrap_succ he (by omega), w_len, w_7, w_1, w_6, ↓ZA, ZB, simprocAttr]
        exact nx_intro (by refine ⟨_, by omega, e + 1, _, rfl, by omega, takeL_all he e_1 h3, ?_, ?_, ?_, ?_, rfl⟩ <;> simp only [w_len, w_1, w_6, ZB, simprocAttr])
    · simp only [he, iaddr_sort hd, wrap_succ hd (by omega), w_len, w_7, w_1, w_6, ↓ZA, ZB, simprocAttr]
      exact nx_intro (by refine ⟨_, by omega, d + 1, _, rfl, by omega, takeL_all hd d_1 (List.all_eq_true.2 (takeL_end he e_1)), ?_, ?_, ?_, rfl⟩ <;> simp only [w_len, w_1, ZB, simprocAttr])
  have k3 : ¬ t.sorts.all nmdA = false := by rw [List.all_eq_true.2 (takeL_end hd d_1)]; simp
  have hw : IntKind.i64.wrap ((t.sorts.length : Int) - 1) = (t.sorts.length : Int) - 1 := wrap_id (by omega) (by omega)
  have hino : ∀ (k : Int) (st : St), callW G (.fn 112 [] []) [.d (.int .i64 k), .d (.int .i64 0), .d (.int .i64 ((t.sorts.length : Int) - 1))] st = some (.d (.bool (!inR t.sorts.length k)), st) := fun k st => by
    rw [off05_ok, or_iff_dec]
    have : decide (k < 0 ∨ (t.sorts.length : Int) - 1 < k) = !inR t.sorts.length k := by
      rw [Bool.eq_iff_iff, decide_eq_true_eq]; simp [inR]; omega
    rw [this]
  cases h4 : inR t.sorts.length t.start with
  | false =>
    simp only [hd, hw, hino, h4, w_len, w_6, w_1, ↓ZA, ZB, simprocAttr]
    exact rq1 (by rw [specType, if_neg k1', if_neg k2, if_neg k3, if_pos (.inl h4)])
  | true =>
    simp only [hd, hw, hino, h4, w_len, w_6, w_1, ↓ZA, ZB, simprocAttr]
    refine lp_rounds (fun e0 s0 m env st => ∃ (f nxf : Nat), m = t.sorts.length - f ∧ (f ≤ t.sorts.length) ∧ (∀ s ∈ t.sorts.take f, kidsIn t.sorts.length s = true) ∧ env.length = 170 ∧ env.getD 8 .undef = .d (.int .i64 f) ∧ env.getD 1 .undef = .ptr 0 0 ∧ st = { s := s0.s, next := nxf, low := s0.low }) ?_ (t.sorts.length) (by refine ⟨0, _, rfl, by omega, by simp, ?_, ?_, ?_, rfl⟩ <;> simp only [w_len, w_1, ZB, simprocAttr])
    rintro m env st ⟨f, nxf, hm, f_0, f_1, w_len, w_8, w_1, rfl⟩
    by_cases hf : f < t.sorts.length
    · have hal := (ht.2.1 _ (List.getElem_mem hf)).2.1
      unfold LOk at hal
      simp only [hf, w_len, w_8, w_1, ↓ZA, ZB, simprocAttr]
      refine lp_rounds (fun e0 s0 m env st => ∃ (g nxg : Nat), m = t.sorts[f].alts.length - g ∧ (g ≤ t.sorts[f].alts.length) ∧ (∀ x ∈ t.sorts[f].alts.take g, x.kids.all (inR t.sorts.length) = true) ∧ env.length = 170 ∧ env.getD 9 .undef = .d (.int .i64 g) ∧ env.getD 1 .undef = .ptr 0 0 ∧ env.getD 8 .undef = .d (.int .i64 f) ∧ st = { s := s0.s, next := nxg, low := s0.low }) ?_ (t.sorts[f].alts.length) (by refine ⟨0, _, rfl, by omega, by simp, ?_, ?_, ?_, ?_, rfl⟩ <;> simp only [w_len, w_8, w_1, ZB, simprocAttr])
      rintro m env st ⟨g, nxg, hm, g_0, g_1, w_len, w_9, w_1, w_8, rfl⟩
      by_cases hg : g < t.sorts[f].alts.length
      · have hkl := ((ht.2.1 _ (List.getElem_mem hf)).2.2 _ (List.getElem_mem hg)).2.1
        unfold LOk at hkl
        simp only [hg, iaddr_sort hf, w_len, w_9, w_1, w_8, ↓ZA, ZB, simprocAttr]
        refine lp_rounds (fun e0 s0 m env st => ∃ (h nxh : Nat), m = t.sorts[f].alts[g].kids.length - h ∧ (h ≤ t.sorts[f].alts[g].kids.length) ∧ (∀ x ∈ t.sorts[f].alts[g].kids.take h, inR t.sorts.length x = true) ∧ env.length = 170 ∧ env.getD 10 .undef = .d (.int .i64 h) ∧ env.getD 1 .undef = .ptr 0 0 ∧ env.getD 8 .undef = .d (.int .i64 f) ∧ env.getD 9 .undef = .d (.int .i64 g) ∧ st = { s := s0.s, next := nxh, low := s0.low }) ?_ (t.sorts[f].alts[g].kids.length) (by refine ⟨0, _, rfl, by omega, by simp, ?_, ?_, ?_, ?_, ?_, rfl⟩ <;> simp only [w_len, w_9, w_1, w_8, ZB, simprocAttr])
        rintro m env st ⟨h, nxh, hm, h_0, h_1, w_len, w_10, w_1, w_8, w_9, rfl⟩
        by_cases hh : h < t.sorts[f].alts[g].kids.length
        · cases h5 : inR t.sorts.length t.sorts[f].alts[g].kids[h] with
          | false =>
            have hx : kidsIn t.sorts.length t.sorts[f] = false := all_false hg (all_false hh h5)
            simp only [hh, iaddr_sort hf, iaddr_node hg, iaddr_int hh, hw, hino, h5, w_len, w_10, w_1, w_8, w_9, ↓ZA, ZB, simprocAttr]
            exact rq1 (by rw [specType, if_neg k1', if_neg k2, if_neg k3, if_pos (.inr (all_false hf hx))])
          | true =>
            simp only [hh, iaddr_sort hf, iaddr_node hg, iaddr_int hh, hw, hino, h5, wrap_succ hh (by omega), w_len, w_10, w_1, w_8, w_9, ↓ZA, ZB, simprocAttr]
            exact nx_intro (by refine ⟨_, by omega, h + 1, _, rfl, by omega, takeL_all hh h_1 h5, ?_, ?_, ?_, ?_, ?_, rfl⟩ <;> simp only [w_len, w_1, w_8, w_9, ZB, simprocAttr])
        · simp only [hh, iaddr_sort hf, iaddr_node hg, wrap_succ hg (by omega), w_len, w_10, w_1, w_8, w_9, ↓ZA, ZB, simprocAttr]
          exact nx_intro (by refine ⟨_, by omega, g + 1, _, rfl, by omega, takeL_all hg g_1 (List.all_eq_true.2 (takeL_end hh h_1)), ?_, ?_, ?_, ?_, rfl⟩ <;> simp only [w_len, w_1, w_8, ZB, simprocAttr])
      · simp only [hg, iaddr_sort hf, wrap_succ hf (by omega), w_len, w_9, w_1, w_8, ↓ZA, ZB, simprocAttr]
        exact nx_intro (by refine ⟨_, by omega, f + 1, _, rfl, by omega, takeL_all hf f_1 (List.all_eq_true.2 (takeL_end hg g_1)), ?_, ?_, ?_, rfl⟩ <;> simp only [w_len, w_1, ZB, simprocAttr])
    have k4 : ¬ (inR t.sorts.length t.start = false ∨ t.sorts.all (kidsIn t.sorts.length) = false) := by rw [h4, List.all_eq_true.2 (takeL_end hf f_1)]; simp
    simp only [hf, w_len, w_8, w_1, ↓ZA, ZB, simprocAttr]
    refine lp_rounds (fun e0 s0 m env st => ∃ (j nxj : Nat), m = t.sorts.length - j ∧ (j ≤ t.sorts.length) ∧ (∀ s ∈ t.sorts.take j, twiceL s.alts = false) ∧ env.length = 170 ∧ env.getD 11 .undef = .d (.int .i64 j) ∧ env.getD 1 .undef = .ptr 0 0 ∧ st = { s := s0.s, next := nxj, low := s0.low }) ?_ (t.sorts.length) (by refine ⟨0, _, rfl, by omega, by simp, ?_, ?_, ?_, rfl⟩ <;> simp only [w_len, w_1, ZB, simprocAttr])
    rintro m env st ⟨j, nxj, hm, j_0, j_1, w_len, w_11, w_1, rfl⟩
    by_cases hj : j < t.sorts.length
    · cases h6 : twiceL t.sorts[j].alts with
      | true =>
        simp only [hj, iaddr_sort hj, hT hj, h6, w_len, w_11, w_1, ↓ZA, ZB, simprocAttr]
        exact rq1 (by rw [specType, if_neg k1', if_neg k2, if_neg k3, if_neg k4, if_pos (any_true hj h6)])
      | false =>
        simp only [hj, iaddr_sort hj, hT hj, h6, wrap_succ hj (by omega), w_len, w_11, w_1, ↓ZA, ZB, simprocAttr]
        exact nx_intro (by refine ⟨_, by omega, j + 1, _, rfl, by omega, takeL_all hj j_1 h6, ?_, ?_, ?_, rfl⟩ <;> simp only [w_len, w_1, ZB, simprocAttr])
    · have k5 : ¬ (t.sorts.any fun s => twiceL s.alts) = true := by rw [any_none (takeL_end hj j_1)]; simp
      simp only [hj, w_len, w_11, w_1, ↓ZA, ZB, simprocAttr]
      exact rq1 (by rw [specType, if_neg k1', if_neg k2, if_neg k3, if_neg k4, if_neg k5])
end Go.Lift.K
namespace Go.Lift.K
open Go Go.Lift
set_option maxRecDepth 100000
def hdD (y : NodeT) : D := .agg [.str y.name, .int .i64 y.kids.length]
theorem hd_beq {x y : NodeT} : D.beq (hdD x) (hdD y) = sameHd x y := by
  simp only [hdD, D.beq, D.beqL, sameHd, Bool.and_true, decide_true, Bool.true_and]
  congr 1
  rw [Bool.eq_iff_iff, decide_eq_true_eq, decide_eq_true_eq]
  omega
theorem sameHd_symm {x y : NodeT} : sameHd x y = sameHd y x := by
  simp only [sameHd]
  rw [Bool.eq_iff_iff]
  simp only [Bool.and_eq_true, decide_eq_true_eq]
  exact ⟨fun h => ⟨h.1.symm, h.2.symm⟩, fun h => ⟨h.1.symm, h.2.symm⟩⟩
def Met (l : List NodeT) (es : List (D × V)) : Prop := ∀ y : NodeT, mapGet es (hdD y) = if (l.any fun x => sameHd y x) = true then some (.d (.bool true)) else none
theorem met_nil : Met [] [] := fun y => by simp [mapGet]
theorem met_put {l : List NodeT} {es : List (D × V)} {i : Nat} (hi : i < l.length) (h : Met (l.take i) es) : Met (l.take (i + 1)) (mapPut es (hdD l[i]) (.d (.bool true))) := fun y => by
  rw [mapGet_put, h y, hd_beq, List.take_add_one, List.getElem?_eq_getElem hi, List.any_append]
  have e := sameHd_symm (x := l[i]) (y := y)
  cases h1 : sameHd l[i] y with
  | true => rw [h1] at e; simp [← e]
  | false => rw [h1] at e; simp [← e]
theorem name_len {x : List Nat} (h : isName x = true) : x.length ≤ 8 := by
  simp [isName] at h
  omega
theorem hd_conf {y : NodeT} (h : y.name.length ≤ 8) (hk : LOk y.kids) : confD true [.s, .i .i64] (.agg [.str y.name, .int .i64 y.kids.length]) = true := by
  unfold LOk at hk
  have e1 : IntKind.i64.min = -9223372036854775808 := by decide
  have e2 : IntKind.i64.max = 9223372036854775807 := by decide
  simp [confD, conf, confC, e1, e2]
  omega
theorem twiceS_ok {s : SortT} (hs : s.ok) (hn : nmdA s = true) (st : St) : callW G (.fn 127 [] []) [.d s.d] st = some (.d (.bool (twiceL s.alts)), st) := by
  have hl := hs.2.1
  unfold LOk at hl
  have hL : ∀ {z : List (Nat × Obj)} {nx lw : Nat} {es : List (D × V)} {y : NodeT}, y.name.length ≤ 8 → LOk y.kids → sget z 2 = some (.map 200 es) → opLookup { s := z, next := nx, low := lw } 200 true [.s, .i .i64] false (.d (.bool false)) (.map 2) (.d (.agg [.str y.name, .int .i64 y.kids.length])) = some ((mapGet es (hdD y)).getD (.d (.bool false))) := fun h1 h2 h => lookup_map (hd_conf h1 h2) h
  have hU : ∀ {z : List (Nat × Obj)} {nx lw : Nat} {es : List (D × V)} {y : NodeT} {x : V}, y.name.length ≤ 8 → LOk y.kids → sget z 2 = some (.map 200 es) → opMapUpd { s := z, next := nx, low := lw } 200 true [.s, .i .i64] (.map 2) (.d (.agg [.str y.name, .int .i64 y.kids.length])) x = some { s := sset z 2 (.map 200 (mapPut es (hdD y) x)), next := nx, low := Nat.min lw 2 } := fun h1 h2 h => mapUpd_map (hd_conf h1 h2) h
  refine pure_pc (ds := [s.d]) (rs := [.bool (twiceL s.alts)]) T1.g127 rfl rfl (fun e w_len harg => ?_) st
  have w_len : e.length = 27 := w_len
  have w_0 := harg 0 (by simp)
  clear harg
  simp only [List.map_cons, List.map_nil, List.getD_cons_zero] at w_0
  simp only [T1.i127, SortT.d, w_len, w_0, ↓ZA, ZB, simprocAttr]
  refine lp_rounds (fun e0 s0 m env st => ∃ (i nxi lwi : Nat) (si : List (Nat × Obj)) (es : List (D × V)), m = s.alts.length - i ∧ (i ≤ s.alts.length) ∧ (∀ j, j < i → ((s.alts.take j).any fun y => sameHd (s.alts.getD j ⟨[], []⟩) y) = false) ∧ (Met (s.alts.take i) es) ∧ sget si (2) = some (.map 200 es) ∧ 3 ≤ nxi ∧ 0 ≤ lwi ∧ env.length = 27 ∧ env.getD 11 .undef = .d (.int .i64 i) ∧ env.getD 3 .undef = .map 2 ∧ env.getD 9 .undef = .d (.sl (s.alts.map NodeT.d)) ∧ env.getD 10 .undef = .d (.int .i64 s.alts.length) ∧ st = { s := si, next := nxi, low := lwi }) ?_ (s.alts.length) (by refine ⟨0, _, _, _, _, rfl, by omega, by omega, met_nil, ?_, (by omega), Nat.zero_le _, ?_, ?_, ?_, ?_, ?_, rfl⟩ <;> simp only [w_len, ZB, simprocAttr])
  rintro m env st ⟨i, nxi, lwi, si, es, hm, a_0, a_1, a_2, w_ac0, w_ab, w_alo, w_len, w_11, w_3, w_9, w_10, rfl⟩
  have w_aN := cf1 (x := nxi) (a := 2) (by omega)
  have w_aS := cf2 (x := nxi) (by omega) w_ac0
  have w_aZ := zf0 (x := nxi) (n := 3) (by omega)
  by_cases hi : i < s.alts.length
  · have hg := a_2 s.alts[i]
    have x1 := name_len (List.all_eq_true.1 hn _ (List.getElem_mem hi))
    have x2 := (hs.2.2 _ (List.getElem_mem hi)).2.1
    have hL' := fun z nx lw h => hL (z := z) (nx := nx) (lw := lw) (es := es) (y := s.alts[i]) x1 x2 h
    have hU' := fun z nx lw x h => hU (z := z) (nx := nx) (lw := lw) (es := es) (y := s.alts[i]) (x := x) x1 x2 h
    cases h1 : (s.alts.take i).any fun y => sameHd s.alts[i] y with
    | true =>
      rw [h1, if_pos rfl] at hg
      simp only [hi, iaddr_node hi, hL', hg, Option.getD_some, w_len, w_11, w_3, w_9, w_10, w_ac0, ↓ZA, ZB, simprocAttr]
      exact rq1 (by rw [twiceL, range_any hi (by rw [getD_at hi]; exact h1)])
    | false =>
      rw [h1, if_neg (by simp)] at hg
      simp only [hi, iaddr_node hi, hL', hU', hg, Option.getD_none, wrap_succ hi (by omega), w_len, w_11, w_3, w_9, w_10, w_ac0, ↓ZA, ZB, simprocAttr]
      have hx : ∀ j, j < i + 1 → ((s.alts.take j).any fun y => sameHd (s.alts.getD j ⟨[], []⟩) y) = false := fun j hj => by
        by_cases e : j = i
        · subst e; rw [getD_at hi]; exact h1
        · exact a_1 j (by omega)
      exact nx_intro (by refine ⟨_, by omega, i + 1, _, _, _, _, rfl, by omega, hx, met_put hi a_2, ?_, (by omega), Nat.zero_le _, ?_, ?_, ?_, ?_, ?_, rfl⟩ <;> simp only [w_len, w_3, w_9, w_10, w_aS, ZB, simprocAttr])
  · simp only [hi, w_len, w_11, w_10, ↓ZA, ZB, simprocAttr]
    exact rq1 (by rw [twiceL, range_none fun j hj => a_1 j (by omega)])
theorem evSS {l : List SortT} {p : SortT → Bool} {fv : V} {s : List (Nat × Obj)} {nx lw : Nat} (hl : l.length ≤ 9223372036854775807) (hc : fv.isCell = true) (hv : cellsV fv = [fv]) (h : TellsT G fv s nx SortT.d (· ∈ l) p) :
    callW G (.fn 117 [] []) [.d (.sl (l.map SortT.d)), fv] { s := s, next := nx, low := lw } = some (.d (.bool (l.all p)), { s := s, next := nx, low := lw }) :=
  everyT_ok (es := 2) (ag := true) T1.g117 T1.g40 T1.g99 (.inl T1.g162) hc hv hl (fun a _ => elt_sort) h
theorem evSA {l : List NodeT} {p : NodeT → Bool} {fv : V} {s : List (Nat × Obj)} {nx lw : Nat} (hl : l.length ≤ 9223372036854775807) (hc : fv.isCell = true) (hv : cellsV fv = [fv]) (h : TellsT G fv s nx NodeT.d (· ∈ l) p) :
    callW G (.fn 119 [] []) [.d (.sl (l.map NodeT.d)), fv] { s := s, next := nx, low := lw } = some (.d (.bool (l.all p)), { s := s, next := nx, low := lw }) :=
  everyT_ok (es := 2) (ag := true) T1.g119 T1.g42 T1.g100 (.inl T1.g163) hc hv hl (fun a _ => elt_node) h
theorem evSI {l : List Int} {p : Int → Bool} {fv : V} {s : List (Nat × Obj)} {nx lw : Nat} (hl : l.length ≤ 9223372036854775807) (hc : fv.isCell = true) (hv : cellsV fv = [fv]) (h : TellsT G fv s nx (D.int .i64) (· ∈ l) p) :
    callW G (.fn 126 [] []) [.d (.sl (l.map (D.int .i64))), fv] { s := s, next := nx, low := lw } = some (.d (.bool (l.all p)), { s := s, next := nx, low := lw }) :=
  everyT_ok (es := 1) (ag := false) T1.g126 T1.g164 T1.g184 (.inr T1.g165) hc hv hl (fun a _ => elt_int) h
theorem sortsC2_ok {x : SortT} (hx : x.ok) (st : St) : callW G (.fn 120 [] []) [.d x.d] st = some (.d (.bool (decide (x.alts.length ≤ 6))), st) := by
  have hl := hx.2.1
  unfold LOk at hl
  refine pure_pc (ds := [x.d]) (rs := [.bool (decide (x.alts.length ≤ 6))]) T1.g120 rfl rfl (fun e w_len harg => ?_) st
  have w_len : e.length = 7 := w_len
  have w_0 := harg 0 (by simp)
  clear harg
  simp only [List.map_cons, List.map_nil, List.getD_cons_zero] at w_0
  simp only [T1.i120, SortT.d, w_len, w_0, ↓ZA, ZB, simprocAttr]
  exact rq1 (by simp; omega)
theorem sortsC3_ok {x : NodeT} (hx : x.ok) (st : St) : callW G (.fn 121 [] []) [.d x.d] st = some (.d (.bool (fewK x)), st) := by
  have hl := hx.2.1
  unfold LOk at hl
  refine pure_pc (ds := [x.d]) (rs := [.bool (fewK x)]) T1.g121 rfl rfl (fun e w_len harg => ?_) st
  have w_len : e.length = 7 := w_len
  have w_0 := harg 0 (by simp)
  clear harg
  simp only [List.map_cons, List.map_nil, List.getD_cons_zero] at w_0
  simp only [T1.i121, NodeT.d, w_len, w_0, ↓ZA, ZB, simprocAttr]
  exact rq1 (by simp [fewK]; omega)
theorem sortsC4_ok {x : SortT} (st : St) : callW G (.fn 122 [] []) [.d x.d] st = some (.d (.bool (rankOk x)), st) := by
  refine pure_pc (ds := [x.d]) (rs := [.bool (rankOk x)]) T1.g122 rfl rfl (fun e w_len harg => ?_) st
  have w_len : e.length = 11 := w_len
  have w_0 := harg 0 (by simp)
  clear harg
  simp only [List.map_cons, List.map_nil, List.getD_cons_zero] at w_0
  by_cases h1 : 0 ≤ x.rank
  · simp only [T1.i122, SortT.d, h1, w_len, w_0, ↓ZA, ZB, simprocAttr]
    exact rq1 (by simp [rankOk, h1])
  · simp only [T1.i122, SortT.d, h1, w_len, w_0, ↓ZA, ZB, simprocAttr]
    exact rq1 (by simp [rankOk, h1])
theorem sortsC5_ok {x : NodeT} (hx : x.ok) (st : St) : callW G (.fn 123 [] []) [.d x.d] st = some (.d (.bool (isName x.name)), st) := by
  have hM := fun st => named_sorts hx.1 st
  refine pure_pc (ds := [x.d]) (rs := [.bool (isName x.name)]) T1.g123 rfl rfl (fun e w_len harg => ?_) st
  have w_len : e.length = 6 := w_len
  have w_0 := harg 0 (by simp)
  clear harg
  simp only [List.map_cons, List.map_nil, List.getD_cons_zero] at w_0
  simp only [T1.i123, NodeT.d, hM, w_len, w_0, ↓ZA, ZB, simprocAttr]
  exact rq1 (by rfl)
theorem sortC1_ok {t : TypeT} {dom : Int → Prop} {s : List (Nat × Obj)} {n0 k : Nat} (hk : k < n0) (ho : sget s k = some (.cells [.d (.sl (t.sorts.map SortT.d)), .d (.int .i64 t.start)])) : TellsT G (.fn 161 [] [.ptr k 0]) s n0 (D.int .i64) dom (inR t.sorts.length) := by
  intro x _ s' nx lw hs hn
  have ho' : sget s' k = _ := (hs k hk).trans ho
  refine pop_ro (first := []) (args := [.d (.int .i64 x)]) (cap := [.ptr k 0]) (us := [.d (.bool (inR t.sorts.length x))]) T1.g161 rfl rfl rfl (fun e w_len harg => ?_)
  have w_len : e.length = 13 := w_len
  have w_0 : e.getD 0 .undef = .d (.int .i64 x) := harg 0 (by simp)
  have w_1 : e.getD 1 .undef = .ptr k 0 := harg 1 (by simp)
  clear harg
  by_cases h1 : 0 ≤ x
  · simp only [T1.i161, ho', h1, w_len, w_0, w_1, ↓ZA, ZB, simprocAttr]
    exact ru1 (by first | exact Nat.le_refl _ | exact le_min' (Nat.le_refl _) (by omega) | exact le_min' (le_min' (Nat.le_refl _) (by omega)) (by omega)) (by simp [inR, h1])
  · simp only [T1.i161, h1, w_len, w_0, ↓ZA, ZB, simprocAttr]
    exact ru1 (by first | exact Nat.le_refl _ | exact le_min' (Nat.le_refl _) (by omega) | exact le_min' (le_min' (Nat.le_refl _) (by omega)) (by omega)) (by simp [inR, h1])
theorem sortsC6_ok {t : TypeT} {l : List NodeT} (hl : ∀ x ∈ l, x.ok) {s : List (Nat × Obj)} {n0 k j : Nat} (hk : k < n0) (hj : j < n0) (ho : sget s k = some (.cells [.d (.sl (t.sorts.map SortT.d)), .d (.int .i64 t.start)])) (hf : sget s j = some (.cells [.fn 161 [] [.ptr k 0]])) {dom : NodeT → Prop} (hd : ∀ x, dom x → x ∈ l) :
    TellsT G (.fn 125 [] [.ptr j 0]) s n0 NodeT.d dom (fun x => x.kids.all (inR t.sorts.length)) := by
  intro x hx s' nx lw hs hn
  have hkl := (hl x (hd x hx)).2.1
  unfold LOk at hkl
  have hne : (nx = j) = False := by simp; omega
  have ho' : sget s' k = _ := (hs k hk).trans ho
  have hf' : sget s' j = _ := (hs j hj).trans hf
  have hnk : (nx = k) = False := by simp; omega
  have hkx : k < nx := by omega
  have hC : ∀ s nx lw, sget s k = some (.cells [.d (.sl (t.sorts.map SortT.d)), .d (.int .i64 t.start)]) → k < nx → callW G (.fn 126 [] []) [.d (.sl (x.kids.map (D.int .i64))), .fn 161 [] [.ptr k 0]] { s := s, next := nx, low := lw } = some (.d (.bool (x.kids.all (inR t.sorts.length))), { s := s, next := nx, low := lw }) := fun s nx lw h1 h2 =>
    evSI (by omega) rfl rfl (sortC1_ok h2 h1)
  refine pop_ro (first := []) (args := [.d x.d]) (cap := [.ptr j 0]) (us := [.d (.bool (x.kids.all (inR t.sorts.length)))]) T1.g125 rfl rfl rfl (fun e w_len harg => ?_)
  have w_len : e.length = 8 := w_len
  have w_0 : e.getD 0 .undef = .d x.d := harg 0 (by simp)
  have w_1 : e.getD 1 .undef = .ptr j 0 := harg 1 (by simp)
  clear harg
  simp (maxDischargeDepth := 60) only [T1.i125, NodeT.d, hne, hnk, ho', hf', hkx, hC, w_len, w_0, w_1, ↓ZA, ZB, simprocAttr]
  exact ru1 (by first | exact Nat.le_refl _ | exact le_min' (Nat.le_refl _) (by omega) | exact le_min' (le_min' (Nat.le_refl _) (by omega)) (by omega)) rfl
theorem altsI_ok {l : List SortT} (hl : ∀ x ∈ l, x.ok) {p : NodeT → Bool} {f : Nat} {a b : List V} {s : List (Nat × Obj)} {n0 j : Nat} (hj : j < n0) (ho : sget s j = some (.cells [.fn f a b])) (h : TellsT G (.fn f a b) s n0 NodeT.d (fun x => ∃ s ∈ l, x ∈ s.alts) p) :
    TellsT G (.fn 118 [] [.ptr j 0]) s n0 SortT.d (· ∈ l) (fun s => s.alts.all p) := by
  intro x hx s' nx lw hs hn
  have hkl := (hl x hx).2.1
  unfold LOk at hkl
  have hne : (nx = j) = False := by simp; omega
  have ho' : sget s' j = _ := (hs j hj).trans ho
  have hC : ∀ nx' lw', nx < nx' → callW G (.fn 119 [] []) [.d (.sl (x.alts.map NodeT.d)), .fn f a b] { s := (nx, .cells [.d (.int .i64 x.rank), .d (.sl (x.alts.map NodeT.d))]) :: s', next := nx', low := lw' } = some (.d (.bool (x.alts.all p)), { s := (nx, .cells [.d (.int .i64 x.rank), .d (.sl (x.alts.map NodeT.d))]) :: s', next := nx', low := lw' }) := fun nx' lw' h2 =>
    evSA (by omega) rfl rfl ((h.sub (hs.trans (Sub.cons (n := n0) hn) (Nat.le_refl _)) (by omega)).dom fun y hy => ⟨x, hx, hy⟩)
  refine pop_ro (first := []) (args := [.d x.d]) (cap := [.ptr j 0]) (us := [.d (.bool (x.alts.all p))]) T1.g118 rfl rfl rfl (fun e w_len harg => ?_)
  have w_len : e.length = 8 := w_len
  have w_0 : e.getD 0 .undef = .d x.d := harg 0 (by simp)
  have w_1 : e.getD 1 .undef = .ptr j 0 := harg 1 (by simp)
  clear harg
  simp (maxDischargeDepth := 60) only [T1.i118, SortT.d, hne, ho', hC, w_len, w_0, w_1, ↓ZA, ZB, simprocAttr]
  exact ru1 (by first | exact Nat.le_refl _ | exact le_min' (Nat.le_refl _) (by omega) | exact le_min' (le_min' (Nat.le_refl _) (by omega)) (by omega)) rfl
theorem alts_ok {t : TypeT} (ht : t.ok) {p : NodeT → Bool} {f : Nat} {a b : List V} {s : List (Nat × Obj)} {nx lw k : Nat} (hk : k < nx) (ho : sget s k = some (.cells [.d (.sl (t.sorts.map SortT.d)), .d (.int .i64 t.start)])) (h : TellsT G (.fn f a b) s nx NodeT.d (fun x => ∃ s ∈ t.sorts, x ∈ s.alts) p) :
    callW G (.fn 116 [] [.ptr k 0]) [.fn f a b] { s := s, next := nx, low := lw } = some (.d (.bool (t.sorts.all fun s => s.alts.all p)), { s := s, next := nx, low := lw }) := by
  have hl := ht.1
  unfold LOk at hl
  have hne : (nx = k) = False := by simp; omega
  have hC : ∀ nx' lw', nx < nx' → callW G (.fn 117 [] []) [.d (.sl (t.sorts.map SortT.d)), .fn 118 [] [.ptr nx 0]] { s := (nx, .cells [.fn f a b]) :: s, next := nx', low := lw' } = some (.d (.bool (t.sorts.all fun s => s.alts.all p)), { s := (nx, .cells [.fn f a b]) :: s, next := nx', low := lw' }) := fun nx' lw' h2 =>
    evSS (by omega) rfl rfl (altsI_ok ht.2.1 h2 (by simp [sget]) (h.sub (Sub.cons (Nat.le_refl _)) (by omega)))
  refine pop_ro (first := []) (args := [.fn f a b]) (cap := [.ptr k 0]) (us := [.d (.bool (t.sorts.all fun s => s.alts.all p))]) T1.g116 rfl rfl rfl (fun e w_len harg => ?_)
  have w_len : e.length = 8 := w_len
  have w_0 : e.getD 0 .undef = .fn f a b := harg 0 (by simp)
  have w_1 : e.getD 1 .undef = .ptr k 0 := harg 1 (by simp)
  clear harg
  simp (maxDischargeDepth := 60) only [T1.i116, hne, ho, hC, w_len, w_0, w_1, ↓ZA, ZB, simprocAttr]
  exact ru1 (by first | exact Nat.le_refl _ | exact le_min' (Nat.le_refl _) (by omega) | exact le_min' (le_min' (Nat.le_refl _) (by omega)) (by omega)) rfl
theorem postv_eq {x : Option (V × St)} {a : V} {b : St} (h : PostV x (fun v st => v = a ∧ st = b)) : x = some (a, b) := by
  obtain ⟨v, st, h1, rfl, rfl⟩ := h
  exact h1
theorem sort_ok {t : TypeT} {s : List (Nat × Obj)} {nx lw : Nat} : callW G (.fn 115 [] []) [.d t.d] { s := s, next := nx, low := lw } = some (.fn 161 [] [.ptr nx 0], { s := (nx, .cells [.d (.sl (t.sorts.map SortT.d)), .d (.int .i64 t.start)]) :: s, next := nx + 2 + 2, low := Nat.min lw nx }) := by
  apply postv_eq
  refine stay_pc (first := []) (args := [.d t.d]) (cap := []) T1.g115 rfl rfl rfl (fun e w_len harg => ?_)
  have w_len : e.length = 4 := w_len
  have w_0 : e.getD 0 .undef = .d t.d := harg 0 (by simp)
  clear harg
  simp only [T1.i115, TypeT.d, w_len, w_0, ↓ZA, ZB, simprocAttr]
theorem psort_ok {t : TypeT} (ht : t.ok) (st : St) : callW G (.fn 62 [] []) [.d t.d] st = some (.d (.int .i64 (specType t)), st) := by
  have hl := ht.1
  unfold LOk at hl
  have hS : ∀ s nx lw, callW G (.fn 115 [] []) [.d (.agg [.sl (t.sorts.map SortT.d), .int .i64 t.start])] { s := s, next := nx, low := lw } = _ := fun s nx lw => sort_ok
  have hA : ∀ (f : Nat) (p : NodeT → Bool) (s : List (Nat × Obj)) (nx lw : Nat), (∀ x, (∃ s ∈ t.sorts, x ∈ s.alts) → ∀ st, callW G (.fn f [] []) [.d x.d] st = some (.d (.bool (p x)), st)) → sget s 0 = some (.cells [.d (.sl (t.sorts.map SortT.d)), .d (.int .i64 t.start)]) → 0 < nx → callW G (.fn 116 [] [.ptr 0 0]) [.fn f [] []] { s := s, next := nx, low := lw } = some (.d (.bool (t.sorts.all fun s => s.alts.all p)), { s := s, next := nx, low := lw }) := fun f p s nx lw hp ho hx =>
    alts_ok ht hx ho (tellsT_pure hp)
  have hin : ∀ x, (∃ s ∈ t.sorts, x ∈ s.alts) → x.ok := fun x ⟨s, hs, hx⟩ => (ht.2.1 s hs).2.2 x hx
  have hA1 := fun s nx lw => hA 121 fewK s nx lw fun x hx st => sortsC3_ok (hin x hx) st
  have hA2 := fun s nx lw => hA 123 (fun x => isName x.name) s nx lw fun x hx st => sortsC5_ok (hin x hx) st
  have hA3 : ∀ (s : List (Nat × Obj)) (nx lw : Nat), sget s 0 = some (.cells [.d (.sl (t.sorts.map SortT.d)), .d (.int .i64 t.start)]) → sget s 6 = some (.cells [.d (.sl (t.sorts.map SortT.d)), .d (.int .i64 t.start)]) → sget s 4 = some (.cells [.fn 161 [] [.ptr 6 0]]) → 6 < nx → callW G (.fn 116 [] [.ptr 0 0]) [.fn 125 [] [.ptr 4 0]] { s := s, next := nx, low := lw } = some (.d (.bool (t.sorts.all (kidsIn t.sorts.length))), { s := s, next := nx, low := lw }) := fun s nx lw h0 h6 h4 hx =>
    alts_ok ht (by omega) h0 (fun x hx' => (sortsC6_ok (l := [x]) (dom := (· = x)) (fun y hy => by simp at hy; subst hy; exact hin _ hx') hx (by omega) h6 h4 (fun y hy => by simp [hy])) x rfl)
  have hE1 : ∀ st, callW G (.fn 117 [] []) [.d (.sl (t.sorts.map SortT.d)), .fn 120 [] []] st = some (.d (.bool (t.sorts.all fun s => decide (s.alts.length ≤ 6))), st) := fun st =>
    evSS (by omega) rfl rfl (tellsT_pure fun a ha st => sortsC2_ok (ht.2.1 a ha) st)
  have hE2 : ∀ st, callW G (.fn 117 [] []) [.d (.sl (t.sorts.map SortT.d)), .fn 122 [] []] st = some (.d (.bool (t.sorts.all rankOk)), st) := fun st =>
    evSS (by omega) rfl rfl (tellsT_pure fun a ha st => sortsC4_ok st)
  have hC1 : ∀ (s : List (Nat × Obj)) (nx lw : Nat), sget s 6 = some (.cells [.d (.sl (t.sorts.map SortT.d)), .d (.int .i64 t.start)]) → 6 < nx → callW G (.fn 161 [] [.ptr 6 0]) [.d (.int .i64 t.start)] { s := s, next := nx, low := lw } = some (.d (.bool (inR t.sorts.length t.start)), { s := s, next := nx, low := lw }) := fun s nx lw h1 h2 =>
    sortC1_ok (dom := fun _ => True) h2 h1 _ trivial s nx lw (Sub.refl _ _) (Nat.le_refl _)
  have hsp : (t.sorts.all fewA) = (t.sorts.all (fun s => decide (s.alts.length ≤ 6)) && t.sorts.all fun s => s.alts.all fewK) := by
    rw [Bool.eq_iff_iff, Bool.and_eq_true, List.all_eq_true, List.all_eq_true, List.all_eq_true]
    simp only [fewA, Bool.and_eq_true]
    exact ⟨fun h => ⟨fun x hx => (h x hx).1, fun x hx => (h x hx).2⟩, fun h x hx => ⟨h.1 x hx, h.2 x hx⟩⟩
  refine pure_pc (ds := [t.d]) (rs := [.int .i64 (specType t)]) T1.g62 rfl rfl (fun e w_len harg => ?_) st
  have w_len : e.length = 55 := w_len
  have w_0 := harg 0 (by simp)
  clear harg
  simp only [List.map_cons, List.map_nil, List.getD_cons_zero] at w_0
  by_cases h1 : (t.sorts.length : Int) < 1
  · simp only [T1.i62, TypeT.d, hS, h1, w_len, w_0, ↓ZA, ZB, simprocAttr]
    exact rq1 (by rw [specType, if_pos (.inl (.inl h1))])
  by_cases h2 : (24 : Int) < t.sorts.length
  · simp only [T1.i62, TypeT.d, hS, h1, h2, w_len, w_0, ↓ZA, ZB, simprocAttr]
    exact rq1 (by rw [specType, if_pos (.inl (.inr h2))])
  cases h3 : t.sorts.all fun s => decide (s.alts.length ≤ 6) with
  | false =>
    simp only [T1.i62, TypeT.d, hS, h1, h2, hE1, h3, w_len, w_0, ↓ZA, ZB, simprocAttr]
    exact rq1 (by rw [specType, if_pos (.inr (by rw [hsp, h3]; rfl))])
  | true =>
  cases h4 : t.sorts.all fun s => s.alts.all fewK with
  | false =>
    simp only [T1.i62, TypeT.d, hS, h1, h2, hE1, h3, hA1, h4, w_len, w_0, ↓ZA, ZB, simprocAttr]
    exact rq1 (by rw [specType, if_pos (.inr (by rw [hsp, h3, h4]; rfl))])
  | true =>
  have k1 : ¬ (((t.sorts.length : Int) < 1 ∨ (24 : Int) < t.sorts.length) ∨ t.sorts.all fewA = false) := fun h => h.elim (fun h => h.elim h1 h2) (by rw [hsp, h3, h4]; simp)
  cases h5 : t.sorts.all rankOk with
  | false =>
    simp only [T1.i62, TypeT.d, hS, h1, h2, hE1, h3, hA1, h4, hE2, h5, w_len, w_0, ↓ZA, ZB, simprocAttr]
    exact rq1 (by rw [specType, if_neg k1, if_pos h5])
  | true =>
  have k2 : ¬ t.sorts.all rankOk = false := by rw [h5]; simp
  cases h6 : t.sorts.all fun s => s.alts.all fun x => isName x.name with
  | false =>
    simp only [T1.i62, TypeT.d, hS, h1, h2, hE1, h3, hA1, h4, hE2, h5, hA2, h6, w_len, w_0, ↓ZA, ZB, simprocAttr]
    exact rq1 (by rw [specType, if_neg k1, if_neg k2, if_pos (show t.sorts.all nmdA = false from h6)])
  | true =>
  have k3 : ¬ t.sorts.all nmdA = false := by unfold nmdA; rw [h6]; simp
  have hT : ∀ st, callW G (.fn 40 [] []) [.d (.sl (t.sorts.map SortT.d)), .fn 127 [] []] st = some (.d (.bool (t.sorts.any fun s => twiceL s.alts)), st) := fun st =>
    conT_ok (p := fun s : SortT => twiceL s.alts) T1.g40 T1.g99 (by omega) (fun a _ => elt_sort) (tellsT_pure fun a ha st => twiceS_ok (ht.2.1 a ha) (List.all_eq_true.1 h6 a ha) st)
  cases h7 : inR t.sorts.length t.start with
  | false =>
    simp only [T1.i62, TypeT.d, hS, h1, h2, hE1, h3, hA1, h4, hE2, h5, hA2, h6, hC1, h7, w_len, w_0, ↓ZA, ZB, simprocAttr]
    exact rq1 (by rw [specType, if_neg k1, if_neg k2, if_neg k3, if_pos (.inl h7)])
  | true =>
  cases h8 : t.sorts.all (kidsIn t.sorts.length) with
  | false =>
    simp only [T1.i62, TypeT.d, hS, h1, h2, hE1, h3, hA1, h4, hE2, h5, hA2, h6, hC1, h7, hA3, h8, w_len, w_0, ↓ZA, ZB, simprocAttr]
    exact rq1 (by rw [specType, if_neg k1, if_neg k2, if_neg k3, if_pos (.inr h8)])
  | true =>
  have k4 : ¬ (inR t.sorts.length t.start = false ∨ t.sorts.all (kidsIn t.sorts.length) = false) := by rw [h7, h8]; simp
  cases h9 : t.sorts.any fun s => twiceL s.alts with
  | true =>
    simp only [T1.i62, TypeT.d, hS, h1, h2, hE1, h3, hA1, h4, hE2, h5, hA2, h6, hC1, h7, hA3, h8, hT, h9, w_len, w_0, ↓ZA, ZB, simprocAttr]
    exact rq1 (by rw [specType, if_neg k1, if_neg k2, if_neg k3, if_neg k4, if_pos h9])
  | false =>
    simp only [T1.i62, TypeT.d, hS, h1, h2, hE1, h3, hA1, h4, hE2, h5, hA2, h6, hC1, h7, hA3, h8, hT, h9, w_len, w_0, ↓ZA, ZB, simprocAttr]
    exact rq1 (by rw [specType, if_neg k1, if_neg k2, if_neg k3, if_neg k4, if_neg (by rw [h9]; simp)])
end Go.Lift.K
namespace Go.Lift.K
open Go Go.Lift
set_option maxRecDepth 100000
def longS (s : List Nat) : Bool := decide ((40 : Int) < s.length)
def longL (l : List (List Nat)) : Bool := decide ((9 : Int) < l.length) || l.any longS
def bigP (x : PatT) : Bool := longS x.name || longL x.vars
def bigC (c : ClauseT) : Bool := longS c.rel || decide ((6 : Int) < c.head.length) || decide ((8 : Int) < c.body.length) || c.head.any bigP || c.body.any bigP
def bigR (x : RelT) : Bool := longS x.name
def bigRules (r : RulesT) : Bool := decide ((12 : Int) < r.rels.length) || decide ((30 : Int) < r.clauses.length) || r.rels.any bigR || r.clauses.any bigC
def greatN (x : NodeT) : Bool := decide ((12 : Int) < x.kids.length) || longS x.name
def greatT (t : TreeT) : Bool := decide ((68 : Int) < t.nodes.length) || t.nodes.any greatN
def greatA (x : NodeT) : Bool := decide ((8 : Int) < x.kids.length) || longS x.name
def greatS (s : SortT) : Bool := decide ((9 : Int) < s.alts.length) || s.alts.any greatA
def greatTy (t : TypeT) : Bool := decide ((30 : Int) < t.sorts.length) || t.sorts.any greatS
def sumW (l : List TreeT) : Int := l.foldl (fun n t => IntKind.i64.wrap (n + t.nodes.length)) 0
def bigGoal (g : GoalT) : Bool := longS g.rel || decide ((6 : Int) < g.args.length) || decide ((90 : Int) < sumW g.args) || g.args.any greatT
theorem cnS {l : List (List Nat)} {p : List Nat → Bool} {fv : V} (hl : LOk l) (h : ∀ s nx, TellsT G fv s nx D.str (· ∈ l) p) (st : St) : callW G (.fn 7 [] []) [.d (.sl (l.map D.str)), fv] st = some (.d (.bool (l.any p)), st) :=
  conT_ok (es := 1) (ag := false) T1.g7 T1.g44 hl (fun a _ => .inr ⟨rfl, rfl, rfl⟩) (h _ _)
theorem big11_ok {x : List Nat} (st : St) : callW G (.fn 29 [] []) [.d (.str x)] st = some (.d (.bool (longS x)), st) := by
  refine pure_pc (ds := [.str x]) (rs := [.bool (longS x)]) T1.g29 rfl rfl (fun e w_len harg => ?_) st
  have w_len : e.length = 6 := w_len
  have w_0 := harg 0 (by simp)
  clear harg
  simp only [List.map_cons, List.map_nil, List.getD_cons_zero] at w_0
  simp only [T1.i29, w_len, w_0, ↓ZA, ZB, simprocAttr]
  exact rq1 (by rfl)
theorem big1_ok {l : List (List Nat)} (hl : SsOk l) (st : St) : callW G (.fn 28 [] []) [.d (.sl (l.map D.str))] st = some (.d (.bool (longL l)), st) := by
  have hC := fun st => cnS (p := longS) hl.1 (fun s nx => tellsT_pure fun a ha st => big11_ok st) st
  refine pure_pc (ds := [.sl (l.map D.str)]) (rs := [.bool (longL l)]) T1.g28 rfl rfl (fun e w_len harg => ?_) st
  have w_len : e.length = 10 := w_len
  have w_0 := harg 0 (by simp)
  clear harg
  simp only [List.map_cons, List.map_nil, List.getD_cons_zero] at w_0
  by_cases hc0 : (9 : Int) < l.length
  · simp only [T1.i28, hc0, w_len, w_0, ↓ZA, ZB, simprocAttr]
    exact rq1 (by simp [longL, hc0])
  simp only [T1.i28, hC, hc0, w_len, w_0, ↓ZA, ZB, simprocAttr]
  exact rq1 (by simp [longL, hc0])
theorem big2_ok {x : RelT} (st : St) : callW G (.fn 31 [] []) [.d x.d] st = some (.d (.bool (bigR x)), st) := by
  refine pure_pc (ds := [x.d]) (rs := [.bool (bigR x)]) T1.g31 rfl rfl (fun e w_len harg => ?_) st
  have w_len : e.length = 7 := w_len
  have w_0 := harg 0 (by simp)
  clear harg
  simp only [List.map_cons, List.map_nil, List.getD_cons_zero] at w_0
  simp only [T1.i31, RelT.d, w_len, w_0, ↓ZA, ZB, simprocAttr]
  exact rq1 (by rfl)
theorem big31_ok {l : List PatT} (hl : ∀ x ∈ l, x.ok) {s : List (Nat × Obj)} {n0 k : Nat} (hk : k < n0) (ho : sget s k = some (.cells [.fn 28 [] []])) : TellsT G (.fn 35 [] [.ptr k 0]) s n0 PatT.d (· ∈ l) bigP := by
  intro x hx s' nx lw hs hn
  have hne : (nx = k) = False := by simp; omega
  have ho' : sget s' k = _ := (hs k hk).trans ho
  have hC := fun st => big1_ok (hl x hx).2 st
  refine pop_ro (first := []) (args := [.d x.d]) (cap := [.ptr k 0]) (us := [.d (.bool (bigP x))]) T1.g35 rfl rfl rfl (fun e w_len harg => ?_)
  have w_len : e.length = 14 := w_len
  have w_0 : e.getD 0 .undef = .d x.d := harg 0 (by simp)
  have w_1 : e.getD 1 .undef = .ptr k 0 := harg 1 (by simp)
  clear harg
  by_cases hc0 : (40 : Int) < x.name.length
  · simp only [T1.i35, PatT.d, hc0, w_len, w_0, ↓ZA, ZB, simprocAttr]
    exact ru1 (by first | exact Nat.le_refl _ | exact le_min' (Nat.le_refl _) (by omega) | exact le_min' (le_min' (Nat.le_refl _) (by omega)) (by omega)) (by simp [bigP, longS, hc0])
  simp only [T1.i35, PatT.d, hne, ho', hC, hc0, w_len, w_0, w_1, ↓ZA, ZB, simprocAttr]
  exact ru1 (by first | exact Nat.le_refl _ | exact le_min' (Nat.le_refl _) (by omega) | exact le_min' (le_min' (Nat.le_refl _) (by omega)) (by omega)) (by simp [bigP, longS, hc0])
theorem big32_ok {l : List PatT} (hl : ∀ x ∈ l, x.ok) {s : List (Nat × Obj)} {n0 k : Nat} (hk : k < n0) (ho : sget s k = some (.cells [.fn 28 [] []])) : TellsT G (.fn 37 [] [.ptr k 0]) s n0 PatT.d (· ∈ l) bigP := by
  intro x hx s' nx lw hs hn
  have hne : (nx = k) = False := by simp; omega
  have ho' : sget s' k = _ := (hs k hk).trans ho
  have hC := fun st => big1_ok (hl x hx).2 st
  refine pop_ro (first := []) (args := [.d x.d]) (cap := [.ptr k 0]) (us := [.d (.bool (bigP x))]) T1.g37 rfl rfl rfl (fun e w_len harg => ?_)
  have w_len : e.length = 14 := w_len
  have w_0 : e.getD 0 .undef = .d x.d := harg 0 (by simp)
  have w_1 : e.getD 1 .undef = .ptr k 0 := harg 1 (by simp)
  clear harg
  by_cases hc0 : (40 : Int) < x.name.length
  · simp only [T1.i37, PatT.d, hc0, w_len, w_0, ↓ZA, ZB, simprocAttr]
    exact ru1 (by first | exact Nat.le_refl _ | exact le_min' (Nat.le_refl _) (by omega) | exact le_min' (le_min' (Nat.le_refl _) (by omega)) (by omega)) (by simp [bigP, longS, hc0])
  simp only [T1.i37, PatT.d, hne, ho', hC, hc0, w_len, w_0, w_1, ↓ZA, ZB, simprocAttr]
  exact ru1 (by first | exact Nat.le_refl _ | exact le_min' (Nat.le_refl _) (by omega) | exact le_min' (le_min' (Nat.le_refl _) (by omega)) (by omega)) (by simp [bigP, longS, hc0])
theorem big3_ok {l : List ClauseT} (hl : ∀ x ∈ l, x.ok) {s : List (Nat × Obj)} {n0 k : Nat} (hk : k < n0) (ho : sget s k = some (.cells [.fn 28 [] []])) : TellsT G (.fn 33 [] [.ptr k 0]) s n0 ClauseT.d (· ∈ l) bigC := by
  intro x hx s' nx lw hs hn
  have hne : (nx = k) = False := by simp; omega
  have ho' : sget s' k = _ := (hs k hk).trans ho
  have hkx : k < nx := by omega
  have h1 := (hl x hx).2.1
  have h2 := (hl x hx).2.2
  have hC1 : ∀ s nx lw, sget s k = some (.cells [.fn 28 [] []]) → k < nx → callW G (.fn 34 [] []) [.d (.sl (x.head.map PatT.d)), .fn 35 [] [.ptr k 0]] { s := s, next := nx, low := lw } = some (.d (.bool (x.head.any bigP)), { s := s, next := nx, low := lw }) := fun s nx lw h h' =>
    conT_ok (p := bigP) T1.g34 T1.g94 h1.1 (fun a _ => elt_pat) (big31_ok h1.2 h' h)
  have hC2 : ∀ s nx lw, sget s k = some (.cells [.fn 28 [] []]) → k < nx → callW G (.fn 36 [] []) [.d (.sl (x.body.map PatT.d)), .fn 37 [] [.ptr k 0]] { s := s, next := nx, low := lw } = some (.d (.bool (x.body.any bigP)), { s := s, next := nx, low := lw }) := fun s nx lw h h' =>
    conT_ok (p := bigP) T1.g36 T1.g95 h2.1 (fun a _ => elt_pat) (big32_ok h2.2 h' h)
  refine pop_ro (first := []) (args := [.d x.d]) (cap := [.ptr k 0]) (us := [.d (.bool (bigC x))]) T1.g33 rfl rfl rfl (fun e w_len harg => ?_)
  have w_len : e.length = 32 := w_len
  have w_0 : e.getD 0 .undef = .d x.d := harg 0 (by simp)
  have w_1 : e.getD 1 .undef = .ptr k 0 := harg 1 (by simp)
  clear harg
  by_cases hc0 : (40 : Int) < x.rel.length
  · simp only [T1.i33, ClauseT.d, hc0, w_len, w_0, ↓ZA, ZB, simprocAttr]
    exact ru1 (by first | exact Nat.le_refl _ | exact le_min' (Nat.le_refl _) (by omega) | exact le_min' (le_min' (Nat.le_refl _) (by omega)) (by omega)) (by simp [bigC, longS, hc0])
  by_cases hc1 : (6 : Int) < x.head.length
  · simp only [T1.i33, ClauseT.d, hc0, hc1, w_len, w_0, ↓ZA, ZB, simprocAttr]
    exact ru1 (by first | exact Nat.le_refl _ | exact le_min' (Nat.le_refl _) (by omega) | exact le_min' (le_min' (Nat.le_refl _) (by omega)) (by omega)) (by simp [bigC, longS, hc0, hc1])
  by_cases hc2 : (8 : Int) < x.body.length
  · simp only [T1.i33, ClauseT.d, hc0, hc1, hc2, w_len, w_0, ↓ZA, ZB, simprocAttr]
    exact ru1 (by first | exact Nat.le_refl _ | exact le_min' (Nat.le_refl _) (by omega) | exact le_min' (le_min' (Nat.le_refl _) (by omega)) (by omega)) (by simp [bigC, longS, hc0, hc1, hc2])
  cases hc3 : x.head.any bigP with
  | true =>
    simp (maxDischargeDepth := 60) only [T1.i33, ClauseT.d, hne, ho', hkx, hC1, hc0, hc1, hc2, hc3, w_len, w_0, w_1, ↓ZA, ZB, simprocAttr]
    exact ru1 (by first | exact Nat.le_refl _ | exact le_min' (Nat.le_refl _) (by omega) | exact le_min' (le_min' (Nat.le_refl _) (by omega)) (by omega)) (by simp [bigC, longS, hc0, hc1, hc2, hc3])
  | false =>
  simp (maxDischargeDepth := 60) only [T1.i33, ClauseT.d, hne, ho', hkx, hC1, hC2, hc0, hc1, hc2, hc3, w_len, w_0, w_1, ↓ZA, ZB, simprocAttr]
  exact ru1 (by first | exact Nat.le_refl _ | exact le_min' (Nat.le_refl _) (by omega) | exact le_min' (le_min' (Nat.le_refl _) (by omega)) (by omega)) (by simp [bigC, longS, hc0, hc1, hc2, hc3])
theorem big_ok {r : RulesT} (hr : r.ok) (st : St) : callW G (.fn 4 [] []) [.d r.d] st = some (.d (.bool (bigRules r)), st) := by
  have hC1 : ∀ st, callW G (.fn 30 [] []) [.d (.sl (r.rels.map RelT.d)), .fn 31 [] []] st = some (.d (.bool (r.rels.any bigR)), st) := fun st =>
    conT_ok (p := bigR) T1.g30 T1.g92 hr.1.1 (fun a _ => elt_rel) (tellsT_pure fun a ha st => big2_ok st)
  have hC2 : ∀ s nx lw, sget s 2 = some (.cells [.fn 28 [] []]) → 2 < nx → callW G (.fn 32 [] []) [.d (.sl (r.clauses.map ClauseT.d)), .fn 33 [] [.ptr 2 0]] { s := s, next := nx, low := lw } = some (.d (.bool (r.clauses.any bigC)), { s := s, next := nx, low := lw }) := fun s nx lw h h' =>
    conT_ok (p := bigC) T1.g32 T1.g93 hr.2.1 (fun a _ => elt_clause) (big3_ok hr.2.2 h' h)
  refine pure_pc (ds := [r.d]) (rs := [.bool (bigRules r)]) T1.g4 rfl rfl (fun e w_len harg => ?_) st
  have w_len : e.length = 25 := w_len
  have w_0 := harg 0 (by simp)
  clear harg
  simp only [List.map_cons, List.map_nil, List.getD_cons_zero] at w_0
  by_cases hc0 : (12 : Int) < r.rels.length
  · simp only [T1.i4, RulesT.d, hc0, w_len, w_0, ↓ZA, ZB, simprocAttr]
    exact rq1 (by simp [bigRules, hc0])
  by_cases hc1 : (30 : Int) < r.clauses.length
  · simp only [T1.i4, RulesT.d, hc0, hc1, w_len, w_0, ↓ZA, ZB, simprocAttr]
    exact rq1 (by simp [bigRules, hc0, hc1])
  cases hc2 : r.rels.any bigR with
  | true =>
    simp only [T1.i4, RulesT.d, hC1, hc0, hc1, hc2, w_len, w_0, ↓ZA, ZB, simprocAttr]
    exact rq1 (by simp [bigRules, hc0, hc1, hc2])
  | false =>
  simp only [T1.i4, RulesT.d, hC1, hC2, hc0, hc1, hc2, w_len, w_0, ↓ZA, ZB, simprocAttr]
  exact rq1 (by simp [bigRules, hc0, hc1, hc2])
theorem greatN_ok {x : NodeT} (st : St) : callW G (.fn 98 [] []) [.d x.d] st = some (.d (.bool (greatN x)), st) := by
  refine pure_pc (ds := [x.d]) (rs := [.bool (greatN x)]) T1.g98 rfl rfl (fun e w_len harg => ?_) st
  have w_len : e.length = 13 := w_len
  have w_0 := harg 0 (by simp)
  clear harg
  simp only [List.map_cons, List.map_nil, List.getD_cons_zero] at w_0
  by_cases hc0 : (12 : Int) < x.kids.length
  · simp only [T1.i98, NodeT.d, hc0, w_len, w_0, ↓ZA, ZB, simprocAttr]
    exact rq1 (by simp [greatN, longS, hc0])
  simp only [T1.i98, NodeT.d, hc0, w_len, w_0, ↓ZA, ZB, simprocAttr]
  exact rq1 (by simp [greatN, longS, hc0])
theorem greatT_ok {t : TreeT} (ht : t.ok) (st : St) : callW G (.fn 39 [] []) [.d t.d] st = some (.d (.bool (greatT t)), st) := by
  have hC1 : ∀ st, callW G (.fn 97 [] []) [.d (.sl (t.nodes.map NodeT.d)), .fn 98 [] []] st = some (.d (.bool (t.nodes.any greatN)), st) := fun st =>
    conT_ok (p := greatN) T1.g97 T1.g151 ht.1.1 (fun a _ => elt_node) (tellsT_pure fun a ha st => greatN_ok st)
  refine pure_pc (ds := [t.d]) (rs := [.bool (greatT t)]) T1.g39 rfl rfl (fun e w_len harg => ?_) st
  have w_len : e.length = 12 := w_len
  have w_0 := harg 0 (by simp)
  clear harg
  simp only [List.map_cons, List.map_nil, List.getD_cons_zero] at w_0
  by_cases hc0 : (68 : Int) < t.nodes.length
  · simp only [T1.i39, TreeT.d, hc0, w_len, w_0, ↓ZA, ZB, simprocAttr]
    exact rq1 (by simp [greatT, hc0])
  simp only [T1.i39, TreeT.d, hC1, hc0, w_len, w_0, ↓ZA, ZB, simprocAttr]
  exact rq1 (by simp [greatT, hc0])
theorem greatA_ok {x : NodeT} (st : St) : callW G (.fn 43 [] []) [.d x.d] st = some (.d (.bool (greatA x)), st) := by
  refine pure_pc (ds := [x.d]) (rs := [.bool (greatA x)]) T1.g43 rfl rfl (fun e w_len harg => ?_) st
  have w_len : e.length = 13 := w_len
  have w_0 := harg 0 (by simp)
  clear harg
  simp only [List.map_cons, List.map_nil, List.getD_cons_zero] at w_0
  by_cases hc0 : (8 : Int) < x.kids.length
  · simp only [T1.i43, NodeT.d, hc0, w_len, w_0, ↓ZA, ZB, simprocAttr]
    exact rq1 (by simp [greatA, longS, hc0])
  simp only [T1.i43, NodeT.d, hc0, w_len, w_0, ↓ZA, ZB, simprocAttr]
  exact rq1 (by simp [greatA, longS, hc0])
theorem greatS_ok {s : SortT} (hs : s.ok) (st : St) : callW G (.fn 41 [] []) [.d s.d] st = some (.d (.bool (greatS s)), st) := by
  have hC1 : ∀ st, callW G (.fn 42 [] []) [.d (.sl (s.alts.map NodeT.d)), .fn 43 [] []] st = some (.d (.bool (s.alts.any greatA)), st) := fun st =>
    conT_ok (p := greatA) T1.g42 T1.g100 hs.2.1 (fun a _ => elt_node) (tellsT_pure fun a ha st => greatA_ok st)
  refine pure_pc (ds := [s.d]) (rs := [.bool (greatS s)]) T1.g41 rfl rfl (fun e w_len harg => ?_) st
  have w_len : e.length = 12 := w_len
  have w_0 := harg 0 (by simp)
  clear harg
  simp only [List.map_cons, List.map_nil, List.getD_cons_zero] at w_0
  by_cases hc0 : (9 : Int) < s.alts.length
  · simp only [T1.i41, SortT.d, hc0, w_len, w_0, ↓ZA, ZB, simprocAttr]
    exact rq1 (by simp [greatS, hc0])
  simp only [T1.i41, SortT.d, hC1, hc0, w_len, w_0, ↓ZA, ZB, simprocAttr]
  exact rq1 (by simp [greatS, hc0])
theorem greatTy_ok {t : TypeT} (ht : t.ok) (st : St) : callW G (.fn 6 [] []) [.d t.d] st = some (.d (.bool (greatTy t)), st) := by
  have hC1 : ∀ st, callW G (.fn 40 [] []) [.d (.sl (t.sorts.map SortT.d)), .fn 41 [] []] st = some (.d (.bool (t.sorts.any greatS)), st) := fun st =>
    conT_ok (p := greatS) T1.g40 T1.g99 ht.1 (fun a _ => elt_sort) (tellsT_pure fun a ha st => greatS_ok (ht.2.1 a ha) st)
  refine pure_pc (ds := [t.d]) (rs := [.bool (greatTy t)]) T1.g6 rfl rfl (fun e w_len harg => ?_) st
  have w_len : e.length = 12 := w_len
  have w_0 := harg 0 (by simp)
  clear harg
  simp only [List.map_cons, List.map_nil, List.getD_cons_zero] at w_0
  by_cases hc0 : (30 : Int) < t.sorts.length
  · simp only [T1.i6, TypeT.d, hc0, w_len, w_0, ↓ZA, ZB, simprocAttr]
    exact rq1 (by simp [greatTy, hc0])
  simp only [T1.i6, TypeT.d, hC1, hc0, w_len, w_0, ↓ZA, ZB, simprocAttr]
  exact rq1 (by simp [greatTy, hc0])
theorem sumW_snoc {l : List TreeT} {i : Nat} (hi : i < l.length) : sumW (l.take (i + 1)) = IntKind.i64.wrap (sumW (l.take i) + l[i].nodes.length) := by
  rw [List.take_add_one, List.getElem?_eq_getElem hi, sumW, List.foldl_append]
  rfl
theorem bigGoal_ok {g : GoalT} (hg : g.ok) (st : St) : callW G (.fn 5 [] []) [.d g.d] st = some (.d (.bool (bigGoal g)), st) := by
  have hl := hg.2.1
  unfold LOk at hl
  have hC1 : ∀ st, callW G (.fn 38 [] []) [.d (.sl (g.args.map TreeT.d)), .fn 39 [] []] st = some (.d (.bool (g.args.any greatT)), st) := fun st =>
    conT_ok (p := greatT) T1.g38 T1.g96 hg.2.1 (fun a _ => elt_tree) (tellsT_pure fun a ha st => greatT_ok (hg.2.2 a ha) st)
  refine pure_pc (ds := [g.d]) (rs := [.bool (bigGoal g)]) T1.g5 rfl rfl (fun e w_len harg => ?_) st
  have w_len : e.length = 38 := w_len
  have w_0 := harg 0 (by simp)
  clear harg
  simp only [List.map_cons, List.map_nil, List.getD_cons_zero] at w_0
  simp only [T1.i5, GoalT.d, w_len, w_0, ↓ZA, ZB, simprocAttr]
  refine lp_rounds (fun e0 s0 m env st => ∃ (i nxi lwi : Nat) (si : List (Nat × Obj)) (n3 : Int), m = g.args.length - i ∧ (i ≤ g.args.length) ∧ (n3 = sumW (g.args.take i)) ∧ sget si (0) = some (.cells [.d (.str g.rel), .d (.sl (g.args.map TreeT.d))]) ∧ 1 ≤ nxi ∧ 0 ≤ lwi ∧ env.length = 38 ∧ env.getD 9 .undef = .d (.int .i64 i) ∧ env.getD 1 .undef = .ptr 0 0 ∧ env.getD 7 .undef = .d (.sl (g.args.map TreeT.d)) ∧ env.getD 8 .undef = .d (.int .i64 g.args.length) ∧ env.getD 3 .undef = .d (.int .i64 n3) ∧ st = { s := si, next := nxi, low := lwi }) ?_ (g.args.length) (by refine ⟨0, _, _, _, 0, rfl, by omega, rfl, ?_, (by omega), Nat.zero_le _, ?_, ?_, ?_, ?_, ?_, ?_, rfl⟩ <;> simp only [w_len, ZB, simprocAttr])
  rintro m env st ⟨i, nxi, lwi, si, n3, hm, a_0, a_1, w_ac0, w_ab, w_alo, w_len, w_9, w_1, w_7, w_8, w_3, rfl⟩
  have w_aN := cf1 (x := nxi) (a := 0) (by omega)
  have w_aS := cf2 (x := nxi) (by omega) w_ac0
  have w_aZ := zf0 (x := nxi) (n := 1) (by omega)
  by_cases hi : i < g.args.length
  · simp only [hi, iaddr_tree hi, wrap_succ hi (by omega), w_len, w_9, w_7, w_8, w_3, ↓ZA, ZB, simprocAttr]
    exact nx_intro (by refine ⟨_, by omega, i + 1, _, _, _, IntKind.i64.wrap (n3 + g.args[i].nodes.length), rfl, by omega, (by rw [sumW_snoc hi, a_1]), ?_, (by omega), Nat.zero_le _, ?_, ?_, ?_, ?_, ?_, ?_, rfl⟩ <;> simp only [w_len, w_1, w_7, w_8, w_ac0, ZB, simprocAttr])
  · have ht : g.args.take i = g.args := List.take_of_length_le (by omega)
    rw [ht] at a_1
    subst a_1
    by_cases h1 : (40 : Int) < g.rel.length
    · simp only [hi, h1, w_len, w_9, w_1, w_8, w_ac0, ↓ZA, ZB, simprocAttr]
      exact rq1 (by simp [bigGoal, longS, h1])
    by_cases h2 : (6 : Int) < g.args.length
    · simp only [hi, h1, h2, w_len, w_9, w_1, w_8, w_ac0, ↓ZA, ZB, simprocAttr]
      exact rq1 (by simp [bigGoal, h2])
    by_cases h3 : (90 : Int) < sumW g.args
    · simp only [hi, h1, h2, h3, w_len, w_9, w_1, w_8, w_3, w_ac0, ↓ZA, ZB, simprocAttr]
      exact rq1 (by simp [bigGoal, h3])
    simp only [hi, h1, h2, h3, hC1, w_len, w_9, w_1, w_8, w_3, w_ac0, ↓ZA, ZB, simprocAttr]
    exact rq1 (by simp [bigGoal, longS, h1, h2, h3])
end Go.Lift.K
namespace Go.Lift.K
open Go Go.Lift
set_option maxRecDepth 100000
theorem all2_beq : ∀ {l m : List D}, all2 D.beq l m = D.beqL l m
  | [], [] => rfl
  | [], _ :: _ => rfl
  | _ :: _, [] => rfl
  | x :: l, y :: m => by simp only [all2, D.beqL, all2_beq]
theorem efT_ok {f es : Nat} {ag : Bool} {z : List V} (hG : G f = some (efFun es ag z)) (hz : z.length = es) {α : Type} {enc : α → D} {fv : V} {l m : List α} (hl : LOk l) (he : ∀ a, Elt es ag (enc a))
    (hf : ∀ a ∈ l, ∀ b ∈ m, ∀ st, callW G fv [.d (enc a), .d (enc b)] st = some (.d (.bool (D.beq (enc a) (enc b))), st)) (st : St) :
    callW G (.fn f [] []) [.d (.sl (l.map enc)), .d (.sl (m.map enc)), fv] st = some (.d (.bool (D.beqL (l.map enc) (m.map enc))), st) := by
  unfold LOk at hl
  rw [← all2_beq]
  exact ef_ok hG hz (by simpa using hl) (fun x hx => by obtain ⟨a, _, rfl⟩ := List.mem_map.1 hx; exact he a) (fun x hx => by obtain ⟨a, _, rfl⟩ := List.mem_map.1 hx; exact he a) (fun x y ⟨hx, hy⟩ s' nx lw _ _ => by
    obtain ⟨a, ha, rfl⟩ := List.mem_map.1 hx
    obtain ⟨b, hb, rfl⟩ := List.mem_map.1 hy
    exact hf a ha b hb _)
theorem neq_str {x y : List Nat} : binV .neq (.d (.str x)) (.d (.str y)) = some (.d (.bool (!D.beq (.str x) (.str y)))) := by rw [bin_sneq]; rfl
theorem neq_int {x y : Int} : binV .neq (.d (.int .i64 x)) (.d (.int .i64 y)) = some (.d (.bool (!D.beq (.int .i64 x) (.int .i64 y)))) := by rw [bin_neq]; simp [D.beq]
theorem eqStr_ok {l m : List (List Nat)} (hl : LOk l) (st : St) : callW G (.fn 81 [] []) [.d (.sl (l.map D.str)), .d (.sl (m.map D.str))] st = some (.d (.bool (D.beqL (l.map D.str) (m.map D.str))), st) :=
  eq_ok T1.g81 (by unfold LOk at hl; simpa using hl) (fun x hx => by obtain ⟨a, _, rfl⟩ := List.mem_map.1 hx; exact elt_str) (fun x hx => by obtain ⟨a, _, rfl⟩ := List.mem_map.1 hx; exact elt_str) (fun x hx y hy => by
    obtain ⟨a, _, rfl⟩ := List.mem_map.1 hx
    obtain ⟨b, _, rfl⟩ := List.mem_map.1 hy
    exact neq_str) st
theorem eqInt_ok {l m : List Int} (hl : LOk l) (st : St) : callW G (.fn 51 [] []) [.d (.sl (l.map (D.int .i64))), .d (.sl (m.map (D.int .i64)))] st = some (.d (.bool (D.beqL (l.map (D.int .i64)) (m.map (D.int .i64)))), st) :=
  eq_ok T1.g51 (by unfold LOk at hl; simpa using hl) (fun x hx => by obtain ⟨a, _, rfl⟩ := List.mem_map.1 hx; exact elt_int) (fun x hx => by obtain ⟨a, _, rfl⟩ := List.mem_map.1 hx; exact elt_int) (fun x hx y hy => by
    obtain ⟨a, _, rfl⟩ := List.mem_map.1 hx
    obtain ⟨b, _, rfl⟩ := List.mem_map.1 hy
    exact neq_int) st
theorem eqRel_ok {l m : List RelT} (hl : LOk l) (h1 : ∀ x ∈ l, x.ok ∧ x.name.length ≤ 4611686018427387904) (h2 : ∀ x ∈ m, x.ok ∧ x.name.length ≤ 4611686018427387904) (st : St) :
    callW G (.fn 76 [] []) [.d (.sl (l.map RelT.d)), .d (.sl (m.map RelT.d))] st = some (.d (.bool (D.beqL (l.map RelT.d) (m.map RelT.d))), st) := by
  have hc : ∀ x : RelT, x.ok ∧ x.name.length ≤ 4611686018427387904 → confD true [.s, .i .i64, .i .i64] x.d = true := fun x hx => by
    obtain ⟨⟨_, a1, a2⟩, a3⟩ := hx
    unfold IOk at a1 a2
    have e1 : IntKind.i64.min = -9223372036854775808 := by decide
    have e2 : IntKind.i64.max = 9223372036854775807 := by decide
    simp [RelT.d, confD, conf, confC, e1, e2]
    omega
  exact eqa_ok T1.g76 (by unfold LOk at hl; simpa using hl) (fun x hx => by obtain ⟨a, _, rfl⟩ := List.mem_map.1 hx; exact elt_rel) (fun x hx => by obtain ⟨a, _, rfl⟩ := List.mem_map.1 hx; exact elt_rel) (fun x hx y hy => by
    obtain ⟨a, ha, rfl⟩ := List.mem_map.1 hx
    obtain ⟨b, hb, rfl⟩ := List.mem_map.1 hy
    rw [hc a (h1 a ha), hc b (h2 b hb)]
    rfl) st
theorem samePat1_ok {x y : PatT} (hx : x.ok) (st : St) : callW G (.fn 80 [] []) [.d x.d, .d y.d] st = some (.d (.bool (D.beq x.d y.d)), st) := by
  have hC := fun st => eqStr_ok (m := y.vars) hx.2.1 st
  refine pure_pc (ds := [x.d, y.d]) (rs := [.bool (D.beq x.d y.d)]) T1.g80 rfl rfl (fun e w_len harg => ?_) st
  have w_len : e.length = 17 := w_len
  have w_0 := harg 0 (by simp)
  have w_1 := harg 1 (by simp)
  clear harg
  simp only [List.map_cons, List.map_nil, List.getD_cons_zero, List.getD_cons_succ] at w_0 w_1
  by_cases h1 : x.name = y.name
  · simp only [T1.i80, PatT.d, h1, hC, w_len, w_0, w_1, ↓ZA, ZB, simprocAttr]
    exact rq1 (by simp [D.beq, D.beqL])
  · simp only [T1.i80, PatT.d, h1, w_len, w_0, w_1, ↓ZA, ZB, simprocAttr]
    exact rq1 (by simp [D.beq, D.beqL, h1])
theorem samePat2_ok {x y : PatT} (hx : x.ok) (st : St) : callW G (.fn 83 [] []) [.d x.d, .d y.d] st = some (.d (.bool (D.beq x.d y.d)), st) := by
  have hC := fun st => eqStr_ok (m := y.vars) hx.2.1 st
  refine pure_pc (ds := [x.d, y.d]) (rs := [.bool (D.beq x.d y.d)]) T1.g83 rfl rfl (fun e w_len harg => ?_) st
  have w_len : e.length = 17 := w_len
  have w_0 := harg 0 (by simp)
  have w_1 := harg 1 (by simp)
  clear harg
  simp only [List.map_cons, List.map_nil, List.getD_cons_zero, List.getD_cons_succ] at w_0 w_1
  by_cases h1 : x.name = y.name
  · simp only [T1.i83, PatT.d, h1, hC, w_len, w_0, w_1, ↓ZA, ZB, simprocAttr]
    exact rq1 (by simp [D.beq, D.beqL])
  · simp only [T1.i83, PatT.d, h1, w_len, w_0, w_1, ↓ZA, ZB, simprocAttr]
    exact rq1 (by simp [D.beq, D.beqL, h1])
theorem sameClause_ok {x y : ClauseT} (hx : x.ok) (st : St) : callW G (.fn 78 [] []) [.d x.d, .d y.d] st = some (.d (.bool (D.beq x.d y.d)), st) := by
  have hC1 := fun st => efT_ok (l := x.head) (m := y.head) T1.g79 rfl hx.2.1.1 (fun a => elt_pat) (fun a ha b _ st => samePat1_ok (hx.2.1.2 a ha) st) st
  have hC2 := fun st => efT_ok (l := x.body) (m := y.body) T1.g82 rfl hx.2.2.1 (fun a => elt_pat) (fun a ha b _ st => samePat2_ok (hx.2.2.2 a ha) st) st
  refine pure_pc (ds := [x.d, y.d]) (rs := [.bool (D.beq x.d y.d)]) T1.g78 rfl rfl (fun e w_len harg => ?_) st
  have w_len : e.length = 24 := w_len
  have w_0 := harg 0 (by simp)
  have w_1 := harg 1 (by simp)
  clear harg
  simp only [List.map_cons, List.map_nil, List.getD_cons_zero, List.getD_cons_succ] at w_0 w_1
  by_cases h1 : x.rel = y.rel
  · cases h2 : D.beqL (x.head.map PatT.d) (y.head.map PatT.d) with
    | true =>
      simp only [T1.i78, ClauseT.d, h1, hC1, h2, hC2, w_len, w_0, w_1, ↓ZA, ZB, simprocAttr]
      exact rq1 (by simp [D.beq, D.beqL, h2])
    | false =>
      simp only [T1.i78, ClauseT.d, h1, hC1, h2, w_len, w_0, w_1, ↓ZA, ZB, simprocAttr]
      exact rq1 (by simp [D.beq, D.beqL, h2])
  · simp only [T1.i78, ClauseT.d, h1, w_len, w_0, w_1, ↓ZA, ZB, simprocAttr]
    exact rq1 (by simp [D.beq, D.beqL, h1])
theorem same_ok {x y : RulesT} (hx : x.ok) (h1 : ∀ a ∈ x.rels, a.ok ∧ a.name.length ≤ 4611686018427387904) (h2 : ∀ a ∈ y.rels, a.ok ∧ a.name.length ≤ 4611686018427387904) (st : St) : callW G (.fn 25 [] []) [.d x.d, .d y.d] st = some (.d (.bool (D.beq x.d y.d)), st) := by
  have hC1 := fun st => eqRel_ok hx.1.1 h1 h2 st
  have hC2 := fun st => efT_ok (l := x.clauses) (m := y.clauses) T1.g77 rfl hx.2.1 (fun a => elt_clause) (fun a ha b _ st => sameClause_ok (hx.2.2 a ha) st) st
  refine pure_pc (ds := [x.d, y.d]) (rs := [.bool (D.beq x.d y.d)]) T1.g25 rfl rfl (fun e w_len harg => ?_) st
  have w_len : e.length = 17 := w_len
  have w_0 := harg 0 (by simp)
  have w_1 := harg 1 (by simp)
  clear harg
  simp only [List.map_cons, List.map_nil, List.getD_cons_zero, List.getD_cons_succ] at w_0 w_1
  cases h3 : D.beqL (x.rels.map RelT.d) (y.rels.map RelT.d) with
  | true =>
    simp only [T1.i25, RulesT.d, hC1, h3, hC2, w_len, w_0, w_1, ↓ZA, ZB, simprocAttr]
    exact rq1 (by simp [D.beq, D.beqL, h3])
  | false =>
    simp only [T1.i25, RulesT.d, hC1, h3, w_len, w_0, w_1, ↓ZA, ZB, simprocAttr]
    exact rq1 (by simp [D.beq, D.beqL, h3])
theorem sameNode_ok {x y : NodeT} (hx : x.ok) (st : St) : callW G (.fn 150 [] []) [.d x.d, .d y.d] st = some (.d (.bool (D.beq x.d y.d)), st) := by
  have hC := fun st => eqInt_ok (m := y.kids) hx.2.1 st
  refine pure_pc (ds := [x.d, y.d]) (rs := [.bool (D.beq x.d y.d)]) T1.g150 rfl rfl (fun e w_len harg => ?_) st
  have w_len : e.length = 17 := w_len
  have w_0 := harg 0 (by simp)
  have w_1 := harg 1 (by simp)
  clear harg
  simp only [List.map_cons, List.map_nil, List.getD_cons_zero, List.getD_cons_succ] at w_0 w_1
  by_cases h1 : x.name = y.name
  · simp only [T1.i150, NodeT.d, h1, hC, w_len, w_0, w_1, ↓ZA, ZB, simprocAttr]
    exact rq1 (by simp [D.beq, D.beqL])
  · simp only [T1.i150, NodeT.d, h1, w_len, w_0, w_1, ↓ZA, ZB, simprocAttr]
    exact rq1 (by simp [D.beq, D.beqL, h1])
theorem sameTree_ok {x y : TreeT} (hx : x.ok) (st : St) : callW G (.fn 87 [] []) [.d x.d, .d y.d] st = some (.d (.bool (D.beq x.d y.d)), st) := by
  have hC := fun st => efT_ok (l := x.nodes) (m := y.nodes) T1.g149 rfl hx.1.1 (fun a => elt_node) (fun a ha b _ st => sameNode_ok (hx.1.2 a ha) st) st
  refine pure_pc (ds := [x.d, y.d]) (rs := [.bool (D.beq x.d y.d)]) T1.g87 rfl rfl (fun e w_len harg => ?_) st
  have w_len : e.length = 17 := w_len
  have w_0 := harg 0 (by simp)
  have w_1 := harg 1 (by simp)
  clear harg
  simp only [List.map_cons, List.map_nil, List.getD_cons_zero, List.getD_cons_succ] at w_0 w_1
  by_cases h1 : x.root = y.root
  · simp only [T1.i87, TreeT.d, h1, hC, w_len, w_0, w_1, ↓ZA, ZB, simprocAttr]
    exact rq1 (by simp [D.beq, D.beqL])
  · simp only [T1.i87, TreeT.d, h1, w_len, w_0, w_1, ↓ZA, ZB, simprocAttr]
    exact rq1 (by simp [D.beq, D.beqL, h1])
theorem sameGoal_ok {x y : GoalT} (hx : x.ok) (st : St) : callW G (.fn 85 [] []) [.d x.d, .d y.d] st = some (.d (.bool (D.beq x.d y.d)), st) := by
  have hC := fun st => efT_ok (l := x.args) (m := y.args) T1.g86 rfl hx.2.1 (fun a => elt_tree) (fun a ha b _ st => sameTree_ok (hx.2.2 a ha) st) st
  refine pure_pc (ds := [x.d, y.d]) (rs := [.bool (D.beq x.d y.d)]) T1.g85 rfl rfl (fun e w_len harg => ?_) st
  have w_len : e.length = 17 := w_len
  have w_0 := harg 0 (by simp)
  have w_1 := harg 1 (by simp)
  clear harg
  simp only [List.map_cons, List.map_nil, List.getD_cons_zero, List.getD_cons_succ] at w_0 w_1
  by_cases h1 : x.rel = y.rel
  · simp only [T1.i85, GoalT.d, h1, hC, w_len, w_0, w_1, ↓ZA, ZB, simprocAttr]
    exact rq1 (by simp [D.beq, D.beqL])
  · simp only [T1.i85, GoalT.d, h1, w_len, w_0, w_1, ↓ZA, ZB, simprocAttr]
    exact rq1 (by simp [D.beq, D.beqL, h1])
theorem sameGoals_ok {x y : List GoalT} (hl : LOk x) (hx : ∀ g ∈ x, g.ok) (st : St) : callW G (.fn 26 [] []) [.d (.sl (x.map GoalT.d)), .d (.sl (y.map GoalT.d))] st = some (.d (.bool (D.beqL (x.map GoalT.d) (y.map GoalT.d))), st) := by
  have hC := fun st => efT_ok (l := x) (m := y) T1.g84 rfl hl (fun a => elt_goal) (fun a ha b _ st => sameGoal_ok (hx a ha) st) st
  refine pure_pc (ds := [.sl (x.map GoalT.d), .sl (y.map GoalT.d)]) (rs := [.bool (D.beqL (x.map GoalT.d) (y.map GoalT.d))]) T1.g26 rfl rfl (fun e w_len harg => ?_) st
  have w_len : e.length = 8 := w_len
  have w_0 := harg 0 (by simp)
  have w_1 := harg 1 (by simp)
  clear harg
  simp only [List.map_cons, List.map_nil, List.getD_cons_zero, List.getD_cons_succ] at w_0 w_1
  simp only [T1.i26, hC, w_len, w_0, w_1, ↓ZA, ZB, simprocAttr]
  exact rq1 (by rfl)
theorem sameAlt_ok {x y : NodeT} (hx : x.ok) (st : St) : callW G (.fn 91 [] []) [.d x.d, .d y.d] st = some (.d (.bool (D.beq x.d y.d)), st) := by
  have hC := fun st => eqInt_ok (m := y.kids) hx.2.1 st
  refine pure_pc (ds := [x.d, y.d]) (rs := [.bool (D.beq x.d y.d)]) T1.g91 rfl rfl (fun e w_len harg => ?_) st
  have w_len : e.length = 17 := w_len
  have w_0 := harg 0 (by simp)
  have w_1 := harg 1 (by simp)
  clear harg
  simp only [List.map_cons, List.map_nil, List.getD_cons_zero, List.getD_cons_succ] at w_0 w_1
  by_cases h1 : x.name = y.name
  · simp only [T1.i91, NodeT.d, h1, hC, w_len, w_0, w_1, ↓ZA, ZB, simprocAttr]
    exact rq1 (by simp [D.beq, D.beqL])
  · simp only [T1.i91, NodeT.d, h1, w_len, w_0, w_1, ↓ZA, ZB, simprocAttr]
    exact rq1 (by simp [D.beq, D.beqL, h1])
theorem sameSort_ok {x y : SortT} (hx : x.ok) (st : St) : callW G (.fn 89 [] []) [.d x.d, .d y.d] st = some (.d (.bool (D.beq x.d y.d)), st) := by
  have hC := fun st => efT_ok (l := x.alts) (m := y.alts) T1.g90 rfl hx.2.1 (fun a => elt_node) (fun a ha b _ st => sameAlt_ok (hx.2.2 a ha) st) st
  refine pure_pc (ds := [x.d, y.d]) (rs := [.bool (D.beq x.d y.d)]) T1.g89 rfl rfl (fun e w_len harg => ?_) st
  have w_len : e.length = 17 := w_len
  have w_0 := harg 0 (by simp)
  have w_1 := harg 1 (by simp)
  clear harg
  simp only [List.map_cons, List.map_nil, List.getD_cons_zero, List.getD_cons_succ] at w_0 w_1
  by_cases h1 : x.rank = y.rank
  · simp only [T1.i89, SortT.d, h1, hC, w_len, w_0, w_1, ↓ZA, ZB, simprocAttr]
    exact rq1 (by simp [D.beq, D.beqL])
  · simp only [T1.i89, SortT.d, h1, w_len, w_0, w_1, ↓ZA, ZB, simprocAttr]
    exact rq1 (by simp [D.beq, D.beqL, h1])
theorem sameType_ok {x y : TypeT} (hx : x.ok) (st : St) : callW G (.fn 27 [] []) [.d x.d, .d y.d] st = some (.d (.bool (D.beq x.d y.d)), st) := by
  have hC := fun st => efT_ok (l := x.sorts) (m := y.sorts) T1.g88 rfl hx.1 (fun a => elt_sort) (fun a ha b _ st => sameSort_ok (hx.2.1 a ha) st) st
  refine pure_pc (ds := [x.d, y.d]) (rs := [.bool (D.beq x.d y.d)]) T1.g27 rfl rfl (fun e w_len harg => ?_) st
  have w_len : e.length = 17 := w_len
  have w_0 := harg 0 (by simp)
  have w_1 := harg 1 (by simp)
  clear harg
  simp only [List.map_cons, List.map_nil, List.getD_cons_zero, List.getD_cons_succ] at w_0 w_1
  by_cases h1 : x.start = y.start
  · simp only [T1.i27, TypeT.d, h1, hC, w_len, w_0, w_1, ↓ZA, ZB, simprocAttr]
    exact rq1 (by simp [D.beq, D.beqL])
  · simp only [T1.i27, TypeT.d, h1, w_len, w_0, w_1, ↓ZA, ZB, simprocAttr]
    exact rq1 (by simp [D.beq, D.beqL, h1])
end Go.Lift.K
