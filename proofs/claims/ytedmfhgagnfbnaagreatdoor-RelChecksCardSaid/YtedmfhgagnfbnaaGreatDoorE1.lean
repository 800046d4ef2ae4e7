/- Part E1 of the proof. -/
import Derived.Test.YtedmfhgagnfbnaaGreatDoorA7
import Derived.Test.YtedmfhgagnfbnaaGreatDoorC2
import Derived.Test.YtedmfhgagnfbnaaGreatDoorD5
import Derived.Test.YtedmfhgagnfbnaaGreatDoorCards
import Derived.Test.YtedmfhgagnfbnaaGreatDoorTie
import Derived.WalkKit
import Derived.ProofKit
import Derived.OpenShut
import Derived.Deep.DeepHandedRow
import Derived.Lib.LaidTab
set_option linter.all false
namespace Go.Lift.K
open Go Go.Lift Go.Proofs
open Go.ChangeShapes Go.WideShapes Go.ChangeAt Go.RowKit
set_option maxRecDepth 100000
theorem u_str : Unit1 D.str := .inr fun _ => ⟨rfl, fun _ h => by cases h⟩
theorem u_int : Unit1 (D.int .i64) := .inr fun _ => ⟨rfl, fun _ h => by cases h⟩
theorem u_sl {α : Type} {f : α → D} : Unit1 (fun l : List α => D.sl (l.map f)) := .inr fun _ => ⟨rfl, fun _ h => by cases h⟩
theorem pos {n k : Nat} (h : n = k + 1) : 0 < n := by omega
theorem r9 : Rd Tryz.prog 9 D.str SOk := rd_string Tryz.underlying9
theorem r3 : Rd Tryz.prog 3 (D.int .i64) IOk := rd_int Tryz.underlying3
theorem r32 : Rd Tryz.prog 32 (fun l : List (List Nat) => D.sl (l.map D.str)) SsOk := rd_slice Tryz.underlying32 (pos (k := 0) (by kernel_rfl)) u_str r9
def KsOk (l : List Int) : Prop := LOk l ∧ ∀ k ∈ l, IOk k
theorem r33 : Rd Tryz.prog 33 (fun l : List Int => D.sl (l.map (D.int .i64))) KsOk := rd_slice Tryz.underlying33 (pos (k := 0) (by kernel_rfl)) u_int r3
theorem u_pat : Unit1 PatT.d := .inl fun _ => ⟨_, rfl⟩
theorem u_clause : Unit1 ClauseT.d := .inl fun _ => ⟨_, rfl⟩
theorem u_rel : Unit1 RelT.d := .inl fun _ => ⟨_, rfl⟩
theorem u_rules : Unit1 RulesT.d := .inl fun _ => ⟨_, rfl⟩
theorem u_node : Unit1 NodeT.d := .inl fun _ => ⟨_, rfl⟩
theorem u_tree : Unit1 TreeT.d := .inl fun _ => ⟨_, rfl⟩
theorem u_goal : Unit1 GoalT.d := .inl fun _ => ⟨_, rfl⟩
theorem u_sort : Unit1 SortT.d := .inl fun _ => ⟨_, rfl⟩
theorem u_type : Unit1 TypeT.d := .inl fun _ => ⟨_, rfl⟩
theorem r58 : Rd Tryz.prog 58 PatT.d PatT.ok := rd_struct2 (e := PatT.d) PatT.mk Tryz.underlying58 ⟨by kernel_rfl, by kernel_rfl, by kernel_rfl⟩ r9 r32 (fun _ _ => rfl) (fun _ _ h k => ⟨h, k⟩)
theorem r73 : Rd Tryz.prog 73 PatT.d PatT.ok := rd_struct2 (e := PatT.d) PatT.mk Tryz.underlying73 ⟨by kernel_rfl, by kernel_rfl, by kernel_rfl⟩ r9 r32 (fun _ _ => rfl) (fun _ _ h k => ⟨h, k⟩)
theorem r53 : Rd Tryz.prog 53 (fun l : List PatT => D.sl (l.map PatT.d)) PatsOk := rd_slice Tryz.underlying53 (pos (k := 1) (by kernel_rfl)) u_pat r58
theorem r54 : Rd Tryz.prog 54 (fun l : List PatT => D.sl (l.map PatT.d)) PatsOk := rd_slice Tryz.underlying54 (pos (k := 1) (by kernel_rfl)) u_pat r73
theorem r56 : Rd Tryz.prog 56 ClauseT.d ClauseT.ok := rd_struct3 (e := ClauseT.d) ClauseT.mk Tryz.underlying56 ⟨by kernel_rfl, by kernel_rfl, by kernel_rfl, by kernel_rfl⟩ r9 r53 r54 (fun _ _ _ => rfl) (fun _ _ _ h k l => ⟨h, k, l⟩)
theorem r66 : Rd Tryz.prog 66 RelT.d RelT.ok := rd_struct3 (e := RelT.d) RelT.mk Tryz.underlying66 ⟨by kernel_rfl, by kernel_rfl, by kernel_rfl, by kernel_rfl⟩ r9 r3 r3 (fun _ _ _ => rfl) (fun _ _ _ h k l => ⟨h, k, l⟩)
theorem r22 : Rd Tryz.prog 22 (fun l : List RelT => D.sl (l.map RelT.d)) RelsOk := rd_slice Tryz.underlying22 (pos (k := 2) (by kernel_rfl)) u_rel r66
theorem r23 : Rd Tryz.prog 23 (fun l : List ClauseT => D.sl (l.map ClauseT.d)) (fun l => LOk l ∧ ∀ c ∈ l, c.ok) := rd_slice Tryz.underlying23 (pos (k := 2) (by kernel_rfl)) u_clause r56
theorem r25 : Rd Tryz.prog 25 RulesT.d RulesT.ok := rd_struct2 (e := RulesT.d) RulesT.mk Tryz.underlying25 ⟨by kernel_rfl, by kernel_rfl, by kernel_rfl⟩ r22 r23 (fun _ _ => rfl) (fun _ _ h k => ⟨h, k⟩)
theorem r149 : Rd Tryz.prog 149 NodeT.d NodeT.ok := rd_struct2 (e := NodeT.d) NodeT.mk Tryz.underlying149 ⟨by kernel_rfl, by kernel_rfl, by kernel_rfl⟩ r9 r33 (fun _ _ => rfl) (fun _ _ h k => ⟨h, k⟩)
theorem r87 : Rd Tryz.prog 87 NodeT.d NodeT.ok := rd_struct2 (e := NodeT.d) NodeT.mk Tryz.underlying87 ⟨by kernel_rfl, by kernel_rfl, by kernel_rfl⟩ r9 r33 (fun _ _ => rfl) (fun _ _ h k => ⟨h, k⟩)
theorem r76 : Rd Tryz.prog 76 (fun l : List NodeT => D.sl (l.map NodeT.d)) NodesOk := rd_slice Tryz.underlying76 (pos (k := 1) (by kernel_rfl)) u_node r149
theorem r82 : Rd Tryz.prog 82 (fun l : List NodeT => D.sl (l.map NodeT.d)) NodesOk := rd_slice Tryz.underlying82 (pos (k := 1) (by kernel_rfl)) u_node r87
theorem r78 : Rd Tryz.prog 78 TreeT.d TreeT.ok := rd_struct2 (e := TreeT.d) TreeT.mk Tryz.underlying78 ⟨by kernel_rfl, by kernel_rfl, by kernel_rfl⟩ r76 r3 (fun _ _ => rfl) (fun _ _ h k => ⟨h, k⟩)
theorem r26 : Rd Tryz.prog 26 (fun l : List TreeT => D.sl (l.map TreeT.d)) (fun l => LOk l ∧ ∀ t ∈ l, t.ok) := rd_slice Tryz.underlying26 (pos (k := 1) (by kernel_rfl)) u_tree r78
theorem r28 : Rd Tryz.prog 28 GoalT.d GoalT.ok := rd_struct2 (e := GoalT.d) GoalT.mk Tryz.underlying28 ⟨by kernel_rfl, by kernel_rfl, by kernel_rfl⟩ r9 r26 (fun _ _ => rfl) (fun _ _ h k => ⟨h, k.1, k.2⟩)
theorem r84 : Rd Tryz.prog 84 SortT.d SortT.ok := rd_struct2 (e := SortT.d) SortT.mk Tryz.underlying84 ⟨by kernel_rfl, by kernel_rfl, by kernel_rfl⟩ r3 r82 (fun _ _ => rfl) (fun _ _ h k => ⟨h, k⟩)
theorem r29 : Rd Tryz.prog 29 (fun l : List SortT => D.sl (l.map SortT.d)) (fun l => LOk l ∧ ∀ s ∈ l, s.ok) := rd_slice Tryz.underlying29 (pos (k := 1) (by kernel_rfl)) u_sort r84
theorem r31 : Rd Tryz.prog 31 TypeT.d TypeT.ok := rd_struct2 (e := TypeT.d) TypeT.mk Tryz.underlying31 ⟨by kernel_rfl, by kernel_rfl, by kernel_rfl⟩ r29 r3 (fun _ _ => rfl) (fun _ _ h k => ⟨h.1, h.2, k⟩)
theorem agg_of {P : Program} {w : World} {r : Reach} {b : Nat} {t : TypeId} {v : Value} {fs} (ht : P.underlying t = some (.struct fs)) (h : Value.okWide P w r b t v) : ∃ cs, v = .agg cs := by
  unfold Value.okWide at h
  rw [ht] at h
  obtain ⟨cs, h, _⟩ := h
  exact ⟨cs, h⟩
theorem cell_of {P : Program} {w : World} {r : Reach} {b : Nat} {t : TypeId} {v : Value} (ht : P.underlying t = some .string ∨ (∃ s, P.underlying t = some (.slice s)) ∨ ∃ k, P.underlying t = some (.int k)) (h : Value.okWide P w r b t v) : ∀ cs, v ≠ .agg cs := by
  intro cs e
  subst e
  rcases ht with ht | ⟨s, ht⟩ | ⟨k, ht⟩ <;> simp [Value.okWide, ht, Cell.okWide, Cell.ok] at h
theorem own : ownKnob Tryz.prog.godebug = none := by kernel_rfl
theorem laidOut : laidOutB Tryz.prog = true := by kernel_rfl
theorem readable : ∀ t ∈ Tryz.f3.params.toList, Tryz.prog.readableRec t = true ∧ t < Tryz.prog.types.size := by
  rw [Tryz.params3]
  intro t ht
  have h : ([25, 25, 28, 31, 32, 33, 9, 3] : List TypeId).all (fun t => Tryz.prog.readableRec t && decide (t < Tryz.prog.types.size)) = true := by kernel_rfl
  have := List.all_eq_true.1 h t ht
  simpa using this
theorem contract (H : Type) (enc : TypeId × Value → H) (W : World) (base : Nat) (args : Array Value) (ds gs : List (DataW H)) (before : List MemPlace)
    (hval : ∀ (j : Nat) t v, Tryz.f3.params[j]? = some t → args[j]? = some v → Value.okWide Tryz.prog W .any base t v)
    (hW : DataW.Whole enc Tryz.prog Tryz.f3.params.toList YtedmfhgagnfbnaaGreatDoor.Rows.relChecksSpec.vars false W args.toList ds gs before) :
    Calls Tryz.prog 3 args W fun e W' => ∃ v, e = .returned v ∧ YtedmfhgagnfbnaaGreatDoor.Rows.relChecksSpec.post enc Tryz.prog Tryz.f3 false true false false W args v W' := by
  have hW' := hW
  obtain ⟨p, q, hA0, hV, rfl, hfz, hnd⟩ := hW
  have hA : DataW.TrodAll enc Tryz.prog W 0 (fun _ => true) true Tryz.f3.params.toList args.toList ds p := hA0
  rw [Tryz.params3] at hA hval
  obtain ⟨v0, vs0, d0, ds0, p0, q0, hargs, rfl, rfl, h0, k0⟩ := trodAll_cons hA
  obtain ⟨v1, vs1, d1, ds1, p1, q1, rfl, rfl, rfl, h1, k1⟩ := trodAll_cons k0
  obtain ⟨v2, vs2, d2, ds2, p2, q2, rfl, rfl, rfl, h2, k2⟩ := trodAll_cons k1
  obtain ⟨v3, vs3, d3, ds3, p3, q3, rfl, rfl, rfl, h3, k3⟩ := trodAll_cons k2
  obtain ⟨v4, vs4, d4, ds4, p4, q4, rfl, rfl, rfl, h4, k4⟩ := trodAll_cons k3
  obtain ⟨v5, vs5, d5, ds5, p5, q5, rfl, rfl, rfl, h5, k5⟩ := trodAll_cons k4
  obtain ⟨v6, vs6, d6, ds6, p6, q6, rfl, rfl, rfl, h6, k6⟩ := trodAll_cons k5
  obtain ⟨v7, vs7, d7, ds7, p7, q7, rfl, rfl, rfl, h7, k7⟩ := trodAll_cons k6
  obtain ⟨rfl, rfl, rfl⟩ := trodAll_nil k7
  obtain rfl : args = #[v0, v1, v2, v3, v4, v5, v6, v7] := by cases args; simp_all
  obtain ⟨rfl, rfl⟩ := trodVars_none hV
  obtain ⟨r, hr, e0⟩ := rd_value u_rules r25 (.inr trivial) (fun _ => agg_of Tryz.underlying25 (hval 0 25 v0 rfl rfl)) (fun h => absurd rfl (h ⟨[], []⟩ _)) h0
  obtain ⟨q, hq, e1⟩ := rd_value u_rules r25 (.inr trivial) (fun _ => agg_of Tryz.underlying25 (hval 1 25 v1 rfl rfl)) (fun h => absurd rfl (h ⟨[], []⟩ _)) h1
  obtain ⟨g, hg, e2⟩ := rd_value u_goal r28 (.inr trivial) (fun _ => agg_of Tryz.underlying28 (hval 2 28 v2 rfl rfl)) (fun h => absurd rfl (h ⟨[], []⟩ _)) h2
  obtain ⟨ty, ht, e3⟩ := rd_value u_type r31 (.inr trivial) (fun _ => agg_of Tryz.underlying31 (hval 3 31 v3 rfl rfl)) (fun h => absurd rfl (h ⟨[], 0⟩ _)) h3
  obtain ⟨names, hns, e4⟩ := rd_value u_sl r32 (.inr trivial) (fun h => by obtain ⟨ds, h⟩ := h []; cases h) (fun _ => cell_of (.inr (.inl ⟨_, Tryz.underlying32⟩)) (hval 4 32 v4 rfl rfl)) h4
  obtain ⟨kids, hks, e5⟩ := rd_value u_sl r33 (.inr trivial) (fun h => by obtain ⟨ds, h⟩ := h []; cases h) (fun _ => cell_of (.inr (.inl ⟨_, Tryz.underlying33⟩)) (hval 5 33 v5 rfl rfl)) h5
  obtain ⟨name, hnm, e6⟩ := rd_value u_str r9 (.inr trivial) (fun h => by obtain ⟨ds, h⟩ := h []; cases h) (fun _ => cell_of (.inl Tryz.underlying9) (hval 6 9 v6 rfl rfl)) h6
  obtain ⟨rank, _, e7⟩ := rd_value u_int r3 (.inr trivial) (fun h => by obtain ⟨ds, h⟩ := h 0; cases h) (fun _ => cell_of (.inr (.inr ⟨_, Tryz.underlying3⟩)) (hval 7 3 v7 rfl rfl)) h7
  refine (closed_call (ds := [r.d, q.d, g.d, ty.d, .sl (names.map D.str), .sl (kids.map (D.int .i64)), .str name, .int .i64 rank]) T1.table T1.mixed ?_ (relChecks_true hr hq hg ht hns hks.1 hnm _)).mono fun e W' h => ?_
  · simp only [RepC]
    exact ⟨_, _, rfl, e0, _, _, rfl, e1, _, _, rfl, e2, _, _, rfl, e3, _, _, rfl, e4, _, _, rfl, e5, _, _, rfl, e6, _, _, rfl, e7, rfl⟩
  · obtain ⟨rfl, h⟩ := h
    exact ⟨_, rfl, post_closed (tb := 4) laidOut readable rfl rfl rfl Tryz.underlying4 rfl hW' h⟩
end Go.Lift.K
