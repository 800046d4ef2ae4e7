/- Part E1 of the proof. -/
import Derived.Test.YtgifbdpjlibbdaaGreatDoorA7
import Derived.Test.YtgifbdpjlibbdaaGreatDoorC2
import Derived.Test.YtgifbdpjlibbdaaGreatDoorD5
import Derived.Test.YtgifbdpjlibbdaaGreatDoorCards
import Derived.Test.YtgifbdpjlibbdaaGreatDoorTie
import Derived.WalkKit
import Derived.ProofKit
import Derived.OpenShut
import Derived.Deep.DeepHandedRow
import Derived.Lib.LaidTab
set_option linter.all false
namespace Go.Lift.K
open Go Go.Lift Go.Proofs
open Go.ChangeShapes Go.WideShapes Go.ChangeAt Go.RowKit
set_option maxRecDepth 100000
theorem y1z : z9l D.str := .inr fun _ => ⟨rfl, fun _ h => by cases h⟩
theorem zzn : z9l (D.int .i64) := .inr fun _ => ⟨rfl, fun _ h => by cases h⟩
theorem pos {n k : Nat} (h : n = k + 1) : 0 < n := by omega
theorem r9 : Rd Tryz.prog 9 D.str SOk := zof Tryz.underlying9
theorem r3 : Rd Tryz.prog 3 (D.int .i64) IOk := zzt Tryz.underlying3
theorem r52 : Rd Tryz.prog 52 (fun l : List (List Nat) => D.sl (l.map D.str)) SsOk := z4o Tryz.underlying52 (pos (k := 0) (by kernel_rfl)) y1z r9
def KsOk (l : List Int) : Prop := LOk l ∧ ∀ k ∈ l, IOk k
theorem r80 : Rd Tryz.prog 80 (fun l : List Int => D.sl (l.map (D.int .i64))) KsOk := z4o Tryz.underlying80 (pos (k := 0) (by kernel_rfl)) zzn r3
theorem zzl : z9l PatT.d := .inl fun _ => ⟨_, rfl⟩
theorem zsq : z9l ClauseT.d := .inl fun _ => ⟨_, rfl⟩
theorem y20 : z9l RelT.d := .inl fun _ => ⟨_, rfl⟩
theorem zx9 : z9l RulesT.d := .inl fun _ => ⟨_, rfl⟩
theorem zzm : z9l NodeT.d := .inl fun _ => ⟨_, rfl⟩
theorem zzk : z9l TreeT.d := .inl fun _ => ⟨_, rfl⟩
theorem zvm : z9l GoalT.d := .inl fun _ => ⟨_, rfl⟩
theorem r63 : Rd Tryz.prog 63 PatT.d PatT.ok := z44 (e := PatT.d) PatT.mk Tryz.underlying63 ⟨by kernel_rfl, by kernel_rfl, by kernel_rfl⟩ r9 r52 (fun _ _ => rfl) (fun _ _ h k => ⟨h, k⟩)
theorem r67 : Rd Tryz.prog 67 PatT.d PatT.ok := z44 (e := PatT.d) PatT.mk Tryz.underlying67 ⟨by kernel_rfl, by kernel_rfl, by kernel_rfl⟩ r9 r52 (fun _ _ => rfl) (fun _ _ h k => ⟨h, k⟩)
theorem r39 : Rd Tryz.prog 39 (fun l : List PatT => D.sl (l.map PatT.d)) zdm := z4o Tryz.underlying39 (pos (k := 1) (by kernel_rfl)) zzl r63
theorem r40 : Rd Tryz.prog 40 (fun l : List PatT => D.sl (l.map PatT.d)) zdm := z4o Tryz.underlying40 (pos (k := 1) (by kernel_rfl)) zzl r67
theorem r42 : Rd Tryz.prog 42 ClauseT.d ClauseT.ok := zcw (e := ClauseT.d) ClauseT.mk Tryz.underlying42 ⟨by kernel_rfl, by kernel_rfl, by kernel_rfl, by kernel_rfl⟩ r9 r39 r40 (fun _ _ _ => rfl) (fun _ _ _ h k l => ⟨h, k, l⟩)
theorem r58 : Rd Tryz.prog 58 RelT.d RelT.ok := zcw (e := RelT.d) RelT.mk Tryz.underlying58 ⟨by kernel_rfl, by kernel_rfl, by kernel_rfl, by kernel_rfl⟩ r9 r3 r3 (fun _ _ _ => rfl) (fun _ _ _ h k l => ⟨h, k, l⟩)
theorem r22 : Rd Tryz.prog 22 (fun l : List RelT => D.sl (l.map RelT.d)) zx4 := z4o Tryz.underlying22 (pos (k := 2) (by kernel_rfl)) y20 r58
theorem r23 : Rd Tryz.prog 23 (fun l : List ClauseT => D.sl (l.map ClauseT.d)) (fun l => LOk l ∧ ∀ c ∈ l, c.ok) := z4o Tryz.underlying23 (pos (k := 2) (by kernel_rfl)) zsq r42
theorem r25 : Rd Tryz.prog 25 RulesT.d RulesT.ok := z44 (e := RulesT.d) RulesT.mk Tryz.underlying25 ⟨by kernel_rfl, by kernel_rfl, by kernel_rfl⟩ r22 r23 (fun _ _ => rfl) (fun _ _ h k => ⟨h, k⟩)
theorem r122 : Rd Tryz.prog 122 NodeT.d NodeT.ok := z44 (e := NodeT.d) NodeT.mk Tryz.underlying122 ⟨by kernel_rfl, by kernel_rfl, by kernel_rfl⟩ r9 r80 (fun _ _ => rfl) (fun _ _ h k => ⟨h, k⟩)
theorem r70 : Rd Tryz.prog 70 (fun l : List NodeT => D.sl (l.map NodeT.d)) zsk := z4o Tryz.underlying70 (pos (k := 1) (by kernel_rfl)) zzm r122
theorem r72 : Rd Tryz.prog 72 TreeT.d TreeT.ok := z44 (e := TreeT.d) TreeT.mk Tryz.underlying72 ⟨by kernel_rfl, by kernel_rfl, by kernel_rfl⟩ r70 r3 (fun _ _ => rfl) (fun _ _ h k => ⟨h, k⟩)
theorem r26 : Rd Tryz.prog 26 (fun l : List TreeT => D.sl (l.map TreeT.d)) (fun l => LOk l ∧ ∀ t ∈ l, t.ok) := z4o Tryz.underlying26 (pos (k := 1) (by kernel_rfl)) zzk r72
theorem r28 : Rd Tryz.prog 28 GoalT.d GoalT.ok := z44 (e := GoalT.d) GoalT.mk Tryz.underlying28 ⟨by kernel_rfl, by kernel_rfl, by kernel_rfl⟩ r9 r26 (fun _ _ => rfl) (fun _ _ h k => ⟨h, k.1, k.2⟩)
theorem zsg {P : Program} {w : World} {r : Reach} {b : Nat} {t : TypeId} {v : Value} {fs} (ht : P.underlying t = some (.struct fs)) (h : Value.okWide P w r b t v) : ∃ cs, v = .agg cs := by
 unfold Value.okWide at h
 rw [ht] at h
 obtain ⟨cs, h, _⟩ := h
 exact ⟨cs, h⟩
theorem zyy {P : Program} {w : World} {r : Reach} {b : Nat} {t : TypeId} {v : Value} (ht : P.underlying t = some .string ∨ (∃ s, P.underlying t = some (.slice s)) ∨ ∃ k, P.underlying t = some (.int k)) (h : Value.okWide P w r b t v) : ∀ cs, v ≠ .agg cs := by
 intro cs e
 subst e
 rcases ht with ht | ⟨s, ht⟩ | ⟨k, ht⟩ <;> simp [Value.okWide, ht, Cell.okWide, Cell.ok] at h
theorem own : ownKnob Tryz.prog.godebug = none := by kernel_rfl
theorem zyc : laidOutB Tryz.prog = true := by kernel_rfl
theorem z5j : ∀ t ∈ Tryz.f3.params.toList, Tryz.prog.readableRec t = true ∧ t < Tryz.prog.types.size := by
 rw [Tryz.params3]
 intro t ht
 have h : ([25, 3, 28, 28] : List TypeId).all (fun t => Tryz.prog.readableRec t && decide (t < Tryz.prog.types.size)) = true := by kernel_rfl
 have := List.all_eq_true.1 h t ht
 simpa using this
theorem zuw (H : Type) (enc : TypeId × Value → H) (W : World) (base : Nat) (args : Array Value) (ds gs : List (DataW H)) (before : List MemPlace)
  (hval : ∀ (j : Nat) t v, Tryz.f3.params[j]? = some t → args[j]? = some v → Value.okWide Tryz.prog W .any base t v)
  (hW : DataW.Whole enc Tryz.prog Tryz.f3.params.toList YtgifbdpjlibbdaaGreatDoor.Rows.relClausesSpec.vars false W args.toList ds gs before) :
  Calls Tryz.prog 3 args W fun e W' => ∃ v, e = .returned v ∧ YtgifbdpjlibbdaaGreatDoor.Rows.relClausesSpec.post enc Tryz.prog Tryz.f3 false true false false W args v W' := by
 have hW' := hW
 obtain ⟨p, q, hA0, hV, rfl, hfz, hnd⟩ := hW
 have hA : DataW.TrodAll enc Tryz.prog W 0 (fun _ => true) true Tryz.f3.params.toList args.toList ds p := hA0
 rw [Tryz.params3] at hA hval
 obtain ⟨v0, vs0, d0, ds0, p0, q0, hargs, rfl, rfl, h0, k0⟩ := trodAll_cons hA
 obtain ⟨v1, vs1, d1, ds1, p1, q1, rfl, rfl, rfl, h1, k1⟩ := trodAll_cons k0
 obtain ⟨v2, vs2, d2, ds2, p2, q2, rfl, rfl, rfl, h2, k2⟩ := trodAll_cons k1
 obtain ⟨v3, vs3, d3, ds3, p3, q3, rfl, rfl, rfl, h3, k3⟩ := trodAll_cons k2
 obtain ⟨rfl, rfl, rfl⟩ := trodAll_nil k3
 obtain rfl : args = #[v0, v1, v2, v3] := by cases args; simp_all
 obtain ⟨rfl, rfl⟩ := trodVars_none hV
 obtain ⟨r, hr, e0⟩ := z9s zx9 r25 (.inr trivial) (fun _ => zsg Tryz.underlying25 (hval 0 25 v0 rfl rfl)) (fun h => absurd rfl (h ⟨[], []⟩ _)) h0
 obtain ⟨n, hn, e1⟩ := z9s zzn r3 (.inr trivial) (fun h => by obtain ⟨ds, h⟩ := h 0; cases h) (fun _ => zyy (.inr (.inr ⟨_, Tryz.underlying3⟩)) (hval 1 3 v1 rfl rfl)) h1
 obtain ⟨g, hg, e2⟩ := z9s zvm r28 (.inr trivial) (fun _ => zsg Tryz.underlying28 (hval 2 28 v2 rfl rfl)) (fun h => absurd rfl (h ⟨[], []⟩ _)) h2
 obtain ⟨o, ho, e3⟩ := z9s zvm r28 (.inr trivial) (fun _ => zsg Tryz.underlying28 (hval 3 28 v3 rfl rfl)) (fun h => absurd rfl (h ⟨[], []⟩ _)) h3
 refine (zim (ds := [r.d, .int .i64 n, g.d, o.d]) T1.table T1.mixed ?_ (zar hr hn hg ho _)).mono fun e W' h => ?_
 ·simp only [RepC]
  exact ⟨_, _, rfl, e0, _, _, rfl, e1, _, _, rfl, e2, _, _, rfl, e3, rfl⟩
 ·obtain ⟨rfl, h⟩ := h
  exact ⟨_, rfl, zhv (tb := 4) zyc z5j rfl rfl rfl Tryz.underlying4 rfl hW' h⟩
end Go.Lift.K
