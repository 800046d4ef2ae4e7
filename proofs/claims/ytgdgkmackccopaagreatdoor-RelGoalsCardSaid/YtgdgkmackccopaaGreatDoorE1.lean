/- Part E1 of the proof. -/
import Derived.Test.YtgdgkmackccopaaGreatDoorA7
import Derived.Test.YtgdgkmackccopaaGreatDoorC8
import Derived.Test.YtgdgkmackccopaaGreatDoorD5
import Derived.Test.YtgdgkmackccopaaGreatDoorCards
import Derived.Test.YtgdgkmackccopaaGreatDoorTie
import Derived.WalkKit
import Derived.ProofKit
import Derived.OpenShut
import Derived.Deep.DeepHandedRow
import Derived.Lib.LaidTab
set_option linter.all false
namespace Go.Lift.K
open Go Go.Lift Go.Proofs
open Go.ChangeShapes Go.WideShapes Go.ChangeAt Go.RowKit
set_option maxRecDepth 100000
theorem u_u8 : zsh (D.int .u8) := .inr fun _ => ⟨rfl, fun _ h => by cases h⟩
theorem u_sl {α : Type} {f : α → D} : zsh (fun l : List α => D.sl (l.map f)) := .inr fun _ => ⟨rfl, fun _ h => by cases h⟩
theorem pos {n k : Nat} (h : n = k + 1) : 0 < n := by omega
theorem r5 : Rd Tryz.prog 5 (D.int .u8) (fun n => IntKind.u8.min ≤ n ∧ n ≤ IntKind.u8.max) := y17 Tryz.underlying5
theorem r22 : Rd Tryz.prog 22 (fun l : List Int => D.sl (l.map (D.int .u8))) (fun l => l.length ≤ 9223372036854775807 ∧ ∀ a ∈ l, IntKind.u8.min ≤ a ∧ a ≤ IntKind.u8.max) := ztc Tryz.underlying22 (pos (k := 0) (by kernel_rfl)) u_u8 r5
theorem zru {P : Program} {w : World} {r : Reach} {b : Nat} {t : TypeId} {v : Value} (ht : P.underlying t = some .string ∨ (∃ s, P.underlying t = some (.slice s)) ∨ ∃ k, P.underlying t = some (.int k)) (h : Value.okWide P w r b t v) : ∀ cs, v ≠ .agg cs := by
 intro cs e
 subst e
 rcases ht with ht | ⟨s, ht⟩ | ⟨k, ht⟩ <;> simp [Value.okWide, ht, Cell.okWide, Cell.ok] at h
theorem own : ownKnob Tryz.prog.godebug = none := by kernel_rfl
theorem zz2 : laidOutB Tryz.prog = true := by kernel_rfl
theorem z51 : ∀ t ∈ Tryz.f3.params.toList, Tryz.prog.readableRec t = true ∧ t < Tryz.prog.types.size := by
 rw [Tryz.params3]
 intro t ht
 have h : ([22, 22] : List TypeId).all (fun t => Tryz.prog.readableRec t && decide (t < Tryz.prog.types.size)) = true := by kernel_rfl
 have := List.all_eq_true.1 h t ht
 simpa using this
theorem zvd (H : Type) (enc : TypeId × Value → H) (W : World) (base : Nat) (args : Array Value) (ds gs : List (DataW H)) (before : List MemPlace)
  (hval : ∀ (j : Nat) t v, Tryz.f3.params[j]? = some t → args[j]? = some v → Value.okWide Tryz.prog W .any base t v)
  (hW : DataW.Whole enc Tryz.prog Tryz.f3.params.toList YtgdgkmackccopaaGreatDoor.Rows.relGoalsSpec.vars false W args.toList ds gs before) :
  Calls Tryz.prog 3 args W fun e W' => ∃ v, e = .returned v ∧ YtgdgkmackccopaaGreatDoor.Rows.relGoalsSpec.post enc Tryz.prog Tryz.f3 false true false false W args v W' := by
 have hW' := hW
 obtain ⟨p, q, hA0, hV, rfl, hfz, hnd⟩ := hW
 have hA : DataW.TrodAll enc Tryz.prog W 0 (fun _ => true) true Tryz.f3.params.toList args.toList ds p := hA0
 rw [Tryz.params3] at hA hval
 obtain ⟨v0, vs0, d0, ds0, p0, q0, hargs, rfl, rfl, h0, k0⟩ := trodAll_cons hA
 obtain ⟨v1, vs1, d1, ds1, p1, q1, rfl, rfl, rfl, h1, k1⟩ := trodAll_cons k0
 obtain ⟨rfl, rfl, rfl⟩ := trodAll_nil k1
 obtain rfl : args = #[v0, v1] := by cases args; simp_all
 obtain ⟨rfl, rfl⟩ := trodVars_none hV
 obtain ⟨b, hb, e0⟩ := ziz u_sl r22 (.inr trivial) (fun h => by obtain ⟨ds, h⟩ := h []; cases h) (fun _ => zru (.inr (.inl ⟨_, Tryz.underlying22⟩)) (hval 0 22 v0 rfl rfl)) h0
 obtain ⟨c, hc, e1⟩ := ziz u_sl r22 (.inr trivial) (fun h => by obtain ⟨ds, h⟩ := h []; cases h) (fun _ => zru (.inr (.inl ⟨_, Tryz.underlying22⟩)) (hval 1 22 v1 rfl rfl)) h1
 refine (zi3 (ds := [.sl (b.map (D.int .u8)), .sl (c.map (D.int .u8))]) T1.table T1.mixed ?_ (zd5 hb.1 hc.1 _)).mono fun e W' h => ?_
 ·simp only [RepC]
  exact ⟨_, _, rfl, e0, _, _, rfl, e1, rfl⟩
 ·obtain ⟨rfl, h⟩ := h
  exact ⟨_, rfl, zh3 (tb := 4) zz2 z51 rfl rfl rfl Tryz.underlying4 rfl hW' h⟩
end Go.Lift.K
