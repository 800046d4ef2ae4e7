/- Part P21 of the proof. -/
import Derived.Test.YthjhclclibpijaaGreatDoorP20
import Derived.Test.YthjhclclibpijaaGreatDoorCards
import Derived.Test.YthjhclclibpijaaGreatDoorTie
import Derived.WalkKit
import Derived.ProofKit
import Derived.OpenShut
import Derived.Deep.DeepHandedRow
import Derived.Lib.LaidTab
set_option linter.all false
set_option maxHeartbeats 4000000
set_option maxRecDepth 100000
namespace Go.Lift.K
open Go Go.Lift Go.Proofs
open Go.ChangeShapes Go.WideShapes Go.ChangeAt Go.RowKit
theorem u_u8:zw2 (D.int .u8):= .inr fun _=>⟨rfl,fun _ h=>by cases h⟩
theorem u_sl {α:Type} {f:α→D} :zw2 (fun l:List α=>D.sl (l.map f)):= .inr fun _=>⟨rfl,fun _ h=>by cases h⟩
theorem pos {n k:Nat} (h:n=k+1):0<n:=ω
theorem r5:Rd Tryz.prog 5 (D.int .u8) (fun n=>IntKind.u8.min≤n∧n≤IntKind.u8.max):=y5x Tryz.underlying5
def r22:Rd Tryz.prog 22 (fun l:List Int=>D.sl (l.map (D.int .u8))) (fun l=>l.length≤9223372036854775807∧∀a∈l,IntKind.u8.min≤a∧a≤IntKind.u8.max):=zx5 Tryz.underlying22 (pos (k:=0) (by kernel_rfl)) u_u8 r5
def zku {P:Program} {w:World} {r:Reach} {b:Nat} {t:TypeId} {v:Value} (ht:P.underlying t=some .string∨(∃s,P.underlying t=some (.slice s))∨∃k,P.underlying t=some (.int k)) (h:Value.okWide P w r b t v):∀cs,v≠ .agg cs:=by
 intro cs e
 subst e
 rcases ht with ht|⟨s,ht⟩|⟨k,ht⟩<;>simp[Value.okWide,ht,Cell.okWide,Cell.ok] at h
def own:ownKnob Tryz.prog.godebug=none:=by kernel_rfl
def y3l:laidOutB Tryz.prog=true:=by kernel_rfl
def z5u:∀t∈Tryz.f3.params.toList,Tryz.prog.readableRec t=true∧t<Tryz.prog.types.size:=by
 rw[Tryz.params3]
 intro t ht
 have h: ([22,22,22]:List TypeId).all (fun t=>Tryz.prog.readableRec t&&decide (t<Tryz.prog.types.size))=true:=by kernel_rfl
 have:=List.all_eq_true.1 h t ht
 simpa using this
def zzj (H:Type) (enc:TypeId×Value→H) (W:World) (base:Nat) (args:Array Value) (ds gs:List (DataW H)) (before:List MemPlace)
  (hval:∀(j:Nat) t v,Tryz.f3.params[j]?=some t→args[j]?=some v→Value.okWide Tryz.prog W .any base t v)
  (hW:DataW.Whole enc Tryz.prog Tryz.f3.params.toList YthjhclclibpijaaGreatDoor.Rows.relAlikeSpec.vars false W args.toList ds gs before):
  Calls Tryz.prog 3 args W fun e W' =>∃v,e= .returned v∧YthjhclclibpijaaGreatDoor.Rows.relAlikeSpec.post enc Tryz.prog Tryz.f3 false true false false W args v W' :=by
 have hW' :=hW
 obtain⟨p,q,hA0,hV,rfl,hfz,hnd⟩:=hW
 have hA:DataW.TrodAll enc Tryz.prog W 0 (fun _=>true) true Tryz.f3.params.toList args.toList ds p:=hA0
 rw[Tryz.params3] at hA hval
 obtain⟨v0,vs0,d0,ds0,p0,q0,hargs,rfl,rfl,h0,k0⟩:=trodAll_cons hA
 obtain⟨v1,vs1,d1,ds1,p1,q1,rfl,rfl,rfl,h1,k1⟩:=trodAll_cons k0
 obtain⟨v2,vs2,d2,ds2,p2,q2,rfl,rfl,rfl,h2,k2⟩:=trodAll_cons k1
 obtain⟨rfl,rfl,rfl⟩:=trodAll_nil k2
 obtain rfl:args= #[v0,v1,v2]:=by cases args;simp_all
 obtain⟨rfl,rfl⟩:=trodVars_none hV
 obtain⟨b0,hb0,e0⟩:=zfa u_sl r22 (.inr trivial) (fun h=>by obtain⟨ds,h⟩:=h [];cases h) (fun _=>zku (.inr (.inl ⟨_,Tryz.underlying22⟩)) (hval 0 22 v0 rfl rfl)) h0
 obtain⟨b1,hb1,e1⟩:=zfa u_sl r22 (.inr trivial) (fun h=>by obtain⟨ds,h⟩:=h [];cases h) (fun _=>zku (.inr (.inl ⟨_,Tryz.underlying22⟩)) (hval 1 22 v1 rfl rfl)) h1
 obtain⟨b2,hb2,e2⟩:=zfa u_sl r22 (.inr trivial) (fun h=>by obtain⟨ds,h⟩:=h [];cases h) (fun _=>zku (.inr (.inl ⟨_,Tryz.underlying22⟩)) (hval 2 22 v2 rfl rfl)) h2
 refine (zks (ds:= [.sl (b0.map (D.int .u8)),.sl (b1.map (D.int .u8)),.sl (b2.map (D.int .u8))]) T1.table T1.mixed ?_ (zf9 hb0.1 hb1.1 hb2.1 _)).mono fun e W' h=> ?_
 ·simp only[RepC]
  exact⟨_,_,rfl,e0,_,_,rfl,e1,_,_,rfl,e2,rfl⟩
 ·obtain⟨rfl,h⟩:=h
  exact⟨_,rfl,zjp (tb:=4) y3l z5u rfl rfl rfl Tryz.underlying4 rfl hW' h⟩
end Go.Lift.K
