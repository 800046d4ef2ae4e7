/- Part P22 of the proof. -/
import Derived.Test.YthjhclclibpijaaGreatDoorP21
set_option linter.all false
set_option maxHeartbeats 4000000
set_option maxRecDepth 100000
namespace Go.Lift.K
open Go Go.Lift Go.Proofs Go.Proofs.YthjhclclibpijaaGreatDoor
open Go.ChangeShapes Go.WideShapes Go.ChangeAt Go.RowKit
def lit1:DataW Unit→List Value
 | .lit (.int k n)=> [.int k n]
 |_=> []
def lit2:DataW Unit→List Value
 | .agg l=>l.flatMap lit1
 |x=>lit1 x
def lit3:DataW Unit→List Value
 | .agg l=>l.flatMap lit2
 |x=>lit1 x
noncomputable def lay (h:Array _root_.Go.Obj):List (String×DataW Unit)→Array _root_.Go.Obj
 | []=>h
 |x::l=>lay (h.modify ((Tryz.prog.globalNamed x.1).getD 0) (fun
    | .cells _ t frozen=> .cells (lit3 x.2).toArray t frozen
    |o=>o)) l
noncomputable def zc5 (os:Os):World:=
 {World.holding Tryz.prog os ⟨#[],#[],[]⟩ with heap:=lay (World.holding Tryz.prog os ⟨#[],#[],[]⟩).heap Rows.relAlikeRow.laid}
def wargs:Array Value:= #[.slice none 0 0,.slice none 0 0,.slice none 0 0]
def zy5 (os:Os):laidMet Tryz.prog Rows.relAlikeRow.laid ((zc5 os).forCall (fun _ _=>0) ⟨#[],wargs,[]⟩).memory:=
 laidMet_of_run' 8 (by kernel_rfl) (by kernel_rfl)
def y5e (os:Os) {H:Type} (enc:TypeId×Value→H):∃places,DataW.whole enc Tryz.prog ((zc5 os).forCall (fun _ _=>0) ⟨#[],wargs,[]⟩).memory Tryz.f3.params.toList Rows.relAlikeSpec.vars false wargs.toList 8=some ([.nil,.nil,.nil],[],places):=
 ⟨[],by kernel_rfl⟩
end Go.Lift.K
