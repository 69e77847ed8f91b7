import Derived.Test.YtncdhadaifhleaaGreatDoorF1
import Derived.Test.YtncdhadaifhleaaGreatDoorRows
import Derived.Test.YtncdhadaifhleaaGreatDoorCards
import Derived.SevenTiedAt
import Derived.JoinedOf
import Derived.KernelRfl
set_option linter.all false
set_option synthInstance.maxSize 100000
set_option synthInstance.maxHeartbeats 400000
set_option maxHeartbeats 8000000
set_option maxRecDepth 100000
namespace Go.Proofs.YtncdhadaifhleaaGreatDoor
open Go Go.RowKit
section
open Go.ChangeShapes Go.WideShapes
theorem Xm:laidOutB Tryz.prog=true:=by kernel_rfl
theorem eg2:mapsRowed Tryz.prog=true:=by kernel_rfl
theorem Xf:Tryz.prog.funcs.any Func.goes=false:=by kernel_rfl
theorem eg3(f:FuncId):Tryz.prog.goes f=false:=by
 unfold Program.goes;rw[Xf,Bool.and_false,Bool.or_false];rw[List.any_eq_false];intro g _;cases h:Tryz.prog.funcs[g]? with
 |none=>simp
 |some fn=>
  have G:=Array.any_eq_false'.1 Xf fn (Array.mem_of_getElem? h);simpa using G
theorem eg4:(Tryz.prog.stops==[])=true:=by kernel_rfl
theorem eg5:(Tryz.prog.stopKnobs==[])=true:=by kernel_rfl
theorem eg6:Tryz.prog.stopsHeard=true:=by kernel_rfl
theorem eg7:Tryz.prog.mayEnter=true:=by kernel_rfl
theorem eg8:true=Tryz.prog.looks []:=by kernel_rfl
theorem eg9:(Rows.topFitsRow.inPlace==Tryz.prog.inPlace 3)=true:=by kernel_rfl
theorem ewe:(Rows.topFitsRow.unfollowed==Tryz.prog.unfollowed 3)=true:=by kernel_rfl
theorem ewt:(Rows.topFitsRow.recurses==Tryz.prog.recurses 3)=true:=by kernel_rfl
theorem ewa:(Rows.topFitsRow.named==Tryz.prog.varsNamed 3)=true:=by kernel_rfl
theorem ewo:(Rows.topFitsRow.lifted==Tryz.prog.liftsFinal)=true:=by kernel_rfl
theorem ewi:false=Rows.topFitsRow.goesBy Tryz.prog:=by
 unfold OpenClaim.goesBy Program.goesAt Program.goesFrom;rw[show Tryz.prog.goes=λ_=>false from funext eg3];cases Tryz.prog.funcNamed Rows.topFitsRow.func<;>rfl
theorem ewn:joinedFacts Tryz.prog 3 Tryz.f3 Rows.topFitsSpec Rows.topFitsRow=true:=by
 simp only[joinedFacts,Xm,eg2,eg4,eg5,eg6,eg7,eg9,ewe,ewt,ewa,ewo,Bool.and_true,Bool.true_and];kernel_rfl
end
end Go.Proofs.YtncdhadaifhleaaGreatDoor
