import Derived.Test.YtncdhadaifhleaaGreatDoorF1
import Derived.Test.YtncdhadaifhleaaGreatDoorRows
import Derived.Test.YtncdhadaifhleaaGreatDoorCards
import Derived.SevenTiedAt
import Derived.JoinedOf
import Derived.KernelRfl
set_option linter.all false
set_option synthInstance.maxSize 100000
set_option synthInstance.maxHeartbeats 400000
set_option maxHeartbeats 8000000
set_option maxRecDepth 100000
namespace Go.Proofs.YtncdhadaifhleaaGreatDoor
open Go Go.RowKit
section
open Go.ChangeShapes Go.WideShapes
theorem Xe:laidOutB Tryz.prog=true:=by kernel_rfl
theorem ewl:mapsRowed Tryz.prog=true:=by kernel_rfl
theorem Xt:Tryz.prog.funcs.any Func.goes=false:=by kernel_rfl
theorem ewd(f:FuncId):Tryz.prog.goes f=false:=by
 unfold Program.goes;rw[Xt,Bool.and_false,Bool.or_false];rw[List.any_eq_false];intro g _;cases h:Tryz.prog.funcs[g]? with
 |none=>simp
 |some fn=>
  have G:=Array.any_eq_false'.1 Xt fn (Array.mem_of_getElem? h);simpa using G
theorem ewc:(Tryz.prog.stops==[])=true:=by kernel_rfl
theorem ewu:(Tryz.prog.stopKnobs==[])=true:=by kernel_rfl
theorem ewm:Tryz.prog.stopsHeard=true:=by kernel_rfl
theorem ewf:Tryz.prog.mayEnter=true:=by kernel_rfl
theorem ewp:true=Tryz.prog.looks []:=by kernel_rfl
theorem ewg:(Rows.topWindowRow.inPlace==Tryz.prog.inPlace 4)=true:=by kernel_rfl
theorem eww:(Rows.topWindowRow.unfollowed==Tryz.prog.unfollowed 4)=true:=by kernel_rfl
theorem ewy:(Rows.topWindowRow.recurses==Tryz.prog.recurses 4)=true:=by kernel_rfl
theorem ewb:(Rows.topWindowRow.named==Tryz.prog.varsNamed 4)=true:=by kernel_rfl
theorem ewv:(Rows.topWindowRow.lifted==Tryz.prog.liftsFinal)=true:=by kernel_rfl
theorem ewk:false=Rows.topWindowRow.goesBy Tryz.prog:=by
 unfold OpenClaim.goesBy Program.goesAt Program.goesFrom;rw[show Tryz.prog.goes=λ_=>false from funext ewd];cases Tryz.prog.funcNamed Rows.topWindowRow.func<;>rfl
theorem ewx:joinedFacts Tryz.prog 4 Tryz.f4 Rows.topWindowSpec Rows.topWindowRow=true:=by
 simp only[joinedFacts,Xe,ewl,ewc,ewu,ewm,ewf,ewg,eww,ewy,ewb,ewv,Bool.and_true,Bool.true_and];kernel_rfl
end
end Go.Proofs.YtncdhadaifhleaaGreatDoor
