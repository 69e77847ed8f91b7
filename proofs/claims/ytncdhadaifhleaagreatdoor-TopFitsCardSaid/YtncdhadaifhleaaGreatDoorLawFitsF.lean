/- TopFits: for every config, every list of accounts, every packet. Condition: the package-level variables math/bits.deBruijn64tab, errors.errorType, ferryhouse/budgets.long, ferryhouse/budgets.tags read as the program lays them, which the card ties to its text. -/
import Derived.Test.YtncdhadaifhleaaGreatDoorF27
import Derived.Test.YtncdhadaifhleaaGreatDoorF28
import Derived.Test.YtncdhadaifhleaaGreatDoorRows
import Derived.Test.YtncdhadaifhleaaGreatDoorTie
import Derived.Test.YtncdhadaifhleaaGreatDoorCards
import Derived.SevenTiedAt
set_option synthInstance.maxSize 100000
set_option synthInstance.maxHeartbeats 400000
set_option maxHeartbeats 8000000
set_option maxRecDepth 100000
namespace Go.Proofs.YtncdhadaifhleaaGreatDoor.topFits
open Go.ChangeShapes Go.WideShapes Go.ChangeAt Go.RowKit Go.Fer
theorem ue:ownKnob Tryz.prog.godebug=none:=by kernel_rfl
theorem ews(H:Type)(enc:TypeId×Value->H)(W:World)(base:Nat)(args:Array Value)(uZ gs:List (DataW H))(fM:List MemPlace)
 (a:∀(j:Nat) t v,Tryz.f3.params[j]? =some t->args[j]? =some v->Value.okWide Tryz.prog W .any base t v)
 (o:DataW.Whole enc Tryz.prog Tryz.f3.params.toList Rows.topFitsSpec.vars false W args.toList uZ gs fM)
 (f:Fer.Laid W/\Fer.Tab W (λi=>(yo.getD i 0).toNat)/\Fer.ErrLaid W):
 Calls Tryz.prog 3 args W λe g=>∃v,e= .returned v/\Rows.topFitsSpec.post enc Tryz.prog Tryz.f3 false true false false W args v g:=by
 have u:=o;obtain⟨p,q,k,w,rfl,M,N⟩:=o;have r:DataW.TrodAll enc Tryz.prog W 0 (λ_=>true) true Tryz.f3.params.toList args.toList uZ p:=k;have y:Tryz.prog.underlying 4=some .bool:=Tryz.underlying4;have z:∀t∈Tryz.f3.params.toList,Tryz.prog.readableRec t=true/\t<Tryz.prog.types.size:=by
  have h:(Tryz.f3.params.toList.all λt=>Tryz.prog.readableRec t&&decide (t<Tryz.prog.types.size))=true:=by kernel_rfl
  intro t A;simpa using List.all_eq_true.1 h t A
 rw[Tryz.params3]at r a;obtain⟨v0,B,d0,C,xc,O,P,rfl,rfl,em,yG⟩:=trodAll_cons r;obtain⟨ab,D,d1,E,jL,nw,rfl,rfl,rfl,G,tD⟩:=trodAll_cons yG;obtain⟨cD,F,d2,J,j5,o4,rfl,rfl,rfl,Y,t6⟩:=trodAll_cons tD;obtain⟨rfl,rfl,rfl⟩:=trodAll_nil t6;obtain rfl:args=#[v0,ab,cD]:=by cases args;simp_all
 obtain⟨rfl,rfl⟩:=trodVars_none w;have m:=λ(g:World)(c:eB W g)=>Jy (s:=Rows.topFitsSpec) Xm z rfl u rfl rfl rfl rfl y c;obtain⟨x,rfl,d⟩:=Jk egx inferInstance (a 0 28 v0 rfl rfl) em;obtain⟨l,eM,K⟩:=FX (α:=tf) (I:=tf.ok) inferInstance ZK inferInstance (a 1 29 ab rfl rfl) G;obtain⟨b,c,_⟩:=FX (α:=UInt8) (I:=λ_ _=>True) inferInstance FK inferInstance (a 2 30 cD rfl rfl) Y;exact Jv (by obtain⟨ae,rfl⟩:=eM.u9;obtain⟨o8,rfl⟩:=c.u9;obtain⟨eg,n⟩:∃eg:List dC,ev W x.E2.v eg:=(by unfold fz.ok at d;obtain⟨⟨eg,n,_⟩,_⟩:=d;exact⟨eg,n⟩);obtain⟨os,e1⟩:∃os:List Bool,ev W x.ue.v os:=(by unfold fz.ok at d;obtain⟨_,_,_,_,_,_,_,_,os,e1,_⟩:=d;exact⟨os,e1⟩);exact egI W x ae o8 eg os l b _ n e1 eM c f.1 f.2.1 f.2.2 (λh L=>egS (K h L))) m
theorem lifted(os:Os)(started:os.Started)(H:Type)(enc:TypeId×Value->H):
 ReturnsInHanded {} Tryz.checked os 3 .any (λw args=>(Rows.topFitsSpec.pre enc Tryz.prog Tryz.f3 [] false w args/\laidMetH Tryz.prog IA w)/\sizedMet enc Tryz.prog Tryz.f3 (OpenSpec.ofChange Rows.topFitsSpec) false w args) (Rows.topFitsSpec.post enc Tryz.prog Tryz.f3 false true false false):=by
 refine returnsInHanded_of_change_and (C:=Tryz.checked) (X:=λw _=>laidMetH Tryz.prog IA w) (λ_ _ _ a h=>h.of_heap a) ue started (by kernel_rfl) Tryz.func3
  (ChangeSpec.witness_shaped (enc:=enc) (C:=Tryz.checked) (os:=os) (X:=λw _=>laidMetH Tryz.prog IA w) false (World.doorLaid Tryz.prog 31 os) #[.agg #[.slice none 0 0,.int .i64 0,.int .i64 0,.int .i64 0,.int .i64 0,.int .u64 0,.int .u64 0,.int .u64 0,.int .u64 0,.int .i64 0,.slice none 0 0],.slice none 0 0,.slice none 0 0] 8 rfl (World.shaped_of_RefB (by kernel_rfl) (by kernel_rfl)) (by kernel_rfl) (by kernel_rfl) (by kernel_rfl) (eg1 os _)) ?_
 intro W base args uZ gs fM b c _ d e _;exact ews H enc W base args uZ gs fM b c (eg0 e)
theorem ewl:Rows.TopFitsSaid:=
 OpenClaim.holds_of_wide 3 Tryz.f3 rfl rfl rfl rfl rfl rfl rfl ⟨rfl,rfl,rfl,rfl,rfl⟩ rfl rfl rfl rfl rfl (by kernel_rfl) Tryz.func3 ewn
  (of_decide_eq_true (by kernel_rfl)) (by unfold Func.isWrapper;first|(rw[if_pos (by decide+kernel)];kernel_rfl)|(rw[if_neg (by decide+kernel)];exact⟨rfl,rfl⟩))
  (λos started H enc _=>lifted os started H enc)
end Go.Proofs.YtncdhadaifhleaaGreatDoor.topFits
namespace Go.Proofs.YtncdhadaifhleaaGreatDoor
open Go.ChangeShapes Go.WideShapes Go.ChangeAt Go.RowKit
theorem topFits_holds:Rows.TopFitsCardSaid:=
 Claim7.holds_tied_plain_at .later [] [.data,.handle,.data,.data] true (true,"0e048a911b3519066bab28e170bba434a7a61975a5a49b3c8b7ddfabb4ab8d8f") true
  topFits.ewl (λ_ h=>by cases h) (by kernel_rfl) (λ_ h=>by cases h) topFits_row_tie rfl ⟨rfl,rfl⟩ (by kernel_rfl) rfl
  (λf fn b c=>by
   obtain rfl:f=3:=Option.some.inj ((show Tryz.prog.funcNamed "ferryhouse/ferryhousetop.TopFits"=some 3 by kernel_rfl).symm.trans b)|>.symm;obtain rfl:fn=Tryz.f3:=(Option.some.inj (Tryz.func3.symm.trans c)).symm;exact⟨eg8,λj t a=>by
    rw[Tryz.params3]at a;have th:t∈[28,29,30]:=by simpa using Array.mem_of_getElem? a
    have d:([28,29,30].all λu=> !Tryz.prog.wantsStandIn u)=true:=by kernel_rfl
    exact(show Tryz.prog.wantsStandIn t=false by simpa using List.all_eq_true.1 d t th)⟩)
  ewi
end Go.Proofs.YtncdhadaifhleaaGreatDoor
#print axioms Go.Proofs.YtncdhadaifhleaaGreatDoor.topFits_holds
