/- TopWindow: for every config, every packet, however many hashes come behind it. Condition: the package-level variables math/bits.deBruijn64tab, errors.errorType, ferryhouse/budgets.long, ferryhouse/budgets.tags read as the program lays them, which the card ties to its text. -/
import Derived.Test.YtncdhadaifhleaaGreatDoorF20
import Derived.Test.YtncdhadaifhleaaGreatDoorF21
import Derived.Test.YtncdhadaifhleaaGreatDoorRows
import Derived.Test.YtncdhadaifhleaaGreatDoorTie
import Derived.Test.YtncdhadaifhleaaGreatDoorCards
import Derived.SevenTiedAt
set_option synthInstance.maxSize 100000
set_option synthInstance.maxHeartbeats 400000
set_option maxHeartbeats 8000000
set_option maxRecDepth 100000
namespace Go.Proofs.YtncdhadaifhleaaGreatDoor.topWindow
open Go.ChangeShapes Go.WideShapes Go.ChangeAt Go.RowKit Go.Fer
theorem cQ:ownKnob Tryz.prog.godebug=none:=by kernel_rfl
theorem ewj(H:Type)(enc:TypeId×Value->H)(W:World)(base:Nat)(args:Array Value)(uW gs:List (DataW H))(fD:List MemPlace)
 (a:∀(j:Nat) t v,Tryz.f4.params[j]? =some t->args[j]? =some v->Value.okWide Tryz.prog W .any base t v)
 (o4:DataW.Whole enc Tryz.prog Tryz.f4.params.toList Rows.topWindowSpec.vars false W args.toList uW gs fD)
 (nJ:Fer.Laid W/\Fer.Tab W (λi=>(w8.getD i 0).toNat)/\Fer.ErrLaid W):
 Calls Tryz.prog 4 args W λe c=>∃v,e= .returned v/\Rows.topWindowSpec.post enc Tryz.prog Tryz.f4 false true false false W args v c:=by
 have m:=o4;obtain⟨p,q,d,o,rfl,E,F⟩:=o4;have l:DataW.TrodAll enc Tryz.prog W 0 (λ_=>true) true Tryz.f4.params.toList args.toList uW p:=d;have r:Tryz.prog.underlying 4=some .bool:=Tryz.underlying4;have u:∀t∈Tryz.f4.params.toList,Tryz.prog.readableRec t=true/\t<Tryz.prog.types.size:=by
  have h:(Tryz.f4.params.toList.all λt=>Tryz.prog.readableRec t&&decide (t<Tryz.prog.types.size))=true:=by kernel_rfl
  intro t w;simpa using List.all_eq_true.1 h t w
 rw[Tryz.params4]at l a;obtain⟨v0,y,d0,z,xc,J,K,rfl,rfl,em,yM⟩:=trodAll_cons l;obtain⟨am,A,d1,B,jD,nb,rfl,rfl,rfl,G,tj⟩:=trodAll_cons yM;obtain⟨cT,C,d2,D,j4,oy,rfl,rfl,rfl,Y,tZ⟩:=trodAll_cons tj;obtain⟨rfl,rfl,rfl⟩:=trodAll_nil tZ;obtain rfl:args=#[v0,am,cT]:=by cases args;simp_all
 obtain⟨rfl,rfl⟩:=trodVars_none o;have f:=λ(c:World)(hb:eV W c)=>Jd (s:=Rows.topWindowSpec) Xe u rfl m rfl rfl rfl rfl r hb;obtain⟨x,rfl,Z⟩:=Jm egF inferInstance (a 0 28 v0 rfl rfl) em;obtain⟨b,hb,_⟩:=Jh (α:=UInt8) (I:=λ_ _=>True) inferInstance Js inferInstance (a 1 30 am rfl rfl) G;obtain⟨n,rfl,L⟩:=Jl inferInstance (a 2 5 cT rfl rfl) Y;exact Jc (by obtain⟨oD,rfl⟩:=hb.mI;obtain⟨eg,g⟩:∃eg:List lX,ex W x.EQ.v eg:=(by unfold fz.ok at Z;obtain⟨⟨eg,g,_⟩,_⟩:=Z;exact⟨eg,g⟩);obtain⟨os,e1⟩:∃os:List Bool,ex W x.cQ.v os:=(by unfold fz.ok at Z;obtain⟨_,_,_,_,_,_,_,_,os,e1,_⟩:=Z;exact⟨os,e1⟩);obtain⟨k,rfl⟩:∃k:UInt8,n=k.toNat:=⟨UInt8.ofNat n,(by have h:(UInt8.ofNat n).toNat=n%256:=rfl;omega)⟩;exact egX W x oD eg os b k _ g e1 hb nJ.1 nJ.2.1 nJ.2.2) f
theorem lifted(os:Os)(started:os.Started)(H:Type)(enc:TypeId×Value->H):
 ReturnsInHanded {} Tryz.checked os 4 .any (λw args=>(Rows.topWindowSpec.pre enc Tryz.prog Tryz.f4 [] false w args/\laidMetH Tryz.prog O9 w)/\sizedMet enc Tryz.prog Tryz.f4 (OpenSpec.ofChange Rows.topWindowSpec) false w args) (Rows.topWindowSpec.post enc Tryz.prog Tryz.f4 false true false false):=by
 refine returnsInHanded_of_change_and (C:=Tryz.checked) (X:=λw _=>laidMetH Tryz.prog O9 w) (λ_ _ _ a h=>h.of_heap a) cQ started (by kernel_rfl) Tryz.func4
  (ChangeSpec.witness_shaped (enc:=enc) (C:=Tryz.checked) (os:=os) (X:=λw _=>laidMetH Tryz.prog O9 w) false (World.doorLaid Tryz.prog 31 os) #[.agg #[.slice none 0 0,.int .i64 0,.int .i64 0,.int .i64 0,.int .i64 0,.int .u64 0,.int .u64 0,.int .u64 0,.int .u64 0,.int .i64 0,.slice none 0 0],.slice none 0 0,.int .u8 0] 8 rfl (World.shaped_of_RefB (by kernel_rfl) (by kernel_rfl)) (by kernel_rfl) (by kernel_rfl) (by kernel_rfl) (ewh os _)) ?_
 intro W base args uW gs fD b o4 _ c d _;exact ewj H enc W base args uW gs fD b o4 (ewr d)
theorem ewE:Rows.TopWindowSaid:=
 OpenClaim.holds_of_wide 4 Tryz.f4 rfl rfl rfl rfl rfl rfl rfl ⟨rfl,rfl,rfl,rfl,rfl⟩ rfl rfl rfl rfl rfl (by kernel_rfl) Tryz.func4 ewx
  (of_decide_eq_true (by kernel_rfl)) (by unfold Func.isWrapper;first|(rw[if_pos (by decide+kernel)];kernel_rfl)|(rw[if_neg (by decide+kernel)];exact⟨rfl,rfl⟩))
  (λos started H enc _=>lifted os started H enc)
end Go.Proofs.YtncdhadaifhleaaGreatDoor.topWindow
namespace Go.Proofs.YtncdhadaifhleaaGreatDoor
open Go.ChangeShapes Go.WideShapes Go.ChangeAt Go.RowKit
theorem topWindow_holds:Rows.TopWindowCardSaid:=
 Claim7.holds_tied_plain_at .later [] [.data,.handle,.data,.data] true (true,"0e048a911b3519066bab28e170bba434a7a61975a5a49b3c8b7ddfabb4ab8d8f") true
  topWindow.ewE (λ_ h=>by cases h) (by kernel_rfl) (λ_ h=>by cases h) topWindow_row_tie rfl ⟨rfl,rfl⟩ (by kernel_rfl) rfl
  (λf fn b c=>by
   obtain rfl:f=4:=Option.some.inj ((show Tryz.prog.funcNamed "ferryhouse/ferryhousetop.TopWindow"=some 4 by kernel_rfl).symm.trans b)|>.symm;obtain rfl:fn=Tryz.f4:=(Option.some.inj (Tryz.func4.symm.trans c)).symm;exact⟨ewp,λj t a=>by
    rw[Tryz.params4]at a;have e5:t∈[28,30,5]:=by simpa using Array.mem_of_getElem? a
    have d:([28,30,5].all λu=> !Tryz.prog.wantsStandIn u)=true:=by kernel_rfl
    exact(show Tryz.prog.wantsStandIn t=false by simpa using List.all_eq_true.1 d t e5)⟩)
  ewk
end Go.Proofs.YtncdhadaifhleaaGreatDoor
#print axioms Go.Proofs.YtncdhadaifhleaaGreatDoor.topWindow_holds
