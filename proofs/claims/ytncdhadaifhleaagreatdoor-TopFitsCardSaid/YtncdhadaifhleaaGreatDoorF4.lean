import Derived.Test.YtncdhadaifhleaaGreatDoorF3
import Derived.Shelf.SlSortCmp.NoneTotal
import Derived.Lib.Bytealg
set_option linter.all false
set_option synthInstance.maxSize 100000
set_option synthInstance.maxHeartbeats 400000
set_option maxHeartbeats 8000000
set_option maxRecDepth 100000
namespace Go.Fer
open Go Go.RowKit
section
open Go.Proofs Tryz
variable{oL gJ:Nat}{o3 n1 v bN:eu}
abbrev av:=Vector UInt8 32
abbrev hO:=Vector UInt8 64
structure aB where
 o6:Nat
 hJ:Vector UInt8 32
 tv:Nat
 deriving DecidableEq
def aB.parts(x:aB):List (Array Value):=[#[.int .u64 (x.o6:Int)],O.enc x.hJ,#[.int .u64 (x.tv:Int)]]
theorem Zv(x:aB):x.parts.map Array.size=[1,32,1]:=by
 simp only[aB.parts,List.map,O.eT];rfl
instance:O aB where
 enc x:=eK x.parts
 eo:=34
 pos:=by omega
 eT x:=by rw[iw,Zv];rfl
 one x:=rY (all_cons (o0 _ _) (all_cons (O.one _) (all_cons (o0 _ _) rB)))
theorem jV(x:aB):O.enc x=eK x.parts:=rfl
theorem AF(x:aB):(O.enc x)[0]? =some (.int .u64 (x.o6:Int)):=hp [] [O.enc x.hJ,#[.int .u64 (x.tv:Int)]] _ (by rw[iw];simp only[List.map,O.eT];rfl)
theorem Dn(x:aB):(O.enc x).extract 1 (1+32)=O.enc x.hJ:=pV [#[.int .u64 (x.o6:Int)]] [#[.int .u64 (x.tv:Int)]] _ (by rw[iw];simp only[List.map,O.eT];rfl) (by rw[O.eT];rfl)
theorem Ds(x:aB):(O.enc x)[33]? =some (.int .u64 (x.tv:Int)):=hp [#[.int .u64 (x.o6:Int)],O.enc x.hJ] [] _ (by rw[iw];simp only[List.map,O.eT];rfl)
theorem GE(x:aB)(v:Nat):iH (O.enc x) 0 #[.int .u64 (v:Int)]=O.enc {x with o6:=v}:=by
 have h:=rG [] [O.enc x.hJ,#[.int .u64 (x.tv:Int)]] (#[.int .u64 (x.o6:Int)]) (#[.int .u64 (v:Int)]) (by first|(rw[O.eT,O.eT];done)|rfl);rw[show(eK []).size=0 from(by rw[iw];simp only[List.map,O.eT];rfl)]at h;exact h
def aB.ok(w:World)(x:aB):Prop:=(x.o6<=18446744073709551615)/\(x.tv<=18446744073709551615)
instance(x:aB):nt x [#[.int .u64 (x.o6:Int)],O.enc x.hJ,#[.int .u64 (x.tv:Int)]]:=⟨rfl⟩
instance(priority:=2000){o3:Vector UInt8 32}{n1:Nat}:nt (⟨oL,o3,n1⟩:aB) [#[.int .u64 (oL:Int)],O.enc o3,#[.int .u64 (n1:Int)]]:=⟨rfl⟩
instance{x:aB}{v:Nat}:st (O.enc x) 0 #[.int .u64 (v:Int)] (O.enc {x with o6:=v}):=rq
instance{x:aB}{v:Vector UInt8 32}:st (O.enc x) 1 (O.enc v) (O.enc {x with hJ:=v}):=rq
instance{x:aB}{v:Nat}:st (O.enc x) 33 #[.int .u64 (v:Int)] (O.enc {x with tv:=v}):=rq
theorem Zk:pY prog 62 aB aB.ok:=by
 intro H enc w fuel cs d ps b;obtain⟨dX,i,a⟩:=I7 underlying62 inferInstance b;obtain⟨d0,j,em⟩:=a 0 _ 23 0 1 rfl rfl rfl inferInstance;obtain⟨eE,c,i0⟩:=zt inferInstance em;obtain⟨d1,k,G⟩:=a 1 _ 60 1 32 rfl rfl rfl inferInstance;obtain⟨te,e,i1⟩:=I8 FZ G;obtain⟨d2,l,Y⟩:=a 2 _ 23 33 1 rfl rfl rfl inferInstance;obtain⟨tO,f,i2⟩:=zt inferInstance Y;have g:=fo f dX;have h:=fo e g;have lg:=fo c h;refine⟨⟨eE,te,tO⟩,?_,⟨i0,i2⟩⟩;rw[jV];simp only[aB.parts,ze,yh];rw[List.drop_zero]at lg;rw[lg];try simp
instance:k1 prog 62 aB 3 where
 le:=by omega
 run w d hd x y:=by
  obtain⟨d,rfl⟩:∃d',d=d'+1:=⟨d-1,by omega⟩;have h:=F7 (P:=prog) (w:=w) (d:=d) (xs:=O.enc x) (ys:=O.enc y) underlying62 (by kernel_rfl) (H8 (T:=23) (by omega) rfl rfl (by decide) (AF x) (AF y) (F5 (T:=60) (α:=Vector UInt8 32) (by omega) rfl rfl (by decide) (Dn x) (Dn y) (H8 (T:=23) (by omega) rfl rfl (by decide) (Ds x) (Ds y) F6)));rw[h];refine congrArg (λb=>Result.ok b w) ?_;rw[Bool.eq_iff_iff];cases x;cases y;simp[aB.mk.injEq];try(intros;simp_all[<-UInt8.toNat_inj];try omega)
  all_goals(try simp only[Int.ofNat_inj,Int.natCast_inj])
structure o1 where
 key:Vector UInt8 32
 zB:Bool
 iO:Bool
 deriving DecidableEq
def o1.parts(x:o1):List (Array Value):=[O.enc x.key,#[.bool x.zB],#[.bool x.iO]]
theorem Zx(x:o1):x.parts.map Array.size=[32,1,1]:=by
 simp only[o1.parts,List.map,O.eT];rfl
instance:O o1 where
 enc x:=eK x.parts
 eo:=34
 pos:=by omega
 eT x:=by rw[iw,Zx];rfl
 one x:=rY (all_cons (O.one _) (all_cons (O.one (α:=Bool) _) (all_cons (O.one (α:=Bool) _) rB)))
theorem Dl(x:o1):O.enc x=eK x.parts:=rfl
theorem AP(x:o1):(O.enc x).extract 0 (0+32)=O.enc x.key:=pV [] [#[.bool x.zB],#[.bool x.iO]] _ (by rw[iw];simp only[List.map,O.eT];rfl) (by rw[O.eT];rfl)
theorem Dd(x:o1):(O.enc x)[33]? =some (.bool x.iO):=hp [O.enc x.key,#[.bool x.zB]] [] _ (by rw[iw];simp only[List.map,O.eT];rfl)
theorem Zj(x:o1)(v:Bool):iH (O.enc x) 33 #[.bool v]=O.enc {x with iO:=v}:=by
 have h:=rG [O.enc x.key,#[.bool x.zB]] [] (#[.bool x.iO]) (#[.bool v]) (by first|(rw[O.eT,O.eT];done)|rfl);rw[show(eK [O.enc x.key,#[.bool x.zB]]).size=33 from(by rw[iw];simp only[List.map,O.eT];rfl)]at h;exact h
instance(x:o1):nt x [O.enc x.key,#[.bool x.zB],#[.bool x.iO]]:=⟨rfl⟩
instance(priority:=2000){oL:Vector UInt8 32}{o3:Bool}{n1:Bool}:nt (⟨oL,o3,n1⟩:o1) [O.enc oL,#[.bool o3],#[.bool n1]]:=⟨rfl⟩
structure Instr where
 program:UInt8
 cG:eu
 data:eu
def Instr.parts(x:Instr):List (Array Value):=[#[.int .u8 x.program.toNat],#[x.cG.v],#[x.data.v]]
theorem Zq(x:Instr):x.parts.map Array.size=[1,1,1]:=by
 simp only[Instr.parts,List.map,O.eT];rfl
instance:O Instr where
 enc x:=eK x.parts
 eo:=3
 pos:=by omega
 eT x:=by rw[iw,Zq];rfl
 one x:=rY (all_cons (o0 _ _) (all_cons (O.one (α:=eu) _) (all_cons (O.one (α:=eu) _) rB)))
theorem GA(x:Instr):O.enc x=eK x.parts:=rfl
theorem GO(x:Instr):(O.enc x)[0]? =some (.int .u8 x.program.toNat):=hp [] [#[x.cG.v],#[x.data.v]] _ (by rw[iw];simp only[List.map,O.eT];rfl)
theorem Zz(x:Instr):(O.enc x)[1]? =some (x.cG.v):=hp [#[.int .u8 x.program.toNat]] [#[x.data.v]] _ (by rw[iw];simp only[List.map,O.eT];rfl)
def Instr.ok(w:World)(x:Instr):Prop:=(∃l:List (UInt8),ev w x.cG.v l/\∀e∈l,True)/\(∃l:List (UInt8),ev w x.data.v l/\∀e∈l,True)
instance(x:Instr):nt x [#[.int .u8 x.program.toNat],#[x.cG.v],#[x.data.v]]:=⟨rfl⟩
instance(priority:=2000){oL:UInt8}:nt (⟨oL,o3,n1⟩:Instr) [#[.int .u8 oL.toNat],#[o3.v],#[n1.v]]:=⟨rfl⟩
instance{x:Instr}{v:UInt8}:st (O.enc x) 0 #[.int .u8 v.toNat] (O.enc {x with program:=v}):=rq
instance{x:Instr}:st (O.enc x) 1 #[v.v] (O.enc {x with cG:=v}):=rq
instance{x:Instr}:st (O.enc x) 2 #[v.v] (O.enc {x with data:=v}):=rq
structure rr where
 rf:UInt8
 fV:UInt8
 uS:UInt8
 deriving DecidableEq
def rr.parts(x:rr):List (Array Value):=[#[.int .u8 x.rf.toNat],#[.int .u8 x.fV.toNat],#[.int .u8 x.uS.toNat]]
theorem ZE(x:rr):x.parts.map Array.size=[1,1,1]:=by
 simp only[rr.parts,List.map,O.eT];rfl
instance:O rr where
 enc x:=eK x.parts
 eo:=3
 pos:=by omega
 eT x:=by rw[iw,ZE];rfl
 one x:=rY (all_cons (o0 _ _) (all_cons (o0 _ _) (all_cons (o0 _ _) rB)))
theorem cW(x:rr):O.enc x=eK x.parts:=rfl
theorem GI(x:rr):(O.enc x)[0]? =some (.int .u8 x.rf.toNat):=hp [] [#[.int .u8 x.fV.toNat],#[.int .u8 x.uS.toNat]] _ (by rw[iw];simp only[List.map,O.eT];rfl)
theorem ZT(x:rr):(O.enc x)[2]? =some (.int .u8 x.uS.toNat):=hp [#[.int .u8 x.rf.toNat],#[.int .u8 x.fV.toNat]] [] _ (by rw[iw];simp only[List.map,O.eT];rfl)
theorem ZA(x:rr)(v:UInt8):iH (O.enc x) 0 #[.int .u8 v.toNat]=O.enc {x with rf:=v}:=by
 have h:=rG [] [#[.int .u8 x.fV.toNat],#[.int .u8 x.uS.toNat]] (#[.int .u8 x.rf.toNat]) (#[.int .u8 v.toNat]) (by first|(rw[O.eT,O.eT];done)|rfl);rw[show(eK []).size=0 from(by rw[iw];simp only[List.map,O.eT];rfl)]at h;exact h
theorem ZO(x:rr)(v:UInt8):iH (O.enc x) 1 #[.int .u8 v.toNat]=O.enc {x with fV:=v}:=by
 have h:=rG [#[.int .u8 x.rf.toNat]] [#[.int .u8 x.uS.toNat]] (#[.int .u8 x.fV.toNat]) (#[.int .u8 v.toNat]) (by first|(rw[O.eT,O.eT];done)|rfl);rw[show(eK [#[.int .u8 x.rf.toNat]]).size=1 from(by rw[iw];simp only[List.map,O.eT];rfl)]at h;exact h
theorem ZI(x:rr)(v:UInt8):iH (O.enc x) 2 #[.int .u8 v.toNat]=O.enc {x with uS:=v}:=by
 have h:=rG [#[.int .u8 x.rf.toNat],#[.int .u8 x.fV.toNat]] [] (#[.int .u8 x.uS.toNat]) (#[.int .u8 v.toNat]) (by first|(rw[O.eT,O.eT];done)|rfl);rw[show(eK [#[.int .u8 x.rf.toNat],#[.int .u8 x.fV.toNat]]).size=2 from(by rw[iw];simp only[List.map,O.eT];rfl)]at h;exact h
instance(x:rr):nt x [#[.int .u8 x.rf.toNat],#[.int .u8 x.fV.toNat],#[.int .u8 x.uS.toNat]]:=⟨rfl⟩
structure iW where
 table:Vector UInt8 32
 iO:eu
 p3:eu
def iW.parts(x:iW):List (Array Value):=[O.enc x.table,#[x.iO.v],#[x.p3.v]]
theorem ZN(x:iW):x.parts.map Array.size=[32,1,1]:=by
 simp only[iW.parts,List.map,O.eT];rfl
instance:O iW where
 enc x:=eK x.parts
 eo:=34
 pos:=by omega
 eT x:=by rw[iw,ZN];rfl
 one x:=rY (all_cons (O.one _) (all_cons (O.one (α:=eu) _) (all_cons (O.one (α:=eu) _) rB)))
theorem ZS(x:iW):O.enc x=eK x.parts:=rfl
instance(x:iW):nt x [O.enc x.table,#[x.iO.v],#[x.p3.v]]:=⟨rfl⟩
instance(priority:=2000){oL:Vector UInt8 32}:nt (⟨oL,o3,n1⟩:iW) [O.enc oL,#[o3.v],#[n1.v]]:=⟨rfl⟩
instance{x:iW}{v:Vector UInt8 32}:st (O.enc x) 0 (O.enc v) (O.enc {x with table:=v}):=rq
instance{x:iW}:st (O.enc x) 32 #[v.v] (O.enc {x with iO:=v}):=rq
instance{x:iW}:st (O.enc x) 33 #[v.v] (O.enc {x with p3:=v}):=rq
structure oe where
 v0:Bool
 ii:rr
 tu:eu
 it:Vector UInt8 32
 instrs:eu
 r1:eu
def oe.parts(x:oe):List (Array Value):=[#[.bool x.v0],O.enc x.ii,#[x.tu.v],O.enc x.it,#[x.instrs.v],#[x.r1.v]]
theorem ZR(x:oe):x.parts.map Array.size=[1,3,1,32,1,1]:=by
 simp only[oe.parts,List.map,O.eT];rfl
instance:O oe where
 enc x:=eK x.parts
 eo:=39
 pos:=by omega
 eT x:=by rw[iw,ZR];rfl
 one x:=rY (all_cons (O.one (α:=Bool) _) (all_cons (O.one _) (all_cons (O.one (α:=eu) _) (all_cons (O.one _) (all_cons (O.one (α:=eu) _) (all_cons (O.one (α:=eu) _) rB))))))
theorem cy(x:oe):O.enc x=eK x.parts:=rfl
theorem Ss(x:oe):(O.enc x).extract 1 (1+3)=O.enc x.ii:=pV [#[.bool x.v0]] [#[x.tu.v],O.enc x.it,#[x.instrs.v],#[x.r1.v]] _ (by rw[iw];simp only[List.map,O.eT];rfl) (by rw[O.eT];rfl)
theorem GN(x:oe):(O.enc x)[4]? =some (x.tu.v):=hp [#[.bool x.v0],O.enc x.ii] [O.enc x.it,#[x.instrs.v],#[x.r1.v]] _ (by rw[iw];simp only[List.map,O.eT];rfl)
theorem ZH(x:oe):(O.enc x)[37]? =some (x.instrs.v):=hp [#[.bool x.v0],O.enc x.ii,#[x.tu.v],O.enc x.it] [#[x.r1.v]] _ (by rw[iw];simp only[List.map,O.eT];rfl)
theorem Dc(x:oe)(v:rr):iH (O.enc x) 1 (O.enc v)=O.enc {x with ii:=v}:=by
 have h:=rG [#[.bool x.v0]] [#[x.tu.v],O.enc x.it,#[x.instrs.v],#[x.r1.v]] (O.enc x.ii) (O.enc v) (by first|(rw[O.eT,O.eT];done)|rfl);rw[show(eK [#[.bool x.v0]]).size=1 from(by rw[iw];simp only[List.map,O.eT];rfl)]at h;exact h
theorem ZL(x:oe)(v:eu):iH (O.enc x) 4 #[v.v]=O.enc {x with tu:=v}:=by
 have h:=rG [#[.bool x.v0],O.enc x.ii] [O.enc x.it,#[x.instrs.v],#[x.r1.v]] (#[x.tu.v]) (#[v.v]) (by first|(rw[O.eT,O.eT];done)|rfl);rw[show(eK [#[.bool x.v0],O.enc x.ii]).size=4 from(by rw[iw];simp only[List.map,O.eT];rfl)]at h;exact h
theorem ZD(x:oe)(v:eu):iH (O.enc x) 37 #[v.v]=O.enc {x with instrs:=v}:=by
 have h:=rG [#[.bool x.v0],O.enc x.ii,#[x.tu.v],O.enc x.it] [#[x.r1.v]] (#[x.instrs.v]) (#[v.v]) (by first|(rw[O.eT,O.eT];done)|rfl);rw[show(eK [#[.bool x.v0],O.enc x.ii,#[x.tu.v],O.enc x.it]).size=37 from(by rw[iw];simp only[List.map,O.eT];rfl)]at h;exact h
theorem ZC(x:oe)(v:eu):iH (O.enc x) 38 #[v.v]=O.enc {x with r1:=v}:=by
 have h:=rG [#[.bool x.v0],O.enc x.ii,#[x.tu.v],O.enc x.it,#[x.instrs.v]] [] (#[x.r1.v]) (#[v.v]) (by first|(rw[O.eT,O.eT];done)|rfl);rw[show(eK [#[.bool x.v0],O.enc x.ii,#[x.tu.v],O.enc x.it,#[x.instrs.v]]).size=38 from(by rw[iw];simp only[List.map,O.eT];rfl)]at h;exact h
instance(x:oe):nt x [#[.bool x.v0],O.enc x.ii,#[x.tu.v],O.enc x.it,#[x.instrs.v],#[x.r1.v]]:=⟨rfl⟩
instance(priority:=2000){oL:Bool}{o3:rr}{li:Vector UInt8 32}{gJ:eu}:nt (⟨oL,o3,n1,li,gJ,bN⟩:oe) [#[.bool oL],O.enc o3,#[n1.v],O.enc li,#[gJ.v],#[bN.v]]:=⟨rfl⟩
instance{x:oe}{v:Bool}:st (O.enc x) 0 #[.bool v] (O.enc {x with v0:=v}):=rq
instance{x:oe}:st (O.enc x) 4 #[v.v] (O.enc {x with tu:=v}):=rq
instance{x:oe}{v:Vector UInt8 32}:st (O.enc x) 5 (O.enc v) (O.enc {x with it:=v}):=rq
instance{x:oe}:st (O.enc x) 37 #[v.v] (O.enc {x with instrs:=v}):=rq
instance{x:oe}:st (O.enc x) 38 #[v.v] (O.enc {x with r1:=v}):=rq
structure oF where
 sigs:eu
 m:oe
def oF.parts(x:oF):List (Array Value):=[#[x.sigs.v],O.enc x.m]
theorem ZU(x:oF):x.parts.map Array.size=[1,39]:=by
 simp only[oF.parts,List.map,O.eT];rfl
instance:O oF where
 enc x:=eK x.parts
 eo:=40
 pos:=by omega
 eT x:=by rw[iw,ZU];rfl
 one x:=rY (all_cons (O.one (α:=eu) _) (all_cons (O.one _) rB))
theorem dm(x:oF):O.enc x=eK x.parts:=rfl
theorem Du(x:oF):(O.enc x)[0]? =some (x.sigs.v):=hp [] [O.enc x.m] _ (by rw[iw];simp only[List.map,O.eT];rfl)
theorem zV(x:oF):(O.enc x).extract 1 (1+39)=O.enc x.m:=pV [#[x.sigs.v]] [] _ (by rw[iw];simp only[List.map,O.eT];rfl) (by rw[O.eT];rfl)
theorem GS(x:oF)(v:eu):iH (O.enc x) 0 #[v.v]=O.enc {x with sigs:=v}:=by
 have h:=rG [] [O.enc x.m] (#[x.sigs.v]) (#[v.v]) (by first|(rw[O.eT,O.eT];done)|rfl);rw[show(eK []).size=0 from(by rw[iw];simp only[List.map,O.eT];rfl)]at h;exact h
theorem Sr(x:oF)(v:oe):iH (O.enc x) 1 (O.enc v)=O.enc {x with m:=v}:=by
 have h:=rG [#[x.sigs.v]] [] (O.enc x.m) (O.enc v) (by first|(rw[O.eT,O.eT];done)|rfl);rw[show(eK [#[x.sigs.v]]).size=1 from(by rw[iw];simp only[List.map,O.eT];rfl)]at h;exact h
theorem GR(x:oF):(O.enc x)[38]? =some (x.m.instrs.v):=vE (i:=37) (zV x) (ZH x.m) (by decide)
instance(x:oF):nt x [#[x.sigs.v],O.enc x.m]:=⟨rfl⟩
instance(priority:=2000){oL:eu}{o3:oe}:nt (⟨oL,o3⟩:oF) [#[oL.v],O.enc o3]:=⟨rfl⟩
structure sD where
 tK:Nat
 xj:Nat
 dJ:Int
 deriving DecidableEq
def sD.parts(x:sD):List (Array Value):=[#[.int .u64 (x.tK:Int)],#[.int .u64 (x.xj:Int)],#[.int .i64 x.dJ]]
theorem ZM(x:sD):x.parts.map Array.size=[1,1,1]:=by
 simp only[sD.parts,List.map,O.eT];rfl
instance:O sD where
 enc x:=eK x.parts
 eo:=3
 pos:=by omega
 eT x:=by rw[iw,ZM];rfl
 one x:=rY (all_cons (o0 _ _) (all_cons (o0 _ _) (all_cons (o0 _ _) rB)))
theorem bS(x:sD):O.enc x=eK x.parts:=rfl
theorem GH(x:sD):(O.enc x)[0]? =some (.int .u64 (x.tK:Int)):=hp [] [#[.int .u64 (x.xj:Int)],#[.int .i64 x.dJ]] _ (by rw[iw];simp only[List.map,O.eT];rfl)
theorem ZF(x:sD)(v:Nat):iH (O.enc x) 0 #[.int .u64 (v:Int)]=O.enc {x with tK:=v}:=by
 have h:=rG [] [#[.int .u64 (x.xj:Int)],#[.int .i64 x.dJ]] (#[.int .u64 (x.tK:Int)]) (#[.int .u64 (v:Int)]) (by first|(rw[O.eT,O.eT];done)|rfl);rw[show(eK []).size=0 from(by rw[iw];simp only[List.map,O.eT];rfl)]at h;exact h
theorem ZP(x:sD)(v:Nat):iH (O.enc x) 1 #[.int .u64 (v:Int)]=O.enc {x with xj:=v}:=by
 have h:=rG [#[.int .u64 (x.tK:Int)]] [#[.int .i64 x.dJ]] (#[.int .u64 (x.xj:Int)]) (#[.int .u64 (v:Int)]) (by first|(rw[O.eT,O.eT];done)|rfl);rw[show(eK [#[.int .u64 (x.tK:Int)]]).size=1 from(by rw[iw];simp only[List.map,O.eT];rfl)]at h;exact h
instance(x:sD):nt x [#[.int .u64 (x.tK:Int)],#[.int .u64 (x.xj:Int)],#[.int .i64 x.dJ]]:=⟨rfl⟩
instance(priority:=2000){o3:Nat}{n1:Int}:nt (⟨oL,o3,n1⟩:sD) [#[.int .u64 (oL:Int)],#[.int .u64 (o3:Int)],#[.int .i64 n1]]:=⟨rfl⟩
instance{x:sD}{v:Int}:st (O.enc x) 2 #[.int .i64 v] (O.enc {x with dJ:=v}):=rq
structure aX where
 bytes:eu
 tQ:oF
 s5:eu
 rD:sD
 tc:Nat
 oy:Nat
 priority:Nat
def aX.parts(x:aX):List (Array Value):=[#[x.bytes.v],O.enc x.tQ,#[x.s5.v],O.enc x.rD,#[.int .u64 (x.tc:Int)],#[.int .u64 (x.oy:Int)],#[.int .u64 (x.priority:Int)]]
theorem ZG(x:aX):x.parts.map Array.size=[1,40,1,3,1,1,1]:=by
 simp only[aX.parts,List.map,O.eT];rfl
instance:O aX where
 enc x:=eK x.parts
 eo:=48
 pos:=by omega
 eT x:=by rw[iw,ZG];rfl
 one x:=rY (all_cons (O.one (α:=eu) _) (all_cons (O.one _) (all_cons (O.one (α:=eu) _) (all_cons (O.one _) (all_cons (o0 _ _) (all_cons (o0 _ _) (all_cons (o0 _ _) rB)))))))
theorem p4(x:aX):O.enc x=eK x.parts:=rfl
theorem AG(x:aX):(O.enc x).extract 1 (1+40)=O.enc x.tQ:=pV [#[x.bytes.v]] [#[x.s5.v],O.enc x.rD,#[.int .u64 (x.tc:Int)],#[.int .u64 (x.oy:Int)],#[.int .u64 (x.priority:Int)]] _ (by rw[iw];simp only[List.map,O.eT];rfl) (by rw[O.eT];rfl)
theorem Sh(x:aX):(O.enc x)[41]? =some (x.s5.v):=hp [#[x.bytes.v],O.enc x.tQ] [O.enc x.rD,#[.int .u64 (x.tc:Int)],#[.int .u64 (x.oy:Int)],#[.int .u64 (x.priority:Int)]] _ (by rw[iw];simp only[List.map,O.eT];rfl)
theorem GL(x:aX):(O.enc x).extract 42 (42+3)=O.enc x.rD:=pV [#[x.bytes.v],O.enc x.tQ,#[x.s5.v]] [#[.int .u64 (x.tc:Int)],#[.int .u64 (x.oy:Int)],#[.int .u64 (x.priority:Int)]] _ (by rw[iw];simp only[List.map,O.eT];rfl) (by rw[O.eT];rfl)
theorem Dm(x:aX):(O.enc x)[45]? =some (.int .u64 (x.tc:Int)):=hp [#[x.bytes.v],O.enc x.tQ,#[x.s5.v],O.enc x.rD] [#[.int .u64 (x.oy:Int)],#[.int .u64 (x.priority:Int)]] _ (by rw[iw];simp only[List.map,O.eT];rfl)
theorem Sl(x:aX)(v:oF):iH (O.enc x) 1 (O.enc v)=O.enc {x with tQ:=v}:=by
 have h:=rG [#[x.bytes.v]] [#[x.s5.v],O.enc x.rD,#[.int .u64 (x.tc:Int)],#[.int .u64 (x.oy:Int)],#[.int .u64 (x.priority:Int)]] (O.enc x.tQ) (O.enc v) (by first|(rw[O.eT,O.eT];done)|rfl);rw[show(eK [#[x.bytes.v]]).size=1 from(by rw[iw];simp only[List.map,O.eT];rfl)]at h;exact h
theorem ZW(x:aX)(v:Nat):iH (O.enc x) 45 #[.int .u64 (v:Int)]=O.enc {x with tc:=v}:=by
 have h:=rG [#[x.bytes.v],O.enc x.tQ,#[x.s5.v],O.enc x.rD] [#[.int .u64 (x.oy:Int)],#[.int .u64 (x.priority:Int)]] (#[.int .u64 (x.tc:Int)]) (#[.int .u64 (v:Int)]) (by first|(rw[O.eT,O.eT];done)|rfl);rw[show(eK [#[x.bytes.v],O.enc x.tQ,#[x.s5.v],O.enc x.rD]).size=45 from(by rw[iw];simp only[List.map,O.eT];rfl)]at h;exact h
theorem ZY(x:aX):(O.enc x)[42]? =some (.int .u64 (x.rD.tK:Int)):=vE (i:=0) (GL x) (GH x.rD) (by decide)
instance(x:aX):nt x [#[x.bytes.v],O.enc x.tQ,#[x.s5.v],O.enc x.rD,#[.int .u64 (x.tc:Int)],#[.int .u64 (x.oy:Int)],#[.int .u64 (x.priority:Int)]]:=⟨rfl⟩
instance(priority:=2000){oL:eu}{o3:oF}{li:sD}{bN:Nat}{AW:Nat}:nt (⟨oL,o3,n1,li,gJ,bN,AW⟩:aX) [#[oL.v],O.enc o3,#[n1.v],O.enc li,#[.int .u64 (gJ:Int)],#[.int .u64 (bN:Int)],#[.int .u64 (AW:Int)]]:=⟨rfl⟩
instance{x:aX}:st (O.enc x) 0 #[v.v] (O.enc {x with bytes:=v}):=rq
instance{x:aX}:st (O.enc x) 41 #[v.v] (O.enc {x with s5:=v}):=rq
instance{x:aX}{v:Nat}:st (O.enc x) 46 #[.int .u64 (v:Int)] (O.enc {x with oy:=v}):=rq
instance{x:aX}{v:Nat}:st (O.enc x) 47 #[.int .u64 (v:Int)] (O.enc {x with priority:=v}):=rq
structure tf where
 key:Vector UInt8 32
 rJ:aB
 deriving DecidableEq
def tf.parts(x:tf):List (Array Value):=[O.enc x.key,O.enc x.rJ]
theorem ZB(x:tf):x.parts.map Array.size=[32,34]:=by
 simp only[tf.parts,List.map,O.eT];rfl
instance:O tf where
 enc x:=eK x.parts
 eo:=66
 pos:=by omega
 eT x:=by rw[iw,ZB];rfl
 one x:=rY (all_cons (O.one _) (all_cons (O.one _) rB))
theorem AY(x:tf):O.enc x=eK x.parts:=rfl
theorem ZV(x:tf):(O.enc x).extract 0 (0+32)=O.enc x.key:=pV [] [O.enc x.rJ] _ (by rw[iw];simp only[List.map,O.eT];rfl) (by rw[O.eT];rfl)
def tf.ok(w:World)(x:tf):Prop:=(aB.ok w x.rJ)
instance(x:tf):nt x [O.enc x.key,O.enc x.rJ]:=⟨rfl⟩
theorem ZK:pY prog 64 tf tf.ok:=by
 intro H enc w fuel cs d ps b;obtain⟨dX,g,a⟩:=I7 underlying64 inferInstance b;obtain⟨d0,h,em⟩:=a 0 _ 60 0 32 rfl rfl rfl inferInstance;obtain⟨eE,c,i0⟩:=I8 FZ em;obtain⟨d1,i,G⟩:=a 1 _ 62 32 34 rfl rfl rfl inferInstance;obtain⟨te,e,i1⟩:=I8 Zk G;have f:=fo e dX;have lg:=fo c f;refine⟨⟨eE,te⟩,?_,i1⟩;rw[AY];simp only[tf.parts,ze,yh];rw[List.drop_zero]at lg;rw[lg];try simp
structure ta where
 fail:Int
 aQ:Int
 tK:Nat
 tc:Nat
 tv:Nat
 rp:eu
def ta.parts(x:ta):List (Array Value):=[#[.int .i64 x.fail],#[.int .i64 x.aQ],#[.int .u64 (x.tK:Int)],#[.int .u64 (x.tc:Int)],#[.int .u64 (x.tv:Int)],#[x.rp.v]]
theorem ZX(x:ta):x.parts.map Array.size=[1,1,1,1,1,1]:=by
 simp only[ta.parts,List.map,O.eT];rfl
instance:O ta where
 enc x:=eK x.parts
 eo:=6
 pos:=by omega
 eT x:=by rw[iw,ZX];rfl
 one x:=rY (all_cons (o0 _ _) (all_cons (o0 _ _) (all_cons (o0 _ _) (all_cons (o0 _ _) (all_cons (o0 _ _) (all_cons (O.one (α:=eu) _) rB))))))
theorem jK(x:ta):O.enc x=eK x.parts:=rfl
theorem ZJ(x:ta)(v:Int):iH (O.enc x) 0 #[.int .i64 v]=O.enc {x with fail:=v}:=by
 have h:=rG [] [#[.int .i64 x.aQ],#[.int .u64 (x.tK:Int)],#[.int .u64 (x.tc:Int)],#[.int .u64 (x.tv:Int)],#[x.rp.v]] (#[.int .i64 x.fail]) (#[.int .i64 v]) (by first|(rw[O.eT,O.eT];done)|rfl);rw[show(eK []).size=0 from(by rw[iw];simp only[List.map,O.eT];rfl)]at h;exact h
instance(x:ta):nt x [#[.int .i64 x.fail],#[.int .i64 x.aQ],#[.int .u64 (x.tK:Int)],#[.int .u64 (x.tc:Int)],#[.int .u64 (x.tv:Int)],#[x.rp.v]]:=⟨rfl⟩
instance(priority:=2000){oL:Int}{o3:Int}{n1:Nat}{li:Nat}:nt (⟨oL,o3,n1,li,gJ,bN⟩:ta) [#[.int .i64 oL],#[.int .i64 o3],#[.int .u64 (n1:Int)],#[.int .u64 (li:Int)],#[.int .u64 (gJ:Int)],#[bN.v]]:=⟨rfl⟩
instance{x:ta}{v:Int}:st (O.enc x) 1 #[.int .i64 v] (O.enc {x with aQ:=v}):=rq
instance{x:ta}{v:Nat}:st (O.enc x) 2 #[.int .u64 (v:Int)] (O.enc {x with tK:=v}):=rq
instance{x:ta}{v:Nat}:st (O.enc x) 4 #[.int .u64 (v:Int)] (O.enc {x with tv:=v}):=rq
instance{x:ta}:st (O.enc x) 5 #[v.v] (O.enc {x with rp:=v}):=rq
structure Item where
 number:Nat
 r:aX
 place:UInt8
 AB:Bool
def Item.parts(x:Item):List (Array Value):=[#[.int .u64 (x.number:Int)],O.enc x.r,#[.int .u8 x.place.toNat],#[.bool x.AB]]
theorem ZQ(x:Item):x.parts.map Array.size=[1,48,1,1]:=by
 simp only[Item.parts,List.map,O.eT];rfl
instance:O Item where
 enc x:=eK x.parts
 eo:=51
 pos:=by omega
 eT x:=by rw[iw,ZQ];rfl
 one x:=rY (all_cons (o0 _ _) (all_cons (O.one _) (all_cons (o0 _ _) (all_cons (O.one (α:=Bool) _) rB))))
theorem Df(x:Item):O.enc x=eK x.parts:=rfl
theorem ZZ(x:Item):(O.enc x).extract 1 (1+48)=O.enc x.r:=pV [#[.int .u64 (x.number:Int)]] [#[.int .u8 x.place.toNat],#[.bool x.AB]] _ (by rw[iw];simp only[List.map,O.eT];rfl) (by rw[O.eT];rfl)
instance(x:Item):nt x [#[.int .u64 (x.number:Int)],O.enc x.r,#[.int .u8 x.place.toNat],#[.bool x.AB]]:=⟨rfl⟩
instance(priority:=2000){o3:aX}{n1:UInt8}{li:Bool}:nt (⟨oL,o3,n1,li⟩:Item) [#[.int .u64 (oL:Int)],O.enc o3,#[.int .u8 n1.toNat],#[.bool li]]:=⟨rfl⟩
instance{x:Item}{v:aX}:st (O.enc x) 1 (O.enc v) (O.enc {x with r:=v}):=rq
instance{x:Item}{v:UInt8}:st (O.enc x) 49 #[.int .u8 v.toNat] (O.enc {x with place:=v}):=rq
structure l0 where
 sc:eu
 nq:eu
 sp:Int
def l0.parts(x:l0):List (Array Value):=[#[x.sc.v],#[x.nq.v],#[.int .i64 x.sp]]
theorem Z0(x:l0):x.parts.map Array.size=[1,1,1]:=by
 simp only[l0.parts,List.map,O.eT];rfl
instance:O l0 where
 enc x:=eK x.parts
 eo:=3
 pos:=by omega
 eT x:=by rw[iw,Z0];rfl
 one x:=rY (all_cons (O.one (α:=eu) _) (all_cons (O.one (α:=eu) _) (all_cons (o0 _ _) rB)))
theorem Sd(x:l0):O.enc x=eK x.parts:=rfl
theorem Sc(x:l0):(O.enc x)[0]? =some (x.sc.v):=hp [] [#[x.nq.v],#[.int .i64 x.sp]] _ (by rw[iw];simp only[List.map,O.eT];rfl)
theorem Dp(x:l0):(O.enc x)[1]? =some (x.nq.v):=hp [#[x.sc.v]] [#[.int .i64 x.sp]] _ (by rw[iw];simp only[List.map,O.eT];rfl)
theorem Dg(x:l0):(O.enc x)[2]? =some (.int .i64 x.sp):=hp [#[x.sc.v],#[x.nq.v]] [] _ (by rw[iw];simp only[List.map,O.eT];rfl)
theorem GD(x:l0)(v:Int):iH (O.enc x) 2 #[.int .i64 v]=O.enc {x with sp:=v}:=by
 have h:=rG [#[x.sc.v],#[x.nq.v]] [] (#[.int .i64 x.sp]) (#[.int .i64 v]) (by first|(rw[O.eT,O.eT];done)|rfl);rw[show(eK [#[x.sc.v],#[x.nq.v]]).size=2 from(by rw[iw];simp only[List.map,O.eT];rfl)]at h;exact h
instance(x:l0):nt x [#[x.sc.v],#[x.nq.v],#[.int .i64 x.sp]]:=⟨rfl⟩
instance(priority:=2000){oL:eu}{n1:Int}:nt (⟨oL,o3,n1⟩:l0) [#[oL.v],#[o3.v],#[.int .i64 n1]]:=⟨rfl⟩
def uR:Item:=⟨0,⟨⟨none,0,0⟩,⟨⟨none,0,0⟩,⟨false,⟨0,0,0⟩,⟨none,0,0⟩,oc 32,⟨none,0,0⟩,⟨none,0,0⟩⟩⟩,⟨none,0,0⟩,⟨0,0,0⟩,0,0,0⟩,0,false⟩
theorem yI(v:Value)(i s:Nat):rd (oK v i s) 0=oK v i s:=by
 unfold oK;split<;>simp[rd,undef]
theorem zK:(eK [#[.int .u64 0],eK [#[.slice none 0 0],eK [#[.slice none 0 0],eK [#[.bool false],eK [#[.int .u8 0],#[.int .u8 0],#[.int .u8 0]],#[.slice none 0 0],(Array.replicate 32 (.int .u8 0)),#[.slice none 0 0],#[.slice none 0 0]]],#[.slice none 0 0],eK [#[.int .u64 0],#[.int .u64 0],#[.int .i64 0]],#[.int .u64 0],#[.int .u64 0],#[.int .u64 0]],#[.int .u8 0],#[.bool false]])=O.enc (uR:Item):=by
 simp only[Df,Item.parts,nn,uR,p4,aX.parts,dm,oF.parts,cy,oe.parts,cW,rr.parts,bS,sD.parts];rfl
instance:gK (eK [#[.int .u64 0],eK [#[.slice none 0 0],eK [#[.slice none 0 0],eK [#[.bool false],eK [#[.int .u8 0],#[.int .u8 0],#[.int .u8 0]],#[.slice none 0 0],(Array.replicate 32 (.int .u8 0)),#[.slice none 0 0],#[.slice none 0 0]]],#[.slice none 0 0],eK [#[.int .u64 0],#[.int .u64 0],#[.int .i64 0]],#[.int .u64 0],#[.int .u64 0],#[.int .u64 0]],#[.int .u8 0],#[.bool false]]) (O.enc (uR:Item)):=⟨zK⟩
def hL(v:Value):Nat:=match v with| .slice _ n _=>n|_=>0
theorem GC{α:Type}[O α]{w:World}{v:Value}{xs:List α}(h:ev w v xs):hL v=xs.length:=by obtain⟨a,c,rfl⟩:=h.eq;rfl
def dM(l:List Instr):Nat:=(l.map λi=>hL i.data.v).sum
theorem Z1{l:List Instr}{k:Nat}(a:k<l.length):dM (l.take (k+1))=dM (l.take k)+hL l[k].data.v:=by
 unfold dM;rw[List.take_succ_eq_append_getElem a,List.map_append,List.sum_append];simp
end
section
open Go.Lib Go.Sort
open Go.Proofs (sortWorldK sortWorldK_grown_c)
variable{P:Program}{w:World}{v:Value}{xs:List UInt8}
theorem Mn:∀a:List UInt8,compareBytes a a=0
 |[]=>by simp[compareBytes]
 |x::l=>by unfold compareBytes;rw[if_neg (by simp),if_neg (by simp)];exact Mn l
theorem Ms(x y:UInt8)(a b:List UInt8):compareBytes (x::a) (y::b)<0↔x<y∨x=y/\compareBytes a b<0:=by
 rw[compareBytes.eq_4];by_cases G:x<y
 .rw[if_pos G];exact⟨λ_=>.inl G,λ_=>by decide⟩
 rw[if_neg G];by_cases Y:y<x
 .rw[if_pos Y];refine⟨λh=>absurd h (by decide),λh=>?_⟩;rcases h with h|⟨h,_⟩
  .exact absurd h G
  subst h;exact absurd Y G
 rw[if_neg Y];have ez:x=y:=UInt8.le_antisymm (UInt8.not_lt.1 Y) (UInt8.not_lt.1 G);exact⟨λh=>.inr ⟨ez,h⟩,λh=>(h.resolve_left G).2⟩
theorem R0:∀a b c:List UInt8,compareBytes a b<0->compareBytes b c<0->compareBytes a c<0
 |a,b,[],_,Y=>by cases b<;>simp[compareBytes]at Y
 |a,[],_,G,_=>by cases a<;>simp[compareBytes]at G
 |[],_::_,z::c,_,_=>by simp[compareBytes]
 |x::a,y::b,z::c,G,Y=>by
  rw[Ms]at*;rcases G with G|⟨rfl,G⟩
  .rcases Y with Y|⟨rfl,_⟩
   .exact .inl (UInt8.lt_trans G Y)
   exact .inl G
  rcases Y with Y|⟨rfl,Y⟩
  .exact .inl Y
  exact .inr ⟨rfl,R0 a b c G Y⟩
theorem Mr:∀a b:List UInt8,compareBytes a b<0∨a=b∨compareBytes b a<0
 |[],[]=>.inr (.inl rfl)
 |[],_::_=>.inl (by simp[compareBytes])
 |_::_,[]=>.inr (.inr (by simp[compareBytes]))
 |x::a,y::b=>by
  rw[Ms,Ms];by_cases G:x<y
  .exact .inl (.inl G)
  by_cases Y:y<x
  .exact .inr (.inr (.inl Y))
  have ez:x=y:=UInt8.le_antisymm (UInt8.not_lt.1 Y) (UInt8.not_lt.1 G);subst ez;rcases Mr a b with h|h|h
  .exact .inl (.inr ⟨rfl,h⟩)
  .subst h;exact .inr (.inl rfl)
  exact .inr (.inr (.inr ⟨rfl,h⟩))
theorem eme{α:Type}(f:α->List UInt8):Go.Sort.SWO (Go.Proofs.ltOf λx y=>compareBytes (f x) (f y))where
 irrefl x:=by unfold Go.Proofs.ltOf;exact decide_eq_false (by show¬compareBytes (f x) (f x)<0;rw[Mn];decide)
 trans x y z G Y:=by
  unfold Go.Proofs.ltOf at*;rw[decide_eq_true_eq]at*;exact R0 _ _ _ G Y
 ntrans x y z G Y:=by
  unfold Go.Proofs.ltOf at*;rw[decide_eq_false_iff_not]at*;replace G:¬compareBytes (f x) (f y)<0:=G;replace Y:¬compareBytes (f y) (f z)<0:=Y;show¬compareBytes (f x) (f z)<0;intro h;rcases Mr (f x) (f y)with ez|ez|ez
  .exact G ez
  .rw[ez]at h;exact Y h
  rcases Mr (f y) (f z)with e6|e6|e6
  .exact Y e6
  .rw[<-e6]at h;exact G h
  have:=R0 _ _ _ e6 ez;exact absurd (R0 _ _ _ h this) (by rw[Mn];decide)
theorem Ka{P:Program}{w:World}:∀(ys:List UInt8)(a:Addr)(cj:ByteArray),(∀(j:Nat)(x:UInt8),ys[j]? =some x->w.cell? (a.add j)=some (.int .u8 (x.toNat:Int))) ->
 (Extern.Bytes.loadBytes a ys.length cj).run P w= .ok ⟨cj.data++ys.toArray⟩ w
 |[],a,cj,_=>by simp[Extern.Bytes.loadBytes]
 |y::ys,a,cj,h=>by
  have em:w.cell? a=some (.int .u8 (y.toNat:Int)):=by
   have:=h 0 y rfl;simpa[Addr.add]using this
  have c:=Ka (P:=P) ys (a.add 1) (cj.push y) (λj x b=>by
   have:=h (j+1) x (by simpa using b);have e:(a.add 1).add j=a.add (j+1):=by
    unfold Addr.add;by_cases b:j=0
    .subst b;simp
    simp[b];omega
   rw[e];exact this)
  simp only[List.length_cons,Extern.Bytes.loadBytes,Sem.run_bind,run_load,em,Result.andThen];have d:((y.toNat:Int).toNat.toUInt8)=y:=by simp
  rw[d,c];congr 1;apply ByteArray.ext;simp[ByteArray.push]
theorem Ko(h:ev w v xs):(Extern.Bytes.bytesOf v).run P w= .ok ⟨xs.toArray⟩ w:=by
 obtain⟨a,cap,rfl,G,Y,ez,e6⟩:=h;cases a with
 |none=>
  have ac:=ez rfl;have aW:xs=[]:=List.length_eq_zero_iff.1 (by omega);subst aW;rfl
 |some c=>
  by_cases g:0<cap
  .obtain⟨d,i⟩:=e6 c rfl g;have aW:=Ka (P:=P) (w:=w) xs c .empty (λj x k=>by
    have nf:=i j (.int .u8 (x.toNat:Int)) (by rw[I5,List.getElem?_map,k];rfl);have e:c.add j=⟨c.block,c.off+j,none⟩:=by
     obtain⟨b,o,s⟩:=c;have d:s=none:=d;subst d;unfold Addr.add;by_cases f:j=0
     .subst f;rfl
     simp[f]
    rw[e];exact nf)
   simp only[Extern.Bytes.bytesOf];rw[aW];congr 1;apply ByteArray.ext;show(#[]:Array UInt8)++xs.toArray=xs.toArray;simp
  have aW:xs=[]:=List.length_eq_zero_iff.1 (by omega);subst aW;rfl
theorem emt{u:Value}{ys:List UInt8}(h:ev w v xs)(k:ev w u ys):(Extern.BytealgCompare.compare #[v,u]).run P w= .ok (.int .i64 (compareBytes xs ys)) w:=by
 change Sem.run P (do pure (goInt (Extern.BytealgCompare.cmp (<-Extern.Bytes.bytesOf v) (<-Extern.Bytes.bytesOf u)))) w=_;simp only[Sem.run_bind,Ko h,Ko k,Result.andThen,Sem.run_pure];rw[cmp_eq];simp[goInt]
section
variable{α:Type}[O α][Inhabited α]
def ub(x:α):List Value:=(O.enc x).toList
theorem Kn(x:α):(ub x).length=O.eo α:=by unfold ub;rw[Array.length_toList,O.eT]
theorem Ks(x:α):(ub x).toArray=O.enc x:=by unfold ub;simp
theorem ema(x:α):∀v∈ub x,v.oneCell'=true:=O.one x
theorem Kr(d:Array α)(t:Nat)(h:t<d.size*O.eo α):(iE d.toList)[t]? =some (flatK ub (O.eo α) d)[t]! :=by
 have a:=O.pos (α:=α);have ey:t/O.eo α<d.size:=(Nat.div_lt_iff_lt_mul a).2 h;have b:t%O.eo α<O.eo α:=Nat.mod_lt _ a;have c:t%O.eo α<(O.enc d[t/O.eo α]).size:=by rw[O.eT];exact b
 have Y:=IS d.toList (t/O.eo α) d[t/O.eo α] (by rw[Array.getElem?_toList];exact Array.getElem?_eq_getElem ey) (t%O.eo α) _ (Array.getElem?_eq_getElem c);rw[show t/O.eo α*O.eo α+t%O.eo α=t from by rw[Nat.mul_comm];exact Nat.div_add_mod ..]at Y;rw[Y,get_flatK _ _ _ _ h,getElem!_pos d _ ey];have ez:t%O.eo α<(ub d[t/O.eo α]).length:=by rw[Kn];exact b
 rw[getElem!_pos (ub d[t/O.eo α]) _ ez];simp[ub]
theorem emo{w:World}{g cap:Nat}{e:TypeId}{i9:Array Value}{xs:List α}(b:w.heap[g]? =some (.cells i9 e (0,0)))(e6:i9.toList.take (xs.length*O.eo α)=iE xs):HoldsK ub (O.eo α) w g 0 xs.toArray:=by
 intro j a;rw[size_flatK]at a;have ac:=Kr xs.toArray j a;rw[<-e6,List.getElem?_take,if_pos (by simpa using a)]at ac;refine⟨?_,?_⟩
 .rw[TC b,Nat.zero_add,<-Array.getElem?_toList];exact ac
 simp[World.frozen?,b]
theorem emi{w:World}{g n:Nat}{e:TypeId}{i9:Array Value}(a:w.heap[g]? =some (.cells i9 e (0,0)))(d:Array α)(os:Array Obj):
 (sortWorldK ub (O.eo α) w g 0 n d os).heap[g]? =some (.cells (putCells id 0 (flatK ub (O.eo α) d) i9) e (0,0)):=by
 have b:=(Array.getElem?_eq_some_iff.1 a).1;have c:g<(putRowK ub (O.eo α) (Sort.ahead w n) g 0 d).heap.size:=by rw[size_putRowK];exact b
 unfold sortWorldK;rw[heap_grow_old _ _ c];simp[putRowK,putRow,mapBlock,Sort.ahead,Array.getElem?_modify,a,onCells]
theorem emn{w:World}{g n:Nat}(d:Array α)(os:Array Obj)(k:Nat)(a:k<w.heap.size)(b:k≠g):(sortWorldK ub (O.eo α) w g 0 n d os).heap[k]? =w.heap[k]? :=by
 have c:k<(putRowK ub (O.eo α) (Sort.ahead w n) g 0 d).heap.size:=by rw[size_putRowK];exact a
 unfold sortWorldK;rw[heap_grow_old _ _ c];simp[putRowK,putRow,mapBlock,Sort.ahead,Array.getElem?_modify,Ne.symm b]
theorem ems{w:World}{g cap n:Nat}{e:TypeId}{i9:Array Value}{xs:List α}(b:w.heap[g]? =some (.cells i9 e (0,0)))(G:xs.length<=cap)(Y:cap<=maxLen)(ez:cap*O.eo α<=i9.size)(d:Array α)(hd:d.size=xs.length)(os:Array Obj):
 dt (sortWorldK ub (O.eo α) w g 0 n d os) (.slice (some ⟨g,0,none⟩) xs.length cap) e d.toList:=by
 have eM:d.toList.length=xs.length:=by simpa using hd
 refine .inr ⟨g,cap,_,by rw[eM],emi b d os,by rw[eM];exact G,Y,by simpa[putCells]using ez,?_⟩;apply List.ext_getElem?;intro t;rw[List.getElem?_take,eM];by_cases a:t<xs.length*O.eo α
 .rw[if_pos a];have ac:=Kr d t (by rw[hd];exact a);have c:t<i9.size:=Nat.lt_of_lt_of_le a (Nat.le_trans (Nat.mul_le_mul_right _ G) ez);rw[ac,Array.getElem?_toList];simp[putCells,c,hd,a]
 rw[if_neg a,eq_comm,List.getElem?_eq_none_iff,uj,eM];omega
theorem U.emr{w0 w w':World}{S:List eL}{s:eu}{e:TypeId}{xs:List α}(h:U w0 (B s.v e xs::S) w){g cap n:Nat}(b:s.v= .slice (some ⟨g,0,none⟩) xs.length cap){d:Array α}{os:Array Obj}(hd:d.size=xs.length)
 (j:w'=sortWorldK ub (O.eo α) w g 0 n d os):U w0 (B s.v e d.toList::S) w':=by
 subst j;rcases h.ue .nU with⟨f,_⟩|⟨p,q,i9,tC,i,G,Y,ez,e6⟩
 .rw[b]at f;cases f
 rw[b]at tC;injection tC with a r l;injection a with a;injection a with a;subst a;subst l;have t:=(Array.getElem?_eq_some_iff.1 i).1;refine lk (w:=w) (w':=sortWorldK ub (O.eo α) w g 0 n d os) (e:=B s.v e xs) (oZ:=B s.v e d.toList) ⟨rfl,rfl,rfl,?_,λk c m=>?_⟩ ?_ ?_ h .nU
 .unfold sortWorldK;rw[size_grow,size_putRowK];exact Nat.le_add_right _ _
 .refine emn d os k c λo=>m ?_;subst o;rw[db,b];rfl
 .rw[dv,b];exact ems i G Y ez d hd os
 intro k c;rw[db]at c⊢;exact .inl c
def uX(w w':World):Prop:=∃q os,w'=grow (w.drewN q) os
theorem uX.refl(w:World):uX w w:=⟨0,#[],by rw[grow_empty];rfl⟩
theorem uX.alloc{w w':World}(h:uX w w')(o:Obj):uX w (w'.alloc o):=by
 obtain⟨q,os,rfl⟩:=h;exact⟨q,_,by rw[alloc_eq_grow,grow_grow]⟩
theorem uX.drawn{w w':World}(h:uX w w'):uX w {w' with drawn:=w'.drawn+1}:=by
 obtain⟨q,os,rfl⟩:=h;exact⟨q+1,os,rfl⟩
theorem uX.trans{a b c:World}(h:uX a b)(k:uX b c):uX a c:=by
 obtain⟨q,os,rfl⟩:=h;obtain⟨o4,d,rfl⟩:=k;refine⟨q+o4,os++d,?_⟩;simp[grow,World.drewN,Nat.add_assoc,Array.append_assoc]
theorem uX.ei{w w':World}(h:uX w w'):eB w w':=by
 obtain⟨q,os,rfl⟩:=h;refine⟨rfl,rfl,rfl,?_,λk a=>heap_grow_old _ _ a⟩;rw[size_grow];exact Nat.le_add_right _ _
end
end
section
section
variable{P:Program}{n:Nat}{D:List Deferred}{Q:Exit->Act->World->Prop}{f:tr}{w:World}
theorem eml{g:Operand}{p q rR:Nat}{cM cb:Code}{rn:Nat}[r:dy P rn]{oS:List Value}{en:World}{ht:List eL}
 (c:eC f g= .func (.func rn) #[] oS.toArray) (e:Nat.blt p n=true) (i:Nat.blt q n=true) (E:U en ht w)
 (j:∀(x:Value)(X:List eL)(W:World),U en (X++ht) W->nk P rn (x::oS).toArray W λ_ k=>eB W k)
 (m:∀(d:Nat)(W:World),U en (lp d (.deferred (some []))::ht) W->∀a,sK n ({target:=.collected d,args:=#[]}::D) a f->Q .normal a W):
 lq P n (.block rR (.rangeFunc g #[p,q] cM cb)) D Q f w:=by
 refine J6 (oh:=Unit) (σ:=Unit) (ρ:=Unit) (λ_=>False) (λ_=>[]) (λ_=>.nilIface) (λ_=>.nilIface) (λ_ _=>False) (λ_=>ht) (λ_ _=>False) (λ_=>[]) (λ_=>True) (λ_=>False) c e i E ?_ ?_ ?_ ?_
 .intro l X s W b _;exact(j _ X W b).mono λ_ _ o=>.inl ⟨(),trivial,b.ei o⟩
 .intro l X t W h;exact h.elim
 .intro d W _ _ b;exact m d W b
 intro d W _ h;exact h.elim
end
def Kh(Q:Exit->List Nat->tr->World->Prop):Exit->List Nat->tr->World->Prop
 | .goto _,_,_,_=>False
 |e,L,f,w=>Q e L f w
section
variable{P:Program}{n:Nat}{Q:Exit->List Nat->tr->World->Prop}{L:List Nat}{f:tr}{w:World}
theorem Kl{g:Operand}{p q rR:Nat}{cM cb:Code}{rn:Nat}[o:dy P rn]{oS:List Value}{en:World}{ht:List eL}
 (c:eC f g= .func (.func rn) #[] oS.toArray) (i:Nat.blt p n=true) (j:Nat.blt q n=true) (E:U en (hU L::ht) w)
 (k:∀(x:Value)(S:List eL)(W:World),U en (ht++S) W->nk P rn (x::oS).toArray W λ_ l=>eB W l)
 (m:∀(d:Nat)(W:World),U en (hU (d::L)::ht) W->Q .normal (d::L) f W):
 oz P n (.block rR (.rangeFunc g #[p,q] cM cb)) Q L f w:=by
 unfold oz;intro a ep;have h:=eml (n:=n) (D:=ma L) (Q:=λe tm w'=>∃an L',sK n (ma L') tm an/\Q e L' an w') (f:=f) (w:=w) (g:=g) (p:=p) (q:=q) (rR:=rR) (cM:=cM) (cb:=cb) c i j E
  (λx X W b=>k x (X++[hU L]) W (b.hK (by rw[<-List.append_assoc];exact(List.perm_middle (l₁:=X)).trans ((List.perm_append_comm (l₁:=hU L::X) (l₂:=ht)).trans (by
   refine(List.Perm.append_left ht ?_).trans (by rw[List.append_assoc]);exact List.perm_append_comm (l₁:=[hU L]) (l₂:=X))))))
  (λd W b a ep=>⟨f,d::L,ep,m d W b.LV⟩)
 exact wpIn_wide.1 (h.run ep)
theorem oz.scope{c:Code}(h:oz P n c (Kh Q) L f w):oz P n (.scope c) Q L f w:=by
 unfold oz at*;intro a ep;refine wp_scope_straight (wp_mono (h a ep) λe tm w'⟨an,L',d,b⟩=>?_);cases e with
 |goto l=>exact b.elim
 |_=>exact⟨an,L',d,b⟩
theorem oz.label{l:Nat}(h:Q .normal L f w):oz P n (.label l) Q L f w:=by unfold oz;exactλa ep=>wp_label ⟨f,L,ep,h⟩
theorem emd(h:Q .ret L f w):Kh Q .ret L f w:=h
end
end
end Go.Fer
