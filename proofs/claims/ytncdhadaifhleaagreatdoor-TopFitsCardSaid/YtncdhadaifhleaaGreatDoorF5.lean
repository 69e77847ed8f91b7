import Derived.Test.YtncdhadaifhleaaGreatDoorF4
set_option linter.all false
set_option synthInstance.maxSize 100000
set_option synthInstance.maxHeartbeats 400000
set_option maxHeartbeats 8000000
set_option maxRecDepth 100000
namespace Go.Fer
open Go Go.RowKit
section
open Go.Proofs Tryz
variable{b xs:List UInt8}{c:UInt8}{k n:Nat}{v:Value}{w0:World}
theorem Z2(b:ev w0 v xs)(eM:xs.length<=1000000):eJ 33 #[v] w0 (λu w'=>sN w0 w' u 5 xs/\eB w0 w'):=by
 obtain⟨a,c,rfl⟩:=b.eq;refine eH 9 (eG _) func33 ntmps33 results33 rfl λw E=>?_;refine ea (fS rfl rfl (ew 2 E<|om 8 4 (λd w E=>?_) (λd w E=>?_)))
 .
   cases a with
   |none=>
    obtain⟨rfl,_,_⟩:=b.wb;exact⟨sN.nil _ _ _,E.J⟩
   |some a=>cases d
 .
   refine ho 1 E (sL ([]:List UInt8)) λe w E=>?_;refine ea (dS (α:=UInt8) rfl E rfl es ((b.ei E.J)) (by(try simp only[List.length_append,List.length_cons,List.length_nil,List.length_map]);omega) (by simp only[maxLen];(try simp only[List.length_append,List.length_cons,List.length_nil,List.length_map]);omega) ?_);intro f w E;replace E:=E _ es;refine ew 5 E λw E=>?_;have G:=E.ut es;simp only[List.nil_append]at G;exact⟨G,E.J⟩
theorem Z3(a:ev w0 v xs):tN 32 #[v] w0 (nT v 0 xs.length xs.length (O.eo (UInt8))):=by
 have:=aS a;refine eH 12 (eG _) func32 ntmps32 results32 rfl λw E=>?_;exact ea (hq (a.ei E.J) ⟨⟨_,rfl⟩,a.cap⟩ ⟨⟨_,rfl⟩,Nat.le_refl _⟩ ⟨rfl,Nat.zero_le _⟩ (ew 5 E λw E=>(⟨rfl,E.J⟩)))
def gs:List UInt8->Nat->Nat->Int×Int×Int
 |[],_,_=>(0,0,5)
 |c::r,k,n=>if(decide ((k:Int)>0)&&decide ((c.toNat:Int)=0)||decide ((k:Int)=2)&&decide (3<(c.toNat:Int)))=true then(0,0,4)
  else if(c.toNat:Int)<128 then(((n+c.toNat%128*2^(7*k):Nat):Int),((k+1:Nat):Int),0)else gs r (k+1) (n+c.toNat%128*2^(7*k))
theorem Dw(a:k<b.length)(n:Nat):gs (b.drop k) k n=gs (b[k]::b.drop (k+1)) k n:=by rw[List.drop_eq_getElem_cons a]
theorem Z4(a:b.length<=k):gs (b.drop k) k n=(0,0,5):=by rw[List.drop_of_length_le a];rfl
theorem Z5(a:k<=2):IntKind.i64.wrap (((c.toNat%128:Nat):Int)*2^(min (Int.toNat (7*(k:Int))) IntKind.i64.bits))=((c.toNat%128*2^(7*k):Nat):Int):=by
 have e:(7*(k:Int))=((7*k:Nat):Int):=by omega
 rw[e];have b:c.toNat%128*2^(7*k)<=127*2^14:=Nat.mul_le_mul (by omega) (Nat.pow_le_pow_right (by omega) (by omega));exact Jd (by omega) (by simp) (by omega)
theorem Z6(b:k<=2)(a:n<2^(7*k)):hH .or .i64 (n:Int) ((c.toNat%128*2^(7*k):Nat):Int)=((n+c.toNat%128*2^(7*k):Nat):Int):=by
 have d:c.toNat%128*2^(7*k)<=127*2^14:=Nat.mul_le_mul (by omega) (Nat.pow_le_pow_right (by omega) (by omega));have e:2^(7*k)<=2^14:=Nat.pow_le_pow_right (by omega) (by omega);rw[Jh _ _ (by omega) (by omega),H5 _ _ _ a]
theorem GU(a:n<2^(7*k)):n+c.toNat%128*2^(7*k)<2^(7*(k+1)):=by
 have e:2^(7*(k+1))=128*2^(7*k):=by rw[Nat.mul_add,Nat.pow_add,Nat.mul_comm]
 have:c.toNat%128*2^(7*k)<=127*2^(7*k):=Nat.mul_le_mul_right _ (by omega);omega
theorem GM(h:ev w0 v b):tN 226 #[v] w0 (.tuple #[i6 (gs b 0 0).1,i6 (gs b 0 0).2.1,i6 (gs b 0 0).2.2]):=by
 have:=aS h;refine eH 16 (eG _) func226 ntmps226 results226 rfl λw E=>?_;refine ex.loop (λm f w=>∃k n:Nat,oW [(2,i6 n),(7,v),(8,i6 b.length),(9,i6 k)] f/\U w0 [] w/\gs (b.drop k) k n=gs b 0 0/\n<2^(7*k)/\k<=2/\m=b.length-k) (b.length) ?_ ?_
 .
   exact⟨0,0,⟨rfl,rfl,rfl,rfl,trivial⟩,E,rfl,by decide,by omega,rfl⟩
 .
   rintro m f w ⟨k,n,i,E,c,j,l,th⟩;refine io _ i (λg=>?_);clear i;refine eI 6 E<|om 0 14 (λp w E=>?_) (λp w E=>?_)
   .
     have d:k<b.length:=by omega
     have z:=wj b[k];have q:=h.le;simp only[maxLen]at q;refine eI 8 E ⟨⟨by omega⟩,λ_ w E=>?_⟩;refine ag 10 E (hT λw E=>((h.ei E.J).tU (List.getElem?_eq_getElem d)).ax rfl) λw E=>?_;refine tn.eV _ 16 _ rfl rfl rfl rfl (λA=>oD rfl ⟨rfl,eB.refl _⟩) (λw a=>?_);replace E:=E.ei a;refine tn.eV _ 16 _ rfl rfl rfl rfl (λr=>Z.eql (by first|exact a7 rfl r|rfl) rfl ⟨rfl,eB.refl _⟩) (λw a=>?_);replace E:=E.ei a;refine ea (fN rfl (by first|rfl) rfl (ew 1 E λw E=>(tn.eV _ 20 _ rfl rfl rfl rfl (λB=>oD rfl ⟨rfl,eB.refl _⟩) (λw a=>?_))));replace E:=E.ei a;refine tn.eV _ 20 _ rfl rfl rfl rfl (λs=>Z.eql (by first|exact a7 rfl s|rfl) rfl ⟨rfl,eB.refl _⟩) (λw a=>?_);replace E:=E.ei a;refine tn.eV _ 20 _ rfl rfl rfl rfl (λt=>di (by first|exact a7 rfl t|rfl) ⟨rfl,eB.refl _⟩) (λw a=>?_);replace E:=E.ei a;refine IF _ _ 23 _ rfl rfl rfl rfl (λC=>oD rfl ⟨rfl,eB.refl _⟩) (λw a=>?_);replace E:=E.ei a;refine IF _ _ 23 _ rfl rfl rfl rfl (λu=>Z.gtr (by first|exact a7 rfl u|rfl) rfl ⟨rfl,eB.refl _⟩) (λw a=>?_);replace E:=E.ei a;refine tn.eV _ 20 _ rfl rfl rfl rfl (λo=>fN (by first|exact a7 rfl o|rfl) (by first|exact Fh rfl o|rfl) rfl ⟨rfl,eB.refl _⟩) (λw a=>?_);replace E:=E.ei a;refine ea (m8 rfl rfl (by first|rfl) (ew 2 E<|na 15 6 (λe x w E=>?_) (λe x w E=>?_)))
     .
       refine⟨?_,E.J⟩;rw[<-c,Dw d,gs,if_pos (by simpa using e)]
     .
       refine ag 3 E (Zy (Jl _)) ⟨iA,⟨iA,λw E=>?_⟩⟩;refine ag 0 E (Se (by omega) (Z5 l)) λw E=>?_;refine ag 6 E (N9 (Z6 l j)) λw E=>?_;refine ea (Z.lss rfl rfl (ew 2 E<|om 17 8 (λy=>⟨iA,λw E=>?_⟩) (λy=>⟨iA,λw E=>?_⟩)))
       .
         refine⟨?_,E.J⟩;rw[<-c,Dw d,gs,if_neg (by simpa using e),if_pos (by omega)];rfl
       .
         refine⟨b.length-(k+1),by omega,k+1,n+b[k].toNat%128*2^(7*k),⟨rfl,rfl,rfl,congrArg (Value.int .i64) (by omega),trivial⟩,E,?_,GU j,?_,rfl⟩
         .rw[<-c,Dw d,gs,if_neg (by simpa using e),if_neg (by omega)]
         omega
   .
     refine⟨?_,E.J⟩;rw[<-c,Z4 (by omega)]
end
section
open Go.Proofs
variable{c:List (Vector UInt8 32×List UInt8×List UInt8)}{au:List Instr}{k:Nat}{l sn:List iW}{m:oe}{w w':World}{x:iW}
structure yN where
 v0:Bool
 h:rr
 tu:List (Vector UInt8 32)
 it:Vector UInt8 32
 au:List (UInt8×List UInt8×List UInt8)
 sn:List (Vector UInt8 32×List UInt8×List UInt8)
deriving DecidableEq
def Su(w:World)(x:Instr)(c:UInt8×List UInt8×List UInt8):Prop:=x.program=c.1/\ev w x.cG.v c.2.1/\ev w x.data.v c.2.2
def Sm(w:World)(x:iW)(c:Vector UInt8 32×List UInt8×List UInt8):Prop:=x.table=c.1/\ev w x.iO.v c.2.1/\ev w x.p3.v c.2.2
theorem Su.ei{x:Instr}{c:UInt8×List UInt8×List UInt8}(h:Su w x c)(a:eB w w'):Su w' x c:=⟨h.1,h.2.1.ei a,h.2.2.ei a⟩
theorem Sm.ei{c:Vector UInt8 32×List UInt8×List UInt8}(h:Sm w x c)(a:eB w w'):Sm w' x c:=⟨h.1,h.2.1.ei a,h.2.2.ei a⟩
def jQ(w:World)(l:List Instr)(c:List (UInt8×List UInt8×List UInt8)):Prop:=l.length=c.length/\∀i(G:i<l.length)(Y:i<c.length),Su w l[i] c[i]
def bH(w:World)(l:List iW)(c:List (Vector UInt8 32×List UInt8×List UInt8)):Prop:=l.length=c.length/\∀i(G:i<l.length)(Y:i<c.length),Sm w l[i] c[i]
theorem jQ.ei{l:List Instr}{c:List (UInt8×List UInt8×List UInt8)}(h:jQ w l c)(a:eB w w'):jQ w' l c:=⟨h.1,λi G Y=>(h.2 i G Y).ei a⟩
theorem bH.ei(h:bH w l c)(a:eB w w'):bH w' l c:=⟨h.1,λi G Y=>(h.2 i G Y).ei a⟩
structure GF(w:World)(m:oe)(c:yN)(au:List Instr)(sn:List iW):Prop where
 v0:m.v0=c.v0
 h:m.ii=c.h
 it:m.it=c.it
 k:ev w m.tu.v c.tu
 i:ev w m.instrs.v au
 wF:jQ w au c.au
 l:ev w m.r1.v sn
 Dy:bH w sn c.sn
def hI{α:Type}(l:List (α×List UInt8×List UInt8)):Nat:=(l.map λc=>c.2.1.length+c.2.2.length).sum
theorem Z7{α:Type}{l:List (α×List UInt8×List UInt8)}(a:k<l.length):hI (l.take (k+1))=hI (l.take k)+(l[k].2.1.length+l[k].2.2.length):=by
 unfold hI;rw[List.take_succ_eq_append_getElem a,List.map_append,List.sum_append];simp
theorem Z8{α:Type}{l:List (α×List UInt8×List UInt8)}{k:Nat}(a:k<l.length):l[k].2.1.length+l[k].2.2.length<=hI l:=by
 induction l generalizing k with
 |nil=>cases a
 |cons x l b=>
  cases k with
  |zero=>simp[hI]
  |succ k=>have:=b (k:=k) (by simpa using a);simp only[hI,List.map_cons,List.sum_cons,List.getElem_cons_succ]at this⊢;omega
open Tryz
variable{S tg:List eL}{a tm n:Nat}{b:Bool}{bs oL:eu}{c:Vector UInt8 32×List UInt8×List UInt8}{cs:List (Vector UInt8 32×List UInt8×List UInt8)}{e v o3:Int}{i:iW}{is:List iW}{l:List ((eu×List UInt8)×(eu×List UInt8))}{p:(eu×List UInt8)×(eu×List UInt8)}{w0 en:World}{xs:List UInt8}
structure ms where
 b:eu
 aQ:Int
variable{x:ms}
def ms.parts(x:ms):List (Array Value):=[#[x.b.v],#[.int .i64 x.aQ]]
theorem Z9(x:ms):x.parts.map Array.size=[1,1]:=by
 simp only[ms.parts,List.map,O.eT];rfl
instance:O ms where
 enc x:=eK x.parts
 eo:=2
 pos:=by omega
 eT x:=by rw[iw,Z9];rfl
 one x:=rY (all_cons (O.one (α:=eu) _) (all_cons (o0 _ _) rB))
theorem Sf(x:ms):(O.enc x)[1]? =some (.int .i64 x.aQ):=hp [#[x.b.v]] [] _ sH
theorem GP(x:ms)(v:Int):iH (O.enc x) 1 #[.int .i64 v]=O.enc {x with aQ:=v}:=by
 have h:=rG [#[x.b.v]] [] (#[.int .i64 x.aQ]) (#[.int .i64 v]) (by first|(rw[O.eT,O.eT];done)|rfl);rw[show(eK [#[x.b.v]]).size=1 from sH]at h;exact h
instance(priority:=2000):nt (⟨oL,o3⟩:ms) [#[oL.v],#[.int .i64 o3]]:=⟨rfl⟩
structure Stop where
 e:Int
 deriving DecidableEq
def Stop.parts(x:Stop):List (Array Value):=[#[.int .i64 x.e]]
theorem eee(x:Stop):x.parts.map Array.size=[1]:=by
 simp only[Stop.parts,List.map,O.eT];rfl
instance:O Stop where
 enc x:=eK x.parts
 eo:=1
 pos:=by omega
 eT x:=by rw[iw,eee];rfl
 one x:=rY (all_cons (o0 _ _) rB)
theorem Sp(x:Stop):(O.enc x)[0]? =some (.int .i64 x.e):=hp [] [] _ sH
instance(priority:=2000){oL:Int}:nt (⟨oL⟩:Stop) [#[.int .i64 oL]]:=⟨rfl⟩
abbrev sA:=Except Int Nat
variable{s:sA}
def cY(xs:List UInt8)(n:Nat):sA->List UInt8×sA
 | .error e=>([],.error e)
 | .ok aQ=>if n<=xs.length-aQ then((xs.drop aQ).take n,.ok (aQ+n))else([],.error 5)
def sP(xs:List UInt8)(s:sA):UInt8×sA:=((cY xs 1 s).1.headD 0,(cY xs 1 s).2)
def nR(xs:List UInt8):sA->Nat×sA
 | .error e=>(0,.error e)
 | .ok aQ=>((gs (xs.drop aQ) 0 0).1.toNat,if(gs (xs.drop aQ) 0 0).2.2=0 then .ok (aQ+(gs (xs.drop aQ) 0 0).2.1.toNat)else .error (gs (xs.drop aQ) 0 0).2.2)
def hy(xs:List UInt8)(s:sA):Vector UInt8 32×sA:=(mL 32 (cY xs 32 s).1,(cY xs 32 s).2)
def mr(xs:List UInt8)(s:sA):List UInt8×sA:=cY xs (nR xs s).1 (nR xs s).2
def rg(xs:List UInt8)(s:sA):(UInt8×List UInt8×List UInt8)×sA:=
 let a:=sP xs s;let b:=mr xs a.2;let c:=mr xs b.2;((a.1,b.1,c.1),c.2)
def rC(xs:List UInt8)(s:sA):(Vector UInt8 32×List UInt8×List UInt8)×sA:=
 let a:=hy xs s;let b:=mr xs a.2;let c:=mr xs b.2;((a.1,b.1,c.1),c.2)
def lT{α:Type}(one:sA->α×sA):Nat->sA->List α×sA
 |0,s=>([],s)
 |_+1,.error e=>([],.error e)
 |n+1,.ok a=>((one (.ok a)).1::(lT one n (one (.ok a)).2).1,(lT one n (one (.ok a)).2).2)
def sC{α:Type}(xs:List UInt8)(one:sA->α×sA)(s:sA):List α×sA:=lT one (nR xs s).1 (nR xs s).2
theorem AK:∀(b:List UInt8)(k n:Nat),n<2^(7*k) ->k<=2->0<=(gs b k n).1/\(gs b k n).1<65536/\0<=(gs b k n).2.1/\((gs b k n).2.2=0->(gs b k n).2.1<=(k+b.length:Nat))
 |[],_,_,_,_=>by simp[gs]
 |c::r,k,n,d,f=>by
  have e:=GU (c:=c) d;unfold gs;split
  .simp
  rename_i em;simp only[Bool.or_eq_true,Bool.and_eq_true,decide_eq_true_eq,not_or,not_and]at em;split
  .rename_i G;simp only[List.length_cons];refine⟨by omega,?_,by omega,λ_=>by omega⟩;have ez:n+c.toNat%128*2^(7*k)<65536:=by
    rcases(show k=0∨k=1∨k=2 by omega)with rfl|rfl|rfl<;>simp at e d em⊢<;>omega
   omega
  rename_i G;by_cases Y:k=2
  .exfalso;subst Y;omega
  have a:=AK r (k+1) _ e (by omega);simp only[List.length_cons];refine⟨a.1,a.2.1,a.2.2.1,λh=>?_⟩;have:=a.2.2.2 h;omega
theorem Db(xs:List UInt8)(n a:Nat):cY xs n (.ok a)=if n<=xs.length-a then((xs.drop a).take n,.ok (a+n))else([],.error 5):=rfl
theorem Dv(ep:a<=xs.length)(h:(cY xs n (.ok a)).2= .ok tm):tm<=xs.length/\tm=a+n/\n<=xs.length-a/\(cY xs n (.ok a)).1=(xs.drop a).take n/\(cY xs n (.ok a)).1.length=n:=by
 rw[Db]at h⊢;by_cases b:n<=xs.length-a
 .rw[if_pos b]at h⊢;cases h;refine⟨by omega,rfl,b,rfl,?_⟩;rw[List.length_take,List.length_drop];omega
 rw[if_neg b]at h;cases h
theorem U.bL{α:Type}[O α]{v:Value}{T:TypeId}{xs:List α}(E:U w0 S w)(b:iD (B v T xs) (B (nT v 0 xs.length xs.length (O.eo α)) T xs) S tg):U w0 tg w:=by
 have em:sN w0 w v T xs:=E.ut b.kR;have G:=sN.cut (w:=w0) (w':=w) (v:=v) (e:=T) (xs:=xs) em;refine lk ⟨rfl,rfl,rfl,Nat.le_refl _,λ_ _ _=>rfl⟩ (by rw[dv];exact G.1) ?_ E b;rw[db,db];intro k a;refine .inl ?_;rcases em.1 with⟨rfl,rfl⟩|⟨g,cap,i9,rfl,_⟩
 .simp[nT,Value.ownBlock]at a
 by_cases eM:xs.length=0<;>simp[nT,Value.ownBlock,eM]at a⊢<;>exact a
theorem eet(xs:List UInt8)(n:Nat)(e:Int):cY xs n (.error e)=([],.error e):=rfl
theorem jZ(xs:List UInt8)(e:Int):sP xs (.error e)=(0,.error e):=rfl
theorem Sg(xs:List UInt8)(e:Int):mr xs (.error e)=([],.error e):=rfl
theorem zX(xs:List UInt8)(e:Int):(hy xs (.error e)).2= .error e:=rfl
theorem zJ{α:Type}(one:sA->α×sA)(n:Nat)(e:Int):lT one n (.error e)=([],.error e):=by cases n<;>rfl
theorem zQ{α:Type}(one:sA->α×sA)(n a:Nat):lT one (n+1) (.ok a)=((one (.ok a)).1::(lT one n (one (.ok a)).2).1,(lT one n (one (.ok a)).2).2):=rfl
theorem zZ{α:Type}(xs:List UInt8)(one:sA->α×sA)(e:Int):sC xs one (.error e)=([],.error e):=rfl
theorem Dk(xs:List UInt8)(a:Nat):(nR xs (.ok a)).2=if(gs (xs.drop a) 0 0).2.2=0 then .ok (a+(gs (xs.drop a) 0 0).2.1.toNat)else .error (gs (xs.drop a) 0 0).2.2:=rfl
theorem Sw:(nR xs s).1<65536:=by
 cases s with
 |error e=>show(0:Nat)<65536;omega
 |ok a=>have:=AK (xs.drop a) 0 0 (by omega) (by omega);show(gs (xs.drop a) 0 0).1.toNat<65536;omega
theorem GG(ep:a<=xs.length)(h:(nR xs (.ok a)).2= .ok tm):tm<=xs.length:=by
 rw[Dk]at h;split at h
 .rename_i em;have:=(AK (xs.drop a) 0 0 (by omega) (by omega)).2.2.2 em;rw[List.length_drop]at this;cases h;omega
 cases h
def fK(xs:List UInt8)(s:sA):(UInt8×Bool)×sA:=
 let f:=sP xs s
 let a2:sA:=match f.2 with| .ok a=>if 128<f.1.toNat then .error 4 else .ok a| .error e=>.error e
 if f.1.toNat=128 then(((sP xs a2).1,true),(sP xs a2).2)else((f.1,false),a2)
def h4(xs:List UInt8)(s:sA):yN×sA:=
 let g:=fK xs s;let G:=sP xs g.2;let Y:=sP xs G.2
 let k:=sC xs (hy xs) Y.2;let e2:=hy xs k.2;let i:=sC xs (rg xs) e2.2
 let l:=if g.1.2=true then sC xs (rC xs) i.2 else([],i.2)
 (⟨g.1.2,⟨g.1.1,G.1,Y.1⟩,k.1,e2.1,i.1,l.1⟩,l.2)
def Sy:yN:=⟨false,⟨0,0,0⟩,[],oc 32,[],[]⟩
def uu(xs:List UInt8):yN×Nat×Int:=match(h4 xs (.ok 0)).2 with| .ok a=>((h4 xs (.ok 0)).1,a,0)| .error e=>(Sy,0,e)
def j0(l:List ((eu×List UInt8)×(eu×List UInt8))):List eL:=l.flatMap λp=>[B p.1.1.v 5 p.1.2,B p.2.1.v 5 p.2.2]
@[irreducible] def hQ (l:List ((eu×List UInt8)×(eu×List UInt8))):eL:=hD (j0 l)
theorem Sb(l:List ((eu×List UInt8)×(eu×List UInt8))):hQ l=hD (j0 l):=by unfold hQ;rfl
theorem eea(l:List ((eu×List UInt8)×(eu×List UInt8)))(p:(eu×List UInt8)×(eu×List UInt8)):j0 (l++[p])=j0 l++[B p.1.1.v 5 p.1.2,B p.2.1.v 5 p.2.2]:=by simp[j0]
theorem U.vW(h:U w0 S w):U w0 (hQ []::S) w:=by
 rw[Sb];exact U.closed (l:=j0 []) h
theorem Dx(h:U w0 (B p.1.1.v 5 p.1.2::B p.2.1.v 5 p.2.2::hQ l::S) w):U w0 (hQ (l++[p])::S) w:=by
 rw[Sb,eea];have G:U w0 (hQ l::(B p.1.1.v 5 p.1.2::B p.2.1.v 5 p.2.2::S)) w:=h.hK (((List.Perm.swap (hQ l) (B p.2.1.v 5 p.2.2) S).cons _).trans (List.Perm.swap (hQ l) (B p.1.1.v 5 p.1.2) _));rw[Sb]at G;refine U.closed (l:=j0 l++[B p.1.1.v 5 p.1.2,B p.2.1.v 5 p.2.2]) ?_;rw[List.append_assoc];exact G.dr
def dQ(is:List Instr)(cs:List (UInt8×List UInt8×List UInt8)):List ((eu×List UInt8)×(eu×List UInt8)):=List.zipWith (λi c=>((i.cG,c.2.1),(i.data,c.2.2))) is cs
def fX(t8:List iW)(cs:List (Vector UInt8 32×List UInt8×List UInt8)):List ((eu×List UInt8)×(eu×List UInt8)):=List.zipWith (λi c=>((i.iO,c.2.1),(i.p3,c.2.2))) t8 cs
theorem GW{is:List Instr}{cs:List (UInt8×List UInt8×List UInt8)}(h:is.length=cs.length){i:Instr}{c:UInt8×List UInt8×List UInt8}:dQ (is++[i]) (cs++[c])=dQ is cs++[((i.cG,c.2.1),(i.data,c.2.2))]:=by
 unfold dQ;rw[List.zipWith_append (by exact h)];rfl
theorem eeo(h:is.length=cs.length):fX (is++[i]) (cs++[c])=fX is cs++[((i.iO,c.2.1),(i.p3,c.2.2))]:=by
 unfold fX;rw[List.zipWith_append (by exact h)];rfl
abbrev sX(p:Nat)(bs:eu)(aQ:Nat):eL:=V p (O.enc (⟨bs,(aQ:Int)⟩:ms)) 524
def mD(e:Int):Value:=.iface 520 (.agg (O.enc (⟨e⟩:Stop)))
theorem eei(h:a+n<=1000000000000000000):IntKind.i64.wrap (((a+n:Nat):Int) -(n:Int))=(a:Int):=by rw[IntKind.wrap_i64];omega
theorem een{l:List UInt8}(h:0<l.length):l[0]=l.headD 0:=by cases l with
 |nil=>simp at h
 |cons x r=>rfl
theorem Dj:hC prog 345 #[.bool b,.int .i64 e] w0 (λu w'=>b=true/\eB w0 w') (λv w'=>b=false/\v=mD e/\eB w0 w'):=by
 refine hC.enter (args:=[.bool b,.int .i64 e]) func345 rfl ntmps345 results345 rfl ?_;have E:=eG w0;refine eI 6 E<|om 2 1 (λa w E=>?_) (λa w E=>?_)
 .
   refine ag 0 E (p0 (⟨e⟩:Stop)) λw E=>?_;refine ea (Z.iface rfl ?_);exact Qb (rX.panic rfl ⟨_,rfl,(by simpa using a),rfl,E.J⟩)
 .
   refine Qk .nil ?_;exact⟨by simpa using a,E.J⟩
theorem Dq{p:Nat}(f:ev en bs.v xs)(C:xs.length<=1000000000)(ep:a<=xs.length)(D:n<=1000000)(t:U en (sX p bs a::S) w0):hC prog 378 #[N p,i6 n] w0 (λu w'=>∃(s:eu)(tm:Nat),u=s.v/\(cY xs n (.ok a)).2= .ok tm/\U en (B s.v 5 (cY xs n (.ok a)).1::sX p bs tm::S) w') (λv w'=>∃(e:Int)(tm:Nat),(cY xs n (.ok a)).2= .error e/\v=mD e/\U en (sX p bs tm::S) w'):=by
 refine hC.enter (args:=[N p,i6 n]) func378 rfl ntmps378 results378 rfl ?_;have E:=eG w0;replace E:=t;have F:(a:Int)<=xs.length:=by omega
 refine eI 6 E λw E=>?_;refine T1 13 (e5 [0,1,2,3,4,5,6,7,8,9,10,11] (.one 12 .nil)) (by kernel_rfl) (λ_ _ _ _ h=>h) (λaM i=>⟨eB aM,eB.refl aM,?_⟩);replace E:=E.ei i;have c:=E;have d:=eG aM;have:=aS f;refine hi 10 c ?_;refine si c rfl (λw E=>Z.sub rfl rfl (wrap_i64 (by omega)) eY) (hi 1 c ?_);refine Qv rfl rfl rfl (rX.call (Dj) rfl ?_ ?_)
 .rintro ov w ⟨x,rfl,g⟩;replace d:=d.ei g;refine⟨_,rfl,5,a,?_,rfl,c.jd d⟩;have j:¬n<=xs.length-a:=by
   have:=of_decide_eq_false x;omega
  rw[Db,if_neg j]
 rintro _ w ⟨y,g⟩;replace d:=d.ei g;refine⟨d.J,?_⟩;have E:=ik c d;refine e3.nil ?_;have z:n<=xs.length-a:=by
  have:=of_decide_eq_true y;omega
 have A:cY xs n (.ok a)=((xs.drop a).take n,.ok (a+n)):=by rw[Db,if_pos z]
 refine s4 11 E ⟨iA,λw E=>?_⟩;refine oA (iU (b:=p) (o:=1) (v:=.int .i64 ((a:Int)+(n:Int))) (eo:=1) (cs:=O.enc (⟨bs,(a:Int)⟩:ms)) (iR:=O.enc (⟨bs,((a+n:Nat):Int)⟩:ms)) E rfl rfl es rfl (by rw[O.eT];exact Nat.le_refl 2) (o0 _ _) (GP ⟨bs,(a:Int)⟩ _) (tA es λw E=>(ew 3 E λw E=>?_)));refine T1 17 (e5 [0,1,2,3,4,5,6,7,8,9,10,11,12,13,14] (.one 15 (.look 16 .nil))) (by kernel_rfl) (λ_ _ _ _ h=>h) (λaM i=>⟨eB aM,eB.refl aM,?_⟩);replace E:=E.ei i;have c:=E;have d:=eG aM;refine hi 9 c ?_;refine si c rfl (λw E=>Z.sub rfl rfl (eei (by omega)) eY) ?_;refine hi 4 c ?_;refine si c rfl (λw E=>hq (f.ei E.J) (xs:=xs) (l:=a) (h':=a+n) (m:=s1 bs.v) ⟨rfl,Nat.le_refl _⟩ ⟨⟨_,rfl⟩,by have:=(f.ei E.J).cap;omega⟩ ⟨⟨_,rfl⟩,by omega⟩ eY) ?_;refine ol rfl (Z.call (Z2 (by have G:=(f.ei E.J).cut (l:=a) (h:=a+n) (m:=s1 bs.v) (by omega) (by omega) (by have:=(f.ei E.J).cap;omega) (Nat.le_refl _);rw[List.drop_take,Nat.add_sub_cancel_left]at G;exact G) (by rw[List.length_take];omega)) rfl ?_);rintro q w ⟨r,g⟩;replace d:=d.pD g r.1 r.2;refine⟨d.J,?_⟩;have E:=ik c d;refine hi 1 c ?_;refine e3.nil ?_;refine s4 2 E λw E=>?_;refine wS (.yi (v:=q) rfl .nil) ?_;obtain⟨k,rfl⟩:=(E.ef (v:=q) (xs:=(xs.drop a).take n) es).u9;rw[A];exact⟨k,a+n,rfl,rfl,E⟩
theorem AJ{p:Nat}(d:ev en bs.v xs)(f:xs.length<=1000000000)(ep:a<=xs.length)(g:U en (sX p bs a::S) w0):hC prog 344 #[N p] w0 (λu w'=>∃tm:Nat,u= .int .u8 ((sP xs (.ok a)).1.toNat:Int)/\(sP xs (.ok a)).2= .ok tm/\tm<=xs.length/\U en (sX p bs tm::S) w') (λv w'=>∃(e:Int)(tm:Nat),(sP xs (.ok a)).2= .error e/\v=mD e/\U en (sX p bs tm::S) w'):=by
 refine hC.enter (args:=[N p]) func344 rfl ntmps344 results344 rfl ?_;have E:=eG w0;replace E:=g;refine eI 8 E λw E=>?_;refine dd rfl (rX.call (Dq (p:=p) (bs:=bs) (xs:=xs) (a:=a) d f ep (n:=1) (by omega) E) rfl ?_ ?_)
 .rintro ov w ⟨e,tm,b,rfl,E⟩;exact⟨_,rfl,e,tm,by exact b,rfl,E.sub aI⟩
 rintro _ w ⟨h,tm,rfl,b,E⟩;obtain⟨G,Y,ez,e6,ac⟩:=Dv ep b;have c:=E.ef (v:=h.v) (xs:=(cY xs 1 (.ok a)).1) es;refine ea (nL rfl (c) rfl (by omega) (ea (ap rfl ((c.tU (List.getElem?_eq_getElem (by omega))).ax rfl) ?_)));refine ew 4 E λw E=>?_;refine wS (.hB rfl .nil) ?_;exact⟨tm,congrArg (λx:UInt8=>Value.int .u8 (x.toNat:Int)) (een (by omega)),b,G,E.nF⟩
theorem Sv{p:Nat}(d:ev en bs.v xs)(t:xs.length<=1000000000)(ep:a<=xs.length)(n:U en (sX p bs a::S) w0):hC prog 379 #[N p] w0 (λu w'=>∃tm:Nat,u= .int .i64 ((nR xs (.ok a)).1:Int)/\(nR xs (.ok a)).2= .ok tm/\tm<=xs.length/\U en (sX p bs tm::S) w') (λv w'=>∃(e:Int)(tm:Nat),(nR xs (.ok a)).2= .error e/\v=mD e/\U en (sX p bs tm::S) w'):=by
 refine hC.enter (args:=[N p]) func379 rfl ntmps379 results379 rfl ?_;have E:=eG w0;replace E:=n;have x:(a:Int)<=xs.length:=by omega
 refine eI 6 E λw E=>?_;refine T1 17 (e5 [0,1,2,3,4,5,6,7,8] (.one 9 (e5 [10,11,12,13,14,15,16] .nil))) (by kernel_rfl) (λ_ _ _ _ h=>h) (λaM q=>⟨eB aM,eB.refl aM,?_⟩);replace E:=E.ei q;have f:=E;have g:=eG aM;refine hi 8 f ?_;refine si f rfl (λw E=>hq (d.ei E.J) (xs:=xs) (l:=a) (h':=xs.length) (m:=s1 bs.v) ⟨rfl,Nat.le_refl _⟩ ⟨⟨rfl,rfl⟩,(d.ei E.J).cap⟩ ⟨⟨_,rfl⟩,by omega⟩ eY) (ol rfl (Z.call (GM (by have G:=(d.ei E.J).cut (l:=a) (h:=xs.length) (m:=s1 bs.v) (by omega) (by omega) (d.ei E.J).cap (Nat.le_refl _);rw[List.take_length]at G;exact G)) rfl ?_));rintro _ w ⟨rfl,c⟩;replace g:=g.ei c;refine⟨g.J,?_⟩;have E:=ik f g;refine hi 7 f ?_;refine e3.nil ?_;have j:=AK (xs.drop a) 0 0 (by omega) (by omega);rw[List.length_drop]at j;refine s4 6 E λw E=>?_;refine dd rfl (rX.call (Dj) rfl ?_ ?_)
 .rintro ov w ⟨r,rfl,c⟩;replace E:=E.ei c;exact⟨_,rfl,_,a,by rw[Dk,if_neg (of_decide_eq_false r)],rfl,E⟩
 rintro _ w ⟨i,c⟩;replace E:=E.ei c;replace i:=of_decide_eq_true i;have s:=j.2.2.2 i;refine ew 12 E ⟨iA,λw E=>?_⟩;refine oA (iU (b:=p) (o:=1) (v:=.int .i64 ((a:Int)+(gs (xs.drop a) 0 0).2.1)) (eo:=1) (cs:=O.enc (⟨bs,(a:Int)⟩:ms)) (iR:=O.enc (⟨bs,((a+(gs (xs.drop a) 0 0).2.1.toNat:Nat):Int)⟩:ms)) E rfl rfl es rfl (by rw[O.eT];exact Nat.le_refl 2) (o0 _ _) (by rw[show(((a+(gs (xs.drop a) 0 0).2.1.toNat:Nat):Int))=(a:Int)+(gs (xs.drop a) 0 0).2.1 from by omega];exact GP ⟨bs,(a:Int)⟩ _) (tA es λw E=>(ew 9 E λw E=>?_)));refine wS (.hB rfl .nil) ?_;have k:(nR xs (.ok a)).2= .ok (a+(gs (xs.drop a) 0 0).2.1.toNat):=by rw[Dk,if_pos i]
 exact⟨_,congrArg (Value.int .i64) (show(gs (xs.drop a) 0 0).1=(((gs (xs.drop a) 0 0).1.toNat:Nat):Int)from by omega),k,GG ep k,E⟩
theorem Sk{p:Nat}(f:ev en bs.v xs)(g:xs.length<=1000000000)(ep:a<=xs.length)(j:U en (sX p bs a::S) w0):hC prog 380 #[N p] w0 (λu w'=>∃(s:eu)(tm:Nat),u=s.v/\(mr xs (.ok a)).2= .ok tm/\tm<=xs.length/\U en (B s.v 5 (mr xs (.ok a)).1::sX p bs tm::S) w') (λv w'=>∃(e:Int)(tm:Nat),(mr xs (.ok a)).2= .error e/\v=mD e/\U en (sX p bs tm::S) w'):=by
 refine hC.enter (args:=[N p]) func380 rfl ntmps380 results380 rfl ?_;have E:=eG w0;replace E:=j;refine eI 9 E λw E=>?_;refine dd rfl (rX.call (Sv f g ep E) rfl ?_ ?_)
 .rintro ov w ⟨e,tm,b,rfl,E⟩;exact⟨_,rfl,e,tm,by simp only[mr,b,eet],rfl,E.sub aI⟩
 rintro _ w ⟨k,rfl,G,h,E⟩;have r:=Sw (xs:=xs) (s:=(.ok a));refine dd rfl (rX.call (Dq f g h (by omega) E) rfl ?_ ?_)
 .rintro ov w ⟨e,tm,b,rfl,E⟩;exact⟨_,rfl,e,tm,by simp only[mr,G,b],rfl,E.sub aI⟩
 rintro _ w ⟨i,l,rfl,Y,E⟩;obtain⟨m,t,x,y,fC⟩:=Dv h Y;refine ea (Z.call (Z3 (E.ef (v:=i.v) (xs:=(cY xs (nR xs (.ok a)).1 (.ok k)).1) es)) rfl ?_);rintro n w ⟨c,o⟩;replace E:=E.ei o;refine ew 4 E λw E=>?_;refine wS (.yi (v:=n) rfl .nil) ?_;subst c;replace E:=E.bL (v:=i.v) (T:=5) es;obtain⟨q,d⟩:=(E.ef (α:=UInt8) es).u9;rw[d]at E⊢;refine⟨q,l,rfl,?_,m,?_⟩
 .simp only[mr,G,Y]
 simp only[mr,G];exact E
theorem DE{p:Nat}(d:ev en bs.v xs)(f:xs.length<=1000000000)(ep:a<=xs.length)(g:U en (sX p bs a::S) w0):hC prog 347 #[N p] w0 (λu w'=>∃tm:Nat,u= .agg (O.enc (hy xs (.ok a)).1)/\(hy xs (.ok a)).2= .ok tm/\tm<=xs.length/\U en (sX p bs tm::S) w') (λv w'=>∃(e:Int)(tm:Nat),(hy xs (.ok a)).2= .error e/\v=mD e/\U en (sX p bs tm::S) w'):=by
 refine hC.enter (args:=[N p]) func347 rfl ntmps347 results347 rfl ?_;have E:=eG w0;replace E:=g;refine eI 8 E λaa w E=>?_;refine dd rfl (rX.call (Dq (p:=p) (bs:=bs) (xs:=xs) (a:=a) d f ep (n:=32) (by omega) (E.pick es)) rfl ?_ ?_)
 .rintro ov w ⟨e,tm,b,rfl,E⟩;exact⟨_,rfl,e,tm,by exact b,rfl,E.sub aI⟩
 rintro _ w ⟨h,tm,rfl,b,E⟩;obtain⟨G,Y,ez,e6,ac⟩:=Dv ep b;have c:=E.ef (v:=h.v) (xs:=(cY xs 32 (.ok a)).1) es;refine ea (LN (n:=32) (xs:=(cY xs 32 (.ok a)).1) rfl c ac (by omega) (ea (ap rfl ((c.key (n:=31) ac).nZ (O.eT _)) (ew 4 E λw E=>?_))));refine wS (.cell (by first|exact E.nZ es (by first|rfl|exact O.eT _)|exact E.aV es rfl) .nil) ?_;exact⟨tm,rfl,b,G,E.sub aI⟩
theorem eed:(eK [#[.int .u8 0],#[eF],#[eF]])=O.enc (⟨0,ec,ec⟩:Instr):=by
 simp only[GA,Instr.parts,nn];rfl
theorem eec{p:Nat}(c:ev en bs.v xs)(d:xs.length<=1000000000)(ep:a<=xs.length)(h:U en (sX p bs a::S) w0):hC prog 349 #[N p] w0 (λu w'=>∃(i:Instr)(tm:Nat),u= .agg (O.enc i)/\i.program=(rg xs (.ok a)).1.1/\(rg xs (.ok a)).2= .ok tm/\tm<=xs.length/\U en (B i.cG.v 5 (rg xs (.ok a)).1.2.1::B i.data.v 5 (rg xs (.ok a)).1.2.2::sX p bs tm::S) w') (λv w'=>∃(e:Int)(tm:Nat),(rg xs (.ok a)).2= .error e/\v=mD e/\U en (sX p bs tm::S) w'):=by
 refine hC.enter (args:=[N p]) func349 rfl ntmps349 results349 rfl ?_;have E:=eG w0;replace E:=h;refine eI 3 E λaa w E=>?_;rw[eed]at E;refine ew 5 E λw E=>?_;refine dd rfl (rX.call (AJ c d ep (E.pick es)) rfl ?_ ?_)
 .rintro ov w ⟨e,tm,b,rfl,E⟩;exact⟨_,rfl,e,tm,by simp only[rg,b,Sg],rfl,E.sub aI⟩
 rintro _ w ⟨f,rfl,G,j,E⟩;refine ew 7 E λw E=>?_;refine dd rfl (rX.call (Sk c d j (E.pick es)) rfl ?_ ?_)
 .rintro ov w ⟨e,tm,b,rfl,E⟩;exact⟨_,rfl,e,tm,by simp only[rg,G,b,Sg],rfl,E.sub aI⟩
 rintro _ w ⟨g,k,rfl,Y,l,E⟩;refine ew 7 E λw E=>?_;refine dd rfl (rX.call (Sk c d l (E.pick es)) rfl ?_ ?_)
 .rintro ov w ⟨e,tm,b,rfl,E⟩;exact⟨_,rfl,e,tm,by simp only[rg,G,Y,b],rfl,E.sub aI⟩
 rintro _ w ⟨m,a3,rfl,ez,n,E⟩;refine ew 11 E λw E=>?_;refine wS (.cell (by first|exact E.nZ es (by first|rfl|exact O.eT _)|exact E.aV es rfl) .nil) ?_;refine⟨(⟨(sP xs (.ok a)).1,g,m⟩:Instr),a3,rfl,rfl,?_,n,?_⟩
 .simp only[rg,G,Y,ez]
 have o:(rg xs (.ok a)).1.2.1=(mr xs (.ok f)).1:=by simp only[rg,G]
 have q:(rg xs (.ok a)).1.2.2=(mr xs (.ok k)).1:=by simp only[rg,G,Y]
 rw[o,q];have E:=(E.pick (e:=B g.v 5 (mr xs (.ok f)).1) es);exact E.sub aI
theorem eeu:(eK [(Array.replicate 32 (.int .u8 0)),#[eF],#[eF]])=O.enc (⟨oc 32,ec,ec⟩:iW):=by
 simp only[ZS,iW.parts,nn];rfl
theorem eem{p:Nat}(c:ev en bs.v xs)(d:xs.length<=1000000000)(ep:a<=xs.length)(h:U en (sX p bs a::S) w0):hC prog 351 #[N p] w0 (λu w'=>∃(i:iW)(tm:Nat),u= .agg (O.enc i)/\i.table=(rC xs (.ok a)).1.1/\(rC xs (.ok a)).2= .ok tm/\tm<=xs.length/\U en (B i.iO.v 5 (rC xs (.ok a)).1.2.1::B i.p3.v 5 (rC xs (.ok a)).1.2.2::sX p bs tm::S) w') (λv w'=>∃(e:Int)(tm:Nat),(rC xs (.ok a)).2= .error e/\v=mD e/\U en (sX p bs tm::S) w'):=by
 refine hC.enter (args:=[N p]) func351 rfl ntmps351 results351 rfl ?_;have E:=eG w0;replace E:=h;refine eI 3 E λaa w E=>?_;rw[eeu]at E;refine ew 5 E λw E=>?_;refine dd rfl (rX.call (DE c d ep (E.pick es)) rfl ?_ ?_)
 .rintro ov w ⟨e,tm,b,rfl,E⟩;exact⟨_,rfl,e,tm,by simp only[rC,b,Sg],rfl,E.sub aI⟩
 rintro _ w ⟨f,rfl,G,j,E⟩;refine ew 7 E λw E=>?_;refine dd rfl (rX.call (Sk c d j (E.pick es)) rfl ?_ ?_)
 .rintro ov w ⟨e,tm,b,rfl,E⟩;exact⟨_,rfl,e,tm,by simp only[rC,G,b,Sg],rfl,E.sub aI⟩
 rintro _ w ⟨g,k,rfl,Y,l,E⟩;refine ew 7 E λw E=>?_;refine dd rfl (rX.call (Sk c d l (E.pick es)) rfl ?_ ?_)
 .rintro ov w ⟨e,tm,b,rfl,E⟩;exact⟨_,rfl,e,tm,by simp only[rC,G,Y,b],rfl,E.sub aI⟩
 rintro _ w ⟨m,a3,rfl,ez,n,E⟩;refine ew 11 E λw E=>?_;refine wS (.cell (by first|exact E.nZ es (by first|rfl|exact O.eT _)|exact E.aV es rfl) .nil) ?_;refine⟨(⟨(hy xs (.ok a)).1,g,m⟩:iW),a3,rfl,rfl,?_,n,?_⟩
 .simp only[rC,G,Y,ez]
 have o:(rC xs (.ok a)).1.2.1=(mr xs (.ok f)).1:=by simp only[rC,G]
 have q:(rC xs (.ok a)).1.2.2=(mr xs (.ok k)).1:=by simp only[rC,G,Y]
 rw[o,q];have E:=(E.pick (e:=B g.v 5 (mr xs (.ok f)).1) es);exact E.sub aI
variable{p:Nat}{v:Value}
theorem eef{xs:List (Vector UInt8 32)}(a:ev w0 v xs):tN 89 #[v] w0 (nT v 0 xs.length xs.length (O.eo ((Vector UInt8 32)))):=by
 have:=aS a;refine eH 12 (eG _) func89 ntmps89 results89 rfl λw E=>?_;exact ea (hq (a.ei E.J) ⟨⟨_,rfl⟩,a.cap⟩ ⟨⟨_,rfl⟩,Nat.le_refl _⟩ ⟨rfl,Nat.zero_le _⟩ (ew 5 E λw E=>(⟨rfl,E.J⟩)))
theorem eep{xs:List Instr}(a:ev w0 v xs):tN 245 #[v] w0 (nT v 0 xs.length xs.length (O.eo (Instr))):=by
 have:=aS a;refine eH 12 (eG _) func245 ntmps245 results245 rfl λw E=>?_;exact ea (hq (a.ei E.J) ⟨⟨_,rfl⟩,a.cap⟩ ⟨⟨_,rfl⟩,Nat.le_refl _⟩ ⟨rfl,Nat.zero_le _⟩ (ew 5 E λw E=>(⟨rfl,E.J⟩)))
theorem eeg{xs:List iW}(a:ev w0 v xs):tN 247 #[v] w0 (nT v 0 xs.length xs.length (O.eo (iW))):=by
 have:=aS a;refine eH 12 (eG _) func247 ntmps247 results247 rfl λw E=>?_;exact ea (hq (a.ei E.J) ⟨⟨_,rfl⟩,a.cap⟩ ⟨⟨_,rfl⟩,Nat.le_refl _⟩ ⟨rfl,Nat.zero_le _⟩ (ew 5 E λw E=>(⟨rfl,E.J⟩)))
theorem eew(j:ev en bs.v xs)(m:xs.length<=1000000000)(ep:a<=xs.length)(z:U en (sX p bs a::S) w0):hC prog 346 #[N p,.func (.func 347) #[N p] #[]] w0 (λu w'=>∃(s:eu)(tm:Nat),u=s.v/\(sC xs (hy xs) (.ok a)).2= .ok tm/\tm<=xs.length/\(sC xs (hy xs) (.ok a)).1.length<65536/\U en (B s.v 60 (sC xs (hy xs) (.ok a)).1::sX p bs tm::S) w') (λv w'=>∃(e:Int)(tm:Nat),(sC xs (hy xs) (.ok a)).2= .error e/\v=mD e/\U en (sX p bs tm::S) w'):=by
 refine hC.enter (args:=[N p,.func (.func 347) #[N p] #[]]) func346 rfl ntmps346 results346 rfl ?_;have E:=eG w0;replace E:=z;refine eI 9 E λw E=>?_;refine dd rfl (rX.call (Sv j m ep E) rfl ?_ ?_)
 .rintro ov w ⟨e,tm,h,rfl,E⟩;exact⟨_,rfl,e,tm,by unfold sC;rw[h,zJ],rfl,E⟩
 rintro _ w ⟨a0,rfl,em,A,E⟩;have M:=Sw (xs:=xs) (s:=(.ok a));have d:sC xs (hy xs) (.ok a)=lT (hy xs) (nR xs (.ok a)).1 (.ok a0):=by unfold sC;rw[em]
 refine ew 4 E λw E=>?_;refine ex.loop (λq f w=>∃(k b:Nat)(v:Value)(l:List (Vector UInt8 32)),oW [(1,.func (.func 347) #[N p] #[]),(4,v),(6,.int .i64 ((nR xs (.ok a)).1:Int)),(7,i6 k)] f/\U en (B v 60 l::sX p bs b::S) w/\k<=(nR xs (.ok a)).1/\b<=xs.length/\l.length=k/\lT (hy xs) (nR xs (.ok a)).1 (.ok a0)=(l++(lT (hy xs) ((nR xs (.ok a)).1-k) (.ok b)).1,(lT (hy xs) ((nR xs (.ok a)).1-k) (.ok b)).2)/\q=(nR xs (.ok a)).1-k) ((nR xs (.ok a)).1) ?_ ?_
 .
   exact⟨0,a0,eF,[],⟨rfl,rfl,rfl,rfl,trivial⟩,E.lD 60,Nat.zero_le _,A,rfl,rfl,rfl⟩
 .
   rintro q f w ⟨k,b,v,l,n,E,P,o,C,c,th⟩;refine io _ n (λg=>?_);clear n;refine eI 6 E<|om 0 0 (λD w E=>?_) (λD w E=>?_)
   .
     have Q:k<(nR xs (.ok a)).1:=by omega
     have r:(nR xs (.ok a)).1-k=((nR xs (.ok a)).1-(k+1))+1:=by omega
     refine eI 7 E λw E=>?_;refine dd rfl (LR (vs:=[]) rfl (DE j m o (E.pick es)) rfl ?_ ?_)
     .rintro ov w ⟨e,tm,h,rfl,E⟩;exact⟨_,rfl,e,tm,by rw[d,c,r,zQ,h,zJ],rfl,E.sub aI⟩
     rintro _ w ⟨i,rfl,G,F,E⟩;refine ea (n4 E (([(hy xs (.ok b)).1]:List (Vector UInt8 32))) [.agg (O.enc ((hy xs (.ok b)).1))] rfl rfl rfl rfl (by decide) ?_);intro H w t E;refine ea (dS (α:=Vector UInt8 32) (v:=v) (xs:=l) rfl E rfl es (E.ef (v:=e4 H 1 1) (xs:=[(hy xs (.ok b)).1]) es) (by simp only[List.length_cons,List.length_nil];omega) (by simp only[List.length_cons,List.length_nil,maxLen];omega) ?_);intro x w E;replace E:=E _ es;refine ew 9 E ⟨iA,λw E=>?_⟩;have I:lT (hy xs) (nR xs (.ok a)).1 (.ok a0)=((l++[((hy xs (.ok b)).1)])++(lT (hy xs) ((nR xs (.ok a)).1-(k+1)) (.ok i)).1,(lT (hy xs) ((nR xs (.ok a)).1-(k+1)) (.ok i)).2):=by
      rw[c,r,zQ,G,List.append_assoc];rfl
     exact⟨(nR xs (.ok a)).1-(k+1),by omega,k+1,i,x,l++[((hy xs (.ok b)).1)],⟨rfl,rfl,rfl,congrArg (Value.int .i64) (by omega),trivial⟩,(E.pick (e:=B x 60 (l++[((hy xs (.ok b)).1)])) es).sub aI,by omega,F,by rw[List.length_append,C];rfl,I,rfl⟩
   .
     obtain rfl:k=(nR xs (.ok a)).1:=by omega
     rw[Nat.sub_self]at c;refine eI 8 E λw E=>?_;refine ea (Z.call (eef (E.ef (v:=v) (xs:=l) es)) rfl ?_);rintro J w ⟨K,t⟩;replace E:=E.ei t;refine ew 4 E λw E=>?_;refine wS (.yi (v:=J) rfl .nil) ?_;subst K;replace E:=E.bL (v:=v) (T:=60) (xs:=l) es;obtain⟨y,L⟩:=(E.ef (α:=Vector UInt8 32) (xs:=l) es).u9;rw[L]at E⊢;refine⟨y,b,rfl,?_,o,?_,?_⟩
     .rw[d,c];rfl
     .rw[d,c];show(l++[]).length<65536;rw[List.append_nil];omega
     rw[d,c];show U en (B y.v _ (l++[])::_) _;rw[List.append_nil];exact E
theorem eey(o:ev en bs.v xs)(r:xs.length<=1000000000)(ep:a<=xs.length)(F:U en (sX p bs a::S) w0):hC prog 348 #[N p,.func (.func 349) #[N p] #[]] w0 (λu w'=>∃(s:eu)(is:List Instr)(tm:Nat),u=s.v/\(sC xs (rg xs) (.ok a)).2= .ok tm/\tm<=xs.length/\is.length=(sC xs (rg xs) (.ok a)).1.length/\is.map (·.program)=(sC xs (rg xs) (.ok a)).1.map (·.1)/\(sC xs (rg xs) (.ok a)).1.length<65536/\U en (B s.v 230 is::hQ (dQ is (sC xs (rg xs) (.ok a)).1)::sX p bs tm::S) w') (λv w'=>∃(e:Int)(tm:Nat),(sC xs (rg xs) (.ok a)).2= .error e/\v=mD e/\U en (sX p bs tm::S) w'):=by
 refine hC.enter (args:=[N p,.func (.func 349) #[N p] #[]]) func348 rfl ntmps348 results348 rfl ?_;have E:=eG w0;replace E:=F;refine eI 9 E λw E=>?_;refine dd rfl (rX.call (Sv o r ep E) rfl ?_ ?_)
 .rintro ov w ⟨e,tm,h,rfl,E⟩;exact⟨_,rfl,e,tm,by unfold sC;rw[h,zJ],rfl,E⟩
 rintro _ w ⟨a0,rfl,em,H,E⟩;have X:=Sw (xs:=xs) (s:=(.ok a));have j:sC xs (rg xs) (.ok a)=lT (rg xs) (nR xs (.ok a)).1 (.ok a0):=by unfold sC;rw[em]
 refine ew 4 E λw E=>?_;refine ex.loop (λq f w=>∃(k b:Nat)(v:Value)(l:List (UInt8×List UInt8×List UInt8))(is:List Instr),oW [(1,.func (.func 349) #[N p] #[]),(4,v),(6,.int .i64 ((nR xs (.ok a)).1:Int)),(7,i6 k)] f/\U en (B v 230 is::hQ (dQ is l)::sX p bs b::S) w/\k<=(nR xs (.ok a)).1/\b<=xs.length/\l.length=k/\is.length=l.length/\is.map (·.program)=l.map (·.1)/\lT (rg xs) (nR xs (.ok a)).1 (.ok a0)=(l++(lT (rg xs) ((nR xs (.ok a)).1-k) (.ok b)).1,(lT (rg xs) ((nR xs (.ok a)).1-k) (.ok b)).2)/\q=(nR xs (.ok a)).1-k) ((nR xs (.ok a)).1) ?_ ?_
 .
   exact⟨0,a0,eF,[],[],⟨rfl,rfl,rfl,rfl,trivial⟩,(E.vW).lD 230,Nat.zero_le _,H,rfl,rfl,rfl,rfl,rfl⟩
 .
   rintro q f w ⟨k,b,v,l,is,t,E,Y,y,I,m,z,c,th⟩;refine io _ t (λg=>?_);clear t;refine eI 6 E<|om 0 0 (λJ w E=>?_) (λJ w E=>?_)
   .
     have aj:k<(nR xs (.ok a)).1:=by omega
     have A:(nR xs (.ok a)).1-k=((nR xs (.ok a)).1-(k+1))+1:=by omega
     refine eI 7 E λw E=>?_;refine dd rfl (LR (vs:=[]) rfl (eec o r y (E.pick es)) rfl ?_ ?_)
     .rintro ov w ⟨e,tm,h,rfl,E⟩;exact⟨_,rfl,e,tm,by rw[j,c,A,zQ,h,zJ],rfl,E.sub aI⟩
     rintro _ w ⟨i,n,rfl,K,G,L,E⟩;refine ea (n4 E (([i]:List (Instr))) [.agg (O.enc (i))] rfl rfl rfl rfl (by decide) ?_);intro M w C E;refine ea (dS (α:=Instr) (v:=v) (xs:=is) rfl E rfl es (E.ef (v:=e4 M 1 1) (xs:=[i]) es) (by simp only[List.length_cons,List.length_nil];omega) (by simp only[List.length_cons,List.length_nil,maxLen];omega) ?_);intro D w E;replace E:=E _ es;replace E:=Dx (p:=((i.cG,((rg xs (.ok b)).1).2.1),(i.data,((rg xs (.ok b)).1).2.2))) (l:=dQ is l) (((E.pick (e:=hQ (dQ is l)) es).pick (e:=B i.data.v 5 ((rg xs (.ok b)).1).2.2) es).pick (e:=B i.cG.v 5 ((rg xs (.ok b)).1).2.1) es);rw[<-GW m]at E;refine ew 9 E ⟨iA,λw E=>?_⟩;have P:lT (rg xs) (nR xs (.ok a)).1 (.ok a0)=((l++[((rg xs (.ok b)).1)])++(lT (rg xs) ((nR xs (.ok a)).1-(k+1)) (.ok n)).1,(lT (rg xs) ((nR xs (.ok a)).1-(k+1)) (.ok n)).2):=by
      rw[c,A,zQ,G,List.append_assoc];rfl
     exact⟨(nR xs (.ok a)).1-(k+1),by omega,k+1,n,D,l++[((rg xs (.ok b)).1)],is++[i],⟨rfl,rfl,rfl,congrArg (Value.int .i64) (by omega),trivial⟩,(E.pick (e:=B D 230 (is++[i])) es).sub aI,by omega,L,by rw[List.length_append,I];rfl,by rw[List.length_append,List.length_append,m];rfl,by rw[List.map_append,List.map_append,z];exact congrArg (λx=>l.map (·.1)++[x]) K,P,rfl⟩
   .
     obtain rfl:k=(nR xs (.ok a)).1:=by omega
     rw[Nat.sub_self]at c;refine eI 8 E λw E=>?_;refine ea (Z.call (eep (E.ef (v:=v) (xs:=is) es)) rfl ?_);rintro Q w ⟨R,C⟩;replace E:=E.ei C;refine ew 4 E λw E=>?_;refine wS (.yi (v:=Q) rfl .nil) ?_;subst R;replace E:=E.bL (v:=v) (T:=230) (xs:=is) es;obtain⟨V,W⟩:=(E.ef (α:=Instr) (xs:=is) es).u9;rw[W]at E⊢;have d:(sC xs (rg xs) (.ok a)).1=l:=by rw[j,c];exact List.append_nil l
     refine⟨V,is,b,rfl,?_,y,?_,?_,?_,?_⟩
     .rw[j,c];rfl
     .rw[d];exact m
     .rw[d];exact z
     .rw[d];omega
     rw[d];exact E
theorem eeb(o:ev en bs.v xs)(r:xs.length<=1000000000)(ep:a<=xs.length)(F:U en (sX p bs a::S) w0):hC prog 350 #[N p,.func (.func 351) #[N p] #[]] w0 (λu w'=>∃(s:eu)(is:List iW)(tm:Nat),u=s.v/\(sC xs (rC xs) (.ok a)).2= .ok tm/\tm<=xs.length/\is.length=(sC xs (rC xs) (.ok a)).1.length/\is.map (·.table)=(sC xs (rC xs) (.ok a)).1.map (·.1)/\(sC xs (rC xs) (.ok a)).1.length<65536/\U en (B s.v 221 is::hQ (fX is (sC xs (rC xs) (.ok a)).1)::sX p bs tm::S) w') (λv w'=>∃(e:Int)(tm:Nat),(sC xs (rC xs) (.ok a)).2= .error e/\v=mD e/\U en (sX p bs tm::S) w'):=by
 refine hC.enter (args:=[N p,.func (.func 351) #[N p] #[]]) func350 rfl ntmps350 results350 rfl ?_;have E:=eG w0;replace E:=F;refine eI 9 E λw E=>?_;refine dd rfl (rX.call (Sv o r ep E) rfl ?_ ?_)
 .rintro ov w ⟨e,tm,h,rfl,E⟩;exact⟨_,rfl,e,tm,by unfold sC;rw[h,zJ],rfl,E⟩
 rintro _ w ⟨a0,rfl,em,H,E⟩;have X:=Sw (xs:=xs) (s:=(.ok a));have j:sC xs (rC xs) (.ok a)=lT (rC xs) (nR xs (.ok a)).1 (.ok a0):=by unfold sC;rw[em]
 refine ew 4 E λw E=>?_;refine ex.loop (λq f w=>∃(k b:Nat)(v:Value)(l:List (Vector UInt8 32×List UInt8×List UInt8))(is:List iW),oW [(1,.func (.func 351) #[N p] #[]),(4,v),(6,.int .i64 ((nR xs (.ok a)).1:Int)),(7,i6 k)] f/\U en (B v 221 is::hQ (fX is l)::sX p bs b::S) w/\k<=(nR xs (.ok a)).1/\b<=xs.length/\l.length=k/\is.length=l.length/\is.map (·.table)=l.map (·.1)/\lT (rC xs) (nR xs (.ok a)).1 (.ok a0)=(l++(lT (rC xs) ((nR xs (.ok a)).1-k) (.ok b)).1,(lT (rC xs) ((nR xs (.ok a)).1-k) (.ok b)).2)/\q=(nR xs (.ok a)).1-k) ((nR xs (.ok a)).1) ?_ ?_
 .
   exact⟨0,a0,eF,[],[],⟨rfl,rfl,rfl,rfl,trivial⟩,(E.vW).lD 221,Nat.zero_le _,H,rfl,rfl,rfl,rfl,rfl⟩
 .
   rintro q f w ⟨k,b,v,l,is,t,E,Y,y,I,m,z,c,th⟩;refine io _ t (λg=>?_);clear t;refine eI 6 E<|om 0 0 (λJ w E=>?_) (λJ w E=>?_)
   .
     have aj:k<(nR xs (.ok a)).1:=by omega
     have A:(nR xs (.ok a)).1-k=((nR xs (.ok a)).1-(k+1))+1:=by omega
     refine eI 7 E λw E=>?_;refine dd rfl (LR (vs:=[]) rfl (eem o r y (E.pick es)) rfl ?_ ?_)
     .rintro ov w ⟨e,tm,h,rfl,E⟩;exact⟨_,rfl,e,tm,by rw[j,c,A,zQ,h,zJ],rfl,E.sub aI⟩
     rintro _ w ⟨i,n,rfl,K,G,L,E⟩;refine ea (n4 E (([i]:List (iW))) [.agg (O.enc (i))] rfl rfl rfl rfl (by decide) ?_);intro M w C E;refine ea (dS (α:=iW) (v:=v) (xs:=is) rfl E rfl es (E.ef (v:=e4 M 1 1) (xs:=[i]) es) (by simp only[List.length_cons,List.length_nil];omega) (by simp only[List.length_cons,List.length_nil,maxLen];omega) ?_);intro D w E;replace E:=E _ es;replace E:=Dx (p:=((i.iO,((rC xs (.ok b)).1).2.1),(i.p3,((rC xs (.ok b)).1).2.2))) (l:=fX is l) (((E.pick (e:=hQ (fX is l)) es).pick (e:=B i.p3.v 5 ((rC xs (.ok b)).1).2.2) es).pick (e:=B i.iO.v 5 ((rC xs (.ok b)).1).2.1) es);rw[<-eeo m]at E;refine ew 9 E ⟨iA,λw E=>?_⟩;have P:lT (rC xs) (nR xs (.ok a)).1 (.ok a0)=((l++[((rC xs (.ok b)).1)])++(lT (rC xs) ((nR xs (.ok a)).1-(k+1)) (.ok n)).1,(lT (rC xs) ((nR xs (.ok a)).1-(k+1)) (.ok n)).2):=by
      rw[c,A,zQ,G,List.append_assoc];rfl
     exact⟨(nR xs (.ok a)).1-(k+1),by omega,k+1,n,D,l++[((rC xs (.ok b)).1)],is++[i],⟨rfl,rfl,rfl,congrArg (Value.int .i64) (by omega),trivial⟩,(E.pick (e:=B D 221 (is++[i])) es).sub aI,by omega,L,by rw[List.length_append,I];rfl,by rw[List.length_append,List.length_append,m];rfl,by rw[List.map_append,List.map_append,z];exact congrArg (λx=>l.map (·.1)++[x]) K,P,rfl⟩
   .
     obtain rfl:k=(nR xs (.ok a)).1:=by omega
     rw[Nat.sub_self]at c;refine eI 8 E λw E=>?_;refine ea (Z.call (eeg (E.ef (v:=v) (xs:=is) es)) rfl ?_);rintro Q w ⟨R,C⟩;replace E:=E.ei C;refine ew 4 E λw E=>?_;refine wS (.yi (v:=Q) rfl .nil) ?_;subst R;replace E:=E.bL (v:=v) (T:=221) (xs:=is) es;obtain⟨V,W⟩:=(E.ef (α:=iW) (xs:=is) es).u9;rw[W]at E⊢;have d:(sC xs (rC xs) (.ok a)).1=l:=by rw[j,c];exact List.append_nil l
     refine⟨V,is,b,rfl,?_,y,?_,?_,?_,?_⟩
     .rw[j,c];rfl
     .rw[d];exact m
     .rw[d];exact z
     .rw[d];omega
     rw[d];exact E
variable{i o:Nat}{cs v:Array Value}
theorem A4(G:i+v.size<=n)(Y:o+n<=cs.size):iH cs (o+i) v=iH cs o (iH (cs.extract o (o+n)) i v):=by
 have b:(cs.extract o (o+n)).size=n:=by simp;omega
 have a:(iH (cs.extract o (o+n)) i v).size=n:=by unfold iH;simp;omega
 apply Array.ext_getElem?;intro j;rw[wg cs v (o+i) (by omega) j,wg cs _ o (by omega) j,a];by_cases h:o<=j/\j<o+n
 .rw[if_pos h,wg _ v i (by omega) (j-o)];by_cases ez:o+i<=j/\j<o+i+v.size
  .rw[if_pos ez,if_pos (by omega)];congr 1;omega
  rw[if_neg ez,if_neg (by omega),Array.getElem?_extract,if_pos (by omega)];congr 1;omega
 rw[if_neg h,if_neg (by omega)]
theorem eev(x:oe)(v:UInt8):iH (O.enc x) 1 #[.int .u8 v.toNat]=O.enc {x with ii:={x.ii with rf:=v}}:=by
 have h:=A4 (cs:=O.enc x) (v:=#[Value.int .u8 v.toNat]) (o:=1) (n:=3) (i:=0) (show 0+1<=3 by decide) (by rw[O.eT];decide);rw[Ss,ZA,Dc]at h;exact h
theorem eek(x:oe)(v:UInt8):iH (O.enc x) 2 #[.int .u8 v.toNat]=O.enc {x with ii:={x.ii with fV:=v}}:=by
 have h:=A4 (cs:=O.enc x) (v:=#[Value.int .u8 v.toNat]) (o:=1) (n:=3) (i:=1) (show 1+1<=3 by decide) (by rw[O.eT];decide);rw[Ss,ZO,Dc]at h;exact h
theorem eex(x:oe)(v:UInt8):iH (O.enc x) 3 #[.int .u8 v.toNat]=O.enc {x with ii:={x.ii with uS:=v}}:=by
 have h:=A4 (cs:=O.enc x) (v:=#[Value.int .u8 v.toNat]) (o:=1) (n:=3) (i:=2) (show 2+1<=3 by decide) (by rw[O.eT];decide);rw[Ss,ZI,Dc]at h;exact h
theorem eej(h:(sP xs s).2= .error e):(fK xs s).2= .error e:=by
 unfold fK;simp only[h];split<;>simp only[jZ]
theorem eeq(h:(sP xs s).2= .ok a)(Y:128<(sP xs s).1.toNat):(fK xs s).2= .error 4:=by
 unfold fK;simp only[h,if_pos Y];rw[if_neg (by omega)]
theorem eez(h:(sP xs s).2= .ok a)(Y:(sP xs s).1.toNat=128)(ez:(sP xs (.ok a)).2= .error e):(fK xs s).2= .error e:=by
 unfold fK;simp only[h,if_pos Y];rw[if_neg (by omega),ez]
theorem eeE(h:(sP xs s).2= .ok a)(Y:(sP xs s).1.toNat=128)(ez:(sP xs (.ok a)).2= .ok tm):fK xs s=(((sP xs (.ok a)).1,true),.ok tm):=by
 unfold fK;simp only[h,if_pos Y];rw[if_neg (by omega),ez]
theorem eeT(h:(sP xs s).2= .ok a)(Y:(sP xs s).1.toNat<128):fK xs s=(((sP xs s).1,false),.ok a):=by
 unfold fK;simp only[h];rw[if_neg (show¬(sP xs s).1.toNat=128 by omega),if_neg (show¬128<(sP xs s).1.toNat by omega)]
theorem DA(h:(fK xs s).2= .error e):(h4 xs s).2= .error e:=by
 unfold h4;simp only[h,jZ,zZ,zX,ite_self]
def xN(m:oe)(is:List Instr)(t8:List iW)(c:yN):Prop:=
 m.v0=c.v0/\m.ii=c.h/\m.it=c.it/\is.length=c.au.length/\is.map (·.program)=c.au.map (·.1)/\t8.length=c.sn.length/\t8.map (·.table)=c.sn.map (·.1)/\c.tu.length<65536/\c.au.length<65536/\c.sn.length<65536
def fJ(m:oe)(is:List Instr)(t8:List iW)(c:yN):List eL:=
 [B m.tu.v 60 c.tu,B m.instrs.v 230 is,hQ (dQ is c.au),B m.r1.v 221 t8,hQ (fX t8 c.sn)]
theorem DO:(eK [#[.bool false],eK [#[.int .u8 0],#[.int .u8 0],#[.int .u8 0]],#[eF],(Array.replicate 32 (.int .u8 0)),#[eF],#[eF]])=O.enc (⟨false,⟨0,0,0⟩,ec,oc 32,ec,ec⟩:oe):=by
 simp only[cy,oe.parts,nn,cW,rr.parts];rfl
theorem eeA(i:ev en bs.v xs)(j:xs.length<=1000000000)(ep:a<=xs.length)(W:U en (sX p bs a::S) w0):hC prog 302 #[N p] w0 (λu w'=>∃(m:oe)(is:List Instr)(t8:List iW)(tm:Nat),u= .agg (O.enc m)/\xN m is t8 (h4 xs (.ok a)).1/\(h4 xs (.ok a)).2= .ok tm/\tm<=xs.length/\U en (fJ m is t8 (h4 xs (.ok a)).1++sX p bs tm::S) w') (λv w'=>∃(e:Int)(tm:Nat),(h4 xs (.ok a)).2= .error e/\v=mD e/\U en (sX p bs tm::S) w'):=by
 refine hC.enter (args:=[N p]) func302 rfl ntmps302 results302 rfl ?_;have E:=eG w0;replace E:=W;refine eI 3 E λaa w E=>?_;rw[DO]at E;refine ew 5 E λw E=>?_;refine dd rfl (rX.call (AJ i j ep (E.pick es)) rfl ?_ ?_)
 .rintro ov w ⟨e,tm,c,rfl,E⟩;exact⟨_,rfl,e,tm,DA (eej c),rfl,E.sub aI⟩
 rintro _ w ⟨X,rfl,s,J,E⟩;refine ew 7 E λw E=>?_;refine dd rfl (rX.call (Dj) rfl ?_ ?_)
 .rintro ov w ⟨Y,rfl,y⟩;replace E:=E.ei y;exact⟨_,rfl,4,X,DA (eeq s (by have:=of_decide_eq_false Y;omega)),rfl,E.sub aI⟩
 rintro _ w ⟨K,y⟩;replace E:=E.ei y;replace K:=of_decide_eq_true K;refine ew 2 E λw E=>?_;refine lK (λf w=>∃(eE:UInt8)(v0:Bool)(d:Nat),oW [(0,N p),(2,N aa),(3,.int .u8 ((eE).toNat:Int))] f/\U en (V aa (O.enc (⟨v0,⟨0,0,0⟩,ec,oc 32,ec,ec⟩:oe)) 46::sX p bs d::S) w/\fK xs (.ok a)=((eE,v0),.ok d)/\d<=xs.length) ?_ ?_
 .
   refine eI 6 E<|om 0 0 (λZ w E=>?_) (λZ w E=>?_)
   .
     have t:(sP xs (.ok a)).1.toNat=128:=by omega
     refine eI 8 E λw E=>?_;refine dd rfl (rX.call (AJ i j J (E.pick es)) rfl ?_ ?_)
     .rintro ov w ⟨e,tm,c,rfl,E⟩;exact⟨_,rfl,e,tm,DA (eez s t c),rfl,E.sub aI⟩
     rintro _ w ⟨d,rfl,nw,z,E⟩;have h:=eeE s t nw;replace E:=E.pick (e:=V aa (O.enc (⟨true,⟨0,0,0⟩,ec,oc 32,ec,ec⟩:oe)) 46) es;refine ew 3 E λw E=>?_;exact⟨_,_,_,⟨rfl,rfl,rfl,trivial⟩,E,h,z⟩
   .
     have t:(sP xs (.ok a)).1.toNat<128:=by omega
     have h:=eeT s t;have z:=J;replace E:=E.pick (e:=V aa (O.enc (⟨false,⟨0,0,0⟩,ec,oc 32,ec,ec⟩:oe)) 46) es;refine eI 2 E λw E=>?_;exact⟨_,_,_,⟨rfl,rfl,rfl,trivial⟩,E,h,z⟩
 .
   rintro f w ⟨eE,v0,d,L,E,h,AZ⟩;refine io _ L (λg=>?_);clear L;refine eI 5 E λw E=>?_;refine oA (iU (b:=aa) (o:=1) (v:=.int .u8 ((eE).toNat:Int)) (eo:=1) (cs:=O.enc (⟨v0,⟨0,0,0⟩,ec,oc 32,ec,ec⟩:oe)) (iR:=O.enc (⟨v0,⟨eE,0,0⟩,ec,oc 32,ec,ec⟩:oe)) E rfl rfl es rfl (by rw[O.eT];decide) (o0 _ _) (eev (⟨v0,⟨0,0,0⟩,ec,oc 32,ec,ec⟩:oe) eE) (tA es λw E=>(ew 5 E λw E=>?_)));refine dd rfl (rX.call (AJ i j AZ (E.pick es)) rfl ?_ ?_)
   .rintro ov w ⟨e,tm,c,rfl,E⟩;exact⟨_,rfl,e,tm,by simp only[h4,h,c,jZ,zZ,zX,ite_self],rfl,E.sub aI⟩
   rintro _ w ⟨a3,rfl,nw,A0,E⟩;refine ew 2 E λw E=>?_;refine oA (iU (b:=aa) (o:=2) (v:=.int .u8 (((sP xs (.ok d)).1).toNat:Int)) (eo:=1) (cs:=O.enc (⟨v0,⟨eE,0,0⟩,ec,oc 32,ec,ec⟩:oe)) (iR:=O.enc (⟨v0,⟨eE,(sP xs (.ok d)).1,0⟩,ec,oc 32,ec,ec⟩:oe)) E rfl rfl es rfl (by rw[O.eT];decide) (o0 _ _) (eek (⟨v0,⟨eE,0,0⟩,ec,oc 32,ec,ec⟩:oe) (sP xs (.ok d)).1) (tA es λw E=>(ew 5 E λw E=>?_)));refine dd rfl (rX.call (AJ i j A0 (E.pick es)) rfl ?_ ?_)
   .rintro ov w ⟨e,tm,c,rfl,E⟩;exact⟨_,rfl,e,tm,by simp only[h4,h,nw,c,jZ,zZ,zX,ite_self],rfl,E.sub aI⟩
   rintro _ w ⟨a4,rfl,o4,A,E⟩;refine ew 2 E λw E=>?_;refine oA (iU (b:=aa) (o:=3) (v:=.int .u8 (((sP xs (.ok a3)).1).toNat:Int)) (eo:=1) (cs:=O.enc (⟨v0,⟨eE,(sP xs (.ok d)).1,0⟩,ec,oc 32,ec,ec⟩:oe)) (iR:=O.enc (⟨v0,⟨eE,(sP xs (.ok d)).1,(sP xs (.ok a3)).1⟩,ec,oc 32,ec,ec⟩:oe)) E rfl rfl es rfl (by rw[O.eT];decide) (o0 _ _) (eex (⟨v0,⟨eE,(sP xs (.ok d)).1,0⟩,ec,oc 32,ec,ec⟩:oe) (sP xs (.ok a3)).1) (tA es λw E=>(ew 7 E λw E=>?_)));refine dd rfl (rX.call (eew i j A (E.pick es)) rfl ?_ ?_)
   .rintro ov w ⟨e,tm,c,rfl,E⟩;exact⟨_,rfl,e,tm,by simp only[h4,h,nw,o4,c,jZ,zZ,zX,ite_self],rfl,E.sub aI⟩
   rintro _ w ⟨n,a5,rfl,r,C,M,E⟩;refine ew 7 E λw E=>?_;refine dd rfl (rX.call (DE i j C (E.pick es)) rfl ?_ ?_)
   .rintro ov w ⟨e,tm,c,rfl,E⟩;exact⟨_,rfl,e,tm,by simp only[h4,h,nw,o4,r,c,jZ,zZ,zX,ite_self],rfl,E.sub aI⟩
   rintro _ w ⟨q,rfl,gZ,D,E⟩;refine ew 9 E λw E=>?_;refine dd rfl (rX.call (eey i j D (E.pick es)) rfl ?_ ?_)
   .rintro ov w ⟨e,tm,c,rfl,E⟩;exact⟨_,rfl,e,tm,by simp only[h4,h,nw,o4,r,gZ,c,jZ,zZ,zX,ite_self],rfl,E.sub aI⟩
   rintro _ w ⟨xS,is,k,rfl,cB,P,Q,R,T,E⟩;refine ew 11 E<|na 0 0 (λF al w E=>?_) (λF al w E=>?_)
   .
     subst F;refine eI 4 E λw E=>?_;refine dd rfl (rX.call (eeb i j P (E.pick es)) rfl ?_ ?_)
     .rintro ov w ⟨e,tm,c,rfl,E⟩;exact⟨_,rfl,e,tm,by simp only[h4,h,nw,o4,r,gZ,cB,if_true,c],rfl,E.sub aI⟩
     rintro _ w ⟨ef,t8,x,rfl,G,H,A5,I,bD,E⟩;refine ew 11 E λw E=>?_;refine wS (.cell (by exact E.nZ es (by exact O.eT _)) .nil) ?_;have l:h4 xs (.ok a)=((⟨true,⟨eE,(sP xs (.ok d)).1,(sP xs (.ok a3)).1⟩,(sC xs (hy xs) (.ok a4)).1,(hy xs (.ok a5)).1,(sC xs (rg xs) (.ok q)).1,(sC xs (rC xs) (.ok k)).1⟩:yN),.ok x):=by
      simp only[h4,h,nw,o4,r,gZ,cB,G,if_true]
     refine⟨(⟨true,⟨eE,(sP xs (.ok d)).1,(sP xs (.ok a3)).1⟩,n,(hy xs (.ok a5)).1,xS,ef⟩:oe),is,t8,x,rfl,?_,?_,H,?_⟩
     .rw[l];exact⟨rfl,rfl,rfl,Q,R,A5,I,M,T,bD⟩
     .rw[l]
     rw[l];replace E:=E.pick (e:=sX p bs x) es;replace E:=E.pick (e:=hQ (fX t8 (sC xs (rC xs) (.ok k)).1)) es;replace E:=E.pick (e:=B ef.v 221 t8) es;replace E:=E.pick (e:=hQ (dQ is (sC xs (rg xs) (.ok q)).1)) es;replace E:=E.pick (e:=B xS.v 230 is) es;replace E:=E.pick (e:=B n.v 60 (sC xs (hy xs) (.ok a4)).1) es;show U en (B n.v 60 (sC xs (hy xs) (.ok a4)).1::B xS.v 230 is::hQ (dQ is (sC xs (rg xs) (.ok q)).1)::B ef.v 221 t8::hQ (fX t8 (sC xs (rC xs) (.ok k)).1)::sX p bs x::S) w;exact E.sub aI
   .
     subst F;refine eI 9 E λw E=>?_;refine wS (.cell (by exact E.nZ es (by exact O.eT _)) .nil) ?_;have l:h4 xs (.ok a)=((⟨false,⟨eE,(sP xs (.ok d)).1,(sP xs (.ok a3)).1⟩,(sC xs (hy xs) (.ok a4)).1,(hy xs (.ok a5)).1,(sC xs (rg xs) (.ok q)).1,[]⟩:yN),.ok k):=by
      simp only[h4,h,nw,o4,r,gZ,cB,Bool.false_eq_true,if_false]
     replace E:=(E.vW).lD (α:=iW) 221;refine⟨(⟨false,⟨eE,(sP xs (.ok d)).1,(sP xs (.ok a3)).1⟩,n,(hy xs (.ok a5)).1,xS,ec⟩:oe),is,[],k,rfl,?_,?_,P,?_⟩
     .rw[l];exact⟨rfl,rfl,rfl,Q,R,rfl,rfl,M,T,(show(0:Nat)<65536 by decide)⟩
     .rw[l]
     rw[l];replace E:=E.pick (e:=sX p bs k) es;replace E:=E.pick (e:=hQ []) es;replace E:=E.pick (e:=B (α:=iW) (eF) 221 []) es;replace E:=E.pick (e:=hQ (dQ is (sC xs (rg xs) (.ok q)).1)) es;replace E:=E.pick (e:=B xS.v 230 is) es;replace E:=E.pick (e:=B n.v 60 (sC xs (hy xs) (.ok a4)).1) es;show U en (B n.v 60 (sC xs (hy xs) (.ok a4)).1::B xS.v 230 is::hQ (dQ is (sC xs (rg xs) (.ok q)).1)::B (α:=iW) (eF) 221 []::hQ []::sX p bs k::S) w;exact E.sub aI
variable{T aa tZ aF r2 j5 Et Ea:Nat}{nr:Array Value}{an:tr}{p q v tO af aT:Value}{sG:eu}
instance:PZ prog 20:=⟨_,underlying20⟩
theorem eeL(a:U en S w0):CallsD prog 301 [tO,af,aT].toArray .returning w0 (λe m w'=>m= .returning/\∃x,e= .returned x/\U en S w'):=by
 refine P1 (args:=[tO,af,aT]) (n:=20) (R:=λw'=>U en S w') func301 rfl ntmps301 results301 rfl rfl rfl (.inl ⟨rfl,rfl,rfl⟩) ?_;have E:=a;refine eI 3 E λw E=>?_;refine ea (P0 rfl (.inl ⟨rfl,rfl⟩) (ew 2 E<|na 0 1 (λb c w E=>?_) (λ_ c w E=>?_)))
 .
   exact absurd b (by decide)
 .
   exact E.sub aI
theorem eeD(c:nr.size=O.eo oe)(d:U en (V j5 nr 46::V Et #[af] 3::V Ea #[aT] 34::S) w0):
 CallsD prog 301 [N j5,N Et,N Ea].toArray (.panicking [s3 (mD e)]) w0 (λot m w'=>m= .panicking [{v:=mD e,recovered:=true}]/\∃x,ot= .returned x/\U en (V j5 (O.enc (⟨false,⟨0,0,0⟩,ec,oc 32,ec,ec⟩:oe)) 46::V Et #[i6 0] 3::V Ea #[.int .i64 e] 34::S) w'):=by
 refine P1 (args:=[N j5,N Et,N Ea]) (n:=20) (v:=mD e) (R:=λw'=>U en (V j5 (O.enc (⟨false,⟨0,0,0⟩,ec,oc 32,ec,ec⟩:oe)) 46::V Et #[i6 0] 3::V Ea #[.int .i64 e] 34::S) w') func301 rfl ntmps301 results301 rfl rfl rfl (.inr ⟨rfl,rfl⟩) ?_;have E:=d;refine eI 3 E λw E=>?_;refine ea (P0 rfl (.inr ⟨⟨_,_,rfl⟩,rfl⟩) (ew 2 E<|na 3 0 (λ_ f w E=>?_) (λg f w E=>?_)))
 .
   refine ea (Qq (v:=.agg (O.enc (⟨e⟩:Stop))) rfl (ew 4 E λaF w E=>(oA (iV (r:=(⟨e⟩:Stop)) E rfl rfl es rfl (tA es λw E=>(ew 10 E<|na 0 2 (λi j w E=>?_) (λ_ j w E=>?_)))))))
   .
     exact absurd i (by decide)
   .
     refine vz 6 (e5 [0,1,2] (oJ [3,4,5] .nil)) (by kernel_rfl) (λ_ _ _ h=>h) (λaM k=>?_);replace E:=E.ei k;have l:=E;refine⟨λw'=>s0 prog 34 w' (N aF) (.int .i64 e),E.aV es (show(O.enc (⟨e⟩:Stop))[0]? =some (.int .i64 e)from Sp ⟨e⟩),?_⟩;refine e3.look rfl rfl rfl (λw a=>(by skip;exact rV (r:=(⟨false,⟨0,0,0⟩,ec,oc 32,ec,ec⟩:oe)) (ps:=oe.parts (⟨false,⟨0,0,0⟩,ec,oc 32,ec,ec⟩:oe)) (cy _) (by first|(simp only[sM,nn,cy,oe.parts,cW,rr.parts];rfl)|rfl) (by(repeat' (first|exact trivial|refine And.intro ?_ ?_))<;>first|rfl|exact O.eT _|(simp;done)) ⟨rfl,rfl⟩)) ?_;refine e3.look rfl rfl rfl (λw a=>(by skip;exact o9 rfl ⟨rfl,rfl⟩)) ?_;refine e3.look rfl rfl rfl (λw a=>(by skip;exact ap rfl (a) ⟨rfl,rfl⟩)) ?_;refine n5 rfl rfl (iV (r:=(⟨false,⟨0,0,0⟩,ec,oc 32,ec,ec⟩:oe)) E rfl rfl es c (tA es λw E=>?_));refine⟨E.aV es (show(O.enc (⟨e⟩:Stop))[0]? =some (.int .i64 e)from Sp ⟨e⟩),?_⟩;refine n5 rfl rfl (iU (b:=Et) (o:=0) (v:=i6 0) (eo:=1) (cs:=#[af]) (iR:=#[i6 0]) E rfl rfl es rfl (Nat.le_refl 1) (o0 _ _) rfl (tA es λw E=>?_));refine⟨E.aV es (show(O.enc (⟨e⟩:Stop))[0]? =some (.int .i64 e)from Sp ⟨e⟩),?_⟩;refine n5 rfl rfl (iU (b:=Ea) (o:=0) (v:=.int .i64 e) (eo:=1) (cs:=#[aT]) (iR:=#[.int .i64 e]) E rfl rfl es rfl (Nat.le_refl 1) (o0 _ _) rfl (tA es λw E=>?_));refine⟨E.aV es (show(O.enc (⟨e⟩:Stop))[0]? =some (.int .i64 e)from Sp ⟨e⟩),?_⟩;exact e3.nil (E.sub aI)
 .
   exact absurd g (by decide)
def GX(rK:tr->World->Prop):Exit->tr->World->Prop
 | .ret,f,w=>rK f w
 |_,_,_=>False
def GJ(w0:World)(xs:List UInt8)(u:Value)(w':World):Prop:=∃(m:oe)(is:List Instr)(t8:List iW),u= .tuple #[.agg (O.enc m),.int .i64 ((uu xs).2.1:Int),i6 (uu xs).2.2]/\xN m is t8 (uu xs).1/\U w0 (fJ m is t8 (uu xs).1) w'
def DN(w0:World)(xs:List UInt8)(aa tZ aF:Nat):Exit->tr->World->Prop:=λe an pn=>∃m fT:FrameMode,(e= .normal/\m= .returning∨e= .ret/\m= .returning∨∃c,e= .panic c/\m= .panicking c)/\m≠ .run/\settle fT= .returning/\
 ∃lo:World->Prop,CallsD prog 301 [N aa,N tZ,N aF].toArray m pn (λe uh la=>uh=fT/\∃x,e= .returned x/\lo la)/\∀la,lo la->∃vs,hY prog an la [.cell 2 46,.cell 3 3,.cell 4 34] vs/\GJ w0 xs (u0 vs) la
theorem Eo{P:Program}(h:p=q)(eM:s0 P T w q v):s0 P T w p v:=h▸eM
theorem eeC(w0:World)(xs:List UInt8)(m:oe)(is:List Instr)(t8:List iW)(tm aa tZ aF r2:Nat)(sG:eu)(b:xN m is t8 (h4 xs (.ok 0)).1)(c:(h4 xs (.ok 0)).2= .ok tm)(e:Exit)(an:tr)(w:World)
 (h:GX (λf w=>f 2=N aa/\f 3=N tZ/\f 4=N aF/\U w0 (fJ m is t8 (h4 xs (.ok 0)).1++sX r2 sG tm::[V aF #[i6 0] 34,V tZ #[i6 tm] 3,V aa (O.enc m) 46]) w) e an w):DN w0 xs aa tZ aF e an w:=by
 cases e with
 |ret=>
  obtain⟨Y,ez,e6,E⟩:=h;have a:uu xs=((h4 xs (.ok 0)).1,tm,0):=by unfold uu;rw[c]
  refine⟨.returning,.returning,.inr (.inl ⟨rfl,rfl⟩),by simp,rfl,_,eeL E,λd E=>?_⟩;unfold fJ at E;simp only[List.cons_append,List.nil_append]at E;refine⟨_,.cell (Eo Y (E.nZ (cs:=O.enc m) es (by exact O.eT _))) (.cell (Eo ez (E.aV (v:=i6 tm) (cs:=#[i6 tm]) es rfl)) (.cell (Eo e6 (E.aV (v:=i6 0) (ek:=34) (cs:=#[i6 0]) es rfl)) .nil)),m,is,t8,?_,?_,?_⟩
  .rw[a];rfl
  .rw[a];exact b
  rw[a];unfold fJ;exact E.sub aI
 |_=>exact(h:False).elim
theorem eeU(b:(h4 xs (.ok 0)).2= .error e)(E:U w0 (sX r2 sG tm::[V aF #[i6 0] 34,V tZ #[i6 0] 3,V aa (O.enc (⟨false,⟨0,0,0⟩,ec,oc 32,ec,ec⟩:oe)) 46]) w)
 (Y:an 2=N aa) (ez:an 3=N tZ) (e6:an 4=N aF):DN w0 xs aa tZ aF (.panic [s3 (mD e)]) an w:=by
 have a:uu xs=(Sy,0,e):=by unfold uu;rw[b]
 have E:=((E.pick (e:=V aF #[i6 0] 34) es).pick (e:=V tZ #[i6 0] 3) es).pick (e:=V aa (O.enc (⟨false,⟨0,0,0⟩,ec,oc 32,ec,ec⟩:oe)) 46) es;refine⟨.panicking [s3 (mD e)],.panicking [{v:=mD e,recovered:=true}],.inr (.inr ⟨_,rfl,rfl⟩),by simp,rfl,_,eeD (by exact O.eT _) E,λc E=>?_⟩;refine⟨_,.cell (Eo Y (E.nZ (cs:=O.enc (⟨false,⟨0,0,0⟩,ec,oc 32,ec,ec⟩:oe)) es (by exact O.eT _))) (.cell (Eo ez (E.aV (v:=i6 0) (ek:=3) (cs:=#[i6 0]) es rfl)) (.cell (Eo e6 (E.aV (v:=.int .i64 e) (ek:=34) (cs:=#[.int .i64 e]) es rfl)) .nil)),(⟨false,⟨0,0,0⟩,ec,oc 32,ec,ec⟩:oe),[],[],?_,?_,?_⟩
 .rw[a];rfl
 .rw[a];exact⟨rfl,rfl,rfl,rfl,rfl,rfl,rfl,(show(0:Nat)<65536 by decide),(show(0:Nat)<65536 by decide),(show(0:Nat)<65536 by decide)⟩
 rw[a];exact U.lD ((U.lD ((E.sub (List.nil_sublist _)).vW) 221).vW.lD 230) 60
theorem eeM(t:ev w0 sG.v xs)(u:xs.length<=1000000000):eJ 228 #[sG.v] w0 (GJ w0 xs):=by
 refine QI (n:=17) (args:=[sG.v]) (gc:=301) (d:=6) (rK:=λf w'=>∃aa tZ aF,oW [(0,sG.v),(2,N aa),(3,N tZ),(4,N aF)] f/\U w0 [V aF #[i6 0] 34,V tZ #[i6 0] 3,V aa (O.enc (⟨false,⟨0,0,0⟩,ec,oc 32,ec,ec⟩:oe)) 46] w') (cs:=λf=>[f 2,f 3,f 4]) func228 rfl ntmps228 results228 rfl rfl ?_ (λ_=>rfl) ?_
 .have E:=eG w0;refine eI 4 E λaa tZ aF w E=>?_;rw[DO]at E;refine ew 1 E λw E=>?_;exact⟨rfl,aa,tZ,aF,⟨rfl,rfl,rfl,rfl,trivial⟩,E⟩
 rintro f w l D ⟨aa,tZ,aF,i,E⟩ eM _;obtain⟨j,p,q,s,_⟩:=i;obtain rfl:l=[N aa,N tZ,N aF]:=by rw[<-eM,<-p,<-q,<-s]
 show ex _ _ _ (DN w0 xs aa tZ aF) _ _;refine io [(0,sG.v),(2,N aa),(3,N tZ),(4,N aF)] ⟨j,p,q,s,trivial⟩ (λg=>?_);refine eI 3 E λw E=>?_;refine ag 2 E (p0 (⟨sG,((0:Nat):Int)⟩:ms)) λr2 w E=>?_;replace E:=E.pick (e:=sX r2 sG 0) .nU;refine ew 2 E λw E=>?_;refine lK (λf w=>∃(m:oe)(is:List Instr)(t8:List iW)(tm:Nat),oW [(2,N aa),(3,N tZ),(4,N aF),(5,N r2)] f/\xN m is t8 (h4 xs (.ok 0)).1/\(h4 xs (.ok 0)).2= .ok tm/\U w0 (fJ m is t8 (h4 xs (.ok 0)).1++sX r2 sG tm::[V aF #[i6 0] 34,V tZ #[i6 0] 3,V aa (O.enc m) 46]) w) ?_ ?_
 .
   refine eI 2 E λw E=>?_;refine dd rfl (rX.call (eeA t u (Nat.zero_le _) E) rfl ?_ ?_)
   .rintro ov w ⟨e,tm,c,rfl,E⟩;exact eeU c E rfl rfl rfl
   rintro _ w ⟨m,is,t8,tm,rfl,k,c,x,E⟩;unfold fJ at E;simp only[List.cons_append,List.nil_append]at E;refine ew 3 E λw E=>?_;exact⟨m,is,t8,tm,⟨rfl,rfl,rfl,rfl,trivial⟩,k,c,E⟩
 .
   rintro f w ⟨m,is,t8,tm,i,k,c,E⟩;refine io _ i (λg=>?_);clear i;refine ex.mono (Q:=GX (λf w=>f 2=N aa/\f 3=N tZ/\f 4=N aF/\U w0 (fJ m is t8 (h4 xs (.ok 0)).1++sX r2 sG tm::[V aF #[i6 0] 34,V tZ #[i6 tm] 3,V aa (O.enc m) 46]) w)) ?_ (eeC w0 xs m is t8 tm aa tZ aF r2 sG k c);unfold fJ at E⊢;simp only[List.cons_append,List.nil_append]at E⊢;refine eI 1 E λw E=>?_;refine T1 8 (e5 [0,1,2,3,4] (oJ [5,6,7] .nil)) (by kernel_rfl) (λ_ _ _ _ h=>h) (λaM y=>?_);replace E:=E.ei y;have z:=E;refine⟨λw'=>s0 prog 46 w' (N aa) (.agg (O.enc m))/\s0 prog 3 w' (.pointer (some ⟨r2,1,none⟩)) (i6 tm),⟨E.nZ (cs:=O.enc m) es (by exact O.eT _),E.aV es (show(O.enc (⟨sG,(tm:Int)⟩:ms))[1]? =some (i6 tm)from Sf _)⟩,?_⟩;refine e3.look rfl rfl rfl (λw a=>(by skip;exact ap rfl (a.1) ⟨rfl,rfl⟩)) ?_;refine e3.look rfl rfl rfl (λw a=>(by skip;exact oM (v:=N r2) rfl ⟨rfl,rfl⟩)) ?_;refine e3.look rfl rfl rfl (λw a=>(by skip;exact sS rfl ⟨rfl,rfl⟩)) ?_;refine e3.look rfl rfl rfl (λw a=>(by skip;exact o9 rfl ⟨rfl,rfl⟩)) ?_;refine e3.look rfl rfl rfl (λw a=>(by skip;exact ap rfl (a.2) ⟨rfl,rfl⟩)) ?_;refine n5 rfl rfl (iV (r:=m) E rfl rfl es (by exact O.eT _) (tA es λw E=>?_));refine⟨⟨E.nZ (cs:=O.enc m) es (by exact O.eT _),E.aV es (show(O.enc (⟨sG,(tm:Int)⟩:ms))[1]? =some (i6 tm)from Sf _)⟩,?_⟩;refine n5 rfl rfl (iU (b:=tZ) (o:=0) (v:=i6 tm) (eo:=1) (cs:=#[i6 0]) (iR:=#[i6 tm]) E rfl rfl es rfl (Nat.le_refl 1) (o0 _ _) rfl (tA es λw E=>?_));refine⟨⟨E.nZ (cs:=O.enc m) es (by exact O.eT _),E.aV es (show(O.enc (⟨sG,(tm:Int)⟩:ms))[1]? =some (i6 tm)from Sf _)⟩,?_⟩;refine n5 rfl rfl (iU (b:=aF) (o:=0) (v:=i6 0) (eo:=1) (cs:=#[i6 0]) (iR:=#[i6 0]) E rfl rfl es rfl (Nat.le_refl 1) (o0 _ _) rfl (tA es λw E=>?_));refine⟨⟨E.nZ (cs:=O.enc m) es (by exact O.eT _),E.aV es (show(O.enc (⟨sG,(tm:Int)⟩:ms))[1]? =some (i6 tm)from Sf _)⟩,?_⟩;exact e3.nil (s4 2 E λw E=>(⟨rfl,rfl,rfl,E⟩))
end
section
open Go.Proofs
variable{c:yN}{e:Int}{i k n t:Nat}{au is:List Instr}{l:List ((eu×List UInt8)×(eu×List UInt8))}{sn t8:List iW}{m:oe}{p:(eu×List UInt8)×(eu×List UInt8)}{sG:eu}{w w' w0 en:World}{xs:List UInt8}
def lF(xs:List UInt8):sA->Prop
 | .ok a=>a<=xs.length
 | .error _=>True
theorem Sq:∀{s:sA},lF xs s->lF xs (cY xs n s).2
 | .error _,_=>trivial
 | .ok a,h=>by
   have e:cY xs n (.ok a)=if n<=xs.length-a then((xs.drop a).take n,.ok (a+n))else([],.error 5):=rfl
   rw[e];split
   .show a+n<=xs.length;have h:a<=xs.length:=h;omega
   trivial
theorem Sz:∀s:sA,(cY xs n s).1.length<=xs.length
 | .error _=>Nat.zero_le _
 | .ok a=>by
   have e:cY xs n (.ok a)=if n<=xs.length-a then((xs.drop a).take n,.ok (a+n))else([],.error 5):=rfl
   rw[e];split
   .show((xs.drop a).take n).length<=xs.length;simp;omega
   exact Nat.zero_le _
theorem G0:∀{s:sA},lF xs s->lF xs (nR xs s).2
 | .error _,_=>trivial
 | .ok a,h=>by
   cases Y:(nR xs (.ok a)).2 with
   |ok b=>exact GG h Y
   |error _=>trivial
theorem G1{α:Type}{xs:List UInt8}{one:sA->α×sA}(G:∀s,lF xs s->lF xs (one s).2):∀(n:Nat)(s:sA),lF xs s->lF xs (lT one n s).2
 |0,_,h=>h
 |_+1,.error _,_=>trivial
 |n+1,.ok a,h=>G1 G n _ (G _ h)
theorem DS{α:Type}{p:α->Prop}{one:sA->α×sA}(G:∀s,p (one s).1):∀(n:Nat)(s:sA),∀x∈(lT one n s).1,p x
 |0,_,x,h=>by cases h
 |_+1,.error _,x,h=>by cases h
 |n+1,.ok a,x,h=>by
  rcases List.mem_cons.1 h with rfl|h
  .exact G _
  exact DS G n _ x h
theorem eeP{xs:List UInt8}{s:sA}(h:lF xs s):lF xs (h4 xs s).2:=by
 have b:∀s,lF xs s->lF xs (mr xs s).2:=λs h=>Sq (G0 h);have j:∀s,lF xs s->lF xs (rg xs s).2:=λs h=>b _ (b _ (Sq h));have g:∀s,lF xs s->lF xs (hy xs s).2:=λs h=>Sq h;have k:∀s,lF xs s->lF xs (rC xs s).2:=λs h=>b _ (b _ (g _ h));have i:∀{α:Type}{one:sA->α×sA},(∀s,lF xs s->lF xs (one s).2) ->∀s,lF xs s->lF xs (sC xs one s).2:=λG s h=>G1 G _ _ (G0 h);have d:∀s,lF xs s->lF xs (sP xs s).2:=λs h=>Sq h;have l:lF xs (fK xs s).2:=by
  have G:=d s h;unfold fK;generalize sP xs s=f at G;obtain⟨c,f2⟩:=f;have Y:lF xs (match(generalizing:=false) f2 with| .ok a=>if 128<c.toNat then(.error 4:sA)else .ok a| .error e=>.error e):=by
   cases f2 with
   |ok a=>show lF xs (if _ then _ else _);split;trivial;exact G
   |error e=>trivial
  simp only;split
  .exact d _ Y
  exact Y
 unfold h4;have ez:=i j _ (g _ (i g _ (d _ (d _ l))));show lF xs (if(fK xs s).1.2=true then sC xs (rC xs) _ else([],_)).2;split
 .exact i k _ ez
 exact ez
theorem eeG(b:uu xs=(c,t,e)):t<=xs.length:=by
 have h:lF xs (h4 xs (.ok 0)).2:=eeP (Nat.zero_le _);unfold uu at b;cases Y:(h4 xs (.ok 0)).2 with
 |ok a=>rw[Y]at b h;cases b;exact h
 |error e=>rw[Y]at b;cases b;exact Nat.zero_le _
theorem eeW(a:uu xs=(c,t,e)):True/\True/\t<=xs.length/\True:=⟨trivial,trivial,eeG a,trivial⟩
def pp{α:Type}(n:Nat)(l:List (α×List UInt8×List UInt8)):Prop:=∀c∈l,c.2.1.length<=n/\c.2.2.length<=n
theorem eeY(d:uu xs=(c,t,e)):pp xs.length c.au/\pp xs.length c.sn:=by
 unfold uu at d;cases Y:(h4 xs (.ok 0)).2 with
 |ok a=>
  rw[Y]at d;cases d;refine⟨λc b=>?_,λc b=>?_⟩
  .exact DS (p:=λc=>c.2.1.length<=xs.length/\c.2.2.length<=xs.length) (one:=rg xs) (λs=>⟨Sz _,Sz _⟩) _ _ c b
  unfold h4 at b;simp only at b;split at b
  .exact DS (p:=λc=>c.2.1.length<=xs.length/\c.2.2.length<=xs.length) (one:=rC xs) (λs=>⟨Sz _,Sz _⟩) _ _ c b
  cases b
 |error e=>rw[Y]at d;cases d;exact⟨λc b=>(by cases b),λc b=>(by cases b)⟩
theorem G2{α:Type}{n:Nat}:∀{l:List (α×List UInt8×List UInt8)},pp n l->hI l<=l.length*(2*n)
 |[],_=>Nat.zero_le _
 |x::l,h=>by
  have a:=G2 (l:=l) λc b=>h c (List.mem_cons_of_mem _ b);have G:=h x List.mem_cons_self;simp only[hI,List.map_cons,List.sum_cons,List.length_cons]at a⊢;rw[Nat.add_mul];omega
theorem G3(h:(hQ l).A w)(a:p∈l):ev w p.1.1.v p.1.2/\ev w p.2.1.v p.2.2:=by
 rw[Sb,pK]at h;have G:=h.2 (B p.1.1.v 5 p.1.2) (List.mem_flatMap.2 ⟨p,a,by simp⟩);have Y:=h.2 (B p.2.1.v 5 p.2.2) (List.mem_flatMap.2 ⟨p,a,by simp⟩);rw[dv]at G Y;exact⟨G.ef,Y.ef⟩
theorem G4{α a b:Type}{f:α->b}{g:a->b}{xs:List α}{ys:List a}(h:xs.map f=ys.map g)(G:i<xs.length)(Y:i<ys.length):f xs[i]=g ys[i]:=by
 have:=congrArg (λl=>l[i]?) h;simpa[G,Y]using this
theorem eeB(h:xN m is t8 c)(E:U en (fJ m is t8 c) w):GF w m c is t8:=by
 obtain⟨G,Y,ez,e6,ac,aW,nf,_,_,_⟩:=h;have b:=(E.all (hQ (dQ is c.au)) (by simp[fJ])).1;have d:=(E.all (hQ (fX t8 c.sn)) (by simp[fJ])).1;refine⟨G,Y,ez,E.ef .em,E.ef .G,⟨e6,λi f g=>?_⟩,E.ef .ez,⟨aW,λi f g=>?_⟩⟩
 .have a:i<(dQ is c.au).length:=by unfold dQ;rw[List.length_zipWith];omega
  have e:(dQ is c.au)[i]=((is[i].cG,c.au[i].2.1),(is[i].data,c.au[i].2.2)):=List.getElem_zipWith (h:=a);have:=G3 b (p:=((is[i].cG,c.au[i].2.1),(is[i].data,c.au[i].2.2))) (by rw[<-e];exact List.getElem_mem a);exact⟨G4 ac f g,this.1,this.2⟩
 have a:i<(fX t8 c.sn).length:=by unfold fX;rw[List.length_zipWith];omega
 have e:(fX t8 c.sn)[i]=((t8[i].iO,c.sn[i].2.1),(t8[i].p3,c.sn[i].2.2)):=List.getElem_zipWith (h:=a);have:=G3 d (p:=((t8[i].iO,c.sn[i].2.1),(t8[i].p3,c.sn[i].2.2))) (by rw[<-e];exact List.getElem_mem a);exact⟨G4 nf f g,this.1,this.2⟩
theorem eeX(a:ev w0 sG.v xs)(b:xs.length<=1000000000)(d:uu xs=(c,t,e)):
 eJ 228 #[sG.v] w0 (λu w'=>∃(m:oe)(is:List Instr)(t8:List iW),u= .tuple #[.agg (O.enc m),i6 t,.int .i64 e]/\xN m is t8 c/\U w0 (fJ m is t8 c) w'):=by
 refine nk.mono (eeM a b) ?_;rintro u w' ⟨m,is,t8,G,Y,ez⟩;rw[d]at G Y ez;exact⟨m,is,t8,G,Y,ez⟩
structure nD where
 sigs:List (Vector UInt8 64)
 m:yN
deriving DecidableEq
variable{x:nD}
def A6(w:World)(t:oF)(x:nD)(au:List Instr)(sn:List iW):Prop:=ev w t.sigs.v x.sigs/\GF w t.m x.m au sn
def p5(k:Nat)(ys:List UInt8):List (Vector UInt8 64):=(List.range k).map λi=>mL 64 ((ys.drop (64*i)).take 64)
theorem eeJ(k:Nat)(ys:List UInt8):(p5 k ys).length=k:=by simp[p5]
theorem eeQ(k:Nat)(ys:List UInt8):p5 (k+1) ys=p5 k ys++[mL 64 ((ys.drop (64*k)).take 64)]:=by simp[p5,List.range_succ]
def g0:nD:=⟨[],Sy⟩
def uH(xs:List UInt8):nD×Nat×Int:=
 if(gs xs 0 0).2.2=0 then
  (if xs.length-(gs xs 0 0).2.1.toNat<64*(gs xs 0 0).1.toNat then(g0,0,5)else
   if(uu (xs.drop ((gs xs 0 0).2.1.toNat+64*(gs xs 0 0).1.toNat))).2.2=0 then
    (⟨p5 (gs xs 0 0).1.toNat (xs.drop (gs xs 0 0).2.1.toNat),(uu (xs.drop ((gs xs 0 0).2.1.toNat+64*(gs xs 0 0).1.toNat))).1⟩,(gs xs 0 0).2.1.toNat+64*(gs xs 0 0).1.toNat+(uu (xs.drop ((gs xs 0 0).2.1.toNat+64*(gs xs 0 0).1.toNat))).2.1,0)
   else(g0,0,(uu (xs.drop ((gs xs 0 0).2.1.toNat+64*(gs xs 0 0).1.toNat))).2.2))
 else(g0,0,(gs xs 0 0).2.2)
def nG(xs:List UInt8):nD×Int:=if 1232<xs.length then(g0,3)else if(uH xs).2.2=0 then(if(uH xs).2.1<xs.length then(g0,4)else((uH xs).1,0))else(g0,(uH xs).2.2)
def pg(t:oF)(is:List Instr)(t8:List iW)(x:nD):Prop:=xN t.m is t8 x.m
def p6(t:oF)(is:List Instr)(t8:List iW)(x:nD):List eL:=B t.sigs.v 251 x.sigs::fJ t.m is t8 x.m
def G6(w0:World)(xs:List UInt8)(u:Value)(w':World):Prop:=∃(t:oF)(is:List Instr)(t8:List iW),u= .tuple #[.agg (O.enc t),.int .i64 ((uH xs).2.1:Int),i6 (uH xs).2.2]/\pg t is t8 (uH xs).1/\U w0 (p6 t is t8 (uH xs).1) w'
def G7(w0:World)(xs:List UInt8)(u:Value)(w':World):Prop:=∃(t:oF)(is:List Instr)(t8:List iW),u= .tuple #[.agg (O.enc t),i6 (nG xs).2]/\pg t is t8 (nG xs).1/\U w0 (p6 t is t8 (nG xs).1) w'
theorem En:xN (⟨false,⟨0,0,0⟩,ec,oc 32,ec,ec⟩:oe) [] [] Sy:=⟨rfl,rfl,rfl,rfl,rfl,rfl,rfl,(show(0:Nat)<65536 by decide),(show(0:Nat)<65536 by decide),(show(0:Nat)<65536 by decide)⟩
theorem Es(E:U w0 [] w):U w0 (p6 (⟨ec,⟨false,⟨0,0,0⟩,ec,oc 32,ec,ec⟩⟩:oF) [] [] g0) w:=
 U.lD (U.lD ((U.lD (E.vW) 221).vW.lD 230) 60) 251
theorem DR(h:(gs xs 0 0).2.2≠0):uH xs=(g0,0,(gs xs 0 0).2.2):=by unfold uH;rw[if_neg h]
theorem eeZ(h:(gs xs 0 0).2.2=0)(Y:xs.length-(gs xs 0 0).2.1.toNat<64*(gs xs 0 0).1.toNat):uH xs=(g0,0,5):=by unfold uH;rw[if_pos h,if_pos Y]
theorem ee0(h:(gs xs 0 0).2.2=0)(Y:¬xs.length-(gs xs 0 0).2.1.toNat<64*(gs xs 0 0).1.toNat)(a:uu (xs.drop ((gs xs 0 0).2.1.toNat+64*(gs xs 0 0).1.toNat))=(c,t,e)):
 uH xs=if e=0 then(⟨p5 (gs xs 0 0).1.toNat (xs.drop (gs xs 0 0).2.1.toNat),c⟩,(gs xs 0 0).2.1.toNat+64*(gs xs 0 0).1.toNat+t,0)else(g0,0,e):=by
 unfold uH;rw[if_pos h,if_neg Y,a]
theorem yS:(eK [#[eF],eK [#[.bool false],eK [#[.int .u8 0],#[.int .u8 0],#[.int .u8 0]],#[eF],(Array.replicate 32 (.int .u8 0)),#[eF],#[eF]]])=O.enc (⟨ec,⟨false,⟨0,0,0⟩,ec,oc 32,ec,ec⟩⟩:oF):=by
 simp only[dm,oF.parts,nn,cy,oe.parts,cW,rr.parts];rfl
open Tryz
variable{S:List eL}{l:List (Vector UInt8 64)}{ae tk v o3:eu}{p:Nat}{oL:oF}{ys:List UInt8}
structure rz where
 tQ:oF
 left:eu
variable{x:rz}
def rz.parts(x:rz):List (Array Value):=[O.enc x.tQ,#[x.left.v]]
theorem ee1(x:rz):x.parts.map Array.size=[40,1]:=by
 simp only[rz.parts,List.map,O.eT];rfl
instance:O rz where
 enc x:=eK x.parts
 eo:=41
 pos:=by omega
 eT x:=by rw[iw,ee1];rfl
 one x:=rY (all_cons (O.one _) (all_cons (O.one (α:=eu) _) rB))
theorem G8(x:rz):O.enc x=eK x.parts:=rfl
theorem A7(x:rz):(O.enc x).extract 0 (0+40)=O.enc x.tQ:=pV [] [#[x.left.v]] _ sH (by rw[O.eT];rfl)
theorem DH(x:rz):(O.enc x)[40]? =some (x.left.v):=hp [O.enc x.tQ] [] _ sH
theorem G9(x:rz)(v:oF):iH (O.enc x) 0 (O.enc v)=O.enc {x with tQ:=v}:=by
 have h:=rG [] [#[x.left.v]] (O.enc x.tQ) (O.enc v) (by first|(rw[O.eT,O.eT];done)|rfl);rw[show(eK []).size=0 from sH]at h;exact h
theorem ee2(x:rz):(O.enc x)[0]? =some (x.tQ.sigs.v):=vE (i:=0) (A7 x) (Du x.tQ) (by decide)
theorem We(x:rz)(v:eu):iH (O.enc x) 0 #[v.v]=O.enc {x with tQ:={x.tQ with sigs:=v}}:=by
 have h:=A4 (cs:=O.enc x) (v:=#[v.v]) (o:=0) (n:=40) (i:=0) (show 0+1<=40 by decide) (by rw[O.eT];decide);rw[A7,GS,G9]at h;exact h
instance:nt x [O.enc x.tQ,#[x.left.v]]:=⟨rfl⟩
instance(priority:=2000):nt (⟨oL,o3⟩:rz) [O.enc oL,#[o3.v]]:=⟨rfl⟩
instance:st (O.enc x) 40 #[v.v] (O.enc {x with left:=v}):=rq
theorem ee3(a:ev en ae.v ys)(eM:l.length<=70000)(j:U en (V p (O.enc (⟨⟨tk,(⟨false,⟨0,0,0⟩,ec,oc 32,ec,ec⟩:oe)⟩,ae⟩:rz)) 438::B tk.v 251 l::S) w0):eJ 227 #[N p] w0 (λu w'=>∃b,u= .bool b/\((b=false/\ys.length<64/\U en (V p (O.enc (⟨⟨tk,(⟨false,⟨0,0,0⟩,ec,oc 32,ec,ec⟩:oe)⟩,ae⟩:rz)) 438::B tk.v 251 l::S) w')∨(b=true/\64<=ys.length/\∃f iY:eu,ev en iY.v (ys.drop 64)/\U en (V p (O.enc (⟨⟨f,(⟨false,⟨0,0,0⟩,ec,oc 32,ec,ec⟩:oe)⟩,iY⟩:rz)) 438::B f.v 251 (l++[mL 64 (ys.take 64)])::S) w'))):=by
 have:=aS a;refine eH 16 j func227 ntmps227 results227 rfl<|om 8 3 (λk w E=>?_) (λk w E=>?_)
 .
   exact⟨false,rfl,.inl ⟨rfl,by omega,E⟩⟩
 .
   refine nV 10 14 (e5 [0,1,2,3,4,5,6,7,8,9,10] (.one 11 (.look 12 (oJ [13,14,15,16,17,18] .nil)))) [] E λw E=>?_;refine tw rfl (λw E=>hq (a.ei E.J) (xs:=ys) (l:=0) (h':=64) (m:=s1 ae.v) ⟨rfl,Nat.le_refl _⟩ ⟨⟨_,rfl⟩,by have:=(a.ei E.J).cap;omega⟩ ⟨rfl,Nat.zero_le _⟩ eY) (ol rfl (LN (n:=64) (xs:=(ys.take 64)) rfl ((a.ei E.J).cut (l:=0) (h:=64) (m:=s1 ae.v) (Nat.zero_le _) (by omega) (by have:=(a.ei E.J).cap;omega) (Nat.le_refl _)) (by rw[List.length_take];omega) (by omega) ?_));refine⟨pm E,?_⟩;refine fY 0 E (hT λw E=>((ev.key (n:=63) (xs:=(ys.take 64)) ((a.ei E.J).cut (l:=0) (h:=64) (m:=s1 ae.v) (Nat.zero_le _) (by omega) (by have:=(a.ei E.J).cap;omega) (Nat.le_refl _)) (by rw[List.length_take];omega))).nZ (O.eT _)) λw E=>?_;refine ol rfl (n4 E (([mL 64 (ys.take 64)]:List (Vector UInt8 64))) [.agg (O.enc (mL 64 (ys.take 64)))] rfl rfl rfl rfl (by decide) ?_);intro q w s E;refine⟨pm E,?_⟩;refine hA rfl (dS (α:=Vector UInt8 64) (v:=tk.v) (xs:=l) rfl E rfl es (E.ef (v:=e4 q 1 1) (xs:=[mL 64 (ys.take 64)]) es) (by simp only[List.length_cons,List.length_nil];omega) (by simp only[List.length_cons,List.length_nil,maxLen];omega) ?_);intro r w E;replace E:=E _ es;obtain⟨c,rfl⟩:=(E.ef (v:=r) (xs:=l++[mL 64 (ys.take 64)]) es).u9;refine ao 3 E λw E=>?_;refine nP rfl (iU (b:=p) (o:=0) (v:=c.v) (eo:=1) (cs:=O.enc (⟨⟨tk,(⟨false,⟨0,0,0⟩,ec,oc 32,ec,ec⟩:oe)⟩,ae⟩:rz)) (iR:=O.enc (⟨⟨c,(⟨false,⟨0,0,0⟩,ec,oc 32,ec,ec⟩:oe)⟩,ae⟩:rz)) E rfl rfl es rfl (by rw[O.eT];decide) (O.one (α:=eu) c) (We (⟨⟨tk,(⟨false,⟨0,0,0⟩,ec,oc 32,ec,ec⟩:oe)⟩,ae⟩:rz) c) (tA es λw E=>?_));refine ao 9 E λw E=>?_;refine ea (hq (a.ei E.J) (xs:=ys) (l:=64) (h':=ys.length) (m:=s1 ae.v) ⟨rfl,Nat.le_refl _⟩ ⟨⟨rfl,rfl⟩,(a.ei E.J).cap⟩ ⟨⟨_,rfl⟩,by omega⟩ ?_);have d:ev en (nT ae.v 64 ys.length (s1 ae.v) (O.eo UInt8)) (ys.drop 64):=by
    have G:=a.cut (l:=64) (h:=ys.length) (m:=s1 ae.v) (by omega) (Nat.le_refl _) a.cap (Nat.le_refl _);rw[List.take_length]at G;exact G
   obtain⟨g,i⟩:=d.u9;rw[i]at d;show tn _ _ _ _ _ (o2 _ _ (nT ae.v 64 ys.length (s1 ae.v) (O.eo UInt8))) _;rw[i];refine ew 12 E λw E=>?_;exact⟨true,rfl,.inr ⟨rfl,by omega,c,g,d,((E.pick (e:=B c.v 251 (l++[mL 64 (ys.take 64)])) es).pick (e:=V p (O.enc (⟨⟨c,(⟨false,⟨0,0,0⟩,ec,oc 32,ec,ec⟩:oe)⟩,g⟩:rz)) 438) es).sub aI⟩⟩
variable{h l m z:Nat}{s o8:eu}{v:Value}{xs:List (Vector UInt8 64)}
theorem ee4(a:ev w0 v xs):tN 229 #[v] w0 (nT v 0 xs.length xs.length (O.eo ((Vector UInt8 64)))):=by
 have:=aS a;refine eH 12 (eG _) func229 ntmps229 results229 rfl λw E=>?_;exact ea (hq (a.ei E.J) ⟨⟨_,rfl⟩,a.cap⟩ ⟨⟨_,rfl⟩,Nat.le_refl _⟩ ⟨rfl,Nat.zero_le _⟩ (ew 5 E λw E=>(⟨rfl,E.J⟩)))
theorem ee5(x:rz)(v:oe):iH (O.enc x) 1 (O.enc v)=O.enc {x with tQ:={x.tQ with m:=v}}:=by
 have h:=A4 (cs:=O.enc x) (v:=O.enc v) (o:=0) (n:=40) (i:=1) (by rw[O.eT];decide) (by rw[O.eT];decide);rw[A7,Sr,G9]at h;exact h
theorem Wo:∃u:eu,nT s.v l h m z=u.v:=⟨⟨_,_,_⟩,rfl⟩
theorem ee6:(eK [eK [#[eF],eK [#[.bool false],eK [#[.int .u8 0],#[.int .u8 0],#[.int .u8 0]],#[eF],(Array.replicate 32 (.int .u8 0)),#[eF],#[eF]]],#[eF]])=O.enc (⟨⟨ec,(⟨false,⟨0,0,0⟩,ec,oc 32,ec,ec⟩:oe)⟩,ec⟩:rz):=by
 simp only[G8,rz.parts,nn,dm,oF.parts,cy,oe.parts,cW,rr.parts];rfl
theorem ee7{xs:List UInt8}(u:ev w0 o8.v xs)(iy:xs.length<=1000000000):eJ 159 #[o8.v] w0 (G6 w0 xs):=by
 refine nk.enter (args:=[o8.v]) func159 rfl ntmps159 results159 rfl ?_;have E:=eG w0;refine ex.seq (λfQ h5=>(ex.region (ea (sV E ?_))));intro aa w _ E;refine ea (iM rfl (ea (iM rfl ?_)));rw[yS]at E;refine tn.nil ?_;refine aE (h5 _ _ (ex.seq (λfZ h6=>(ex.region (ea (oM (v:=o8.v) rfl (ea (Z.call (GM (u.ei E.J)) rfl ?_))))))));rintro _ w ⟨rfl,a⟩;replace E:=E.ei a;refine ea (oM (v:=.tuple #[i6 (gs xs 0 0).1,i6 (gs xs 0 0).2.1,i6 (gs xs 0 0).2.2]) rfl (ea (Z.extract rfl rfl (ea (Z.extract rfl rfl (ea (Z.extract rfl rfl (ea (iM rfl (ea (iM rfl (ea (iM rfl ?_)))))))))))));refine tn.nil ?_;refine aE (h6 _ _ (ex.seq (λyR cv=>(ex.seq (λbC um=>(ex.region (ea (oD rfl (ea (Z.neq rfl rfl ?_))))))))));refine tn.nil ?_;refine aE (um _ _ ?_);refine ex.cond _ rfl (λx=>?_) (λx=>?_)
 .
   have M:=x
   try simp only[rs]at x
   have em:(gs xs 0 0).2.2≠0:=by simpa using M
   refine ex.seq (λbU cV=>(ex.region (ea (rV (r:=(⟨ec,⟨false,⟨0,0,0⟩,ec,oc 32,ec,ec⟩⟩:oF)) (ps:=oF.parts (⟨ec,⟨false,⟨0,0,0⟩,ec,oc 32,ec,ec⟩⟩:oF)) (dm _) (by simp only[sM,nn,cW,rr.parts,cy,oe.parts,dm,oF.parts];rfl) (by(repeat' (first|exact trivial|refine And.intro ?_ ?_))<;>first|rfl|exact O.eT _|(simp;done)) ?_))));refine ea (oD rfl (oA (iV (b:=aa) (r:=(⟨ec,⟨false,⟨0,0,0⟩,ec,oc 32,ec,ec⟩⟩:oF)) E rfl rfl es (by exact O.eT _) (tA es λw E=>(ea (iM rfl (ea (iM rfl ?_))))))));refine tn.nil ?_;refine aE (cV _ _ ?_);refine ex.ret ?_;refine pP ?_;refine cI (.cell (by exact E.nZ es (by exact O.eT _)) (.hB rfl (.hB rfl .nil))) ?_;refine⟨(⟨ec,⟨false,⟨0,0,0⟩,ec,oc 32,ec,ec⟩⟩:oF),[],[],by rw[DR em];rfl,by rw[DR em];exact En,?_⟩;rw[DR em];exact Es (E.sub (List.nil_sublist _))
 .
   have M:=x
   try simp only[rs]at x
   have em:(gs xs 0 0).2.2=0:=by simpa using M
   have j2:=AK xs 0 0 (by omega) (by omega);obtain⟨n,tp⟩:∃n:Nat,(gs xs 0 0).1=(n:Int):=⟨(gs xs 0 0).1.toNat,by omega⟩;obtain⟨t,tq⟩:∃t:Nat,(gs xs 0 0).2.1=(t:Int):=⟨(gs xs 0 0).2.1.toNat,by omega⟩;have F:(gs xs 0 0).1.toNat=n:=by omega
   have H:(gs xs 0 0).2.1.toNat=t:=by omega
   have Eh:t<=xs.length:=by have:=j2.2.2.2 em;omega
   have ewz:n<65536:=by omega
   rw[tp,tq];refine ex.skip ?_;refine aE (cv _ _ (ex.seq (λwP dZ=>(ex.region (ea (oM (v:=o8.v) rfl (ea (oD rfl (ea (hq (u.ei E.J) (xs:=xs) (l:=t) (h':=xs.length) (m:=s1 o8.v) ⟨rfl,Nat.le_refl _⟩ ⟨⟨rfl,rfl⟩,(u.ei E.J).cap⟩ ⟨⟨_,rfl⟩,by omega⟩ ?_))))))))));have fa:ev w0 (nT o8.v t xs.length (s1 o8.v) (O.eo UInt8)) (xs.drop t):=by
    have G:=u.cut (l:=t) (h:=xs.length) (m:=s1 o8.v) (by omega) (Nat.le_refl _) u.cap (Nat.le_refl _);rw[List.take_length]at G;exact G
   obtain⟨y,Wi⟩:=Wo;rw[Wi]at fa;show tn _ _ _ _ _ (o2 _ _ (nT o8.v t xs.length (s1 o8.v) (O.eo UInt8))) _;rw[Wi];refine ea (rV (r:=(⟨⟨ec,(⟨false,⟨0,0,0⟩,ec,oc 32,ec,ec⟩:oe)⟩,y⟩:rz)) (ps:=rz.parts (⟨⟨ec,(⟨false,⟨0,0,0⟩,ec,oc 32,ec,ec⟩:oe)⟩,y⟩:rz)) (G8 _) (by simp only[sM,nn,cW,rr.parts,cy,oe.parts,dm,oF.parts,rz.parts];rfl) (by(repeat' (first|exact trivial|refine And.intro ?_ ?_))<;>first|rfl|exact O.eT _|(simp;done)) ?_);refine ea (sV E ?_);intro p w _ E;refine oA (iV (r:=(⟨⟨ec,(⟨false,⟨0,0,0⟩,ec,oc 32,ec,ec⟩:oe)⟩,y⟩:rz)) E rfl rfl es (by rw[ee6];exact O.eT _) (tA es λw E=>?_));refine tn.nil ?_;refine aE (dZ _ _ (ex.seq (λyH ck=>(ex.seq (λxR fc=>(ex.region (ea (oD rfl (ea (oD rfl ?_))))))))));refine tn.nil ?_;refine aE (fc _ _ ?_);refine ex.block ?_;refine ex.loop (λq f w=>∃(k:Nat)(tk ae:eu),oW [(0,o8.v),(2,N aa),(6,N p),(23,i6 n),(24,i6 k)] f/\U w0 [V p (O.enc (⟨⟨tk,(⟨false,⟨0,0,0⟩,ec,oc 32,ec,ec⟩:oe)⟩,ae⟩:rz)) 438,B tk.v 251 (p5 k (xs.drop t)),V aa (O.enc (⟨ec,⟨false,⟨0,0,0⟩,ec,oc 32,ec,ec⟩⟩:oF)) 48] w/\ev w0 ae.v (xs.drop (t+64*k))/\t+64*k<=xs.length/\k<=n/\q=n-k) (n) ?_ ?_
   .
     exact⟨0,ec,y,⟨rfl,rfl,rfl,rfl,rfl,trivial⟩,((E.lD (α:=Vector UInt8 64) 251).pick (e:=V p (O.enc (⟨⟨ec,(⟨false,⟨0,0,0⟩,ec,oc 32,ec,ec⟩:oe)⟩,y⟩:rz)) 438) es),fa,by omega,Nat.zero_le _,rfl⟩
   .
     rintro q f w ⟨k,tk,ae,e8,E,P,aj,ee8,th⟩;refine io _ e8 (λg=>?_);clear e8;refine ex.seq (λEl g1=>(ex.region (ea (Z.lss rfl rfl ?_))));refine tn.nil ?_;refine aE (g1 _ _ (ex.seq (λEd wG=>?_)));refine ex.cond _ rfl (λz=>?_) (λz=>?_)
     .
       have a8:=z
       try simp only[rs]at z
       refine ex.skip ?_;refine aE (wG _ _ (ex.seq (λEc g2=>?_)));refine ex.block ?_;refine ex.seq (λSA vK=>(ex.region (ea (Z.call (ee3 P (by rw[eeJ];omega) E) rfl ?_))));rintro _ w ⟨jE,rfl,ls⟩;refine ea (Z.not rfl ?_);refine tn.nil ?_;refine aE (vK _ _ ?_);refine ex.cond _ rfl (λA=>?_) (λA=>?_)
       .
         have C:=A
         try simp only[rs]at A
         obtain⟨oT,E⟩:=ls.elim (λh=>h.2) (λh=>by rw[h.1]at C;cases C);rw[List.length_drop]at oT;have Q:=eeZ em (by rw[F,H];omega);refine ex.seq (λSO yL=>(ex.region (ea (rV (r:=(⟨ec,⟨false,⟨0,0,0⟩,ec,oc 32,ec,ec⟩⟩:oF)) (ps:=oF.parts (⟨ec,⟨false,⟨0,0,0⟩,ec,oc 32,ec,ec⟩⟩:oF)) (dm _) (by simp only[sM,nn,cW,rr.parts,cy,oe.parts,dm,oF.parts];rfl) (by(repeat' (first|exact trivial|refine And.intro ?_ ?_))<;>first|rfl|exact O.eT _|(simp;done)) ?_))));refine oA (iV (b:=aa) (r:=(⟨ec,⟨false,⟨0,0,0⟩,ec,oc 32,ec,ec⟩⟩:oF)) E rfl rfl es (by exact O.eT _) (tA es λw E=>(ea (iM rfl (ea (iM rfl ?_))))));refine tn.nil ?_;refine aE (yL _ _ ?_);refine ex.ret ?_;refine kC ?_;refine pP ?_;refine pP ?_;refine kC ?_;refine pP ?_;refine cI (.cell (by exact E.nZ es (by exact O.eT _)) (.hB rfl (.hB rfl .nil))) ?_;refine⟨(⟨ec,⟨false,⟨0,0,0⟩,ec,oc 32,ec,ec⟩⟩:oF),[],[],by rw[Q];rfl,by rw[Q];exact En,?_⟩;rw[Q];exact Es (E.sub (List.nil_sublist _))
       .
         have C:=A
         try simp only[rs]at A
         obtain⟨R,rj,iY,lx,E⟩:=ls.elim (λh=>by rw[h.1]at C;cases C) (λh=>h.2);refine ex.skip ?_;refine m7 (aE (g2 _ _ (ex.region (ea (Z.add rfl rfl (wrap_i64 (by omega)) (ea (oD rfl ?_)))))));refine tn.nil ?_;refine aE ?_;rw[show p5 k (xs.drop t)++[mL 64 ((xs.drop (t+64*k)).take 64)]=p5 (k+1) (xs.drop t)from by rw[eeQ,List.drop_drop]]at E;rw[List.length_drop]at R;rw[List.drop_drop]at lx;exact⟨n-(k+1),by omega,k+1,rj,iY,⟨rfl,rfl,rfl,rfl,congrArg (Value.int .i64) (by omega),trivial⟩,E,(by rw[show t+64*(k+1)=t+64*k+64 by omega];exact lx),by omega,by omega,rfl⟩
     .
       have a8:=z
       try simp only[rs]at z
       obtain rfl:k=n:=by omega
       obtain⟨I,more,K,S⟩:∃(c:yN)(yw:Nat)(e:Int),uu (xs.drop (t+64*k))=(c,yw,e):=⟨_,_,_,rfl⟩;have i:=ee0 (c:=I) (t:=more) (e:=K) em (by rw[F,H];omega) (by rw[F,H];exact S);rw[F,H]at i;refine ex.exit ?_;refine u4 ?_;refine u4 ?_;refine yl (aE (ck _ _ (ex.seq (λDD j6=>(ex.region ?_)))));refine ea (o9 rfl ?_);refine ea (ap rfl (E.aV es (DH (⟨⟨tk,(⟨false,⟨0,0,0⟩,ec,oc 32,ec,ec⟩:oe)⟩,ae⟩:rz))) ?_);refine ea (Z.call (eeX (P.ei E.J) (by rw[List.length_drop];omega) S) rfl ?_);rintro _ w ⟨m,is,t8,rfl,vB,DC⟩;replace E:=E.jd DC;unfold fJ at E;simp only[List.cons_append,List.nil_append]at E;refine ea (oM (v:=.tuple #[.agg (O.enc m),i6 more,.int .i64 K]) rfl (ea (Z.extract rfl rfl (ea (Z.extract rfl rfl (ea (Z.extract rfl rfl (ea (sV E ?_)))))))));intro l1 w _ E;refine oA (iV (r:=m) E rfl rfl es (by rw[DO];exact O.eT _) (tA es λw E=>(ea (iM rfl (ea (iM rfl ?_))))));refine tn.nil ?_;refine aE (j6 _ _ (ex.seq (λDU j7=>(ex.seq (λSN vX=>(ex.region (ea (oD rfl (ea (Z.neq rfl rfl ?_))))))))));refine tn.nil ?_;refine aE (vX _ _ ?_);refine ex.cond _ rfl (λD=>?_) (λD=>?_)
       .
         have W:=D
         try simp only[rs]at D
         have am:K≠0:=by simpa using W
         rw[if_neg am]at i;refine ex.seq (λSS vJ=>(ex.region (ea (rV (r:=(⟨ec,⟨false,⟨0,0,0⟩,ec,oc 32,ec,ec⟩⟩:oF)) (ps:=oF.parts (⟨ec,⟨false,⟨0,0,0⟩,ec,oc 32,ec,ec⟩⟩:oF)) (dm _) (by simp only[sM,nn,cW,rr.parts,cy,oe.parts,dm,oF.parts];rfl) (by(repeat' (first|exact trivial|refine And.intro ?_ ?_))<;>first|rfl|exact O.eT _|(simp;done)) ?_))));refine ea (oD rfl (oA (iV (b:=aa) (r:=(⟨ec,⟨false,⟨0,0,0⟩,ec,oc 32,ec,ec⟩⟩:oF)) E rfl rfl es (by exact O.eT _) (tA es λw E=>(ea (iM rfl (ea (iM rfl ?_))))))));refine tn.nil ?_;refine aE (vJ _ _ ?_);refine ex.ret ?_;refine pP ?_;refine cI (.cell (by exact E.nZ es (by exact O.eT _)) (.hB rfl (.hB rfl .nil))) ?_;refine⟨(⟨ec,⟨false,⟨0,0,0⟩,ec,oc 32,ec,ec⟩⟩:oF),[],[],by rw[i];rfl,by rw[i];exact En,?_⟩;rw[i];exact Es (E.sub (List.nil_sublist _))
       .
         have W:=D
         try simp only[rs]at D
         obtain rfl:K=0:=by simpa using W
         rw[if_pos rfl]at i;have X:=(eeW S).2.2.1;rw[List.length_drop]at X;refine ex.skip ?_;refine aE (j7 _ _ (ex.seq (λSR vQ=>?_)));refine gU 7 (e5 [0,1,2,3] (.one 4 (e5 [5,6] (oJ [7,8,9,10] .nil)))) (by kernel_rfl) (λ_ _ _ h=>h) (λaM Y=>?_);replace E:=E.ei Y;have j:=E;have L:=eG aM;refine si j rfl (λw E=>ap rfl (E.nZ (b:=l1) (cs:=O.enc m) es (by exact O.eT _)) eY) (si j rfl (λw E=>o9 rfl eY) (si j rfl (λw E=>o9 rfl eY) (si j rfl (λw E=>ap rfl (E.aV es (ee2 (⟨⟨tk,(⟨false,⟨0,0,0⟩,ec,oc 32,ec,ec⟩:oe)⟩,ae⟩:rz))) eY) (ol rfl (Z.call (ee4 (j.ef (v:=tk.v) (xs:=p5 k (xs.drop t)) es)) rfl ?_)))));rintro v45 w ⟨Wn,a⟩;replace L:=L.ei a;obtain⟨d,rfl⟩:∃s:eu,v45=s.v:=(by rw[Wn];exact Wo);refine⟨L.J,?_⟩;have E:=ik j L;refine si j rfl (λw E=>o9 rfl eY) (si j rfl (λw E=>o9 rfl eY) (nP rfl (iU (b:=p) (o:=1) (v:=.agg (O.enc m)) (eo:=39) (cs:=O.enc (⟨⟨tk,(⟨false,⟨0,0,0⟩,ec,oc 32,ec,ec⟩:oe)⟩,ae⟩:rz)) (iR:=O.enc (⟨⟨tk,m⟩,ae⟩:rz)) E rfl rfl es (O.eT m) (by rw[O.eT];decide) (by simp only[Value.cells];exact O.one m) (by simp only[Value.cells];exact ee5 (⟨⟨tk,(⟨false,⟨0,0,0⟩,ec,oc 32,ec,ec⟩:oe)⟩,ae⟩:rz) m) (tA es λw E=>(hA rfl (o9 rfl (hA rfl (o9 rfl (nP rfl (iU (b:=p) (o:=0) (v:=d.v) (eo:=1) (cs:=O.enc (⟨⟨tk,m⟩,ae⟩:rz)) (iR:=O.enc (⟨⟨d,m⟩,ae⟩:rz)) E rfl rfl es rfl (by rw[O.eT];decide) (O.one (α:=eu) d) (We (⟨⟨tk,m⟩,ae⟩:rz) d) (tA es λw E=>(e3.nil ?_))))))))))));replace E:=E.bL (v:=tk.v) (T:=251) (xs:=p5 k (xs.drop t)) es;rw[<-Wn]at E;refine aE (vQ _ _ (ex.seq (λWs A9=>?_)));refine vz 13 (e5 [0,1,2,3,4,5,6,7,8,9] (.one 10 (e5 [11,12] .nil))) (by kernel_rfl) (λ_ _ _ h=>h) (λaM Y=>?_);replace E:=E.ei Y;have j:=E;refine⟨λw'=>eB w0 w'/\s0 prog 48 w' (N p) (.agg (O.enc (⟨d,m⟩:oF)))/\s0 prog 30 w' (.pointer (some ⟨p,40,none⟩)) ae.v,⟨E.J,E.HE (c:=O.enc (⟨d,m⟩:oF)) es (A7 (⟨⟨d,m⟩,ae⟩:rz)) (by rw[O.eT];decide),E.aV es (DH (⟨⟨d,m⟩,ae⟩:rz))⟩,?_⟩;refine e3.look rfl rfl rfl (λw a=>(by skip;exact o9 rfl ⟨rfl,rfl⟩)) ?_;refine e3.look rfl rfl rfl (λw a=>(by skip;exact ap rfl (a.2.1) ⟨rfl,rfl⟩)) ?_;refine e3.look rfl rfl rfl (λw a=>(by skip;exact oM (v:=o8.v) rfl ⟨rfl,rfl⟩)) ?_;refine e3.look rfl rfl rfl (λw a=>(by skip;exact Z.hL rfl ((u.ei a.1)) ⟨rfl,rfl⟩)) ?_;refine e3.look rfl rfl rfl (λw a=>(by skip;exact o9 rfl ⟨rfl,rfl⟩)) ?_;refine e3.look rfl rfl rfl (λw a=>(by skip;exact ap rfl (a.2.2) ⟨rfl,rfl⟩)) ?_;refine e3.look rfl rfl rfl (λw a=>(by skip;exact Z.hL rfl ((P.ei a.1)) ⟨rfl,rfl⟩)) ?_;refine e3.look rfl rfl rfl (λw a=>(by skip;exact Z.sub rfl rfl (wrap_i64 (by rw[List.length_drop];omega)) ⟨rfl,rfl⟩)) ?_;refine e3.look rfl rfl rfl (λw a=>(by skip;exact oD rfl ⟨rfl,rfl⟩)) ?_;refine e3.look rfl rfl rfl (λw a=>(by skip;exact Z.add rfl rfl ((show IntKind.i64.wrap _=(((t+64*k+more:Nat)):Int)from by rw[IntKind.wrap_i64,List.length_drop];omega)) ⟨rfl,rfl⟩)) ?_;refine n5 rfl rfl (iV (b:=aa) (r:=(⟨d,m⟩:oF)) E rfl rfl es (by exact O.eT _) (tA es λw E=>?_));refine⟨⟨E.J,E.HE (c:=O.enc (⟨d,m⟩:oF)) es (A7 (⟨⟨d,m⟩,ae⟩:rz)) (by rw[O.eT];decide),E.aV es (DH (⟨⟨d,m⟩,ae⟩:rz))⟩,?_⟩;refine e3.look rfl rfl rfl (λw a=>(by skip;exact iM rfl ⟨rfl,rfl⟩)) ?_;refine e3.look rfl rfl rfl (λw a=>(by skip;exact iM rfl ⟨rfl,rfl⟩)) ?_;refine e3.nil (aE (A9 _ _ ?_));refine ex.ret ?_;refine cI (.cell (by exact E.nZ es (by exact O.eT _)) (.hB rfl (.hB rfl .nil))) ?_;refine⟨(⟨d,m⟩:oF),is,t8,by rw[i];rfl,by rw[i];exact vB,?_⟩;rw[i];show U w0 (B d.v 251 (p5 k (xs.drop t))::[B m.tu.v 60 I.tu,B m.instrs.v 230 is,hQ (dQ is I.au),B m.r1.v 221 t8,hQ (fX t8 I.sn)]) w;exact(E.pick (e:=B d.v 251 (p5 k (xs.drop t))) es).sub aI
variable{u:Value}{x:nD}{xs:List UInt8}
theorem ett(h:1232<xs.length):nG xs=(g0,3):=by unfold nG;rw[if_pos h]
theorem eta(h:¬1232<xs.length)(a:uH xs=(x,t,e))(b:e≠0):nG xs=(g0,e):=by unfold nG;rw[if_neg h,a,if_neg b]
theorem eto(h:¬1232<xs.length)(a:uH xs=(x,t,0))(b:t<xs.length):nG xs=(g0,4):=by unfold nG;rw[if_neg h,a,if_pos rfl,if_pos b]
theorem eti(h:¬1232<xs.length)(a:uH xs=(x,t,0))(b:¬t<xs.length):nG xs=(x,0):=by unfold nG;rw[if_neg h,a,if_pos rfl,if_neg b]
theorem etn(h:G6 w0 xs u w')(a:uH xs=(x,t,e)):∃(tQ:oF)(is:List Instr)(t8:List iW),u= .tuple #[.agg (O.enc tQ),i6 t,.int .i64 e]/\pg tQ is t8 x/\U w0 (p6 tQ is t8 x) w':=by
 obtain⟨tQ,is,t8,G,Y,ez⟩:=h;rw[a]at G Y ez;exact⟨tQ,is,t8,G,Y,ez⟩
theorem ets(h:G7 w0 xs u w')(a:nG xs=(x,e)):∃(tQ:oF)(is:List Instr)(t8:List iW),u= .tuple #[.agg (O.enc tQ),.int .i64 e]/\pg tQ is t8 x/\U w0 (p6 tQ is t8 x) w':=by
 obtain⟨tQ,is,t8,G,Y,ez⟩:=h;rw[a]at G Y ez;exact⟨tQ,is,t8,G,Y,ez⟩
theorem etr(h:ev w0 o8.v xs)(j:xs.length<=1000000000):eJ 86 #[o8.v] w0 (G7 w0 xs):=by
 obtain⟨d,iJ,i,f⟩:∃(x:nD)(t:Nat)(e:Int),uH xs=(x,t,e):=⟨_,_,_,rfl⟩;refine eH 4 (eG _) func86 ntmps86 results86 rfl λaa w E=>?_;rw[yS]at E;have:=aS h;refine ew 10 E<|om 0 0 (λk w E=>?_) (λk w E=>?_)
 .
   have c:1232<xs.length:=by omega
   have a:=ett c;refine eI 2 E λw E=>?_;refine ea (rV (r:=(⟨ec,⟨false,⟨0,0,0⟩,ec,oc 32,ec,ec⟩⟩:oF)) (ps:=oF.parts (⟨ec,⟨false,⟨0,0,0⟩,ec,oc 32,ec,ec⟩⟩:oF)) (dm _) (by simp only[sM,nn,cW,rr.parts,cy,oe.parts,dm,oF.parts];rfl) (by(repeat' (first|exact trivial|refine And.intro ?_ ?_))<;>first|rfl|exact O.eT _|(simp;done)) ?_);refine ew 7 E λw E=>?_;refine⟨(⟨ec,⟨false,⟨0,0,0⟩,ec,oc 32,ec,ec⟩⟩:oF),[],[],by rw[a];try rfl,by rw[a];exact En,?_⟩;rw[a];exact Es (E.sub (List.nil_sublist _))
 .
   have c:¬1232<xs.length:=by omega
   refine eI 5 E λw E=>?_;refine ea (Z.call (ee7 (h.ei E.J) j) rfl ?_);rintro _ w l;obtain⟨tQ,is,t8,rfl,n,o⟩:=etn l f;replace E:=E.jd o;unfold p6 fJ at E;simp only[List.cons_append,List.nil_append]at E;refine ew 5 E λaF w E=>?_;refine oA (iV (b:=aF) (r:=tQ) E rfl rfl es (by rw[yS];exact O.eT _) (tA es λw E=>(ew 13 E<|na 0 0 (λg p w E=>?_) (λg p w E=>?_))))
   .
     have q:i≠0:=by simpa using g
     have a:=eta c f q;refine eI 2 E λw E=>?_;refine ea (rV (r:=(⟨ec,⟨false,⟨0,0,0⟩,ec,oc 32,ec,ec⟩⟩:oF)) (ps:=oF.parts (⟨ec,⟨false,⟨0,0,0⟩,ec,oc 32,ec,ec⟩⟩:oF)) (dm _) (by simp only[sM,nn,cW,rr.parts,cy,oe.parts,dm,oF.parts];rfl) (by(repeat' (first|exact trivial|refine And.intro ?_ ?_))<;>first|rfl|exact O.eT _|(simp;done)) ?_);refine ew 9 E λw E=>?_;refine⟨(⟨ec,⟨false,⟨0,0,0⟩,ec,oc 32,ec,ec⟩⟩:oF),[],[],by rw[a];try rfl,by rw[a];exact En,?_⟩;rw[a];exact Es (E.sub (List.nil_sublist _))
   .
     obtain rfl:i=0:=by simpa using g
     refine eI 9 E<|om 0 0 (λs w E=>?_) (λs w E=>?_)
     .
       have a:=eto c f (by omega);refine eI 2 E λw E=>?_;refine ea (rV (r:=(⟨ec,⟨false,⟨0,0,0⟩,ec,oc 32,ec,ec⟩⟩:oF)) (ps:=oF.parts (⟨ec,⟨false,⟨0,0,0⟩,ec,oc 32,ec,ec⟩⟩:oF)) (dm _) (by simp only[sM,nn,cW,rr.parts,cy,oe.parts,dm,oF.parts];rfl) (by(repeat' (first|exact trivial|refine And.intro ?_ ?_))<;>first|rfl|exact O.eT _|(simp;done)) ?_);refine ew 8 E λw E=>?_;refine⟨(⟨ec,⟨false,⟨0,0,0⟩,ec,oc 32,ec,ec⟩⟩:oF),[],[],by rw[a];try rfl,by rw[a];exact En,?_⟩;rw[a];exact Es (E.sub (List.nil_sublist _))
     .
       have a:=eti c f (by omega);refine eI 12 E λw E=>?_;refine⟨tQ,is,t8,by rw[a];try rfl,by rw[a];exact n,?_⟩;rw[a];show U w0 (B tQ.sigs.v 251 d.sigs::[B tQ.m.tu.v 60 d.m.tu,B tQ.m.instrs.v 230 is,hQ (dQ is d.m.au),B tQ.m.r1.v 221 t8,hQ (fX t8 d.m.sn)]) w;exact E.sub aI
end
end Go.Fer
