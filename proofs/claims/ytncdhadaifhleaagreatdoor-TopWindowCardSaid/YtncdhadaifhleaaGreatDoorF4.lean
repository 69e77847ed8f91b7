import Derived.Test.YtncdhadaifhleaaGreatDoorF3
set_option linter.all false
set_option synthInstance.maxSize 100000
set_option synthInstance.maxHeartbeats 400000
set_option maxHeartbeats 8000000
set_option maxRecDepth 100000
namespace Go.Fer
open Go Go.RowKit
section
open Go.Proofs Tryz
variable{b xs:List UInt8}{c:UInt8}{k n:Nat}{v:Value}{w0:World}
theorem ZY(Z:ex w0 v xs)(eB:xs.length<=1000000):eJ 33 #[v] w0 (λu w'=>sH w0 w' u 5 xs/\eV w0 w'):=by
 obtain⟨a,c,rfl⟩:=Z.eq;refine eN 9 (eY _) func33 ntmps33 results33 rfl λw E=>?_;refine et (fO rfl rfl (ey 2 E<|om 8 4 (λb w E=>?_) (λb w E=>?_)))
 .
   cases a with
   |none=>
    obtain⟨rfl,_,_⟩:=Z.wg;exact⟨sH.nil _ _ _,E.ee⟩
   |some a=>cases b
 .
   refine rF 1 E (nB ([]:List UInt8)) λd w E=>?_;refine et (dj (α:=UInt8) rfl E rfl en ((Z.es E.ee)) (by(try simp only[List.length_append,List.length_cons,List.length_nil,List.length_map]);omega) (by simp only[maxLen];(try simp only[List.length_append,List.length_cons,List.length_nil,List.length_map]);omega) ?_);intro e w E;replace E:=E _ en;refine ey 5 E λw E=>?_;have G:=E.cZ en;simp only[List.nil_append]at G;exact⟨G,E.ee⟩
theorem ZB(Z:ex w0 v xs):tS 32 #[v] w0 (nz v 0 xs.length xs.length (O.eo (UInt8))):=by
 have:=aL Z;refine eN 12 (eY _) func32 ntmps32 results32 rfl λw E=>?_;exact et (hj (Z.es E.ee) ⟨⟨_,rfl⟩,Z.cap⟩ ⟨⟨_,rfl⟩,Nat.le_refl _⟩ ⟨rfl,Nat.zero_le _⟩ (ey 5 E λw E=>(⟨rfl,E.ee⟩)))
def gs:List UInt8->Nat->Nat->Int×Int×Int
 |[],_,_=>(0,0,5)
 |c::r,k,n=>if(decide ((k:Int)>0)&&decide ((c.toNat:Int)=0)||decide ((k:Int)=2)&&decide (3<(c.toNat:Int)))=true then(0,0,4)
  else if(c.toNat:Int)<128 then(((n+c.toNat%128*2^(7*k):Nat):Int),((k+1:Nat):Int),0)else gs r (k+1) (n+c.toNat%128*2^(7*k))
theorem LX(a:k<b.length)(n:Nat):gs (b.drop k) k n=gs (b[k]::b.drop (k+1)) k n:=by rw[List.drop_eq_getElem_cons a]
theorem ZV(a:b.length<=k):gs (b.drop k) k n=(0,0,5):=by rw[List.drop_of_length_le a];rfl
theorem ZK(a:k<=2):IntKind.i64.wrap (((c.toNat%128:Nat):Int)*2^(min (Int.toNat (7*(k:Int))) IntKind.i64.bits))=((c.toNat%128*2^(7*k):Nat):Int):=by
 have e:(7*(k:Int))=((7*k:Nat):Int):=by omega
 rw[e];have hb:c.toNat%128*2^(7*k)<=127*2^14:=Nat.mul_le_mul (by omega) (Nat.pow_le_pow_right (by omega) (by omega));exact X9 (by omega) (by simp) (by omega)
theorem ZX(b:k<=2)(a:n<2^(7*k)):hL .or .i64 (n:Int) ((c.toNat%128*2^(7*k):Nat):Int)=((n+c.toNat%128*2^(7*k):Nat):Int):=by
 have hb:c.toNat%128*2^(7*k)<=127*2^14:=Nat.mul_le_mul (by omega) (Nat.pow_le_pow_right (by omega) (by omega));have d:2^(7*k)<=2^14:=Nat.pow_le_pow_right (by omega) (by omega);rw[X7 _ _ (by omega) (by omega),HI _ _ _ a]
theorem Gd(a:n<2^(7*k)):n+c.toNat%128*2^(7*k)<2^(7*(k+1)):=by
 have e:2^(7*(k+1))=128*2^(7*k):=by rw[Nat.mul_add,Nat.pow_add,Nat.mul_comm]
 have:c.toNat%128*2^(7*k)<=127*2^(7*k):=Nat.mul_le_mul_right _ (by omega);omega
theorem Gc(Z:ex w0 v b):tS 226 #[v] w0 (.tuple #[i6 (gs b 0 0).1,i6 (gs b 0 0).2.1,i6 (gs b 0 0).2.2]):=by
 have:=aL Z;refine eN 16 (eY _) func226 ntmps226 results226 rfl λw E=>?_;refine ek.loop (λm f w=>∃k n:Nat,oV [(2,i6 n),(7,v),(8,i6 b.length),(9,i6 k)] f/\U w0 [] w/\gs (b.drop k) k n=gs b 0 0/\n<2^(7*k)/\k<=2/\m=b.length-k) (b.length) ?_ ?_
 .
   exact⟨0,0,⟨rfl,rfl,rfl,rfl,trivial⟩,E,rfl,by decide,by omega,rfl⟩
 .
   rintro m f w ⟨k,n,h,E,c,i,j,e5⟩;refine il _ h (λg=>?_);clear h;refine eA 6 E<|om 0 14 (λo w E=>?_) (λo w E=>?_)
   .
     have d:k<b.length:=by omega
     have hlt:=wb b[k];have p:=Z.le;simp only[maxLen]at p;refine eA 8 E ⟨⟨by omega⟩,λ_ w E=>?_⟩;refine af 10 E (hA λw E=>((Z.es E.ee).tb (List.getElem?_eq_getElem d)).ab rfl) λw E=>?_;refine ts.eQ _ 16 _ rfl rfl rfl rfl (λy=>oP rfl ⟨rfl,eV.refl _⟩) (λw a=>?_);replace E:=E.es a;refine ts.eQ _ 16 _ rfl rfl rfl rfl (λq=>J.eql (by first|exact ov rfl q|rfl) rfl ⟨rfl,eV.refl _⟩) (λw a=>?_);replace E:=E.es a;refine et (pZ rfl (by first|rfl) rfl (ey 1 E λw E=>(ts.eQ _ 20 _ rfl rfl rfl rfl (λz=>oP rfl ⟨rfl,eV.refl _⟩) (λw a=>?_))));replace E:=E.es a;refine ts.eQ _ 20 _ rfl rfl rfl rfl (λr=>J.eql (by first|exact ov rfl r|rfl) rfl ⟨rfl,eV.refl _⟩) (λw a=>?_);replace E:=E.es a;refine ts.eQ _ 20 _ rfl rfl rfl rfl (λs=>u0 (by first|exact ov rfl s|rfl) ⟨rfl,eV.refl _⟩) (λw a=>?_);replace E:=E.es a;refine Ic _ _ 23 _ rfl rfl rfl rfl (λA=>oP rfl ⟨rfl,eV.refl _⟩) (λw a=>?_);replace E:=E.es a;refine Ic _ _ 23 _ rfl rfl rfl rfl (λt=>J.gtr (by first|exact ov rfl t|rfl) rfl ⟨rfl,eV.refl _⟩) (λw a=>?_);replace E:=E.es a;refine ts.eQ _ 20 _ rfl rfl rfl rfl (λl=>pZ (by first|exact ov rfl l|rfl) (by first|exact MW rfl l|rfl) rfl ⟨rfl,eV.refl _⟩) (λw a=>?_);replace E:=E.es a;refine et (fe rfl rfl (by first|rfl) (ey 2 E<|na 15 6 (λe u w E=>?_) (λe u w E=>?_)))
     .
       refine⟨?_,E.ee⟩;rw[<-c,LX d,gs,if_pos (by simpa using e)]
     .
       refine af 3 E (Zh (X8 _)) ⟨ib,⟨ib,λw E=>?_⟩⟩;refine af 0 E (ND (by omega) (ZK j)) λw E=>?_;refine af 6 E (NH (ZX j i)) λw E=>?_;refine et (J.lss rfl rfl (ey 2 E<|om 17 8 (λx=>⟨ib,λw E=>?_⟩) (λx=>⟨ib,λw E=>?_⟩)))
       .
         refine⟨?_,E.ee⟩;rw[<-c,LX d,gs,if_neg (by simpa using e),if_pos (by omega)];rfl
       .
         refine⟨b.length-(k+1),by omega,k+1,n+b[k].toNat%128*2^(7*k),⟨rfl,rfl,rfl,congrArg (Value.int .i64) (by omega),trivial⟩,E,?_,Gd i,?_,rfl⟩
         .rw[<-c,LX d,gs,if_neg (by simpa using e),if_neg (by omega)]
         omega
   .
     refine⟨?_,E.ee⟩;rw[<-c,ZV (by omega)]
end
section
open Go.Proofs
variable{c:List (Vector UInt8 32×List UInt8×List UInt8)}{ad:List Instr}{k:Nat}{l nF:List iX}{m:oa}{w w':World}{x:iX}
structure yO where
 v0:Bool
 h:ro
 td:List (Vector UInt8 32)
 oT:Vector UInt8 32
 ad:List (UInt8×List UInt8×List UInt8)
 nF:List (Vector UInt8 32×List UInt8×List UInt8)
deriving DecidableEq
def NK(w:World)(x:Instr)(c:UInt8×List UInt8×List UInt8):Prop:=x.program=c.1/\ex w x.cS.v c.2.1/\ex w x.data.v c.2.2
def NX(w:World)(x:iX)(c:Vector UInt8 32×List UInt8×List UInt8):Prop:=x.table=c.1/\ex w x.iY.v c.2.1/\ex w x.p8.v c.2.2
theorem NK.es{x:Instr}{c:UInt8×List UInt8×List UInt8}(h:NK w x c)(hb:eV w w'):NK w' x c:=⟨h.1,h.2.1.es hb,h.2.2.es hb⟩
theorem NX.es{c:Vector UInt8 32×List UInt8×List UInt8}(h:NX w x c)(hb:eV w w'):NX w' x c:=⟨h.1,h.2.1.es hb,h.2.2.es hb⟩
def jJ(w:World)(l:List Instr)(c:List (UInt8×List UInt8×List UInt8)):Prop:=l.length=c.length/\∀i(G:i<l.length)(Y:i<c.length),NK w l[i] c[i]
def bN(w:World)(l:List iX)(c:List (Vector UInt8 32×List UInt8×List UInt8)):Prop:=l.length=c.length/\∀i(G:i<l.length)(Y:i<c.length),NX w l[i] c[i]
theorem jJ.es{l:List Instr}{c:List (UInt8×List UInt8×List UInt8)}(h:jJ w l c)(hb:eV w w'):jJ w' l c:=⟨h.1,λi G Y=>(h.2 i G Y).es hb⟩
theorem bN.es(h:bN w l c)(hb:eV w w'):bN w' l c:=⟨h.1,λi G Y=>(h.2 i G Y).es hb⟩
structure Gu(w:World)(m:oa)(c:yO)(ad:List Instr)(nF:List iX):Prop where
 v0:m.v0=c.v0
 h:m.ic=c.h
 oT:m.oT=c.oT
 k:ex w m.td.v c.td
 i:ex w m.instrs.v ad
 wU:jJ w ad c.ad
 l:ex w m.rJ.v nF
 LJ:bN w nF c.nF
def hI{α:Type}(l:List (α×List UInt8×List UInt8)):Nat:=(l.map λc=>c.2.1.length+c.2.2.length).sum
theorem ZJ{α:Type}{l:List (α×List UInt8×List UInt8)}(a:k<l.length):hI (l.take (k+1))=hI (l.take k)+(l[k].2.1.length+l[k].2.2.length):=by
 unfold hI;rw[List.take_succ_eq_append_getElem a,List.map_append,List.sum_append];simp
theorem ZQ{α:Type}{l:List (α×List UInt8×List UInt8)}{k:Nat}(a:k<l.length):l[k].2.1.length+l[k].2.2.length<=hI l:=by
 induction l generalizing k with
 |nil=>cases a
 |cons x l b=>
  cases k with
  |zero=>simp[hI]
  |succ k=>have:=b (k:=k) (by simpa using a);simp only[hI,List.map_cons,List.sum_cons,List.getElem_cons_succ]at this⊢;omega
open Tryz
variable{S tp:List eH}{a tc n:Nat}{b:Bool}{bs oU:ec}{c:Vector UInt8 32×List UInt8×List UInt8}{cs:List (Vector UInt8 32×List UInt8×List UInt8)}{e v o5:Int}{i:iX}{is:List iX}{l:List ((ec×List UInt8)×(ec×List UInt8))}{p:(ec×List UInt8)×(ec×List UInt8)}{w0 ea:World}{xs:List UInt8}
structure ma where
 b:ec
 ot:Int
variable{x:ma}
def ma.parts(x:ma):List (Array Value):=[#[x.b.v],#[.int .i64 x.ot]]
theorem ZZ(x:ma):x.parts.map Array.size=[1,1]:=by
 simp only[ma.parts,List.map,O.ez];rfl
instance:O ma where
 enc x:=eK x.parts
 eo:=2
 pos:=by omega
 ez x:=by rw[iw,ZZ];rfl
 one x:=rD (all_cons (O.one (α:=ec) _) (all_cons (oZ _ _) rC))
theorem NJ(x:ma):(O.enc x)[1]? =some (.int .i64 x.ot):=hu [#[x.b.v]] [] _ sU
theorem Gm(x:ma)(v:Int):iI (O.enc x) 1 #[.int .i64 v]=O.enc {x with ot:=v}:=by
 have h:=rL [#[x.b.v]] [] (#[.int .i64 x.ot]) (#[.int .i64 v]) (by first|(rw[O.ez,O.ez];done)|rfl);rw[show(eK [#[x.b.v]]).size=1 from sU]at h;exact h
instance(priority:=2000):nt (⟨oU,o5⟩:ma) [#[oU.v],#[.int .i64 o5]]:=⟨rfl⟩
structure Stop where
 e:Int
 deriving DecidableEq
def Stop.parts(x:Stop):List (Array Value):=[#[.int .i64 x.e]]
theorem Z0(x:Stop):x.parts.map Array.size=[1]:=by
 simp only[Stop.parts,List.map,O.ez];rfl
instance:O Stop where
 enc x:=eK x.parts
 eo:=1
 pos:=by omega
 ez x:=by rw[iw,Z0];rfl
 one x:=rD (all_cons (oZ _ _) rC)
theorem NQ(x:Stop):(O.enc x)[0]? =some (.int .i64 x.e):=hu [] [] _ sU
instance(priority:=2000){oU:Int}:nt (⟨oU⟩:Stop) [#[.int .i64 oU]]:=⟨rfl⟩
abbrev sN:=Except Int Nat
variable{s:sN}
def cH(xs:List UInt8)(n:Nat):sN->List UInt8×sN
 | .error e=>([],.error e)
 | .ok ot=>if n<=xs.length-ot then((xs.drop ot).take n,.ok (ot+n))else([],.error 5)
def sG(xs:List UInt8)(s:sN):UInt8×sN:=((cH xs 1 s).1.headD 0,(cH xs 1 s).2)
def nL(xs:List UInt8):sN->Nat×sN
 | .error e=>(0,.error e)
 | .ok ot=>((gs (xs.drop ot) 0 0).1.toNat,if(gs (xs.drop ot) 0 0).2.2=0 then .ok (ot+(gs (xs.drop ot) 0 0).2.1.toNat)else .error (gs (xs.drop ot) 0 0).2.2)
def hf(xs:List UInt8)(s:sN):Vector UInt8 32×sN:=(mS 32 (cH xs 32 s).1,(cH xs 32 s).2)
def mo(xs:List UInt8)(s:sN):List UInt8×sN:=cH xs (nL xs s).1 (nL xs s).2
def rl(xs:List UInt8)(s:sN):(UInt8×List UInt8×List UInt8)×sN:=
 let a:=sG xs s;let b:=mo xs a.2;let c:=mo xs b.2;((a.1,b.1,c.1),c.2)
def rS(xs:List UInt8)(s:sN):(Vector UInt8 32×List UInt8×List UInt8)×sN:=
 let a:=hf xs s;let b:=mo xs a.2;let c:=mo xs b.2;((a.1,b.1,c.1),c.2)
def lz{α:Type}(one:sN->α×sN):Nat->sN->List α×sN
 |0,s=>([],s)
 |_+1,.error e=>([],.error e)
 |n+1,.ok a=>((one (.ok a)).1::(lz one n (one (.ok a)).2).1,(lz one n (one (.ok a)).2).2)
def sM{α:Type}(xs:List UInt8)(one:sN->α×sN)(s:sN):List α×sN:=lz one (nL xs s).1 (nL xs s).2
theorem Aj:∀(b:List UInt8)(k n:Nat),n<2^(7*k) ->k<=2->0<=(gs b k n).1/\(gs b k n).1<65536/\0<=(gs b k n).2.1/\((gs b k n).2.2=0->(gs b k n).2.1<=(k+b.length:Nat))
 |[],_,_,_,_=>by simp[gs]
 |c::r,k,n,d,e=>by
  have hlt:=Gd (c:=c) d;unfold gs;split
  .simp
  rename_i em;simp only[Bool.or_eq_true,Bool.and_eq_true,decide_eq_true_eq,not_or,not_and]at em;split
  .rename_i G;simp only[List.length_cons];refine⟨by omega,?_,by omega,λ_=>by omega⟩;have ej:n+c.toNat%128*2^(7*k)<65536:=by
    rcases(show k=0∨k=1∨k=2 by omega)with rfl|rfl|rfl<;>simp at hlt d em⊢<;>omega
   omega
  rename_i G;by_cases Y:k=2
  .exfalso;subst Y;omega
  have a:=Aj r (k+1) _ hlt (by omega);simp only[List.length_cons];refine⟨a.1,a.2.1,a.2.2.1,λh=>?_⟩;have:=a.2.2.2 h;omega
theorem LQ(xs:List UInt8)(n a:Nat):cH xs n (.ok a)=if n<=xs.length-a then((xs.drop a).take n,.ok (a+n))else([],.error 5):=rfl
theorem LZ(ep:a<=xs.length)(h:(cH xs n (.ok a)).2= .ok tc):tc<=xs.length/\tc=a+n/\n<=xs.length-a/\(cH xs n (.ok a)).1=(xs.drop a).take n/\(cH xs n (.ok a)).1.length=n:=by
 rw[LQ]at h⊢;by_cases b:n<=xs.length-a
 .rw[if_pos b]at h⊢;cases h;refine⟨by omega,rfl,b,rfl,?_⟩;rw[List.length_take,List.length_drop];omega
 rw[if_neg b]at h;cases h
theorem U.bS{α:Type}[O α]{v:Value}{T:TypeId}{xs:List α}(E:U w0 S w)(b:iH (V v T xs) (V (nz v 0 xs.length xs.length (O.eo α)) T xs) S tp):U w0 tp w:=by
 have em:sH w0 w v T xs:=E.cZ b.kS;have G:=sH.cut (w:=w0) (w':=w) (v:=v) (e:=T) (xs:=xs) em;refine lv ⟨rfl,rfl,rfl,Nat.le_refl _,λ_ _ _=>rfl⟩ (by rw[df];exact G.1) ?_ E b;rw[dm,dm];intro k a;refine .inl ?_;rcases em.1 with⟨rfl,rfl⟩|⟨g,cap,ne,rfl,_⟩
 .simp[nz,Value.ownBlock]at a
 by_cases eB:xs.length=0<;>simp[nz,Value.ownBlock,eB]at a⊢<;>exact a
theorem Z1(xs:List UInt8)(n:Nat)(e:Int):cH xs n (.error e)=([],.error e):=rfl
theorem jQ(xs:List UInt8)(e:Int):sG xs (.error e)=(0,.error e):=rfl
theorem NZ(xs:List UInt8)(e:Int):mo xs (.error e)=([],.error e):=rfl
theorem zX(xs:List UInt8)(e:Int):(hf xs (.error e)).2= .error e:=rfl
theorem zJ{α:Type}(one:sN->α×sN)(n:Nat)(e:Int):lz one n (.error e)=([],.error e):=by cases n<;>rfl
theorem zQ{α:Type}(one:sN->α×sN)(n a:Nat):lz one (n+1) (.ok a)=((one (.ok a)).1::(lz one n (one (.ok a)).2).1,(lz one n (one (.ok a)).2).2):=rfl
theorem zZ{α:Type}(xs:List UInt8)(one:sN->α×sN)(e:Int):sM xs one (.error e)=([],.error e):=rfl
theorem L0(xs:List UInt8)(a:Nat):(nL xs (.ok a)).2=if(gs (xs.drop a) 0 0).2.2=0 then .ok (a+(gs (xs.drop a) 0 0).2.1.toNat)else .error (gs (xs.drop a) 0 0).2.2:=rfl
theorem N0:(nL xs s).1<65536:=by
 cases s with
 |error e=>show(0:Nat)<65536;omega
 |ok a=>have:=Aj (xs.drop a) 0 0 (by omega) (by omega);show(gs (xs.drop a) 0 0).1.toNat<65536;omega
theorem Gf(ep:a<=xs.length)(h:(nL xs (.ok a)).2= .ok tc):tc<=xs.length:=by
 rw[L0]at h;split at h
 .rename_i em;have:=(Aj (xs.drop a) 0 0 (by omega) (by omega)).2.2.2 em;rw[List.length_drop]at this;cases h;omega
 cases h
def fG(xs:List UInt8)(s:sN):(UInt8×Bool)×sN:=
 let f:=sG xs s
 let aM:sN:=match f.2 with| .ok a=>if 128<f.1.toNat then .error 4 else .ok a| .error e=>.error e
 if f.1.toNat=128 then(((sG xs aM).1,true),(sG xs aM).2)else((f.1,false),aM)
def h4(xs:List UInt8)(s:sN):yO×sN:=
 let g:=fG xs s;let G:=sG xs g.2;let Y:=sG xs G.2
 let k:=sM xs (hf xs) Y.2;let eP:=hf xs k.2;let i:=sM xs (rl xs) eP.2
 let l:=if g.1.2=true then sM xs (rS xs) i.2 else([],i.2)
 (⟨g.1.2,⟨g.1.1,G.1,Y.1⟩,k.1,eP.1,i.1,l.1⟩,l.2)
def N1:yO:=⟨false,⟨0,0,0⟩,[],aO 32,[],[]⟩
def ut(xs:List UInt8):yO×Nat×Int:=match(h4 xs (.ok 0)).2 with| .ok a=>((h4 xs (.ok 0)).1,a,0)| .error e=>(N1,0,e)
def jZ(l:List ((ec×List UInt8)×(ec×List UInt8))):List eH:=l.flatMap λp=>[V p.1.1.v 5 p.1.2,V p.2.1.v 5 p.2.2]
@[irreducible] def hX (l:List ((ec×List UInt8)×(ec×List UInt8))):eH:=hC (jZ l)
theorem N2(l:List ((ec×List UInt8)×(ec×List UInt8))):hX l=hC (jZ l):=by unfold hX;rfl
theorem Z2(l:List ((ec×List UInt8)×(ec×List UInt8)))(p:(ec×List UInt8)×(ec×List UInt8)):jZ (l++[p])=jZ l++[V p.1.1.v 5 p.1.2,V p.2.1.v 5 p.2.2]:=by simp[jZ]
theorem U.vG(h:U w0 S w):U w0 (hX []::S) w:=by
 rw[N2];exact U.closed (l:=jZ []) h
theorem L3(h:U w0 (V p.1.1.v 5 p.1.2::V p.2.1.v 5 p.2.2::hX l::S) w):U w0 (hX (l++[p])::S) w:=by
 rw[N2,Z2];have G:U w0 (hX l::(V p.1.1.v 5 p.1.2::V p.2.1.v 5 p.2.2::S)) w:=h.hK (((List.Perm.swap (hX l) (V p.2.1.v 5 p.2.2) S).cons _).trans (List.Perm.swap (hX l) (V p.1.1.v 5 p.1.2) _));rw[N2]at G;refine U.closed (l:=jZ l++[V p.1.1.v 5 p.1.2,V p.2.1.v 5 p.2.2]) ?_;rw[List.append_assoc];exact G.de
def dY(is:List Instr)(cs:List (UInt8×List UInt8×List UInt8)):List ((ec×List UInt8)×(ec×List UInt8)):=List.zipWith (λi c=>((i.cS,c.2.1),(i.data,c.2.2))) is cs
def fW(t8:List iX)(cs:List (Vector UInt8 32×List UInt8×List UInt8)):List ((ec×List UInt8)×(ec×List UInt8)):=List.zipWith (λi c=>((i.iY,c.2.1),(i.p8,c.2.2))) t8 cs
theorem Gp{is:List Instr}{cs:List (UInt8×List UInt8×List UInt8)}(h:is.length=cs.length){i:Instr}{c:UInt8×List UInt8×List UInt8}:dY (is++[i]) (cs++[c])=dY is cs++[((i.cS,c.2.1),(i.data,c.2.2))]:=by
 unfold dY;rw[List.zipWith_append (by exact h)];rfl
theorem Z3(h:is.length=cs.length):fW (is++[i]) (cs++[c])=fW is cs++[((i.iY,c.2.1),(i.p8,c.2.2))]:=by
 unfold fW;rw[List.zipWith_append (by exact h)];rfl
abbrev sQ(p:Nat)(bs:ec)(ot:Nat):eH:=B p (O.enc (⟨bs,(ot:Int)⟩:ma)) 524
def mH(e:Int):Value:=.iface 520 (.agg (O.enc (⟨e⟩:Stop)))
theorem Z4(h:a+n<=1000000000000000000):IntKind.i64.wrap (((a+n:Nat):Int) -(n:Int))=(a:Int):=by rw[IntKind.wrap_i64];omega
theorem Z5{l:List UInt8}(h:0<l.length):l[0]=l.headD 0:=by cases l with
 |nil=>simp at h
 |cons x r=>rfl
theorem L4:hU prog 345 #[.bool b,.int .i64 e] w0 (λu w'=>b=true/\eV w0 w') (λv w'=>b=false/\v=mH e/\eV w0 w'):=by
 refine hU.enter (args:=[.bool b,.int .i64 e]) func345 rfl ntmps345 results345 rfl ?_;have E:=eY w0;refine eA 6 E<|om 2 1 (λa w E=>?_) (λa w E=>?_)
 .
   refine af 0 E (p5 (⟨e⟩:Stop)) λw E=>?_;refine et (J.iface rfl ?_);exact Qd (rM.panic rfl ⟨_,rfl,(by simpa using a),rfl,E.ee⟩)
 .
   refine Qu .nil ?_;exact⟨by simpa using a,E.ee⟩
theorem L5{p:Nat}(hb:ex ea bs.v xs)(o2:xs.length<=1000000000)(ep:a<=xs.length)(z:n<=1000000)(eC:U ea (sQ p bs a::S) w0):hU prog 378 #[N p,i6 n] w0 (λu w'=>∃(s:ec)(tc:Nat),u=s.v/\(cH xs n (.ok a)).2= .ok tc/\U ea (V s.v 5 (cH xs n (.ok a)).1::sQ p bs tc::S) w') (λv w'=>∃(e:Int)(tc:Nat),(cH xs n (.ok a)).2= .error e/\v=mH e/\U ea (sQ p bs tc::S) w'):=by
 refine hU.enter (args:=[N p,i6 n]) func378 rfl ntmps378 results378 rfl ?_;have E:=eY w0;replace E:=eC;have A:(a:Int)<=xs.length:=by omega
 refine eA 6 E λw E=>?_;refine TI 13 (eX [0,1,2,3,4,5,6,7,8,9,10,11] (.one 12 .nil)) (by kernel_rfl) (λ_ _ _ _ h=>h) (λaB g=>⟨eV aB,eV.refl aB,?_⟩);replace E:=E.es g;have c:=E;have d:=eY aB;have:=aL hb;refine ht 10 c ?_;refine ss c rfl (λw E=>J.sub rfl rfl (wrap_i64 (by omega)) eG) (ht 1 c ?_);refine Qc rfl rfl rfl (rM.call (L4) rfl ?_ ?_)
 .rintro ob w ⟨k,rfl,f⟩;replace d:=d.es f;refine⟨_,rfl,5,a,?_,rfl,c.jd d⟩;have q:¬n<=xs.length-a:=by
   have:=of_decide_eq_false k;omega
  rw[LQ,if_neg q]
 rintro _ w ⟨r,f⟩;replace d:=d.es f;refine⟨d.ee,?_⟩;have E:=iq c d;refine e2.nil ?_;have t:n<=xs.length-a:=by
  have:=of_decide_eq_true r;omega
 have x:cH xs n (.ok a)=((xs.drop a).take n,.ok (a+n)):=by rw[LQ,if_pos t]
 refine s6 11 E ⟨ib,λw E=>?_⟩;refine oE (iU (b:=p) (o:=1) (v:=.int .i64 ((a:Int)+(n:Int))) (eo:=1) (cs:=O.enc (⟨bs,(a:Int)⟩:ma)) (iA:=O.enc (⟨bs,((a+n:Nat):Int)⟩:ma)) E rfl rfl en rfl (by rw[O.ez];exact Nat.le_refl 2) (oZ _ _) (Gm ⟨bs,(a:Int)⟩ _) (tH en λw E=>(ey 3 E λw E=>?_)));refine TI 17 (eX [0,1,2,3,4,5,6,7,8,9,10,11,12,13,14] (.one 15 (.look 16 .nil))) (by kernel_rfl) (λ_ _ _ _ h=>h) (λaB g=>⟨eV aB,eV.refl aB,?_⟩);replace E:=E.es g;have c:=E;have d:=eY aB;refine ht 9 c ?_;refine ss c rfl (λw E=>J.sub rfl rfl (Z4 (by omega)) eG) ?_;refine ht 4 c ?_;refine ss c rfl (λw E=>hj (hb.es E.ee) (xs:=xs) (l:=a) (h':=a+n) (m:=s2 bs.v) ⟨rfl,Nat.le_refl _⟩ ⟨⟨_,rfl⟩,by have:=(hb.es E.ee).cap;omega⟩ ⟨⟨_,rfl⟩,by omega⟩ eG) ?_;refine ol rfl (J.call (ZY (by have G:=(hb.es E.ee).cut (l:=a) (h:=a+n) (m:=s2 bs.v) (by omega) (by omega) (by have:=(hb.es E.ee).cap;omega) (Nat.le_refl _);rw[List.drop_take,Nat.add_sub_cancel_left]at G;exact G) (by rw[List.length_take];omega)) rfl ?_);rintro i w ⟨j,f⟩;replace d:=d.pB f j.1 j.2;refine⟨d.ee,?_⟩;have E:=iq c d;refine ht 1 c ?_;refine e2.nil ?_;refine s6 2 E λw E=>?_;refine wO (.w9 (v:=i) rfl .nil) ?_;obtain⟨y,rfl⟩:=(E.eu (v:=i) (xs:=(xs.drop a).take n) en).mI;rw[x];exact⟨y,a+n,rfl,rfl,E⟩
theorem Aq{p:Nat}(hb:ex ea bs.v xs)(o2:xs.length<=1000000000)(ep:a<=xs.length)(eC:U ea (sQ p bs a::S) w0):hU prog 344 #[N p] w0 (λu w'=>∃tc:Nat,u= .int .u8 ((sG xs (.ok a)).1.toNat:Int)/\(sG xs (.ok a)).2= .ok tc/\tc<=xs.length/\U ea (sQ p bs tc::S) w') (λv w'=>∃(e:Int)(tc:Nat),(sG xs (.ok a)).2= .error e/\v=mH e/\U ea (sQ p bs tc::S) w'):=by
 refine hU.enter (args:=[N p]) func344 rfl ntmps344 results344 rfl ?_;have E:=eY w0;replace E:=eC;refine eA 8 E λw E=>?_;refine dn rfl (rM.call (L5 (p:=p) (bs:=bs) (xs:=xs) (a:=a) hb o2 ep (n:=1) (by omega) E) rfl ?_ ?_)
 .rintro ob w ⟨e,tc,b,rfl,E⟩;exact⟨_,rfl,e,tc,by exact b,rfl,E.sub aS⟩
 rintro _ w ⟨d,tc,rfl,b,E⟩;obtain⟨G,Y,ej,e8,au⟩:=LZ ep b;have c:=E.eu (v:=d.v) (xs:=(cH xs 1 (.ok a)).1) en;refine et (nX rfl (c) rfl (by omega) (et (ag rfl ((c.tb (List.getElem?_eq_getElem (by omega))).ab rfl) ?_)));refine ey 4 E λw E=>?_;refine wO (.hB rfl .nil) ?_;exact⟨tc,congrArg (λx:UInt8=>Value.int .u8 (x.toNat:Int)) (Z5 (by omega)),b,G,E.nS⟩
theorem N3{p:Nat}(hb:ex ea bs.v xs)(o2:xs.length<=1000000000)(ep:a<=xs.length)(eC:U ea (sQ p bs a::S) w0):hU prog 379 #[N p] w0 (λu w'=>∃tc:Nat,u= .int .i64 ((nL xs (.ok a)).1:Int)/\(nL xs (.ok a)).2= .ok tc/\tc<=xs.length/\U ea (sQ p bs tc::S) w') (λv w'=>∃(e:Int)(tc:Nat),(nL xs (.ok a)).2= .error e/\v=mH e/\U ea (sQ p bs tc::S) w'):=by
 refine hU.enter (args:=[N p]) func379 rfl ntmps379 results379 rfl ?_;have E:=eY w0;replace E:=eC;have r:(a:Int)<=xs.length:=by omega
 refine eA 6 E λw E=>?_;refine TI 17 (eX [0,1,2,3,4,5,6,7,8] (.one 9 (eX [10,11,12,13,14,15,16] .nil))) (by kernel_rfl) (λ_ _ _ _ h=>h) (λaB k=>⟨eV aB,eV.refl aB,?_⟩);replace E:=E.es k;have d:=E;have f:=eY aB;refine ht 8 d ?_;refine ss d rfl (λw E=>hj (hb.es E.ee) (xs:=xs) (l:=a) (h':=xs.length) (m:=s2 bs.v) ⟨rfl,Nat.le_refl _⟩ ⟨⟨rfl,rfl⟩,(hb.es E.ee).cap⟩ ⟨⟨_,rfl⟩,by omega⟩ eG) (ol rfl (J.call (Gc (by have G:=(hb.es E.ee).cut (l:=a) (h:=xs.length) (m:=s2 bs.v) (by omega) (by omega) (hb.es E.ee).cap (Nat.le_refl _);rw[List.take_length]at G;exact G)) rfl ?_));rintro _ w ⟨rfl,c⟩;replace f:=f.es c;refine⟨f.ee,?_⟩;have E:=iq d f;refine ht 7 d ?_;refine e2.nil ?_;have i:=Aj (xs.drop a) 0 0 (by omega) (by omega);rw[List.length_drop]at i;refine s6 6 E λw E=>?_;refine dn rfl (rM.call (L4) rfl ?_ ?_)
 .rintro ob w ⟨n,rfl,c⟩;replace E:=E.es c;exact⟨_,rfl,_,a,by rw[L0,if_neg (of_decide_eq_false n)],rfl,E⟩
 rintro _ w ⟨g,c⟩;replace E:=E.es c;replace g:=of_decide_eq_true g;have q:=i.2.2.2 g;refine ey 12 E ⟨ib,λw E=>?_⟩;refine oE (iU (b:=p) (o:=1) (v:=.int .i64 ((a:Int)+(gs (xs.drop a) 0 0).2.1)) (eo:=1) (cs:=O.enc (⟨bs,(a:Int)⟩:ma)) (iA:=O.enc (⟨bs,((a+(gs (xs.drop a) 0 0).2.1.toNat:Nat):Int)⟩:ma)) E rfl rfl en rfl (by rw[O.ez];exact Nat.le_refl 2) (oZ _ _) (by rw[show(((a+(gs (xs.drop a) 0 0).2.1.toNat:Nat):Int))=(a:Int)+(gs (xs.drop a) 0 0).2.1 from by omega];exact Gm ⟨bs,(a:Int)⟩ _) (tH en λw E=>(ey 9 E λw E=>?_)));refine wO (.hB rfl .nil) ?_;have j:(nL xs (.ok a)).2= .ok (a+(gs (xs.drop a) 0 0).2.1.toNat):=by rw[L0,if_pos g]
 exact⟨_,congrArg (Value.int .i64) (show(gs (xs.drop a) 0 0).1=(((gs (xs.drop a) 0 0).1.toNat:Nat):Int)from by omega),j,Gf ep j,E⟩
theorem N4{p:Nat}(hb:ex ea bs.v xs)(o2:xs.length<=1000000000)(ep:a<=xs.length)(eC:U ea (sQ p bs a::S) w0):hU prog 380 #[N p] w0 (λu w'=>∃(s:ec)(tc:Nat),u=s.v/\(mo xs (.ok a)).2= .ok tc/\tc<=xs.length/\U ea (V s.v 5 (mo xs (.ok a)).1::sQ p bs tc::S) w') (λv w'=>∃(e:Int)(tc:Nat),(mo xs (.ok a)).2= .error e/\v=mH e/\U ea (sQ p bs tc::S) w'):=by
 refine hU.enter (args:=[N p]) func380 rfl ntmps380 results380 rfl ?_;have E:=eY w0;replace E:=eC;refine eA 9 E λw E=>?_;refine dn rfl (rM.call (N3 hb o2 ep E) rfl ?_ ?_)
 .rintro ob w ⟨e,tc,b,rfl,E⟩;exact⟨_,rfl,e,tc,by simp only[mo,b,Z1],rfl,E.sub aS⟩
 rintro _ w ⟨f,rfl,G,c,E⟩;have hlt:=N0 (xs:=xs) (s:=(.ok a));refine dn rfl (rM.call (L5 hb o2 c (by omega) E) rfl ?_ ?_)
 .rintro ob w ⟨e,tc,b,rfl,E⟩;exact⟨_,rfl,e,tc,by simp only[mo,G,b],rfl,E.sub aS⟩
 rintro _ w ⟨d,g,rfl,Y,E⟩;obtain⟨h,n,o,q,fH⟩:=LZ c Y;refine et (J.call (ZB (E.eu (v:=d.v) (xs:=(cH xs (nL xs (.ok a)).1 (.ok f)).1) en)) rfl ?_);rintro i w ⟨j,k⟩;replace E:=E.es k;refine ey 4 E λw E=>?_;refine wO (.w9 (v:=i) rfl .nil) ?_;subst j;replace E:=E.bS (v:=d.v) (T:=5) en;obtain⟨l,m⟩:=(E.eu (α:=UInt8) en).mI;rw[m]at E⊢;refine⟨l,g,rfl,?_,h,?_⟩
 .simp only[mo,G,Y]
 simp only[mo,G];exact E
theorem L7{p:Nat}(hb:ex ea bs.v xs)(o2:xs.length<=1000000000)(ep:a<=xs.length)(eC:U ea (sQ p bs a::S) w0):hU prog 347 #[N p] w0 (λu w'=>∃tc:Nat,u= .agg (O.enc (hf xs (.ok a)).1)/\(hf xs (.ok a)).2= .ok tc/\tc<=xs.length/\U ea (sQ p bs tc::S) w') (λv w'=>∃(e:Int)(tc:Nat),(hf xs (.ok a)).2= .error e/\v=mH e/\U ea (sQ p bs tc::S) w'):=by
 refine hU.enter (args:=[N p]) func347 rfl ntmps347 results347 rfl ?_;have E:=eY w0;replace E:=eC;refine eA 8 E λao w E=>?_;refine dn rfl (rM.call (L5 (p:=p) (bs:=bs) (xs:=xs) (a:=a) hb o2 ep (n:=32) (by omega) (E.pick en)) rfl ?_ ?_)
 .rintro ob w ⟨e,tc,b,rfl,E⟩;exact⟨_,rfl,e,tc,by exact b,rfl,E.sub aS⟩
 rintro _ w ⟨d,tc,rfl,b,E⟩;obtain⟨G,Y,ej,e8,au⟩:=LZ ep b;have c:=E.eu (v:=d.v) (xs:=(cH xs 32 (.ok a)).1) en;refine et (Ls (n:=32) (xs:=(cH xs 32 (.ok a)).1) rfl c au (by omega) (et (ag rfl ((c.key (n:=31) au).n5 (O.ez _)) (ey 4 E λw E=>?_))));refine wO (.cell (by first|exact E.n5 en (by first|rfl|exact O.ez _)|exact E.a6 en rfl) .nil) ?_;exact⟨tc,rfl,b,G,E.sub aS⟩
theorem eee:(eK [#[.int .u8 0],#[eF],#[eF]])=O.enc (⟨0,ed,ed⟩:Instr):=by
 simp only[P7,Instr.parts,iW];rfl
theorem eet{p:Nat}(hb:ex ea bs.v xs)(o2:xs.length<=1000000000)(ep:a<=xs.length)(eC:U ea (sQ p bs a::S) w0):hU prog 349 #[N p] w0 (λu w'=>∃(i:Instr)(tc:Nat),u= .agg (O.enc i)/\i.program=(rl xs (.ok a)).1.1/\(rl xs (.ok a)).2= .ok tc/\tc<=xs.length/\U ea (V i.cS.v 5 (rl xs (.ok a)).1.2.1::V i.data.v 5 (rl xs (.ok a)).1.2.2::sQ p bs tc::S) w') (λv w'=>∃(e:Int)(tc:Nat),(rl xs (.ok a)).2= .error e/\v=mH e/\U ea (sQ p bs tc::S) w'):=by
 refine hU.enter (args:=[N p]) func349 rfl ntmps349 results349 rfl ?_;have E:=eY w0;replace E:=eC;refine eA 3 E λao w E=>?_;rw[eee]at E;refine ey 5 E λw E=>?_;refine dn rfl (rM.call (Aq hb o2 ep (E.pick en)) rfl ?_ ?_)
 .rintro ob w ⟨e,tc,b,rfl,E⟩;exact⟨_,rfl,e,tc,by simp only[rl,b,NZ],rfl,E.sub aS⟩
 rintro _ w ⟨c,rfl,G,f,E⟩;refine ey 7 E λw E=>?_;refine dn rfl (rM.call (N4 hb o2 f (E.pick en)) rfl ?_ ?_)
 .rintro ob w ⟨e,tc,b,rfl,E⟩;exact⟨_,rfl,e,tc,by simp only[rl,G,b,NZ],rfl,E.sub aS⟩
 rintro _ w ⟨d,g,rfl,Y,h,E⟩;refine ey 7 E λw E=>?_;refine dn rfl (rM.call (N4 hb o2 h (E.pick en)) rfl ?_ ?_)
 .rintro ob w ⟨e,tc,b,rfl,E⟩;exact⟨_,rfl,e,tc,by simp only[rl,G,Y,b],rfl,E.sub aS⟩
 rintro _ w ⟨j,a3,rfl,ej,k,E⟩;refine ey 11 E λw E=>?_;refine wO (.cell (by first|exact E.n5 en (by first|rfl|exact O.ez _)|exact E.a6 en rfl) .nil) ?_;refine⟨(⟨(sG xs (.ok a)).1,d,j⟩:Instr),a3,rfl,rfl,?_,k,?_⟩
 .simp only[rl,G,Y,ej]
 have l:(rl xs (.ok a)).1.2.1=(mo xs (.ok c)).1:=by simp only[rl,G]
 have m:(rl xs (.ok a)).1.2.2=(mo xs (.ok g)).1:=by simp only[rl,G,Y]
 rw[l,m];have E:=(E.pick (e:=V d.v 5 (mo xs (.ok c)).1) en);exact E.sub aS
theorem eea:(eK [(Array.replicate 32 (.int .u8 0)),#[eF],#[eF]])=O.enc (⟨aO 32,ed,ed⟩:iX):=by
 simp only[Zj,iX.parts,iW];rfl
theorem eeo{p:Nat}(hb:ex ea bs.v xs)(o2:xs.length<=1000000000)(ep:a<=xs.length)(eC:U ea (sQ p bs a::S) w0):hU prog 351 #[N p] w0 (λu w'=>∃(i:iX)(tc:Nat),u= .agg (O.enc i)/\i.table=(rS xs (.ok a)).1.1/\(rS xs (.ok a)).2= .ok tc/\tc<=xs.length/\U ea (V i.iY.v 5 (rS xs (.ok a)).1.2.1::V i.p8.v 5 (rS xs (.ok a)).1.2.2::sQ p bs tc::S) w') (λv w'=>∃(e:Int)(tc:Nat),(rS xs (.ok a)).2= .error e/\v=mH e/\U ea (sQ p bs tc::S) w'):=by
 refine hU.enter (args:=[N p]) func351 rfl ntmps351 results351 rfl ?_;have E:=eY w0;replace E:=eC;refine eA 3 E λao w E=>?_;rw[eea]at E;refine ey 5 E λw E=>?_;refine dn rfl (rM.call (L7 hb o2 ep (E.pick en)) rfl ?_ ?_)
 .rintro ob w ⟨e,tc,b,rfl,E⟩;exact⟨_,rfl,e,tc,by simp only[rS,b,NZ],rfl,E.sub aS⟩
 rintro _ w ⟨c,rfl,G,f,E⟩;refine ey 7 E λw E=>?_;refine dn rfl (rM.call (N4 hb o2 f (E.pick en)) rfl ?_ ?_)
 .rintro ob w ⟨e,tc,b,rfl,E⟩;exact⟨_,rfl,e,tc,by simp only[rS,G,b,NZ],rfl,E.sub aS⟩
 rintro _ w ⟨d,g,rfl,Y,h,E⟩;refine ey 7 E λw E=>?_;refine dn rfl (rM.call (N4 hb o2 h (E.pick en)) rfl ?_ ?_)
 .rintro ob w ⟨e,tc,b,rfl,E⟩;exact⟨_,rfl,e,tc,by simp only[rS,G,Y,b],rfl,E.sub aS⟩
 rintro _ w ⟨j,a3,rfl,ej,k,E⟩;refine ey 11 E λw E=>?_;refine wO (.cell (by first|exact E.n5 en (by first|rfl|exact O.ez _)|exact E.a6 en rfl) .nil) ?_;refine⟨(⟨(hf xs (.ok a)).1,d,j⟩:iX),a3,rfl,rfl,?_,k,?_⟩
 .simp only[rS,G,Y,ej]
 have l:(rS xs (.ok a)).1.2.1=(mo xs (.ok c)).1:=by simp only[rS,G]
 have m:(rS xs (.ok a)).1.2.2=(mo xs (.ok g)).1:=by simp only[rS,G,Y]
 rw[l,m];have E:=(E.pick (e:=V d.v 5 (mo xs (.ok c)).1) en);exact E.sub aS
variable{p:Nat}{v:Value}
theorem eei{xs:List (Vector UInt8 32)}(Z:ex w0 v xs):tS 89 #[v] w0 (nz v 0 xs.length xs.length (O.eo ((Vector UInt8 32)))):=by
 have:=aL Z;refine eN 12 (eY _) func89 ntmps89 results89 rfl λw E=>?_;exact et (hj (Z.es E.ee) ⟨⟨_,rfl⟩,Z.cap⟩ ⟨⟨_,rfl⟩,Nat.le_refl _⟩ ⟨rfl,Nat.zero_le _⟩ (ey 5 E λw E=>(⟨rfl,E.ee⟩)))
theorem een{xs:List Instr}(Z:ex w0 v xs):tS 245 #[v] w0 (nz v 0 xs.length xs.length (O.eo (Instr))):=by
 have:=aL Z;refine eN 12 (eY _) func245 ntmps245 results245 rfl λw E=>?_;exact et (hj (Z.es E.ee) ⟨⟨_,rfl⟩,Z.cap⟩ ⟨⟨_,rfl⟩,Nat.le_refl _⟩ ⟨rfl,Nat.zero_le _⟩ (ey 5 E λw E=>(⟨rfl,E.ee⟩)))
theorem ees{xs:List iX}(Z:ex w0 v xs):tS 247 #[v] w0 (nz v 0 xs.length xs.length (O.eo (iX))):=by
 have:=aL Z;refine eN 12 (eY _) func247 ntmps247 results247 rfl λw E=>?_;exact et (hj (Z.es E.ee) ⟨⟨_,rfl⟩,Z.cap⟩ ⟨⟨_,rfl⟩,Nat.le_refl _⟩ ⟨rfl,Nat.zero_le _⟩ (ey 5 E λw E=>(⟨rfl,E.ee⟩)))
theorem eer(hb:ex ea bs.v xs)(o2:xs.length<=1000000000)(ep:a<=xs.length)(eC:U ea (sQ p bs a::S) w0):hU prog 346 #[N p,.func (.func 347) #[N p] #[]] w0 (λu w'=>∃(s:ec)(tc:Nat),u=s.v/\(sM xs (hf xs) (.ok a)).2= .ok tc/\tc<=xs.length/\(sM xs (hf xs) (.ok a)).1.length<65536/\U ea (V s.v 60 (sM xs (hf xs) (.ok a)).1::sQ p bs tc::S) w') (λv w'=>∃(e:Int)(tc:Nat),(sM xs (hf xs) (.ok a)).2= .error e/\v=mH e/\U ea (sQ p bs tc::S) w'):=by
 refine hU.enter (args:=[N p,.func (.func 347) #[N p] #[]]) func346 rfl ntmps346 results346 rfl ?_;have E:=eY w0;replace E:=eC;refine eA 9 E λw E=>?_;refine dn rfl (rM.call (N3 hb o2 ep E) rfl ?_ ?_)
 .rintro ob w ⟨e,tc,h,rfl,E⟩;exact⟨_,rfl,e,tc,by unfold sM;rw[h,zJ],rfl,E⟩
 rintro _ w ⟨a0,rfl,em,x,E⟩;have hlt:=N0 (xs:=xs) (s:=(.ok a));have d:sM xs (hf xs) (.ok a)=lz (hf xs) (nL xs (.ok a)).1 (.ok a0):=by unfold sM;rw[em]
 refine ey 4 E λw E=>?_;refine ek.loop (λq f w=>∃(k b:Nat)(v:Value)(l:List (Vector UInt8 32)),oV [(1,.func (.func 347) #[N p] #[]),(4,v),(6,.int .i64 ((nL xs (.ok a)).1:Int)),(7,i6 k)] f/\U ea (V v 60 l::sQ p bs b::S) w/\k<=(nL xs (.ok a)).1/\b<=xs.length/\l.length=k/\lz (hf xs) (nL xs (.ok a)).1 (.ok a0)=(l++(lz (hf xs) ((nL xs (.ok a)).1-k) (.ok b)).1,(lz (hf xs) ((nL xs (.ok a)).1-k) (.ok b)).2)/\q=(nL xs (.ok a)).1-k) ((nL xs (.ok a)).1) ?_ ?_
 .
   exact⟨0,a0,eF,[],⟨rfl,rfl,rfl,rfl,trivial⟩,E.lR 60,Nat.zero_le _,x,rfl,rfl,rfl⟩
 .
   rintro q f w ⟨k,b,v,l,j,E,I,m,y,c,e5⟩;refine il _ j (λg=>?_);clear j;refine eA 6 E<|om 0 0 (λz w E=>?_) (λz w E=>?_)
   .
     have K:k<(nL xs (.ok a)).1:=by omega
     have n:(nL xs (.ok a)).1-k=((nL xs (.ok a)).1-(k+1))+1:=by omega
     refine eA 7 E λw E=>?_;refine dn rfl (Lh (vs:=[]) rfl (L7 hb o2 m (E.pick en)) rfl ?_ ?_)
     .rintro ob w ⟨e,tc,h,rfl,E⟩;exact⟨_,rfl,e,tc,by rw[d,c,n,zQ,h,zJ],rfl,E.sub aS⟩
     rintro _ w ⟨i,rfl,G,A,E⟩;refine et (n7 E (([(hf xs (.ok b)).1]:List (Vector UInt8 32))) [.agg (O.enc ((hf xs (.ok b)).1))] rfl rfl rfl rfl (by decide) ?_);intro B w o E;refine et (dj (α:=Vector UInt8 32) (v:=v) (xs:=l) rfl E rfl en (E.eu (v:=ta B 1 1) (xs:=[(hf xs (.ok b)).1]) en) (by simp only[List.length_cons,List.length_nil];omega) (by simp only[List.length_cons,List.length_nil,maxLen];omega) ?_);intro r w E;replace E:=E _ en;refine ey 9 E ⟨ib,λw E=>?_⟩;have C:lz (hf xs) (nL xs (.ok a)).1 (.ok a0)=((l++[((hf xs (.ok b)).1)])++(lz (hf xs) ((nL xs (.ok a)).1-(k+1)) (.ok i)).1,(lz (hf xs) ((nL xs (.ok a)).1-(k+1)) (.ok i)).2):=by
      rw[c,n,zQ,G,List.append_assoc];rfl
     exact⟨(nL xs (.ok a)).1-(k+1),by omega,k+1,i,r,l++[((hf xs (.ok b)).1)],⟨rfl,rfl,rfl,congrArg (Value.int .i64) (by omega),trivial⟩,(E.pick (e:=V r 60 (l++[((hf xs (.ok b)).1)])) en).sub aS,by omega,A,by rw[List.length_append,y];rfl,C,rfl⟩
   .
     obtain rfl:k=(nL xs (.ok a)).1:=by omega
     rw[Nat.sub_self]at c;refine eA 8 E λw E=>?_;refine et (J.call (eei (E.eu (v:=v) (xs:=l) en)) rfl ?_);rintro D w ⟨F,o⟩;replace E:=E.es o;refine ey 4 E λw E=>?_;refine wO (.w9 (v:=D) rfl .nil) ?_;subst F;replace E:=E.bS (v:=v) (T:=60) (xs:=l) en;obtain⟨t,H⟩:=(E.eu (α:=Vector UInt8 32) (xs:=l) en).mI;rw[H]at E⊢;refine⟨t,b,rfl,?_,m,?_,?_⟩
     .rw[d,c];rfl
     .rw[d,c];show(l++[]).length<65536;rw[List.append_nil];omega
     rw[d,c];show U ea (V t.v _ (l++[])::_) _;rw[List.append_nil];exact E
theorem eeh(hb:ex ea bs.v xs)(o2:xs.length<=1000000000)(ep:a<=xs.length)(eC:U ea (sQ p bs a::S) w0):hU prog 348 #[N p,.func (.func 349) #[N p] #[]] w0 (λu w'=>∃(s:ec)(is:List Instr)(tc:Nat),u=s.v/\(sM xs (rl xs) (.ok a)).2= .ok tc/\tc<=xs.length/\is.length=(sM xs (rl xs) (.ok a)).1.length/\is.map (·.program)=(sM xs (rl xs) (.ok a)).1.map (·.1)/\(sM xs (rl xs) (.ok a)).1.length<65536/\U ea (V s.v 230 is::hX (dY is (sM xs (rl xs) (.ok a)).1)::sQ p bs tc::S) w') (λv w'=>∃(e:Int)(tc:Nat),(sM xs (rl xs) (.ok a)).2= .error e/\v=mH e/\U ea (sQ p bs tc::S) w'):=by
 refine hU.enter (args:=[N p,.func (.func 349) #[N p] #[]]) func348 rfl ntmps348 results348 rfl ?_;have E:=eY w0;replace E:=eC;refine eA 9 E λw E=>?_;refine dn rfl (rM.call (N3 hb o2 ep E) rfl ?_ ?_)
 .rintro ob w ⟨e,tc,h,rfl,E⟩;exact⟨_,rfl,e,tc,by unfold sM;rw[h,zJ],rfl,E⟩
 rintro _ w ⟨a0,rfl,em,B,E⟩;have hlt:=N0 (xs:=xs) (s:=(.ok a));have j:sM xs (rl xs) (.ok a)=lz (rl xs) (nL xs (.ok a)).1 (.ok a0):=by unfold sM;rw[em]
 refine ey 4 E λw E=>?_;refine ek.loop (λq f w=>∃(k b:Nat)(v:Value)(l:List (UInt8×List UInt8×List UInt8))(is:List Instr),oV [(1,.func (.func 349) #[N p] #[]),(4,v),(6,.int .i64 ((nL xs (.ok a)).1:Int)),(7,i6 k)] f/\U ea (V v 230 is::hX (dY is l)::sQ p bs b::S) w/\k<=(nL xs (.ok a)).1/\b<=xs.length/\l.length=k/\is.length=l.length/\is.map (·.program)=l.map (·.1)/\lz (rl xs) (nL xs (.ok a)).1 (.ok a0)=(l++(lz (rl xs) ((nL xs (.ok a)).1-k) (.ok b)).1,(lz (rl xs) ((nL xs (.ok a)).1-k) (.ok b)).2)/\q=(nL xs (.ok a)).1-k) ((nL xs (.ok a)).1) ?_ ?_
 .
   exact⟨0,a0,eF,[],[],⟨rfl,rfl,rfl,rfl,trivial⟩,(E.vG).lR 230,Nat.zero_le _,B,rfl,rfl,rfl,rfl,rfl⟩
 .
   rintro q f w ⟨k,b,v,l,is,o,E,R,r,C,m,t,c,e5⟩;refine il _ o (λg=>?_);clear o;refine eA 6 E<|om 0 0 (λD w E=>?_) (λD w E=>?_)
   .
     have W:k<(nL xs (.ok a)).1:=by omega
     have y:(nL xs (.ok a)).1-k=((nL xs (.ok a)).1-(k+1))+1:=by omega
     refine eA 7 E λw E=>?_;refine dn rfl (Lh (vs:=[]) rfl (eet hb o2 r (E.pick en)) rfl ?_ ?_)
     .rintro ob w ⟨e,tc,h,rfl,E⟩;exact⟨_,rfl,e,tc,by rw[j,c,y,zQ,h,zJ],rfl,E.sub aS⟩
     rintro _ w ⟨i,n,rfl,F,G,H,E⟩;refine et (n7 E (([i]:List (Instr))) [.agg (O.enc (i))] rfl rfl rfl rfl (by decide) ?_);intro I w z E;refine et (dj (α:=Instr) (v:=v) (xs:=is) rfl E rfl en (E.eu (v:=ta I 1 1) (xs:=[i]) en) (by simp only[List.length_cons,List.length_nil];omega) (by simp only[List.length_cons,List.length_nil,maxLen];omega) ?_);intro A w E;replace E:=E _ en;replace E:=L3 (p:=((i.cS,((rl xs (.ok b)).1).2.1),(i.data,((rl xs (.ok b)).1).2.2))) (l:=dY is l) (((E.pick (e:=hX (dY is l)) en).pick (e:=V i.data.v 5 ((rl xs (.ok b)).1).2.2) en).pick (e:=V i.cS.v 5 ((rl xs (.ok b)).1).2.1) en);rw[<-Gp m]at E;refine ey 9 E ⟨ib,λw E=>?_⟩;have K:lz (rl xs) (nL xs (.ok a)).1 (.ok a0)=((l++[((rl xs (.ok b)).1)])++(lz (rl xs) ((nL xs (.ok a)).1-(k+1)) (.ok n)).1,(lz (rl xs) ((nL xs (.ok a)).1-(k+1)) (.ok n)).2):=by
      rw[c,y,zQ,G,List.append_assoc];rfl
     exact⟨(nL xs (.ok a)).1-(k+1),by omega,k+1,n,A,l++[((rl xs (.ok b)).1)],is++[i],⟨rfl,rfl,rfl,congrArg (Value.int .i64) (by omega),trivial⟩,(E.pick (e:=V A 230 (is++[i])) en).sub aS,by omega,H,by rw[List.length_append,C];rfl,by rw[List.length_append,List.length_append,m];rfl,by rw[List.map_append,List.map_append,t];exact congrArg (λx=>l.map (·.1)++[x]) F,K,rfl⟩
   .
     obtain rfl:k=(nL xs (.ok a)).1:=by omega
     rw[Nat.sub_self]at c;refine eA 8 E λw E=>?_;refine et (J.call (een (E.eu (v:=v) (xs:=is) en)) rfl ?_);rintro L w ⟨M,z⟩;replace E:=E.es z;refine ey 4 E λw E=>?_;refine wO (.w9 (v:=L) rfl .nil) ?_;subst M;replace E:=E.bS (v:=v) (T:=230) (xs:=is) en;obtain⟨P,Q⟩:=(E.eu (α:=Instr) (xs:=is) en).mI;rw[Q]at E⊢;have d:(sM xs (rl xs) (.ok a)).1=l:=by rw[j,c];exact List.append_nil l
     refine⟨P,is,b,rfl,?_,r,?_,?_,?_,?_⟩
     .rw[j,c];rfl
     .rw[d];exact m
     .rw[d];exact t
     .rw[d];omega
     rw[d];exact E
theorem eel(hb:ex ea bs.v xs)(o2:xs.length<=1000000000)(ep:a<=xs.length)(eC:U ea (sQ p bs a::S) w0):hU prog 350 #[N p,.func (.func 351) #[N p] #[]] w0 (λu w'=>∃(s:ec)(is:List iX)(tc:Nat),u=s.v/\(sM xs (rS xs) (.ok a)).2= .ok tc/\tc<=xs.length/\is.length=(sM xs (rS xs) (.ok a)).1.length/\is.map (·.table)=(sM xs (rS xs) (.ok a)).1.map (·.1)/\(sM xs (rS xs) (.ok a)).1.length<65536/\U ea (V s.v 221 is::hX (fW is (sM xs (rS xs) (.ok a)).1)::sQ p bs tc::S) w') (λv w'=>∃(e:Int)(tc:Nat),(sM xs (rS xs) (.ok a)).2= .error e/\v=mH e/\U ea (sQ p bs tc::S) w'):=by
 refine hU.enter (args:=[N p,.func (.func 351) #[N p] #[]]) func350 rfl ntmps350 results350 rfl ?_;have E:=eY w0;replace E:=eC;refine eA 9 E λw E=>?_;refine dn rfl (rM.call (N3 hb o2 ep E) rfl ?_ ?_)
 .rintro ob w ⟨e,tc,h,rfl,E⟩;exact⟨_,rfl,e,tc,by unfold sM;rw[h,zJ],rfl,E⟩
 rintro _ w ⟨a0,rfl,em,B,E⟩;have hlt:=N0 (xs:=xs) (s:=(.ok a));have j:sM xs (rS xs) (.ok a)=lz (rS xs) (nL xs (.ok a)).1 (.ok a0):=by unfold sM;rw[em]
 refine ey 4 E λw E=>?_;refine ek.loop (λq f w=>∃(k b:Nat)(v:Value)(l:List (Vector UInt8 32×List UInt8×List UInt8))(is:List iX),oV [(1,.func (.func 351) #[N p] #[]),(4,v),(6,.int .i64 ((nL xs (.ok a)).1:Int)),(7,i6 k)] f/\U ea (V v 221 is::hX (fW is l)::sQ p bs b::S) w/\k<=(nL xs (.ok a)).1/\b<=xs.length/\l.length=k/\is.length=l.length/\is.map (·.table)=l.map (·.1)/\lz (rS xs) (nL xs (.ok a)).1 (.ok a0)=(l++(lz (rS xs) ((nL xs (.ok a)).1-k) (.ok b)).1,(lz (rS xs) ((nL xs (.ok a)).1-k) (.ok b)).2)/\q=(nL xs (.ok a)).1-k) ((nL xs (.ok a)).1) ?_ ?_
 .
   exact⟨0,a0,eF,[],[],⟨rfl,rfl,rfl,rfl,trivial⟩,(E.vG).lR 221,Nat.zero_le _,B,rfl,rfl,rfl,rfl,rfl⟩
 .
   rintro q f w ⟨k,b,v,l,is,o,E,R,r,C,m,t,c,e5⟩;refine il _ o (λg=>?_);clear o;refine eA 6 E<|om 0 0 (λD w E=>?_) (λD w E=>?_)
   .
     have W:k<(nL xs (.ok a)).1:=by omega
     have y:(nL xs (.ok a)).1-k=((nL xs (.ok a)).1-(k+1))+1:=by omega
     refine eA 7 E λw E=>?_;refine dn rfl (Lh (vs:=[]) rfl (eeo hb o2 r (E.pick en)) rfl ?_ ?_)
     .rintro ob w ⟨e,tc,h,rfl,E⟩;exact⟨_,rfl,e,tc,by rw[j,c,y,zQ,h,zJ],rfl,E.sub aS⟩
     rintro _ w ⟨i,n,rfl,F,G,H,E⟩;refine et (n7 E (([i]:List (iX))) [.agg (O.enc (i))] rfl rfl rfl rfl (by decide) ?_);intro I w z E;refine et (dj (α:=iX) (v:=v) (xs:=is) rfl E rfl en (E.eu (v:=ta I 1 1) (xs:=[i]) en) (by simp only[List.length_cons,List.length_nil];omega) (by simp only[List.length_cons,List.length_nil,maxLen];omega) ?_);intro A w E;replace E:=E _ en;replace E:=L3 (p:=((i.iY,((rS xs (.ok b)).1).2.1),(i.p8,((rS xs (.ok b)).1).2.2))) (l:=fW is l) (((E.pick (e:=hX (fW is l)) en).pick (e:=V i.p8.v 5 ((rS xs (.ok b)).1).2.2) en).pick (e:=V i.iY.v 5 ((rS xs (.ok b)).1).2.1) en);rw[<-Z3 m]at E;refine ey 9 E ⟨ib,λw E=>?_⟩;have K:lz (rS xs) (nL xs (.ok a)).1 (.ok a0)=((l++[((rS xs (.ok b)).1)])++(lz (rS xs) ((nL xs (.ok a)).1-(k+1)) (.ok n)).1,(lz (rS xs) ((nL xs (.ok a)).1-(k+1)) (.ok n)).2):=by
      rw[c,y,zQ,G,List.append_assoc];rfl
     exact⟨(nL xs (.ok a)).1-(k+1),by omega,k+1,n,A,l++[((rS xs (.ok b)).1)],is++[i],⟨rfl,rfl,rfl,congrArg (Value.int .i64) (by omega),trivial⟩,(E.pick (e:=V A 221 (is++[i])) en).sub aS,by omega,H,by rw[List.length_append,C];rfl,by rw[List.length_append,List.length_append,m];rfl,by rw[List.map_append,List.map_append,t];exact congrArg (λx=>l.map (·.1)++[x]) F,K,rfl⟩
   .
     obtain rfl:k=(nL xs (.ok a)).1:=by omega
     rw[Nat.sub_self]at c;refine eA 8 E λw E=>?_;refine et (J.call (ees (E.eu (v:=v) (xs:=is) en)) rfl ?_);rintro L w ⟨M,z⟩;replace E:=E.es z;refine ey 4 E λw E=>?_;refine wO (.w9 (v:=L) rfl .nil) ?_;subst M;replace E:=E.bS (v:=v) (T:=221) (xs:=is) en;obtain⟨P,Q⟩:=(E.eu (α:=iX) (xs:=is) en).mI;rw[Q]at E⊢;have d:(sM xs (rS xs) (.ok a)).1=l:=by rw[j,c];exact List.append_nil l
     refine⟨P,is,b,rfl,?_,r,?_,?_,?_,?_⟩
     .rw[j,c];rfl
     .rw[d];exact m
     .rw[d];exact t
     .rw[d];omega
     rw[d];exact E
variable{i o:Nat}{cs v:Array Value}
theorem AN(G:i+v.size<=n)(Y:o+n<=cs.size):iI cs (o+i) v=iI cs o (iI (cs.extract o (o+n)) i v):=by
 have Z:(cs.extract o (o+n)).size=n:=by simp;omega
 have a:(iI (cs.extract o (o+n)) i v).size=n:=by unfold iI;simp;omega
 apply Array.ext_getElem?;intro j;rw[wu cs v (o+i) (by omega) j,wu cs _ o (by omega) j,a];by_cases h:o<=j/\j<o+n
 .rw[if_pos h,wu _ v i (by omega) (j-o)];by_cases ej:o+i<=j/\j<o+i+v.size
  .rw[if_pos ej,if_pos (by omega)];congr 1;omega
  rw[if_neg ej,if_neg (by omega),Array.getElem?_extract,if_pos (by omega)];congr 1;omega
 rw[if_neg h,if_neg (by omega)]
theorem eed(x:oa)(v:UInt8):iI (O.enc x) 1 #[.int .u8 v.toNat]=O.enc {x with ic:={x.ic with rh:=v}}:=by
 have h:=AN (cs:=O.enc x) (v:=#[Value.int .u8 v.toNat]) (o:=1) (n:=3) (i:=0) (show 0+1<=3 by decide) (by rw[O.ez];decide);rw[NG,Zb,LG]at h;exact h
theorem eec(x:oa)(v:UInt8):iI (O.enc x) 2 #[.int .u8 v.toNat]=O.enc {x with ic:={x.ic with fP:=v}}:=by
 have h:=AN (cs:=O.enc x) (v:=#[Value.int .u8 v.toNat]) (o:=1) (n:=3) (i:=1) (show 1+1<=3 by decide) (by rw[O.ez];decide);rw[NG,Zv,LG]at h;exact h
theorem eeu(x:oa)(v:UInt8):iI (O.enc x) 3 #[.int .u8 v.toNat]=O.enc {x with ic:={x.ic with uk:=v}}:=by
 have h:=AN (cs:=O.enc x) (v:=#[Value.int .u8 v.toNat]) (o:=1) (n:=3) (i:=2) (show 2+1<=3 by decide) (by rw[O.ez];decide);rw[NG,Zk,LG]at h;exact h
theorem eem(h:(sG xs s).2= .error e):(fG xs s).2= .error e:=by
 unfold fG;simp only[h];split<;>simp only[jQ]
theorem eef(h:(sG xs s).2= .ok a)(Y:128<(sG xs s).1.toNat):(fG xs s).2= .error 4:=by
 unfold fG;simp only[h,if_pos Y];rw[if_neg (by omega)]
theorem eep(h:(sG xs s).2= .ok a)(Y:(sG xs s).1.toNat=128)(ej:(sG xs (.ok a)).2= .error e):(fG xs s).2= .error e:=by
 unfold fG;simp only[h,if_pos Y];rw[if_neg (by omega),ej]
theorem eeg(h:(sG xs s).2= .ok a)(Y:(sG xs s).1.toNat=128)(ej:(sG xs (.ok a)).2= .ok tc):fG xs s=(((sG xs (.ok a)).1,true),.ok tc):=by
 unfold fG;simp only[h,if_pos Y];rw[if_neg (by omega),ej]
theorem eew(h:(sG xs s).2= .ok a)(Y:(sG xs s).1.toNat<128):fG xs s=(((sG xs s).1,false),.ok a):=by
 unfold fG;simp only[h];rw[if_neg (show¬(sG xs s).1.toNat=128 by omega),if_neg (show¬128<(sG xs s).1.toNat by omega)]
theorem L9(h:(fG xs s).2= .error e):(h4 xs s).2= .error e:=by
 unfold h4;simp only[h,jQ,zZ,zX,ite_self]
def xO(m:oa)(is:List Instr)(t8:List iX)(c:yO):Prop:=
 m.v0=c.v0/\m.ic=c.h/\m.oT=c.oT/\is.length=c.ad.length/\is.map (·.program)=c.ad.map (·.1)/\t8.length=c.nF.length/\t8.map (·.table)=c.nF.map (·.1)/\c.td.length<65536/\c.ad.length<65536/\c.nF.length<65536
def fY(m:oa)(is:List Instr)(t8:List iX)(c:yO):List eH:=
 [V m.td.v 60 c.td,V m.instrs.v 230 is,hX (dY is c.ad),V m.rJ.v 221 t8,hX (fW t8 c.nF)]
theorem De:(eK [#[.bool false],eK [#[.int .u8 0],#[.int .u8 0],#[.int .u8 0]],#[eF],(Array.replicate 32 (.int .u8 0)),#[eF],#[eF]])=O.enc (⟨false,⟨0,0,0⟩,ed,aO 32,ed,ed⟩:oa):=by
 simp only[cn,oa.parts,iW,cR,ro.parts];rfl
theorem eey(hb:ex ea bs.v xs)(o2:xs.length<=1000000000)(ep:a<=xs.length)(eC:U ea (sQ p bs a::S) w0):hU prog 302 #[N p] w0 (λu w'=>∃(m:oa)(is:List Instr)(t8:List iX)(tc:Nat),u= .agg (O.enc m)/\xO m is t8 (h4 xs (.ok a)).1/\(h4 xs (.ok a)).2= .ok tc/\tc<=xs.length/\U ea (fY m is t8 (h4 xs (.ok a)).1++sQ p bs tc::S) w') (λv w'=>∃(e:Int)(tc:Nat),(h4 xs (.ok a)).2= .error e/\v=mH e/\U ea (sQ p bs tc::S) w'):=by
 refine hU.enter (args:=[N p]) func302 rfl ntmps302 results302 rfl ?_;have E:=eY w0;replace E:=eC;refine eA 3 E λao w E=>?_;rw[De]at E;refine ey 5 E λw E=>?_;refine dn rfl (rM.call (Aq hb o2 ep (E.pick en)) rfl ?_ ?_)
 .rintro ob w ⟨e,tc,c,rfl,E⟩;exact⟨_,rfl,e,tc,L9 (eem c),rfl,E.sub aS⟩
 rintro _ w ⟨R,rfl,q,H,E⟩;refine ey 7 E λw E=>?_;refine dn rfl (rM.call (L4) rfl ?_ ?_)
 .rintro ob w ⟨T,rfl,t⟩;replace E:=E.es t;exact⟨_,rfl,4,R,L9 (eef q (by have:=of_decide_eq_false T;omega)),rfl,E.sub aS⟩
 rintro _ w ⟨I,t⟩;replace E:=E.es t;replace I:=of_decide_eq_true I;refine ey 2 E λw E=>?_;refine lB (λf w=>∃(eE:UInt8)(v0:Bool)(d:Nat),oV [(0,N p),(2,N ao),(3,.int .u8 ((eE).toNat:Int))] f/\U ea (B ao (O.enc (⟨v0,⟨0,0,0⟩,ed,aO 32,ed,ed⟩:oa)) 46::sQ p bs d::S) w/\fG xs (.ok a)=((eE,v0),.ok d)/\d<=xs.length) ?_ ?_
 .
   refine eA 6 E<|om 0 0 (λW w E=>?_) (λW w E=>?_)
   .
     have r:(sG xs (.ok a)).1.toNat=128:=by omega
     refine eA 8 E λw E=>?_;refine dn rfl (rM.call (Aq hb o2 H (E.pick en)) rfl ?_ ?_)
     .rintro ob w ⟨e,tc,c,rfl,E⟩;exact⟨_,rfl,e,tc,L9 (eep q r c),rfl,E.sub aS⟩
     rintro _ w ⟨d,rfl,nb,x,E⟩;have h:=eeg q r nb;replace E:=E.pick (e:=B ao (O.enc (⟨true,⟨0,0,0⟩,ed,aO 32,ed,ed⟩:oa)) 46) en;refine ey 3 E λw E=>?_;exact⟨_,_,_,⟨rfl,rfl,rfl,trivial⟩,E,h,x⟩
   .
     have r:(sG xs (.ok a)).1.toNat<128:=by omega
     have h:=eew q r;have x:=H;replace E:=E.pick (e:=B ao (O.enc (⟨false,⟨0,0,0⟩,ed,aO 32,ed,ed⟩:oa)) 46) en;refine eA 2 E λw E=>?_;exact⟨_,_,_,⟨rfl,rfl,rfl,trivial⟩,E,h,x⟩
 .
   rintro f w ⟨eE,v0,d,J,E,h,X⟩;refine il _ J (λg=>?_);clear J;refine eA 5 E λw E=>?_;refine oE (iU (b:=ao) (o:=1) (v:=.int .u8 ((eE).toNat:Int)) (eo:=1) (cs:=O.enc (⟨v0,⟨0,0,0⟩,ed,aO 32,ed,ed⟩:oa)) (iA:=O.enc (⟨v0,⟨eE,0,0⟩,ed,aO 32,ed,ed⟩:oa)) E rfl rfl en rfl (by rw[O.ez];decide) (oZ _ _) (eed (⟨v0,⟨0,0,0⟩,ed,aO 32,ed,ed⟩:oa) eE) (tH en λw E=>(ey 5 E λw E=>?_)));refine dn rfl (rM.call (Aq hb o2 X (E.pick en)) rfl ?_ ?_)
   .rintro ob w ⟨e,tc,c,rfl,E⟩;exact⟨_,rfl,e,tc,by simp only[h4,h,c,jQ,zZ,zX,ite_self],rfl,E.sub aS⟩
   rintro _ w ⟨a3,rfl,nb,Y,E⟩;refine ey 2 E λw E=>?_;refine oE (iU (b:=ao) (o:=2) (v:=.int .u8 (((sG xs (.ok d)).1).toNat:Int)) (eo:=1) (cs:=O.enc (⟨v0,⟨eE,0,0⟩,ed,aO 32,ed,ed⟩:oa)) (iA:=O.enc (⟨v0,⟨eE,(sG xs (.ok d)).1,0⟩,ed,aO 32,ed,ed⟩:oa)) E rfl rfl en rfl (by rw[O.ez];decide) (oZ _ _) (eec (⟨v0,⟨eE,0,0⟩,ed,aO 32,ed,ed⟩:oa) (sG xs (.ok d)).1) (tH en λw E=>(ey 5 E λw E=>?_)));refine dn rfl (rM.call (Aq hb o2 Y (E.pick en)) rfl ?_ ?_)
   .rintro ob w ⟨e,tc,c,rfl,E⟩;exact⟨_,rfl,e,tc,by simp only[h4,h,nb,c,jQ,zZ,zX,ite_self],rfl,E.sub aS⟩
   rintro _ w ⟨a4,rfl,oy,y,E⟩;refine ey 2 E λw E=>?_;refine oE (iU (b:=ao) (o:=3) (v:=.int .u8 (((sG xs (.ok a3)).1).toNat:Int)) (eo:=1) (cs:=O.enc (⟨v0,⟨eE,(sG xs (.ok d)).1,0⟩,ed,aO 32,ed,ed⟩:oa)) (iA:=O.enc (⟨v0,⟨eE,(sG xs (.ok d)).1,(sG xs (.ok a3)).1⟩,ed,aO 32,ed,ed⟩:oa)) E rfl rfl en rfl (by rw[O.ez];decide) (oZ _ _) (eeu (⟨v0,⟨eE,(sG xs (.ok d)).1,0⟩,ed,aO 32,ed,ed⟩:oa) (sG xs (.ok a3)).1) (tH en λw E=>(ey 7 E λw E=>?_)));refine dn rfl (rM.call (eer hb o2 y (E.pick en)) rfl ?_ ?_)
   .rintro ob w ⟨e,tc,c,rfl,E⟩;exact⟨_,rfl,e,tc,by simp only[h4,h,nb,oy,c,jQ,zZ,zX,ite_self],rfl,E.sub aS⟩
   rintro _ w ⟨k,a5,rfl,n,z,K,E⟩;refine ey 7 E λw E=>?_;refine dn rfl (rM.call (L7 hb o2 z (E.pick en)) rfl ?_ ?_)
   .rintro ob w ⟨e,tc,c,rfl,E⟩;exact⟨_,rfl,e,tc,by simp only[h4,h,nb,oy,n,c,jQ,zZ,zX,ite_self],rfl,E.sub aS⟩
   rintro _ w ⟨l,rfl,gX,A,E⟩;refine ey 9 E λw E=>?_;refine dn rfl (rM.call (eeh hb o2 A (E.pick en)) rfl ?_ ?_)
   .rintro ob w ⟨e,tc,c,rfl,E⟩;exact⟨_,rfl,e,tc,by simp only[h4,h,nb,oy,n,gX,c,jQ,zZ,zX,ite_self],rfl,E.sub aS⟩
   rintro _ w ⟨xI,is,i,rfl,cL,L,M,P,Q,E⟩;refine ey 11 E<|na 0 0 (λC Z w E=>?_) (λC Z w E=>?_)
   .
     subst C;refine eA 4 E λw E=>?_;refine dn rfl (rM.call (eel hb o2 L (E.pick en)) rfl ?_ ?_)
     .rintro ob w ⟨e,tc,c,rfl,E⟩;exact⟨_,rfl,e,tc,by simp only[h4,h,nb,oy,n,gX,cL,if_true,c],rfl,E.sub aS⟩
     rintro _ w ⟨eu,t8,s,rfl,D,F,AS,G,bH,E⟩;refine ey 11 E λw E=>?_;refine wO (.cell (by exact E.n5 en (by exact O.ez _)) .nil) ?_;have j:h4 xs (.ok a)=((⟨true,⟨eE,(sG xs (.ok d)).1,(sG xs (.ok a3)).1⟩,(sM xs (hf xs) (.ok a4)).1,(hf xs (.ok a5)).1,(sM xs (rl xs) (.ok l)).1,(sM xs (rS xs) (.ok i)).1⟩:yO),.ok s):=by
      simp only[h4,h,nb,oy,n,gX,cL,D,if_true]
     refine⟨(⟨true,⟨eE,(sG xs (.ok d)).1,(sG xs (.ok a3)).1⟩,k,(hf xs (.ok a5)).1,xI,eu⟩:oa),is,t8,s,rfl,?_,?_,F,?_⟩
     .rw[j];exact⟨rfl,rfl,rfl,M,P,AS,G,K,Q,bH⟩
     .rw[j]
     rw[j];replace E:=E.pick (e:=sQ p bs s) en;replace E:=E.pick (e:=hX (fW t8 (sM xs (rS xs) (.ok i)).1)) en;replace E:=E.pick (e:=V eu.v 221 t8) en;replace E:=E.pick (e:=hX (dY is (sM xs (rl xs) (.ok l)).1)) en;replace E:=E.pick (e:=V xI.v 230 is) en;replace E:=E.pick (e:=V k.v 60 (sM xs (hf xs) (.ok a4)).1) en;show U ea (V k.v 60 (sM xs (hf xs) (.ok a4)).1::V xI.v 230 is::hX (dY is (sM xs (rl xs) (.ok l)).1)::V eu.v 221 t8::hX (fW t8 (sM xs (rS xs) (.ok i)).1)::sQ p bs s::S) w;exact E.sub aS
   .
     subst C;refine eA 9 E λw E=>?_;refine wO (.cell (by exact E.n5 en (by exact O.ez _)) .nil) ?_;have j:h4 xs (.ok a)=((⟨false,⟨eE,(sG xs (.ok d)).1,(sG xs (.ok a3)).1⟩,(sM xs (hf xs) (.ok a4)).1,(hf xs (.ok a5)).1,(sM xs (rl xs) (.ok l)).1,[]⟩:yO),.ok i):=by
      simp only[h4,h,nb,oy,n,gX,cL,Bool.false_eq_true,if_false]
     replace E:=(E.vG).lR (α:=iX) 221;refine⟨(⟨false,⟨eE,(sG xs (.ok d)).1,(sG xs (.ok a3)).1⟩,k,(hf xs (.ok a5)).1,xI,ed⟩:oa),is,[],i,rfl,?_,?_,L,?_⟩
     .rw[j];exact⟨rfl,rfl,rfl,M,P,rfl,rfl,K,Q,(show(0:Nat)<65536 by decide)⟩
     .rw[j]
     rw[j];replace E:=E.pick (e:=sQ p bs i) en;replace E:=E.pick (e:=hX []) en;replace E:=E.pick (e:=V (α:=iX) (eF) 221 []) en;replace E:=E.pick (e:=hX (dY is (sM xs (rl xs) (.ok l)).1)) en;replace E:=E.pick (e:=V xI.v 230 is) en;replace E:=E.pick (e:=V k.v 60 (sM xs (hf xs) (.ok a4)).1) en;show U ea (V k.v 60 (sM xs (hf xs) (.ok a4)).1::V xI.v 230 is::hX (dY is (sM xs (rl xs) (.ok l)).1)::V (α:=iX) (eF) 221 []::hX []::sQ p bs i::S) w;exact E.sub aS
variable{T ao t6 aW lm j4 Et Ea:Nat}{nu:Array Value}{ae:te}{p q v tC ap aD:Value}{sW:ec}
instance:Pj prog 20:=⟨_,underlying20⟩
theorem eez(eC:U ea S w0):CallsD prog 301 [tC,ap,aD].toArray .returning w0 (λe m w'=>m= .returning/\∃x,e= .returned x/\U ea S w'):=by
 refine Pz (args:=[tC,ap,aD]) (n:=20) (R:=λw'=>U ea S w') func301 rfl ntmps301 results301 rfl rfl rfl (.inl ⟨rfl,rfl,rfl⟩) ?_;have E:=eC;refine eA 3 E λw E=>?_;refine et (Pq rfl (.inl ⟨rfl,rfl⟩) (ey 2 E<|na 0 1 (λa b w E=>?_) (λ_ b w E=>?_)))
 .
   exact absurd a (by decide)
 .
   exact E.sub aS
theorem eeE(c:nu.size=O.eo oa)(eC:U ea (B j4 nu 46::B Et #[ap] 3::B Ea #[aD] 34::S) w0):
 CallsD prog 301 [N j4,N Et,N Ea].toArray (.panicking [s4 (mH e)]) w0 (λoz m w'=>m= .panicking [{v:=mH e,recovered:=true}]/\∃x,oz= .returned x/\U ea (B j4 (O.enc (⟨false,⟨0,0,0⟩,ed,aO 32,ed,ed⟩:oa)) 46::B Et #[i6 0] 3::B Ea #[.int .i64 e] 34::S) w'):=by
 refine Pz (args:=[N j4,N Et,N Ea]) (n:=20) (v:=mH e) (R:=λw'=>U ea (B j4 (O.enc (⟨false,⟨0,0,0⟩,ed,aO 32,ed,ed⟩:oa)) 46::B Et #[i6 0] 3::B Ea #[.int .i64 e] 34::S) w') func301 rfl ntmps301 results301 rfl rfl rfl (.inr ⟨rfl,rfl⟩) ?_;have E:=eC;refine eA 3 E λw E=>?_;refine et (Pq rfl (.inr ⟨⟨_,_,rfl⟩,rfl⟩) (ey 2 E<|na 3 0 (λ_ d w E=>?_) (λf d w E=>?_)))
 .
   refine et (Qp (v:=.agg (O.enc (⟨e⟩:Stop))) rfl (ey 4 E λaW w E=>(oE (iJ (r:=(⟨e⟩:Stop)) E rfl rfl en rfl (tH en λw E=>(ey 10 E<|na 0 2 (λg i w E=>?_) (λ_ i w E=>?_)))))))
   .
     exact absurd g (by decide)
   .
     refine vj 6 (eX [0,1,2] (oA [3,4,5] .nil)) (by kernel_rfl) (λ_ _ _ h=>h) (λaB j=>?_);replace E:=E.es j;have k:=E;refine⟨λw'=>s1 prog 34 w' (N aW) (.int .i64 e),E.a6 en (show(O.enc (⟨e⟩:Stop))[0]? =some (.int .i64 e)from NQ ⟨e⟩),?_⟩;refine e2.look rfl rfl rfl (λw a=>(by skip;exact sV (r:=(⟨false,⟨0,0,0⟩,ed,aO 32,ed,ed⟩:oa)) (ps:=oa.parts (⟨false,⟨0,0,0⟩,ed,aO 32,ed,ed⟩:oa)) (cn _) (by first|(simp only[sg,iW,cn,oa.parts,cR,ro.parts];rfl)|rfl) (by(repeat' (first|exact trivial|refine And.intro ?_ ?_))<;>first|rfl|exact O.ez _|(simp;done)) ⟨rfl,rfl⟩)) ?_;refine e2.look rfl rfl rfl (λw a=>(by skip;exact o9 rfl ⟨rfl,rfl⟩)) ?_;refine e2.look rfl rfl rfl (λw a=>(by skip;exact ag rfl (a) ⟨rfl,rfl⟩)) ?_;refine n8 rfl rfl (iJ (r:=(⟨false,⟨0,0,0⟩,ed,aO 32,ed,ed⟩:oa)) E rfl rfl en c (tH en λw E=>?_));refine⟨E.a6 en (show(O.enc (⟨e⟩:Stop))[0]? =some (.int .i64 e)from NQ ⟨e⟩),?_⟩;refine n8 rfl rfl (iU (b:=Et) (o:=0) (v:=i6 0) (eo:=1) (cs:=#[ap]) (iA:=#[i6 0]) E rfl rfl en rfl (Nat.le_refl 1) (oZ _ _) rfl (tH en λw E=>?_));refine⟨E.a6 en (show(O.enc (⟨e⟩:Stop))[0]? =some (.int .i64 e)from NQ ⟨e⟩),?_⟩;refine n8 rfl rfl (iU (b:=Ea) (o:=0) (v:=.int .i64 e) (eo:=1) (cs:=#[aD]) (iA:=#[.int .i64 e]) E rfl rfl en rfl (Nat.le_refl 1) (oZ _ _) rfl (tH en λw E=>?_));refine⟨E.a6 en (show(O.enc (⟨e⟩:Stop))[0]? =some (.int .i64 e)from NQ ⟨e⟩),?_⟩;exact e2.nil (E.sub aS)
 .
   exact absurd f (by decide)
def Gv(rU:te->World->Prop):Exit->te->World->Prop
 | .ret,f,w=>rU f w
 |_,_,_=>False
def Gk(w0:World)(xs:List UInt8)(u:Value)(w':World):Prop:=∃(m:oa)(is:List Instr)(t8:List iX),u= .tuple #[.agg (O.enc m),.int .i64 ((ut xs).2.1:Int),i6 (ut xs).2.2]/\xO m is t8 (ut xs).1/\U w0 (fY m is t8 (ut xs).1) w'
def Da(w0:World)(xs:List UInt8)(ao t6 aW:Nat):Exit->te->World->Prop:=λe ae pl=>∃m lV:FrameMode,(e= .normal/\m= .returning∨e= .ret/\m= .returning∨∃c,e= .panic c/\m= .panicking c)/\m≠ .run/\settle lV= .returning/\
 ∃la:World->Prop,CallsD prog 301 [N ao,N t6,N aW].toArray m pl (λe c5 h9=>c5=lV/\∃x,e= .returned x/\la h9)/\∀h9,la h9->∃vs,hY prog ae h9 [.cell 2 46,.cell 3 3,.cell 4 34] vs/\Gk w0 xs (uB vs) h9
theorem Eo{P:Program}(h:p=q)(eB:s1 P T w q v):s1 P T w p v:=h▸eB
theorem eeT(w0:World)(xs:List UInt8)(m:oa)(is:List Instr)(t8:List iX)(tc ao t6 aW lm:Nat)(sW:ec)(b:xO m is t8 (h4 xs (.ok 0)).1)(c:(h4 xs (.ok 0)).2= .ok tc)(e:Exit)(ae:te)(w:World)
 (h:Gv (λf w=>f 2=N ao/\f 3=N t6/\f 4=N aW/\U w0 (fY m is t8 (h4 xs (.ok 0)).1++sQ lm sW tc::[B aW #[i6 0] 34,B t6 #[i6 tc] 3,B ao (O.enc m) 46]) w) e ae w):Da w0 xs ao t6 aW e ae w:=by
 cases e with
 |ret=>
  obtain⟨Y,ej,e8,E⟩:=h;have a:ut xs=((h4 xs (.ok 0)).1,tc,0):=by unfold ut;rw[c]
  refine⟨.returning,.returning,.inr (.inl ⟨rfl,rfl⟩),by simp,rfl,_,eez E,λd E=>?_⟩;unfold fY at E;simp only[List.cons_append,List.nil_append]at E;refine⟨_,.cell (Eo Y (E.n5 (cs:=O.enc m) en (by exact O.ez _))) (.cell (Eo ej (E.a6 (v:=i6 tc) (cs:=#[i6 tc]) en rfl)) (.cell (Eo e8 (E.a6 (v:=i6 0) (eb:=34) (cs:=#[i6 0]) en rfl)) .nil)),m,is,t8,?_,?_,?_⟩
  .rw[a];rfl
  .rw[a];exact b
  rw[a];unfold fY;exact E.sub aS
 |_=>exact(h:False).elim
theorem eeA(b:(h4 xs (.ok 0)).2= .error e)(E:U w0 (sQ lm sW tc::[B aW #[i6 0] 34,B t6 #[i6 0] 3,B ao (O.enc (⟨false,⟨0,0,0⟩,ed,aO 32,ed,ed⟩:oa)) 46]) w)
 (Y:ae 2=N ao) (ej:ae 3=N t6) (e8:ae 4=N aW):Da w0 xs ao t6 aW (.panic [s4 (mH e)]) ae w:=by
 have a:ut xs=(N1,0,e):=by unfold ut;rw[b]
 have E:=((E.pick (e:=B aW #[i6 0] 34) en).pick (e:=B t6 #[i6 0] 3) en).pick (e:=B ao (O.enc (⟨false,⟨0,0,0⟩,ed,aO 32,ed,ed⟩:oa)) 46) en;refine⟨.panicking [s4 (mH e)],.panicking [{v:=mH e,recovered:=true}],.inr (.inr ⟨_,rfl,rfl⟩),by simp,rfl,_,eeE (by exact O.ez _) E,λc E=>?_⟩;refine⟨_,.cell (Eo Y (E.n5 (cs:=O.enc (⟨false,⟨0,0,0⟩,ed,aO 32,ed,ed⟩:oa)) en (by exact O.ez _))) (.cell (Eo ej (E.a6 (v:=i6 0) (eb:=3) (cs:=#[i6 0]) en rfl)) (.cell (Eo e8 (E.a6 (v:=.int .i64 e) (eb:=34) (cs:=#[.int .i64 e]) en rfl)) .nil)),(⟨false,⟨0,0,0⟩,ed,aO 32,ed,ed⟩:oa),[],[],?_,?_,?_⟩
 .rw[a];rfl
 .rw[a];exact⟨rfl,rfl,rfl,rfl,rfl,rfl,rfl,(show(0:Nat)<65536 by decide),(show(0:Nat)<65536 by decide),(show(0:Nat)<65536 by decide)⟩
 rw[a];exact U.lR ((U.lR ((E.sub (List.nil_sublist _)).vG) 221).vG.lR 230) 60
theorem eeO(Z:ex w0 sW.v xs)(o2:xs.length<=1000000000):eJ 228 #[sW.v] w0 (Gk w0 xs):=by
 refine Qk (n:=17) (args:=[sW.v]) (gc:=301) (d:=6) (rU:=λf w'=>∃ao t6 aW,oV [(0,sW.v),(2,N ao),(3,N t6),(4,N aW)] f/\U w0 [B aW #[i6 0] 34,B t6 #[i6 0] 3,B ao (O.enc (⟨false,⟨0,0,0⟩,ed,aO 32,ed,ed⟩:oa)) 46] w') (cs:=λf=>[f 2,f 3,f 4]) func228 rfl ntmps228 results228 rfl rfl ?_ (λ_=>rfl) ?_
 .have E:=eY w0;refine eA 4 E λao t6 aW w E=>?_;rw[De]at E;refine ey 1 E λw E=>?_;exact⟨rfl,ao,t6,aW,⟨rfl,rfl,rfl,rfl,trivial⟩,E⟩
 rintro f w l D ⟨ao,t6,aW,i,E⟩ eB _;obtain⟨j,p,q,s,_⟩:=i;obtain rfl:l=[N ao,N t6,N aW]:=by rw[<-eB,<-p,<-q,<-s]
 show ek _ _ _ (Da w0 xs ao t6 aW) _ _;refine il [(0,sW.v),(2,N ao),(3,N t6),(4,N aW)] ⟨j,p,q,s,trivial⟩ (λg=>?_);refine eA 3 E λw E=>?_;refine af 2 E (p5 (⟨sW,((0:Nat):Int)⟩:ma)) λlm w E=>?_;replace E:=E.pick (e:=sQ lm sW 0) .nW;refine ey 2 E λw E=>?_;refine lB (λf w=>∃(m:oa)(is:List Instr)(t8:List iX)(tc:Nat),oV [(2,N ao),(3,N t6),(4,N aW),(5,N lm)] f/\xO m is t8 (h4 xs (.ok 0)).1/\(h4 xs (.ok 0)).2= .ok tc/\U w0 (fY m is t8 (h4 xs (.ok 0)).1++sQ lm sW tc::[B aW #[i6 0] 34,B t6 #[i6 0] 3,B ao (O.enc m) 46]) w) ?_ ?_
 .
   refine eA 2 E λw E=>?_;refine dn rfl (rM.call (eey Z o2 (Nat.zero_le _) E) rfl ?_ ?_)
   .rintro ob w ⟨e,tc,c,rfl,E⟩;exact eeA c E rfl rfl rfl
   rintro _ w ⟨m,is,t8,tc,rfl,k,c,t,E⟩;unfold fY at E;simp only[List.cons_append,List.nil_append]at E;refine ey 3 E λw E=>?_;exact⟨m,is,t8,tc,⟨rfl,rfl,rfl,rfl,trivial⟩,k,c,E⟩
 .
   rintro f w ⟨m,is,t8,tc,i,k,c,E⟩;refine il _ i (λg=>?_);clear i;refine ek.mono (Q:=Gv (λf w=>f 2=N ao/\f 3=N t6/\f 4=N aW/\U w0 (fY m is t8 (h4 xs (.ok 0)).1++sQ lm sW tc::[B aW #[i6 0] 34,B t6 #[i6 tc] 3,B ao (O.enc m) 46]) w)) ?_ (eeT w0 xs m is t8 tc ao t6 aW lm sW k c);unfold fY at E⊢;simp only[List.cons_append,List.nil_append]at E⊢;refine eA 1 E λw E=>?_;refine TI 8 (eX [0,1,2,3,4] (oA [5,6,7] .nil)) (by kernel_rfl) (λ_ _ _ _ h=>h) (λaB u=>?_);replace E:=E.es u;have x:=E;refine⟨λw'=>s1 prog 46 w' (N ao) (.agg (O.enc m))/\s1 prog 3 w' (.pointer (some ⟨lm,1,none⟩)) (i6 tc),⟨E.n5 (cs:=O.enc m) en (by exact O.ez _),E.a6 en (show(O.enc (⟨sW,(tc:Int)⟩:ma))[1]? =some (i6 tc)from NJ _)⟩,?_⟩;refine e2.look rfl rfl rfl (λw a=>(by skip;exact ag rfl (a.1) ⟨rfl,rfl⟩)) ?_;refine e2.look rfl rfl rfl (λw a=>(by skip;exact oI (v:=N lm) rfl ⟨rfl,rfl⟩)) ?_;refine e2.look rfl rfl rfl (λw a=>(by skip;exact sk rfl ⟨rfl,rfl⟩)) ?_;refine e2.look rfl rfl rfl (λw a=>(by skip;exact o9 rfl ⟨rfl,rfl⟩)) ?_;refine e2.look rfl rfl rfl (λw a=>(by skip;exact ag rfl (a.2) ⟨rfl,rfl⟩)) ?_;refine n8 rfl rfl (iJ (r:=m) E rfl rfl en (by exact O.ez _) (tH en λw E=>?_));refine⟨⟨E.n5 (cs:=O.enc m) en (by exact O.ez _),E.a6 en (show(O.enc (⟨sW,(tc:Int)⟩:ma))[1]? =some (i6 tc)from NJ _)⟩,?_⟩;refine n8 rfl rfl (iU (b:=t6) (o:=0) (v:=i6 tc) (eo:=1) (cs:=#[i6 0]) (iA:=#[i6 tc]) E rfl rfl en rfl (Nat.le_refl 1) (oZ _ _) rfl (tH en λw E=>?_));refine⟨⟨E.n5 (cs:=O.enc m) en (by exact O.ez _),E.a6 en (show(O.enc (⟨sW,(tc:Int)⟩:ma))[1]? =some (i6 tc)from NJ _)⟩,?_⟩;refine n8 rfl rfl (iU (b:=aW) (o:=0) (v:=i6 0) (eo:=1) (cs:=#[i6 0]) (iA:=#[i6 0]) E rfl rfl en rfl (Nat.le_refl 1) (oZ _ _) rfl (tH en λw E=>?_));refine⟨⟨E.n5 (cs:=O.enc m) en (by exact O.ez _),E.a6 en (show(O.enc (⟨sW,(tc:Int)⟩:ma))[1]? =some (i6 tc)from NJ _)⟩,?_⟩;exact e2.nil (s6 2 E λw E=>(⟨rfl,rfl,rfl,E⟩))
end
section
open Go.Proofs
variable{c:yO}{e:Int}{i k n t:Nat}{ad is:List Instr}{l:List ((ec×List UInt8)×(ec×List UInt8))}{nF t8:List iX}{m:oa}{p:(ec×List UInt8)×(ec×List UInt8)}{sW:ec}{w w' w0 ea:World}{xs:List UInt8}
def lU(xs:List UInt8):sN->Prop
 | .ok a=>a<=xs.length
 | .error _=>True
theorem N7:∀{s:sN},lU xs s->lU xs (cH xs n s).2
 | .error _,_=>trivial
 | .ok a,h=>by
   have e:cH xs n (.ok a)=if n<=xs.length-a then((xs.drop a).take n,.ok (a+n))else([],.error 5):=rfl
   rw[e];split
   .show a+n<=xs.length;have h:a<=xs.length:=h;omega
   trivial
theorem N8:∀s:sN,(cH xs n s).1.length<=xs.length
 | .error _=>Nat.zero_le _
 | .ok a=>by
   have e:cH xs n (.ok a)=if n<=xs.length-a then((xs.drop a).take n,.ok (a+n))else([],.error 5):=rfl
   rw[e];split
   .show((xs.drop a).take n).length<=xs.length;simp;omega
   exact Nat.zero_le _
theorem Gq:∀{s:sN},lU xs s->lU xs (nL xs s).2
 | .error _,_=>trivial
 | .ok a,h=>by
   cases Y:(nL xs (.ok a)).2 with
   |ok b=>exact Gf h Y
   |error _=>trivial
theorem Gz{α:Type}{xs:List UInt8}{one:sN->α×sN}(G:∀s,lU xs s->lU xs (one s).2):∀(n:Nat)(s:sN),lU xs s->lU xs (lz one n s).2
 |0,_,h=>h
 |_+1,.error _,_=>trivial
 |n+1,.ok a,h=>Gz G n _ (G _ h)
theorem Do{α:Type}{p:α->Prop}{one:sN->α×sN}(G:∀s,p (one s).1):∀(n:Nat)(s:sN),∀x∈(lz one n s).1,p x
 |0,_,x,h=>by cases h
 |_+1,.error _,x,h=>by cases h
 |n+1,.ok a,x,h=>by
  rcases List.mem_cons.1 h with rfl|h
  .exact G _
  exact Do G n _ x h
theorem eeN{xs:List UInt8}{s:sN}(h:lU xs s):lU xs (h4 xs s).2:=by
 have b:∀s,lU xs s->lU xs (mo xs s).2:=λs h=>N7 (Gq h);have j:∀s,lU xs s->lU xs (rl xs s).2:=λs h=>b _ (b _ (N7 h));have g:∀s,lU xs s->lU xs (hf xs s).2:=λs h=>N7 h;have k:∀s,lU xs s->lU xs (rS xs s).2:=λs h=>b _ (b _ (g _ h));have i:∀{α:Type}{one:sN->α×sN},(∀s,lU xs s->lU xs (one s).2) ->∀s,lU xs s->lU xs (sM xs one s).2:=λG s h=>Gz G _ _ (Gq h);have d:∀s,lU xs s->lU xs (sG xs s).2:=λs h=>N7 h;have l:lU xs (fG xs s).2:=by
  have G:=d s h;unfold fG;generalize sG xs s=f at G;obtain⟨c,f2⟩:=f;have Y:lU xs (match(generalizing:=false) f2 with| .ok a=>if 128<c.toNat then(.error 4:sN)else .ok a| .error e=>.error e):=by
   cases f2 with
   |ok a=>show lU xs (if _ then _ else _);split;trivial;exact G
   |error e=>trivial
  simp only;split
  .exact d _ Y
  exact Y
 unfold h4;have ej:=i j _ (g _ (i g _ (d _ (d _ l))));show lU xs (if(fG xs s).1.2=true then sM xs (rS xs) _ else([],_)).2;split
 .exact i k _ ej
 exact ej
theorem eeS(b:ut xs=(c,t,e)):t<=xs.length:=by
 have h:lU xs (h4 xs (.ok 0)).2:=eeN (Nat.zero_le _);unfold ut at b;cases Y:(h4 xs (.ok 0)).2 with
 |ok a=>rw[Y]at b h;cases b;exact h
 |error e=>rw[Y]at b;cases b;exact Nat.zero_le _
theorem eeR(a:ut xs=(c,t,e)):True/\True/\t<=xs.length/\True:=⟨trivial,trivial,eeS a,trivial⟩
def py{α:Type}(n:Nat)(l:List (α×List UInt8×List UInt8)):Prop:=∀c∈l,c.2.1.length<=n/\c.2.2.length<=n
theorem eeH(d:ut xs=(c,t,e)):py xs.length c.ad/\py xs.length c.nF:=by
 unfold ut at d;cases Y:(h4 xs (.ok 0)).2 with
 |ok a=>
  rw[Y]at d;cases d;refine⟨λc b=>?_,λc b=>?_⟩
  .exact Do (p:=λc=>c.2.1.length<=xs.length/\c.2.2.length<=xs.length) (one:=rl xs) (λs=>⟨N8 _,N8 _⟩) _ _ c b
  unfold h4 at b;simp only at b;split at b
  .exact Do (p:=λc=>c.2.1.length<=xs.length/\c.2.2.length<=xs.length) (one:=rS xs) (λs=>⟨N8 _,N8 _⟩) _ _ c b
  cases b
 |error e=>rw[Y]at d;cases d;exact⟨λc b=>(by cases b),λc b=>(by cases b)⟩
theorem GE{α:Type}{n:Nat}:∀{l:List (α×List UInt8×List UInt8)},py n l->hI l<=l.length*(2*n)
 |[],_=>Nat.zero_le _
 |x::l,h=>by
  have a:=GE (l:=l) λc b=>h c (List.mem_cons_of_mem _ b);have G:=h x List.mem_cons_self;simp only[hI,List.map_cons,List.sum_cons,List.length_cons]at a⊢;rw[Nat.add_mul];omega
theorem GT(h:(hX l).A w)(a:p∈l):ex w p.1.1.v p.1.2/\ex w p.2.1.v p.2.2:=by
 rw[N2,p2]at h;have G:=h.2 (V p.1.1.v 5 p.1.2) (List.mem_flatMap.2 ⟨p,a,by simp⟩);have Y:=h.2 (V p.2.1.v 5 p.2.2) (List.mem_flatMap.2 ⟨p,a,by simp⟩);rw[df]at G Y;exact⟨G.eu,Y.eu⟩
theorem GA{α a b:Type}{f:α->b}{g:a->b}{xs:List α}{ys:List a}(h:xs.map f=ys.map g)(G:i<xs.length)(Y:i<ys.length):f xs[i]=g ys[i]:=by
 have:=congrArg (λl=>l[i]?) h;simpa[G,Y]using this
theorem eeL(h:xO m is t8 c)(E:U ea (fY m is t8 c) w):Gu w m c is t8:=by
 obtain⟨G,Y,ej,e8,au,a2,iK,_,_,_⟩:=h;have b:=(E.all (hX (dY is c.ad)) (by simp[fY])).1;have d:=(E.all (hX (fW t8 c.nF)) (by simp[fY])).1;refine⟨G,Y,ej,E.eu .em,E.eu .G,⟨e8,λi f g=>?_⟩,E.eu .ej,⟨a2,λi f g=>?_⟩⟩
 .have a:i<(dY is c.ad).length:=by unfold dY;rw[List.length_zipWith];omega
  have e:(dY is c.ad)[i]=((is[i].cS,c.ad[i].2.1),(is[i].data,c.ad[i].2.2)):=List.getElem_zipWith (h:=a);have:=GT b (p:=((is[i].cS,c.ad[i].2.1),(is[i].data,c.ad[i].2.2))) (by rw[<-e];exact List.getElem_mem a);exact⟨GA au f g,this.1,this.2⟩
 have a:i<(fW t8 c.nF).length:=by unfold fW;rw[List.length_zipWith];omega
 have e:(fW t8 c.nF)[i]=((t8[i].iY,c.nF[i].2.1),(t8[i].p8,c.nF[i].2.2)):=List.getElem_zipWith (h:=a);have:=GT d (p:=((t8[i].iY,c.nF[i].2.1),(t8[i].p8,c.nF[i].2.2))) (by rw[<-e];exact List.getElem_mem a);exact⟨GA iK f g,this.1,this.2⟩
theorem eeU(Z:ex w0 sW.v xs)(o2:xs.length<=1000000000)(a:ut xs=(c,t,e)):
 eJ 228 #[sW.v] w0 (λu w'=>∃(m:oa)(is:List Instr)(t8:List iX),u= .tuple #[.agg (O.enc m),i6 t,.int .i64 e]/\xO m is t8 c/\U w0 (fY m is t8 c) w'):=by
 refine nr.mono (eeO Z o2) ?_;rintro u w' ⟨m,is,t8,G,Y,ej⟩;rw[a]at G Y ej;exact⟨m,is,t8,G,Y,ej⟩
structure nT where
 sigs:List (Vector UInt8 64)
 m:yO
deriving DecidableEq
variable{x:nT}
def AR(w:World)(t:oW)(x:nT)(ad:List Instr)(nF:List iX):Prop:=ex w t.sigs.v x.sigs/\Gu w t.m x.m ad nF
def ge(k:Nat)(ys:List UInt8):List (Vector UInt8 64):=(List.range k).map λi=>mS 64 ((ys.drop (64*i)).take 64)
theorem eeM(k:Nat)(ys:List UInt8):(ge k ys).length=k:=by simp[ge]
theorem eeF(k:Nat)(ys:List UInt8):ge (k+1) ys=ge k ys++[mS 64 ((ys.drop (64*k)).take 64)]:=by simp[ge,List.range_succ]
def gJ:nT:=⟨[],N1⟩
def uj(xs:List UInt8):nT×Nat×Int:=
 if(gs xs 0 0).2.2=0 then
  (if xs.length-(gs xs 0 0).2.1.toNat<64*(gs xs 0 0).1.toNat then(gJ,0,5)else
   if(ut (xs.drop ((gs xs 0 0).2.1.toNat+64*(gs xs 0 0).1.toNat))).2.2=0 then
    (⟨ge (gs xs 0 0).1.toNat (xs.drop (gs xs 0 0).2.1.toNat),(ut (xs.drop ((gs xs 0 0).2.1.toNat+64*(gs xs 0 0).1.toNat))).1⟩,(gs xs 0 0).2.1.toNat+64*(gs xs 0 0).1.toNat+(ut (xs.drop ((gs xs 0 0).2.1.toNat+64*(gs xs 0 0).1.toNat))).2.1,0)
   else(gJ,0,(ut (xs.drop ((gs xs 0 0).2.1.toNat+64*(gs xs 0 0).1.toNat))).2.2))
 else(gJ,0,(gs xs 0 0).2.2)
def nA(xs:List UInt8):nT×Int:=if 1232<xs.length then(gJ,3)else if(uj xs).2.2=0 then(if(uj xs).2.1<xs.length then(gJ,4)else((uj xs).1,0))else(gJ,(uj xs).2.2)
def pb(t:oW)(is:List Instr)(t8:List iX)(x:nT):Prop:=xO t.m is t8 x.m
def ga(t:oW)(is:List Instr)(t8:List iX)(x:nT):List eH:=V t.sigs.v 251 x.sigs::fY t.m is t8 x.m
def GI(w0:World)(xs:List UInt8)(u:Value)(w':World):Prop:=∃(t:oW)(is:List Instr)(t8:List iX),u= .tuple #[.agg (O.enc t),.int .i64 ((uj xs).2.1:Int),i6 (uj xs).2.2]/\pb t is t8 (uj xs).1/\U w0 (ga t is t8 (uj xs).1) w'
def GN(w0:World)(xs:List UInt8)(u:Value)(w':World):Prop:=∃(t:oW)(is:List Instr)(t8:List iX),u= .tuple #[.agg (O.enc t),i6 (nA xs).2]/\pb t is t8 (nA xs).1/\U w0 (ga t is t8 (nA xs).1) w'
theorem En:xO (⟨false,⟨0,0,0⟩,ed,aO 32,ed,ed⟩:oa) [] [] N1:=⟨rfl,rfl,rfl,rfl,rfl,rfl,rfl,(show(0:Nat)<65536 by decide),(show(0:Nat)<65536 by decide),(show(0:Nat)<65536 by decide)⟩
theorem Es(E:U w0 [] w):U w0 (ga (⟨ed,⟨false,⟨0,0,0⟩,ed,aO 32,ed,ed⟩⟩:oW) [] [] gJ) w:=
 U.lR (U.lR ((U.lR (E.vG) 221).vG.lR 230) 60) 251
theorem Di(h:(gs xs 0 0).2.2≠0):uj xs=(gJ,0,(gs xs 0 0).2.2):=by unfold uj;rw[if_neg h]
theorem eeP(h:(gs xs 0 0).2.2=0)(Y:xs.length-(gs xs 0 0).2.1.toNat<64*(gs xs 0 0).1.toNat):uj xs=(gJ,0,5):=by unfold uj;rw[if_pos h,if_pos Y]
theorem eeG(h:(gs xs 0 0).2.2=0)(Y:¬xs.length-(gs xs 0 0).2.1.toNat<64*(gs xs 0 0).1.toNat)(a:ut (xs.drop ((gs xs 0 0).2.1.toNat+64*(gs xs 0 0).1.toNat))=(c,t,e)):
 uj xs=if e=0 then(⟨ge (gs xs 0 0).1.toNat (xs.drop (gs xs 0 0).2.1.toNat),c⟩,(gs xs 0 0).2.1.toNat+64*(gs xs 0 0).1.toNat+t,0)else(gJ,0,e):=by
 unfold uj;rw[if_pos h,if_neg Y,a]
theorem gQ:(eK [#[eF],eK [#[.bool false],eK [#[.int .u8 0],#[.int .u8 0],#[.int .u8 0]],#[eF],(Array.replicate 32 (.int .u8 0)),#[eF],#[eF]]])=O.enc (⟨ed,⟨false,⟨0,0,0⟩,ed,aO 32,ed,ed⟩⟩:oW):=by
 simp only[dr,oW.parts,iW,cn,oa.parts,cR,ro.parts];rfl
open Tryz
variable{S:List eH}{l:List (Vector UInt8 64)}{ac ti v o5:ec}{p:Nat}{oU:oW}{ys:List UInt8}
structure rv where
 tQ:oW
 left:ec
variable{x:rv}
def rv.parts(x:rv):List (Array Value):=[O.enc x.tQ,#[x.left.v]]
theorem eeW(x:rv):x.parts.map Array.size=[40,1]:=by
 simp only[rv.parts,List.map,O.ez];rfl
instance:O rv where
 enc x:=eK x.parts
 eo:=41
 pos:=by omega
 ez x:=by rw[iw,eeW];rfl
 one x:=rD (all_cons (O.one _) (all_cons (O.one (α:=ec) _) rC))
theorem GS(x:rv):O.enc x=eK x.parts:=rfl
theorem AH(x:rv):(O.enc x).extract 0 (0+40)=O.enc x.tQ:=p1 [] [#[x.left.v]] _ sU (by rw[O.ez];rfl)
theorem Dn(x:rv):(O.enc x)[40]? =some (x.left.v):=hu [O.enc x.tQ] [] _ sU
theorem GR(x:rv)(v:oW):iI (O.enc x) 0 (O.enc v)=O.enc {x with tQ:=v}:=by
 have h:=rL [] [#[x.left.v]] (O.enc x.tQ) (O.enc v) (by first|(rw[O.ez,O.ez];done)|rfl);rw[show(eK []).size=0 from sU]at h;exact h
theorem eeY(x:rv):(O.enc x)[0]? =some (x.tQ.sigs.v):=vq (i:=0) (AH x) (LW x.tQ) (by decide)
theorem GH(x:rv)(v:ec):iI (O.enc x) 0 #[v.v]=O.enc {x with tQ:={x.tQ with sigs:=v}}:=by
 have h:=AN (cs:=O.enc x) (v:=#[v.v]) (o:=0) (n:=40) (i:=0) (show 0+1<=40 by decide) (by rw[O.ez];decide);rw[AH,Gt,GR]at h;exact h
instance:nt x [O.enc x.tQ,#[x.left.v]]:=⟨rfl⟩
instance(priority:=2000):nt (⟨oU,o5⟩:rv) [O.enc oU,#[o5.v]]:=⟨rfl⟩
instance:st (O.enc x) 40 #[v.v] (O.enc {x with left:=v}):=rb
theorem eeB(a:ex ea ac.v ys)(eB:l.length<=70000)(eC:U ea (B p (O.enc (⟨⟨ti,(⟨false,⟨0,0,0⟩,ed,aO 32,ed,ed⟩:oa)⟩,ac⟩:rv)) 438::V ti.v 251 l::S) w0):eJ 227 #[N p] w0 (λu w'=>∃b,u= .bool b/\((b=false/\ys.length<64/\U ea (B p (O.enc (⟨⟨ti,(⟨false,⟨0,0,0⟩,ed,aO 32,ed,ed⟩:oa)⟩,ac⟩:rv)) 438::V ti.v 251 l::S) w')∨(b=true/\64<=ys.length/\∃f nd:ec,ex ea nd.v (ys.drop 64)/\U ea (B p (O.enc (⟨⟨f,(⟨false,⟨0,0,0⟩,ed,aO 32,ed,ed⟩:oa)⟩,nd⟩:rv)) 438::V f.v 251 (l++[mS 64 (ys.take 64)])::S) w'))):=by
 have:=aL a;refine eN 16 eC func227 ntmps227 results227 rfl<|om 8 3 (λj w E=>?_) (λj w E=>?_)
 .
   exact⟨false,rfl,.inl ⟨rfl,by omega,E⟩⟩
 .
   refine nC 10 14 (eX [0,1,2,3,4,5,6,7,8,9,10] (.one 11 (.look 12 (oA [13,14,15,16,17,18] .nil)))) [] E λw E=>?_;refine tl rfl (λw E=>hj (a.es E.ee) (xs:=ys) (l:=0) (h':=64) (m:=s2 ac.v) ⟨rfl,Nat.le_refl _⟩ ⟨⟨_,rfl⟩,by have:=(a.es E.ee).cap;omega⟩ ⟨rfl,Nat.zero_le _⟩ eG) (ol rfl (Ls (n:=64) (xs:=(ys.take 64)) rfl ((a.es E.ee).cut (l:=0) (h:=64) (m:=s2 ac.v) (Nat.zero_le _) (by omega) (by have:=(a.es E.ee).cap;omega) (Nat.le_refl _)) (by rw[List.length_take];omega) (by omega) ?_));refine⟨pp E,?_⟩;refine mR 0 E (hA λw E=>((ex.key (n:=63) (xs:=(ys.take 64)) ((a.es E.ee).cut (l:=0) (h:=64) (m:=s2 ac.v) (Nat.zero_le _) (by omega) (by have:=(a.es E.ee).cap;omega) (Nat.le_refl _)) (by rw[List.length_take];omega))).n5 (O.ez _)) λw E=>?_;refine ol rfl (n7 E (([mS 64 (ys.take 64)]:List (Vector UInt8 64))) [.agg (O.enc (mS 64 (ys.take 64)))] rfl rfl rfl rfl (by decide) ?_);intro k w r E;refine⟨pp E,?_⟩;refine hO rfl (dj (α:=Vector UInt8 64) (v:=ti.v) (xs:=l) rfl E rfl en (E.eu (v:=ta k 1 1) (xs:=[mS 64 (ys.take 64)]) en) (by simp only[List.length_cons,List.length_nil];omega) (by simp only[List.length_cons,List.length_nil,maxLen];omega) ?_);intro q w E;replace E:=E _ en;obtain⟨c,rfl⟩:=(E.eu (v:=q) (xs:=l++[mS 64 (ys.take 64)]) en).mI;refine t7 3 E λw E=>?_;refine nH rfl (iU (b:=p) (o:=0) (v:=c.v) (eo:=1) (cs:=O.enc (⟨⟨ti,(⟨false,⟨0,0,0⟩,ed,aO 32,ed,ed⟩:oa)⟩,ac⟩:rv)) (iA:=O.enc (⟨⟨c,(⟨false,⟨0,0,0⟩,ed,aO 32,ed,ed⟩:oa)⟩,ac⟩:rv)) E rfl rfl en rfl (by rw[O.ez];decide) (O.one (α:=ec) c) (GH (⟨⟨ti,(⟨false,⟨0,0,0⟩,ed,aO 32,ed,ed⟩:oa)⟩,ac⟩:rv) c) (tH en λw E=>?_));refine t7 9 E λw E=>?_;refine et (hj (a.es E.ee) (xs:=ys) (l:=64) (h':=ys.length) (m:=s2 ac.v) ⟨rfl,Nat.le_refl _⟩ ⟨⟨rfl,rfl⟩,(a.es E.ee).cap⟩ ⟨⟨_,rfl⟩,by omega⟩ ?_);have d:ex ea (nz ac.v 64 ys.length (s2 ac.v) (O.eo UInt8)) (ys.drop 64):=by
    have G:=a.cut (l:=64) (h:=ys.length) (m:=s2 ac.v) (by omega) (Nat.le_refl _) a.cap (Nat.le_refl _);rw[List.take_length]at G;exact G
   obtain⟨g,i⟩:=d.mI;rw[i]at d;show ts _ _ _ _ _ (o7 _ _ (nz ac.v 64 ys.length (s2 ac.v) (O.eo UInt8))) _;rw[i];refine ey 12 E λw E=>?_;exact⟨true,rfl,.inr ⟨rfl,by omega,c,g,d,((E.pick (e:=V c.v 251 (l++[mS 64 (ys.take 64)])) en).pick (e:=B p (O.enc (⟨⟨c,(⟨false,⟨0,0,0⟩,ed,aO 32,ed,ed⟩:oa)⟩,g⟩:rv)) 438) en).sub aS⟩⟩
variable{h l m z:Nat}{s oD:ec}{v:Value}{xs:List (Vector UInt8 64)}
theorem eeV(Z:ex w0 v xs):tS 229 #[v] w0 (nz v 0 xs.length xs.length (O.eo ((Vector UInt8 64)))):=by
 have:=aL Z;refine eN 12 (eY _) func229 ntmps229 results229 rfl λw E=>?_;exact et (hj (Z.es E.ee) ⟨⟨_,rfl⟩,Z.cap⟩ ⟨⟨_,rfl⟩,Nat.le_refl _⟩ ⟨rfl,Nat.zero_le _⟩ (ey 5 E λw E=>(⟨rfl,E.ee⟩)))
theorem eeK(x:rv)(v:oa):iI (O.enc x) 1 (O.enc v)=O.enc {x with tQ:={x.tQ with m:=v}}:=by
 have h:=AN (cs:=O.enc x) (v:=O.enc v) (o:=0) (n:=40) (i:=1) (by rw[O.ez];decide) (by rw[O.ez];decide);rw[AH,NW,GR]at h;exact h
theorem GC:∃u:ec,nz s.v l h m z=u.v:=⟨⟨_,_,_⟩,rfl⟩
theorem eeX:(eK [eK [#[eF],eK [#[.bool false],eK [#[.int .u8 0],#[.int .u8 0],#[.int .u8 0]],#[eF],(Array.replicate 32 (.int .u8 0)),#[eF],#[eF]]],#[eF]])=O.enc (⟨⟨ed,(⟨false,⟨0,0,0⟩,ed,aO 32,ed,ed⟩:oa)⟩,ed⟩:rv):=by
 simp only[GS,rv.parts,iW,dr,oW.parts,cn,oa.parts,cR,ro.parts];rfl
theorem eeJ{xs:List UInt8}(hb:ex w0 oD.v xs)(o2:xs.length<=1000000000):eJ 159 #[oD.v] w0 (GI w0 xs):=by
 refine nr.enter (args:=[oD.v]) func159 rfl ntmps159 results159 rfl ?_;have E:=eY w0;refine ek.seq (λfB h5=>(ek.region (et (sI E ?_))));intro ao w _ E;refine et (iP rfl (et (iP rfl ?_)));rw[gQ]at E;refine ts.nil ?_;refine aE (h5 _ _ (ek.seq (λfV h6=>(ek.region (et (oI (v:=oD.v) rfl (et (J.call (Gc (hb.es E.ee)) rfl ?_))))))));rintro _ w ⟨rfl,a⟩;replace E:=E.es a;refine et (oI (v:=.tuple #[i6 (gs xs 0 0).1,i6 (gs xs 0 0).2.1,i6 (gs xs 0 0).2.2]) rfl (et (J.extract rfl rfl (et (J.extract rfl rfl (et (J.extract rfl rfl (et (iP rfl (et (iP rfl (et (iP rfl ?_)))))))))))));refine ts.nil ?_;refine aE (h6 _ _ (ek.seq (λyI cl=>(ek.seq (λbL ua=>(ek.region (et (oP rfl (et (J.neq rfl rfl ?_))))))))));refine ts.nil ?_;refine aE (ua _ _ ?_);refine ek.cond _ rfl (λu=>?_) (λu=>?_)
 .
   have L:=u
   try simp only[sX]at u
   have em:(gs xs 0 0).2.2≠0:=by simpa using L
   refine ek.seq (λbD cD=>(ek.region (et (sV (r:=(⟨ed,⟨false,⟨0,0,0⟩,ed,aO 32,ed,ed⟩⟩:oW)) (ps:=oW.parts (⟨ed,⟨false,⟨0,0,0⟩,ed,aO 32,ed,ed⟩⟩:oW)) (dr _) (by simp only[sg,iW,cR,ro.parts,cn,oa.parts,dr,oW.parts];rfl) (by(repeat' (first|exact trivial|refine And.intro ?_ ?_))<;>first|rfl|exact O.ez _|(simp;done)) ?_))));refine et (oP rfl (oE (iJ (b:=ao) (r:=(⟨ed,⟨false,⟨0,0,0⟩,ed,aO 32,ed,ed⟩⟩:oW)) E rfl rfl en (by exact O.ez _) (tH en λw E=>(et (iP rfl (et (iP rfl ?_))))))));refine ts.nil ?_;refine aE (cD _ _ ?_);refine ek.ret ?_;refine pQ ?_;refine cJ (.cell (by exact E.n5 en (by exact O.ez _)) (.hB rfl (.hB rfl .nil))) ?_;refine⟨(⟨ed,⟨false,⟨0,0,0⟩,ed,aO 32,ed,ed⟩⟩:oW),[],[],by rw[Di em];rfl,by rw[Di em];exact En,?_⟩;rw[Di em];exact Es (E.sub (List.nil_sublist _))
 .
   have L:=u
   try simp only[sX]at u
   have em:(gs xs 0 0).2.2=0:=by simpa using L
   have j1:=Aj xs 0 0 (by omega) (by omega);obtain⟨n,tm⟩:∃n:Nat,(gs xs 0 0).1=(n:Int):=⟨(gs xs 0 0).1.toNat,by omega⟩;obtain⟨t,tT⟩:∃t:Nat,(gs xs 0 0).2.1=(t:Int):=⟨(gs xs 0 0).2.1.toNat,by omega⟩;have D:(gs xs 0 0).1.toNat=n:=by omega
   have F:(gs xs 0 0).2.1.toNat=t:=by omega
   have Eh:t<=xs.length:=by have:=j1.2.2.2 em;omega
   have ewG:n<65536:=by omega
   rw[tm,tT];refine ek.skip ?_;refine aE (cl _ _ (ek.seq (λwM dB=>(ek.region (et (oI (v:=oD.v) rfl (et (oP rfl (et (hj (hb.es E.ee) (xs:=xs) (l:=t) (h':=xs.length) (m:=s2 oD.v) ⟨rfl,Nat.le_refl _⟩ ⟨⟨rfl,rfl⟩,(hb.es E.ee).cap⟩ ⟨⟨_,rfl⟩,by omega⟩ ?_))))))))));have Y:ex w0 (nz oD.v t xs.length (s2 oD.v) (O.eo UInt8)) (xs.drop t):=by
    have G:=hb.cut (l:=t) (h:=xs.length) (m:=s2 oD.v) (by omega) (Nat.le_refl _) hb.cap (Nat.le_refl _);rw[List.take_length]at G;exact G
   obtain⟨x,Z⟩:=GC;rw[Z]at Y;show ts _ _ _ _ _ (o7 _ _ (nz oD.v t xs.length (s2 oD.v) (O.eo UInt8))) _;rw[Z];refine et (sV (r:=(⟨⟨ed,(⟨false,⟨0,0,0⟩,ed,aO 32,ed,ed⟩:oa)⟩,x⟩:rv)) (ps:=rv.parts (⟨⟨ed,(⟨false,⟨0,0,0⟩,ed,aO 32,ed,ed⟩:oa)⟩,x⟩:rv)) (GS _) (by simp only[sg,iW,cR,ro.parts,cn,oa.parts,dr,oW.parts,rv.parts];rfl) (by(repeat' (first|exact trivial|refine And.intro ?_ ?_))<;>first|rfl|exact O.ez _|(simp;done)) ?_);refine et (sI E ?_);intro p w _ E;refine oE (iJ (r:=(⟨⟨ed,(⟨false,⟨0,0,0⟩,ed,aO 32,ed,ed⟩:oa)⟩,x⟩:rv)) E rfl rfl en (by rw[eeX];exact O.ez _) (tH en λw E=>?_));refine ts.nil ?_;refine aE (dB _ _ (ek.seq (λyN cd=>(ek.seq (λxN ff=>(ek.region (et (oP rfl (et (oP rfl ?_))))))))));refine ts.nil ?_;refine aE (ff _ _ ?_);refine ek.block ?_;refine ek.loop (λq f w=>∃(k:Nat)(ti ac:ec),oV [(0,oD.v),(2,N ao),(6,N p),(23,i6 n),(24,i6 k)] f/\U w0 [B p (O.enc (⟨⟨ti,(⟨false,⟨0,0,0⟩,ed,aO 32,ed,ed⟩:oa)⟩,ac⟩:rv)) 438,V ti.v 251 (ge k (xs.drop t)),B ao (O.enc (⟨ed,⟨false,⟨0,0,0⟩,ed,aO 32,ed,ed⟩⟩:oW)) 48] w/\ex w0 ac.v (xs.drop (t+64*k))/\t+64*k<=xs.length/\k<=n/\q=n-k) (n) ?_ ?_
   .
     exact⟨0,ed,x,⟨rfl,rfl,rfl,rfl,rfl,trivial⟩,((E.lR (α:=Vector UInt8 64) 251).pick (e:=B p (O.enc (⟨⟨ed,(⟨false,⟨0,0,0⟩,ed,aO 32,ed,ed⟩:oa)⟩,x⟩:rv)) 438) en),Y,by omega,Nat.zero_le _,rfl⟩
   .
     rintro q f w ⟨k,ti,ac,e6,E,M,aq,eeQ,e5⟩;refine il _ e6 (λg=>?_);clear e6;refine ek.seq (λEl gZ=>(ek.region (et (J.lss rfl rfl ?_))));refine ts.nil ?_;refine aE (gZ _ _ (ek.seq (λEd wF=>?_)));refine ek.cond _ rfl (λy=>?_) (λy=>?_)
     .
       have oe:=y
       try simp only[sX]at y
       refine ek.skip ?_;refine aE (wF _ _ (ek.seq (λEc g0=>?_)));refine ek.block ?_;refine ek.seq (λSt vV=>(ek.region (et (J.call (eeB M (by rw[eeM];omega) E) rfl ?_))));rintro _ w ⟨jE,rfl,hN⟩;refine et (J.not rfl ?_);refine ts.nil ?_;refine aE (vV _ _ ?_);refine ek.cond _ rfl (λz=>?_) (λz=>?_)
       .
         have A:=z
         try simp only[sX]at z
         obtain⟨hlt,E⟩:=hN.elim (λh=>h.2) (λh=>by rw[h.1]at A;cases A);rw[List.length_drop]at hlt;have P:=eeP em (by rw[D,F];omega);refine ek.seq (λSa yS=>(ek.region (et (sV (r:=(⟨ed,⟨false,⟨0,0,0⟩,ed,aO 32,ed,ed⟩⟩:oW)) (ps:=oW.parts (⟨ed,⟨false,⟨0,0,0⟩,ed,aO 32,ed,ed⟩⟩:oW)) (dr _) (by simp only[sg,iW,cR,ro.parts,cn,oa.parts,dr,oW.parts];rfl) (by(repeat' (first|exact trivial|refine And.intro ?_ ?_))<;>first|rfl|exact O.ez _|(simp;done)) ?_))));refine oE (iJ (b:=ao) (r:=(⟨ed,⟨false,⟨0,0,0⟩,ed,aO 32,ed,ed⟩⟩:oW)) E rfl rfl en (by exact O.ez _) (tH en λw E=>(et (iP rfl (et (iP rfl ?_))))));refine ts.nil ?_;refine aE (yS _ _ ?_);refine ek.ret ?_;refine kL ?_;refine pQ ?_;refine pQ ?_;refine kL ?_;refine pQ ?_;refine cJ (.cell (by exact E.n5 en (by exact O.ez _)) (.hB rfl (.hB rfl .nil))) ?_;refine⟨(⟨ed,⟨false,⟨0,0,0⟩,ed,aO 32,ed,ed⟩⟩:oW),[],[],by rw[P];rfl,by rw[P];exact En,?_⟩;rw[P];exact Es (E.sub (List.nil_sublist _))
       .
         have A:=z
         try simp only[sX]at z
         obtain⟨Q,ry,nd,lk,E⟩:=hN.elim (λh=>by rw[h.1]at A;cases A) (λh=>h.2);refine ek.skip ?_;refine m9 (aE (g0 _ _ (ek.region (et (J.add rfl rfl (wrap_i64 (by omega)) (et (oP rfl ?_)))))));refine ts.nil ?_;refine aE ?_;rw[show ge k (xs.drop t)++[mS 64 ((xs.drop (t+64*k)).take 64)]=ge (k+1) (xs.drop t)from by rw[eeF,List.drop_drop]]at E;rw[List.length_drop]at Q;rw[List.drop_drop]at lk;exact⟨n-(k+1),by omega,k+1,ry,nd,⟨rfl,rfl,rfl,rfl,congrArg (Value.int .i64) (by omega),trivial⟩,E,(by rw[show t+64*(k+1)=t+64*k+64 by omega];exact lk),by omega,by omega,rfl⟩
     .
       have oe:=y
       try simp only[sX]at y
       obtain rfl:k=n:=by omega
       obtain⟨H,more,I,R⟩:∃(c:yO)(yp:Nat)(e:Int),ut (xs.drop (t+64*k))=(c,yp,e):=⟨_,_,_,rfl⟩;have i:=eeG (c:=H) (t:=more) (e:=I) em (by rw[D,F];omega) (by rw[D,F];exact R);rw[D,F]at i;refine ek.exit ?_;refine uZ ?_;refine uZ ?_;refine ya (aE (cd _ _ (ek.seq (λDr j5=>(ek.region ?_)))));refine et (o9 rfl ?_);refine et (ag rfl (E.a6 en (Dn (⟨⟨ti,(⟨false,⟨0,0,0⟩,ed,aO 32,ed,ed⟩:oa)⟩,ac⟩:rv))) ?_);refine et (J.call (eeU (M.es E.ee) (by rw[List.length_drop];omega) R) rfl ?_);rintro _ w ⟨m,is,t8,rfl,vY,Dh⟩;replace E:=E.jd Dh;unfold fY at E;simp only[List.cons_append,List.nil_append]at E;refine et (oI (v:=.tuple #[.agg (O.enc m),i6 more,.int .i64 I]) rfl (et (J.extract rfl rfl (et (J.extract rfl rfl (et (J.extract rfl rfl (et (sI E ?_)))))))));intro hF w _ E;refine oE (iJ (r:=m) E rfl rfl en (by rw[De];exact O.ez _) (tH en λw E=>(et (iP rfl (et (iP rfl ?_))))));refine ts.nil ?_;refine aE (j5 _ _ (ek.seq (λDl j6=>(ek.seq (λSi vK=>(ek.region (et (oP rfl (et (J.neq rfl rfl ?_))))))))));refine ts.nil ?_;refine aE (vK _ _ ?_);refine ek.cond _ rfl (λC=>?_) (λC=>?_)
       .
         have S:=C
         try simp only[sX]at C
         have al:I≠0:=by simpa using S
         rw[if_neg al]at i;refine ek.seq (λSn vX=>(ek.region (et (sV (r:=(⟨ed,⟨false,⟨0,0,0⟩,ed,aO 32,ed,ed⟩⟩:oW)) (ps:=oW.parts (⟨ed,⟨false,⟨0,0,0⟩,ed,aO 32,ed,ed⟩⟩:oW)) (dr _) (by simp only[sg,iW,cR,ro.parts,cn,oa.parts,dr,oW.parts];rfl) (by(repeat' (first|exact trivial|refine And.intro ?_ ?_))<;>first|rfl|exact O.ez _|(simp;done)) ?_))));refine et (oP rfl (oE (iJ (b:=ao) (r:=(⟨ed,⟨false,⟨0,0,0⟩,ed,aO 32,ed,ed⟩⟩:oW)) E rfl rfl en (by exact O.ez _) (tH en λw E=>(et (iP rfl (et (iP rfl ?_))))))));refine ts.nil ?_;refine aE (vX _ _ ?_);refine ek.ret ?_;refine pQ ?_;refine cJ (.cell (by exact E.n5 en (by exact O.ez _)) (.hB rfl (.hB rfl .nil))) ?_;refine⟨(⟨ed,⟨false,⟨0,0,0⟩,ed,aO 32,ed,ed⟩⟩:oW),[],[],by rw[i];rfl,by rw[i];exact En,?_⟩;rw[i];exact Es (E.sub (List.nil_sublist _))
       .
         have S:=C
         try simp only[sX]at C
         obtain rfl:I=0:=by simpa using S
         rw[if_pos rfl]at i;have W:=(eeR R).2.2.1;rw[List.length_drop]at W;refine ek.skip ?_;refine aE (j6 _ _ (ek.seq (λSs vJ=>?_)));refine gC 7 (eX [0,1,2,3] (.one 4 (eX [5,6] (oA [7,8,9,10] .nil)))) (by kernel_rfl) (λ_ _ _ h=>h) (λaB X=>?_);replace E:=E.es X;have j:=E;have K:=eY aB;refine ss j rfl (λw E=>ag rfl (E.n5 (b:=hF) (cs:=O.enc m) en (by exact O.ez _)) eG) (ss j rfl (λw E=>o9 rfl eG) (ss j rfl (λw E=>o9 rfl eG) (ss j rfl (λw E=>ag rfl (E.a6 en (eeY (⟨⟨ti,(⟨false,⟨0,0,0⟩,ed,aO 32,ed,ed⟩:oa)⟩,ac⟩:rv))) eG) (ol rfl (J.call (eeV (j.eu (v:=ti.v) (xs:=ge k (xs.drop t)) en)) rfl ?_)))));rintro v45 w ⟨GM,a⟩;replace K:=K.es a;obtain⟨d,rfl⟩:∃s:ec,v45=s.v:=(by rw[GM];exact GC);refine⟨K.ee,?_⟩;have E:=iq j K;refine ss j rfl (λw E=>o9 rfl eG) (ss j rfl (λw E=>o9 rfl eG) (nH rfl (iU (b:=p) (o:=1) (v:=.agg (O.enc m)) (eo:=39) (cs:=O.enc (⟨⟨ti,(⟨false,⟨0,0,0⟩,ed,aO 32,ed,ed⟩:oa)⟩,ac⟩:rv)) (iA:=O.enc (⟨⟨ti,m⟩,ac⟩:rv)) E rfl rfl en (O.ez m) (by rw[O.ez];decide) (by simp only[Value.cells];exact O.one m) (by simp only[Value.cells];exact eeK (⟨⟨ti,(⟨false,⟨0,0,0⟩,ed,aO 32,ed,ed⟩:oa)⟩,ac⟩:rv) m) (tH en λw E=>(hO rfl (o9 rfl (hO rfl (o9 rfl (nH rfl (iU (b:=p) (o:=0) (v:=d.v) (eo:=1) (cs:=O.enc (⟨⟨ti,m⟩,ac⟩:rv)) (iA:=O.enc (⟨⟨d,m⟩,ac⟩:rv)) E rfl rfl en rfl (by rw[O.ez];decide) (O.one (α:=ec) d) (GH (⟨⟨ti,m⟩,ac⟩:rv) d) (tH en λw E=>(e2.nil ?_))))))))))));replace E:=E.bS (v:=ti.v) (T:=251) (xs:=ge k (xs.drop t)) en;rw[<-GM]at E;refine aE (vJ _ _ (ek.seq (λGF AD=>?_)));refine vj 13 (eX [0,1,2,3,4,5,6,7,8,9] (.one 10 (eX [11,12] .nil))) (by kernel_rfl) (λ_ _ _ h=>h) (λaB X=>?_);replace E:=E.es X;have j:=E;refine⟨λw'=>eV w0 w'/\s1 prog 48 w' (N p) (.agg (O.enc (⟨d,m⟩:oW)))/\s1 prog 30 w' (.pointer (some ⟨p,40,none⟩)) ac.v,⟨E.ee,E.It (c:=O.enc (⟨d,m⟩:oW)) en (AH (⟨⟨d,m⟩,ac⟩:rv)) (by rw[O.ez];decide),E.a6 en (Dn (⟨⟨d,m⟩,ac⟩:rv))⟩,?_⟩;refine e2.look rfl rfl rfl (λw a=>(by skip;exact o9 rfl ⟨rfl,rfl⟩)) ?_;refine e2.look rfl rfl rfl (λw a=>(by skip;exact ag rfl (a.2.1) ⟨rfl,rfl⟩)) ?_;refine e2.look rfl rfl rfl (λw a=>(by skip;exact oI (v:=oD.v) rfl ⟨rfl,rfl⟩)) ?_;refine e2.look rfl rfl rfl (λw a=>(by skip;exact J.hD rfl ((hb.es a.1)) ⟨rfl,rfl⟩)) ?_;refine e2.look rfl rfl rfl (λw a=>(by skip;exact o9 rfl ⟨rfl,rfl⟩)) ?_;refine e2.look rfl rfl rfl (λw a=>(by skip;exact ag rfl (a.2.2) ⟨rfl,rfl⟩)) ?_;refine e2.look rfl rfl rfl (λw a=>(by skip;exact J.hD rfl ((M.es a.1)) ⟨rfl,rfl⟩)) ?_;refine e2.look rfl rfl rfl (λw a=>(by skip;exact J.sub rfl rfl (wrap_i64 (by rw[List.length_drop];omega)) ⟨rfl,rfl⟩)) ?_;refine e2.look rfl rfl rfl (λw a=>(by skip;exact oP rfl ⟨rfl,rfl⟩)) ?_;refine e2.look rfl rfl rfl (λw a=>(by skip;exact J.add rfl rfl ((show IntKind.i64.wrap _=(((t+64*k+more:Nat)):Int)from by rw[IntKind.wrap_i64,List.length_drop];omega)) ⟨rfl,rfl⟩)) ?_;refine n8 rfl rfl (iJ (b:=ao) (r:=(⟨d,m⟩:oW)) E rfl rfl en (by exact O.ez _) (tH en λw E=>?_));refine⟨⟨E.ee,E.It (c:=O.enc (⟨d,m⟩:oW)) en (AH (⟨⟨d,m⟩,ac⟩:rv)) (by rw[O.ez];decide),E.a6 en (Dn (⟨⟨d,m⟩,ac⟩:rv))⟩,?_⟩;refine e2.look rfl rfl rfl (λw a=>(by skip;exact iP rfl ⟨rfl,rfl⟩)) ?_;refine e2.look rfl rfl rfl (λw a=>(by skip;exact iP rfl ⟨rfl,rfl⟩)) ?_;refine e2.nil (aE (AD _ _ ?_));refine ek.ret ?_;refine cJ (.cell (by exact E.n5 en (by exact O.ez _)) (.hB rfl (.hB rfl .nil))) ?_;refine⟨(⟨d,m⟩:oW),is,t8,by rw[i];rfl,by rw[i];exact vY,?_⟩;rw[i];show U w0 (V d.v 251 (ge k (xs.drop t))::[V m.td.v 60 H.td,V m.instrs.v 230 is,hX (dY is H.ad),V m.rJ.v 221 t8,hX (fW t8 H.nF)]) w;exact(E.pick (e:=V d.v 251 (ge k (xs.drop t))) en).sub aS
variable{u:Value}{x:nT}{xs:List UInt8}
theorem ee1(h:1232<xs.length):nA xs=(gJ,3):=by unfold nA;rw[if_pos h]
theorem ee2(h:¬1232<xs.length)(a:uj xs=(x,t,e))(b:e≠0):nA xs=(gJ,e):=by unfold nA;rw[if_neg h,a,if_neg b]
theorem ee3(h:¬1232<xs.length)(a:uj xs=(x,t,0))(b:t<xs.length):nA xs=(gJ,4):=by unfold nA;rw[if_neg h,a,if_pos rfl,if_pos b]
theorem ee4(h:¬1232<xs.length)(a:uj xs=(x,t,0))(b:¬t<xs.length):nA xs=(x,0):=by unfold nA;rw[if_neg h,a,if_pos rfl,if_neg b]
theorem ee5(h:GI w0 xs u w')(a:uj xs=(x,t,e)):∃(tQ:oW)(is:List Instr)(t8:List iX),u= .tuple #[.agg (O.enc tQ),i6 t,.int .i64 e]/\pb tQ is t8 x/\U w0 (ga tQ is t8 x) w':=by
 obtain⟨tQ,is,t8,G,Y,ej⟩:=h;rw[a]at G Y ej;exact⟨tQ,is,t8,G,Y,ej⟩
theorem ee6(h:GN w0 xs u w')(a:nA xs=(x,e)):∃(tQ:oW)(is:List Instr)(t8:List iX),u= .tuple #[.agg (O.enc tQ),.int .i64 e]/\pb tQ is t8 x/\U w0 (ga tQ is t8 x) w':=by
 obtain⟨tQ,is,t8,G,Y,ej⟩:=h;rw[a]at G Y ej;exact⟨tQ,is,t8,G,Y,ej⟩
theorem ee7(hb:ex w0 oD.v xs)(o2:xs.length<=1000000000):eJ 86 #[oD.v] w0 (GN w0 xs):=by
 obtain⟨d,iQ,h,f⟩:∃(x:nT)(t:Nat)(e:Int),uj xs=(x,t,e):=⟨_,_,_,rfl⟩;refine eN 4 (eY _) func86 ntmps86 results86 rfl λao w E=>?_;rw[gQ]at E;have:=aL hb;refine ey 10 E<|om 0 0 (λi w E=>?_) (λi w E=>?_)
 .
   have c:1232<xs.length:=by omega
   have a:=ee1 c;refine eA 2 E λw E=>?_;refine et (sV (r:=(⟨ed,⟨false,⟨0,0,0⟩,ed,aO 32,ed,ed⟩⟩:oW)) (ps:=oW.parts (⟨ed,⟨false,⟨0,0,0⟩,ed,aO 32,ed,ed⟩⟩:oW)) (dr _) (by simp only[sg,iW,cR,ro.parts,cn,oa.parts,dr,oW.parts];rfl) (by(repeat' (first|exact trivial|refine And.intro ?_ ?_))<;>first|rfl|exact O.ez _|(simp;done)) ?_);refine ey 7 E λw E=>?_;refine⟨(⟨ed,⟨false,⟨0,0,0⟩,ed,aO 32,ed,ed⟩⟩:oW),[],[],by rw[a];try rfl,by rw[a];exact En,?_⟩;rw[a];exact Es (E.sub (List.nil_sublist _))
 .
   have c:¬1232<xs.length:=by omega
   refine eA 5 E λw E=>?_;refine et (J.call (eeJ (hb.es E.ee) o2) rfl ?_);rintro _ w j;obtain⟨tQ,is,t8,rfl,k,l⟩:=ee5 j f;replace E:=E.jd l;unfold ga fY at E;simp only[List.cons_append,List.nil_append]at E;refine ey 5 E λaW w E=>?_;refine oE (iJ (b:=aW) (r:=tQ) E rfl rfl en (by rw[gQ];exact O.ez _) (tH en λw E=>(ey 13 E<|na 0 0 (λg n w E=>?_) (λg n w E=>?_))))
   .
     have o:h≠0:=by simpa using g
     have a:=ee2 c f o;refine eA 2 E λw E=>?_;refine et (sV (r:=(⟨ed,⟨false,⟨0,0,0⟩,ed,aO 32,ed,ed⟩⟩:oW)) (ps:=oW.parts (⟨ed,⟨false,⟨0,0,0⟩,ed,aO 32,ed,ed⟩⟩:oW)) (dr _) (by simp only[sg,iW,cR,ro.parts,cn,oa.parts,dr,oW.parts];rfl) (by(repeat' (first|exact trivial|refine And.intro ?_ ?_))<;>first|rfl|exact O.ez _|(simp;done)) ?_);refine ey 9 E λw E=>?_;refine⟨(⟨ed,⟨false,⟨0,0,0⟩,ed,aO 32,ed,ed⟩⟩:oW),[],[],by rw[a];try rfl,by rw[a];exact En,?_⟩;rw[a];exact Es (E.sub (List.nil_sublist _))
   .
     obtain rfl:h=0:=by simpa using g
     refine eA 9 E<|om 0 0 (λp w E=>?_) (λp w E=>?_)
     .
       have a:=ee3 c f (by omega);refine eA 2 E λw E=>?_;refine et (sV (r:=(⟨ed,⟨false,⟨0,0,0⟩,ed,aO 32,ed,ed⟩⟩:oW)) (ps:=oW.parts (⟨ed,⟨false,⟨0,0,0⟩,ed,aO 32,ed,ed⟩⟩:oW)) (dr _) (by simp only[sg,iW,cR,ro.parts,cn,oa.parts,dr,oW.parts];rfl) (by(repeat' (first|exact trivial|refine And.intro ?_ ?_))<;>first|rfl|exact O.ez _|(simp;done)) ?_);refine ey 8 E λw E=>?_;refine⟨(⟨ed,⟨false,⟨0,0,0⟩,ed,aO 32,ed,ed⟩⟩:oW),[],[],by rw[a];try rfl,by rw[a];exact En,?_⟩;rw[a];exact Es (E.sub (List.nil_sublist _))
     .
       have a:=ee4 c f (by omega);refine eA 12 E λw E=>?_;refine⟨tQ,is,t8,by rw[a];try rfl,by rw[a];exact k,?_⟩;rw[a];show U w0 (V tQ.sigs.v 251 d.sigs::[V tQ.m.td.v 60 d.m.td,V tQ.m.instrs.v 230 is,hX (dY is d.m.ad),V tQ.m.rJ.v 221 t8,hX (fW t8 d.m.nF)]) w;exact E.sub aS
end
end Go.Fer
