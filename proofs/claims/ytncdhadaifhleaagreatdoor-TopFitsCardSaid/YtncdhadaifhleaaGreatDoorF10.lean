import Derived.Test.YtncdhadaifhleaaGreatDoorF9
set_option linter.all false
set_option synthInstance.maxSize 100000
set_option synthInstance.maxHeartbeats 400000
set_option maxHeartbeats 8000000
set_option maxRecDepth 100000
namespace Go.Fer
open Go Go.RowKit
section
open Go.Proofs Tryz
variable{S:List eL}{a b i n p t oL o3 n1:Nat}{sO bs oE:List UInt8}{c:UInt8}{hs l2 qi u v fl Ey xD:Value}{au:Instr}{l m out xs:List aB}{r:List o1}{s:eu}{w w' w0 en:World}{y:aB}{li:Vector UInt8 32}
structure mU where
 tag:Nat
 o6:Nat
 tv:Nat
 hJ:Vector UInt8 32
 deriving DecidableEq
variable{x:mU}
def mU.parts(x:mU):List (Array Value):=[#[eb x.tag],#[eb x.o6],#[eb x.tv],O.enc x.hJ]
theorem et2(x:mU):x.parts.map Array.size=[1,1,1,32]:=by
 simp only[mU.parts,List.map,O.eT];rfl
instance:O mU where
 enc x:=eK x.parts
 eo:=35
 pos:=by omega
 eT x:=by rw[iw,et2];rfl
 one x:=rY (all_cons (o0 _ _) (all_cons (o0 _ _) (all_cons (o0 _ _) (all_cons (O.one _) rB))))
theorem et3(x:mU):O.enc x=eK x.parts:=rfl
theorem Wz(x:mU):(O.enc x)[0]? =some (eb x.tag):=hp [] [#[eb x.o6],#[eb x.tv],O.enc x.hJ] _ sH
theorem et4(x:mU):(O.enc x)[1]? =some (eb x.o6):=hp [#[eb x.tag]] [#[eb x.tv],O.enc x.hJ] _ sH
theorem et5(x:mU)(v:Vector UInt8 32):iH (O.enc x) 3 (O.enc v)=O.enc {x with hJ:=v}:=by
 have h:=rG [#[eb x.tag],#[eb x.o6],#[eb x.tv]] [] (O.enc x.hJ) (O.enc v) (by first|(rw[O.eT,O.eT];done)|rfl);rw[show(eK [#[eb x.tag],#[eb x.o6],#[eb x.tv]]).size=3 from sH]at h;exact h
instance:nt x [#[eb x.tag],#[eb x.o6],#[eb x.tv],O.enc x.hJ]:=⟨rfl⟩
instance(priority:=2000):nt (⟨oL,o3,n1,li⟩:mU) [#[eb oL],#[eb o3],#[eb n1],O.enc li]:=⟨rfl⟩
instance{v:Nat}:st (O.enc x) 0 #[eb v] (O.enc {x with tag:=v}):=rq
instance{v:Nat}:st (O.enc x) 1 #[eb v] (O.enc {x with o6:=v}):=rq
instance{v:Nat}:st (O.enc x) 2 #[eb v] (O.enc {x with tv:=v}):=rq
structure mu where
 b:eu
def mu.parts(x:mu):List (Array Value):=[#[x.b.v]]
theorem et6(x:mu):x.parts.map Array.size=[1]:=by
 simp only[mu.parts,List.map,O.eT];rfl
instance:O mu where
 enc x:=eK x.parts
 eo:=1
 pos:=by omega
 eT x:=by rw[iw,et6];rfl
 one x:=rY (all_cons (O.one (α:=eu) _) rB)
theorem et7(x:mu)(v:eu):iH (O.enc x) 0 #[v.v]=O.enc {x with b:=v}:=by
 have h:=rG [] [] (#[x.b.v]) (#[v.v]) (by first|(rw[O.eT,O.eT];done)|rfl);rw[show(eK []).size=0 from sH]at h;exact h
instance(priority:=2000){oL:eu}:nt (⟨oL⟩:mu) [#[oL.v]]:=⟨rfl⟩
def uC(t:Nat):Nat:=if t=0∨t=2 then 2 else 1
def bW:List (t7×Int):=[(⟨0⟩,48),(⟨1⟩,32),(⟨2⟩,8),(⟨8⟩,8)]
def D4(x:mU):Prop:=x.o6<18446744073709551616/\((x.tag=0∨x.tag=8)/\x.tv<18446744073709551616∨(x.tag=1∨x.tag=2)/\x.tv=0)
theorem et8(h:(tR (⟨t⟩:t7) bW).isSome=true):(t=0/\(tR (⟨t⟩:t7) bW).getD 0=48)∨(t=1/\(tR (⟨t⟩:t7) bW).getD 0=32)∨(t=2/\(tR (⟨t⟩:t7) bW).getD 0=8)∨(t=8/\(tR (⟨t⟩:t7) bW).getD 0=8):=by
 by_cases em:t=0
 .subst em;exact .inl ⟨rfl,rfl⟩
 by_cases G:t=1
 .subst G;exact .inr (.inl ⟨rfl,rfl⟩)
 by_cases Y:t=2
 .subst Y;exact .inr (.inr (.inl ⟨rfl,rfl⟩))
 by_cases nE:t=8
 .subst nE;exact .inr (.inr (.inr ⟨rfl,rfl⟩))
 exfalso;simp only[bW,tR,t7.mk.injEq]at h;simp[em,G,Y,nE,Ne.symm em,Ne.symm G,Ne.symm Y,Ne.symm nE,eq_comm]at h
theorem SY{m:Nat}(e:U en (V p (O.enc (mu.mk s)) 636::S) w0)(b:ev en s.v bs)(G:1<=m)(nE:m<=8)(th:m<=bs.length):eJ 402 #[N p,i6 m] w0 (λu w'=>∃c:eu,u= .int .u64 ((hN (bs.take m):Nat):Int)/\ev en c.v (bs.drop m)/\U en (V p (O.enc (mu.mk c)) 636::S) w'):=by
 refine eH 12 e func402 ntmps402 results402 rfl λw E=>?_;refine ej 0 E (Wf (b.ei E.J)) λw E=>?_;rw[DV G nE th];refine ew 9 E λw E=>?_;obtain⟨a,d⟩:∃a:eu,(nT s.v m bs.length (s1 s.v) (O.eo UInt8))=a.v:=by
  have h:=b.cut (l:=m) (h:=bs.length) (m:=s1 s.v) th (Nat.le_refl _) b.cap (Nat.le_refl _);exact h.u9
 have f:ev en a.v (bs.drop m):=by
  have h:=b.cut (l:=m) (h:=bs.length) (m:=s1 s.v) th (Nat.le_refl _) b.cap (Nat.le_refl _);rw[d,List.take_length]at h;exact h
 refine ew 6 E λw E=>?_;refine ea (hq (l:=m) (h':=bs.length) (m:=s1 s.v) (b.ei E.J) ⟨rfl,Nat.le_refl _⟩ ⟨⟨rfl,rfl⟩,b.cap⟩ ⟨⟨_,rfl⟩,th⟩ (ew 2 E λw E=>?_));refine oA (iU (v:=a.v) (eo:=1) (iR:=O.enc (mu.mk a)) E rfl d es rfl (by rw[O.eT];decide) (O.one (α:=eu) a) (et7 (mu.mk s) a) (tA es λw E=>?_));refine ew 10 E λw E=>?_;exact⟨a,rfl,f,E⟩
theorem et9:(eK [#[.int .u64 0],#[.int .u64 0],#[.int .u64 0],(Array.replicate 32 (.int .u8 0))])=O.enc (⟨0,0,0,oc 32⟩:mU):=by
 simp only[et3,mU.parts,nn];rfl
theorem eae:oH (⟨8⟩:t7) (8:Int) (oH ⟨2⟩ 8 (oH ⟨1⟩ 32 (oH ⟨0⟩ 48 [])))=bW:=by decide
theorem D5{b:List UInt8}{m:Nat}(th:m<=8):hN (b.take m)<18446744073709551616:=by
 have:=Wm (b:=b) (k:=m);have Y:2^(8*m)<=2^64:=Nat.pow_le_pow_right (by omega) (by omega);omega
theorem eat(H:ev w0 v bs):eJ 392 #[v] w0 (λu w'=>∃(x:mU)(b:Bool),u= .tuple #[.agg (O.enc x),.bool b]/\(b=true->D4 x)/\eB w0 w'):=by
 obtain⟨aR,rfl⟩:=H.u9;have I:=H;refine eH 4 (eG _) func392 ntmps392 results392 rfl λaa w E=>?_;rw[et9]at E;have:=aS I;refine ew 10 E λw E=>?_;refine wD 10 0 E (λQ w E=>?_) (λQ w E=>?_)
 .
   exact⟨_,false,rfl,λh=>(by cases h),E.J⟩
 .
   have wY:(bs.drop 4).length=bs.length-4:=by simp
   refine eI 5 E λw E=>?_;refine ag 7 E (p0 ((mu.mk aR):mu)) λa w E=>?_;refine ej 6 E (SY (p:=a) (s:=aR) (bs:=bs) (m:=4) (E.pick (e:=V a (O.enc (mu.mk aR)) 636) es) I (by omega) (by omega) (by omega)) λd i w E=>?_;obtain⟨X,K⟩:∃X,(tR (⟨(hN (bs.take 4))⟩:t7) bW).getD 0=X:=⟨_,rfl⟩;obtain⟨q,L⟩:∃q,(tR (⟨(hN (bs.take 4))⟩:t7) bW).isSome=q:=⟨_,rfl⟩;refine ea (Z.makeMap t7 (Value.int .i64:Int->Value) E ?_);intro R w _ E;refine oA (Z.insert (tl:=t7) (tx:=Int) (k:=⟨0⟩) (v:=48) (ti:=Value.int .i64) (eS:=[]) E es rfl rfl rfl (tA es λw E=>(oA (Z.insert (tl:=t7) (tx:=Int) (k:=⟨1⟩) (v:=32) (ti:=Value.int .i64) (eS:=oH ⟨0⟩ 48 []) E es rfl rfl rfl (tA es λw E=>(oA (Z.insert (tl:=t7) (tx:=Int) (k:=⟨2⟩) (v:=8) (ti:=Value.int .i64) (eS:=oH ⟨1⟩ 32 (oH ⟨0⟩ 48 [])) E es rfl rfl rfl (tA es λw E=>(oA (Z.insert (tl:=t7) (tx:=Int) (k:=⟨8⟩) (v:=8) (ti:=Value.int .i64) (eS:=oH ⟨2⟩ 8 (oH ⟨1⟩ 32 (oH ⟨0⟩ 48 []))) E es rfl rfl rfl (tA es λw E=>?_)))))))))));rw[eae]at E;refine ew 3 E λw E=>?_;refine ea (zr (tl:=t7) (tx:=Int) (k:=⟨(hN (bs.take 4))⟩) (ti:=Value.int .i64) (eS:=bW) (z0:=0) (u:=X) inferInstance (E.map es) rfl rfl K ?_);rw[L];refine ew 13 E λw E=>?_;cases r:(!q)with
   |true=>
    refine ew 10 E λw E=>?_;refine N1 10 0 E (λ_ t w E=>?_) (λS t w E=>?_)
    .
      exact⟨_,false,rfl,λh=>(by cases h),E.J⟩
    .
      exact absurd S (by decide)
   |false=>
    have:=aS i;refine ew 10 E λw E=>?_;refine wD 10 0 E (λt w E=>?_) (λt w E=>?_)
    .
      exact⟨_,false,rfl,λh=>(by cases h),E.J⟩
    .
      have T:=et8 (L.trans (by simpa using r));rw[K]at T;refine eI 2 E λw E=>?_;refine lK (λf w=>∃(sG:eu)(l:List UInt8)(x:mU),oW [(2,N aa),(4,N a)] f/\U w0 [V a (O.enc (mu.mk sG)) 636,V aa (O.enc (x:mU)) 621] w/\ev w0 sG.v l/\D4 x) ?_ ?_
      .
        refine eI 7 E λw E=>?_;refine lK (λf w=>∃(sG:eu)(l:List UInt8)(c:Nat),oW [(2,N aa),(4,N a)] f/\U w0 [V a (O.enc (mu.mk sG)) 636,V aa (O.enc (⟨(hN (bs.take 4)),c,0,oc 32⟩:mU)) 621] w/\ev w0 sG.v l/\8<=l.length/\((hN (bs.take 4))=0∨(hN (bs.take 4))=8)/\c<18446744073709551616) ?_ ?_
        .
          refine eI 13 E λw E=>?_;refine wD 0 9 E (λW w E=>?_) (λW w E=>?_)
          .
            have Y:(hN (bs.take 4))=2:=by omega
            have y:(bs.drop 4).length=8:=by omega
            refine eI 8 E λw E=>?_;refine ej 11 E (SY (p:=a) (s:=d) (bs:=(bs.drop 4)) (m:=8) (E.pick (e:=V a (O.enc (mu.mk d)) 636) es) i (by omega) (by omega) (by omega)) λfu z w E=>?_;exact⟨fu,_,⟨(hN (bs.take 4)),hN ((bs.drop 4).take 8),0,oc 32⟩,⟨rfl,rfl,trivial⟩,E.sub aI,z,D5 (by decide),.inr ⟨.inr Y,rfl⟩⟩
          .
            refine wD 0 8 E (λnl w E=>?_) (λnl w E=>?_)
            .
              have A:(hN (bs.take 4))=0:=by omega
              have ewR:(bs.drop 4).length=48:=by omega
              refine eI 9 E λw E=>?_;refine ej 5 E (SY (p:=a) (s:=d) (bs:=(bs.drop 4)) (m:=8) (E.pick (e:=V a (O.enc (mu.mk d)) 636) es) i (by omega) (by omega) (by omega)) λB C w E=>?_;exact⟨B,_,_,⟨rfl,rfl,trivial⟩,E.sub aI,C,by simp;omega,.inl A,D5 (by decide)⟩
            .
              refine wD 0 0 E (λcp w E=>?_) (λcp w E=>?_)
              .
                have D:(hN (bs.take 4))=8:=by omega
                have y:(bs.drop 4).length=8:=by omega
                refine eI 8 E λw E=>?_;exact⟨d,_,_,⟨rfl,rfl,trivial⟩,E.sub aI,i,by omega,.inr D,by decide⟩
              .
                have D7:(hN (bs.take 4))=1:=by omega
                refine eI 11 E λw E=>?_;exact⟨d,_,⟨(hN (bs.take 4)),0,0,oc 32⟩,⟨rfl,rfl,trivial⟩,E.sub aI,i,(by decide:0<18446744073709551616),.inr ⟨.inl D7,rfl⟩⟩
        .
          rintro f w ⟨sG,l,c,j,E,o,ewH,eA,eX⟩;refine io _ j (λg=>?_);clear j;refine eI 3 E λw E=>?_;refine ej 7 E (SY (p:=a) (s:=sG) (bs:=l) (m:=8) (E.pick (e:=V a (O.enc (mu.mk sG)) 636) es) o (by omega) (by omega) (by omega)) λF G w E=>?_;exact⟨F,_,⟨(hN (bs.take 4)),c,hN (l.take 8),oc 32⟩,⟨rfl,rfl,trivial⟩,E.sub aI,G,eX,.inl ⟨eA,D5 (by decide)⟩⟩
      .
        rintro f w ⟨sG,l,x,j,E,o,M⟩;refine io _ j (λg=>?_);clear j;have:=aS o;refine eI 11 E λw E=>?_;refine wD 0 11 E (λOl w E=>?_) (λOl w E=>?_)
        .
          have P:l.length=32:=by omega
          refine eI 5 E λw E=>?_;refine ea (LN (n:=32) (xs:=l) rfl (o.ei E.J) P (by omega) (ag 1 E (hT λw E=>((o.ei E.J).key (n:=31) P).nZ (O.eT _)) λw E=>?_));refine oA (iU (v:=.agg (O.enc (mL 32 l))) (eo:=32) (iR:=O.enc {x with hJ:=mL 32 l}) E rfl rfl es (O.eT (mL 32 l)) (by rw[O.eT];decide) (O.one (mL 32 l)) (et5 x (mL 32 l)) (tA es λw E=>?_));refine ew 11 E λw E=>?_;exact⟨_,true,rfl,λ_=>M,E.J⟩
        .
          exact⟨_,true,rfl,λ_=>M,E.J⟩
def SB(n:Nat)(sO:List UInt8):Bool:=sO.any λc=>decide ((n:Int)<=(c.toNat:Int))
theorem D8(h:SB n sO=false)(a:c∈sO):c.toNat<n:=by
 unfold SB at h;have:=List.any_eq_false.1 h c a;simp only[decide_eq_true_eq]at this;omega
theorem WT:1<=uC t/\uC t<=2:=by unfold uC;split<;>omega
theorem SV:tN 394 #[.agg (O.enc x)] w0 (i6 (uC x.tag:Int)):=by
 refine eH 13 (eG _) func394 ntmps394 results394 rfl λiZ w E=>?_;refine tn.eV _ 6 _ rfl rfl rfl rfl (λf=>o9 rfl ⟨rfl,eB.refl _⟩) (λw a=>?_);replace E:=E.ei a;refine tn.eV _ 6 _ rfl rfl rfl rfl (λc=>ap (by first|exact a7 rfl c|rfl) (E.aV es (Wz _)) ⟨rfl,eB.refl _⟩) (λw a=>?_);replace E:=E.ei a;refine tn.eV _ 6 _ rfl rfl rfl rfl (λd=>Z.eql (by first|exact a7 rfl d|rfl) rfl ⟨rfl,eB.refl _⟩) (λw a=>?_);replace E:=E.ei a;refine ea (m8 rfl rfl (by first|rfl) (ew 2 E<|na 8 9 (λb e w E=>?_) (λb e w E=>?_)))
 .
   refine⟨congrArg (Value.int .i64) ?_,E.J⟩;unfold uC;simp only[Bool.or_eq_true,decide_eq_true_eq]at b;rw[if_pos (by omega)];rfl
 .
   refine⟨congrArg (Value.int .i64) ?_,E.J⟩;unfold uC;simp only[Bool.or_eq_false_iff,decide_eq_false_iff_not]at b;rw[if_neg (by omega)];rfl
theorem eac(a:ar w0 (N b) #[qi])(d:ev w0 qi r):tN 403 #[.int .u8 (c.toNat:Int),N b] w0 (.bool (decide ((r.length:Int)<=(c.toNat:Int)))):=by
 refine eH 8 (eG _) func403 ntmps403 results403 rfl λw E=>?_;refine ea (Z.conv rfl (wrap_i64 (by have:=wj c;omega)) ?_);have:=iu a;have:=aS d;refine ew 8 E λw E=>?_;exact⟨rfl,E.J⟩
theorem eau{xs:List UInt8}(p:UInt8->Bool)(b:ev w0 v xs)(l:∀w,eB w0 w->∀c:UInt8,mH prog hs [.int .u8 (c.toNat:Int)] w (λu w'=>u= .bool (p c)/\eB w w')):eJ 305 #[v,hs] w0 (λu w'=>∃n:Int,u= .int .i64 n/\decide (0<=n)=xs.any p/\eB w0 w'):=by
 have:=aS b;refine eH 14 (eG _) func305 ntmps305 results305 rfl λw E=>?_;refine ex.loop (λq f w=>∃k:Nat,oW [(0,v),(1,hs),(7,i6 xs.length),(8,i6 k)] f/\U w0 [] w/\(∀j(h:j<xs.length),j<k->p xs[j]=false)/\k<=xs.length/\q=xs.length-k) (xs.length) ?_ ?_
 .
   exact⟨0,⟨rfl,rfl,rfl,rfl,trivial⟩,E,λj _ h=>absurd h (by omega),Nat.zero_le _,rfl⟩
 .
   rintro q f w ⟨k,d,E,e,y,th⟩;refine io _ d (λg=>?_);clear d;refine eI 6 E<|om 0 12 (λm w E=>?_) (λm w E=>?_)
   .
     have i:k<xs.length:=by omega
     have o:=b.le;simp only[maxLen]at o;refine eI 16 E ⟨⟨by omega⟩,λ_ w E=>?_⟩;have:=lC i;refine ew 1 E λw E=>?_;refine ea (bw rfl (l _ E.J xs[k]) rfl ?_);rintro _ w ⟨rfl,r⟩;replace E:=E.ei r;refine ew 2 E<|na 13 8 (λa s w E=>?_) (λa s=>⟨iA,λw E=>?_⟩)
     .
       exact⟨_,rfl,by rw[List.any_eq_true.2 ⟨xs[k],List.getElem_mem i,a⟩];exact decide_eq_true (by omega),E.J⟩
     .
       exact⟨xs.length-(k+1),by omega,k+1,⟨rfl,rfl,rfl,congrArg (Value.int .i64) (by omega),trivial⟩,E,λj G Y=>(by rcases Nat.lt_or_ge j k with h|h;exact e j G h;obtain rfl:j=k:=(by omega);exact a),by omega,rfl⟩
   .
     refine⟨_,rfl,?_,E.J⟩;rw[List.any_eq_false.2 (λc t=>by obtain⟨j,x,rfl⟩:=List.getElem_of_mem t;rw[e j x (by omega)];decide)];rfl
theorem eam{xs:List UInt8}(p:UInt8->Bool)(a:ev w0 v xs)(b:∀w,eB w0 w->∀c:UInt8,mH prog hs [.int .u8 (c.toNat:Int)] w (λu w'=>u= .bool (p c)/\eB w w')):tN 236 #[v,hs] w0 (.bool (xs.any p)):=by
 refine eH 9 (eG _) func236 ntmps236 results236 rfl λw E=>?_;refine ej 6 E (eau p (a.ei E.J) (λw h c=>b w (E.J.trans h) c)) λn d w E=>?_;exact⟨congrArg Value.bool d,E.J⟩
theorem eaf(b:ev w0 qi r)(ep:ev w0 fl sO):eJ 393 #[.agg (O.enc x),qi,fl] w0 (λu w'=>∃e:Int,u= .int .i64 e/\(e=0->uC x.tag<=sO.length/\SB r.length sO=false)/\eB w0 w'):=by
 obtain⟨i,rfl⟩:=b.u9;have:=aS ep;refine eH 19 (eG _) func393 ntmps393 results393 rfl λtZ aF w E=>?_;refine ej 2 E (SV) λw E=>?_;refine tn.eV _ 16 _ rfl rfl rfl rfl (λR=>oM (v:=fl) rfl ⟨rfl,eB.refl _⟩) (λw a=>?_);replace E:=E.ei a;refine tn.eV _ 16 _ rfl rfl rfl rfl (λS=>oM (v:=(.func (.func 403) #[] #[N aF])) rfl ⟨rfl,eB.refl _⟩) (λw a=>?_);replace E:=E.ei a;refine tn.eV _ 16 (.bool (SB r.length sO)) rfl rfl rfl rfl (λn=>?_) (λw a=>?_)
 .refine Z.call (eam (λc=>decide ((r.length:Int)<=(c.toNat:Int))) (ep.ei E.J) (λw' h c=>⟨_,[],[N aF],rfl,inferInstance,eac ((E.tU es).ei h) (b.ei (E.J.trans h))⟩)) (Lh (by first|exact a7 rfl n|rfl) (by first|exact a7 rfl n|rfl)) ?_;rintro v w ⟨rfl,a⟩;replace E:=E.ei a;exact⟨rfl,‹_›⟩
 replace E:=E.ei a;refine ea (m8 rfl rfl (by first|rfl) (ew 2 E<|na 8 0 (λ_ z w E=>?_) (λA z w E=>?_)))
 .
   exact⟨_,rfl,λh=>(by cases h),E.J⟩
 .
   obtain⟨B,d⟩:=Bool.or_eq_false_iff.1 A;simp only[decide_eq_false_iff_not]at B;have T:=WT (t:=x.tag);have W:(sO.take (uC x.tag)).length=(uC x.tag):=by simp;omega
   have o:ev w0 (nT fl 0 (uC x.tag) (s1 fl) (O.eo UInt8)) (sO.take (uC x.tag)):=ep.F2 (by omega) (by have:=ep.cap;omega) (Nat.le_refl _);have C:=b.le;simp only[maxLen]at C;refine eI 7 E λw E=>?_;refine ej 0 E (SV) λw E=>?_;refine ea (hq (l:=0) (h':=(uC x.tag)) (m:=s1 fl) (ep.ei E.J) ⟨rfl,Nat.le_refl _⟩ ⟨⟨_,rfl⟩,by have:=ep.cap;omega⟩ ⟨rfl,Nat.zero_le _⟩ (ea (Z.hL rfl ((o.ei E.J)) (ew 4 E λw E=>?_))));refine ex.loop (λq f w=>∃k:Nat,oW [(3,N tZ),(4,N aF),(24,(nT fl 0 (uC x.tag) (s1 fl) (O.eo UInt8))),(25,.int .i64 ((sO.take (uC x.tag)).length:Int)),(26,i6 k)] f/\U w0 [V aF #[i.v] 49,V tZ (O.enc x) 621] w/\k<=(sO.take (uC x.tag)).length/\q=(sO.take (uC x.tag)).length-k) ((sO.take (uC x.tag)).length) ?_ ?_
   .
     exact⟨0,⟨rfl,rfl,rfl,rfl,rfl,trivial⟩,E,Nat.zero_le _,rfl⟩
   .
     rintro q f w ⟨k,p,E,X,th⟩;refine io _ p (λg=>?_);clear p;refine eI 6 E<|om 0 12 (λD w E=>?_) (λD w E=>?_)
     .
       have s:k<(sO.take (uC x.tag)).length:=by omega
       have F:=D8 d (List.mem_of_mem_take (List.getElem_mem s));have:=aS o;refine eI 8 E ⟨⟨by omega⟩,λ_ w E=>?_⟩;have:=lC s;have:=aS b;refine ew 11 E ⟨⟨by omega⟩,λ_ w E=>?_⟩;have:=lC F;refine ew 4 E λw E=>?_;refine tn.eV _ 38 _ rfl rfl rfl rfl (λG=>o9 rfl ⟨rfl,eB.refl _⟩) (λw a=>?_);replace E:=E.ei a;refine tn.eV _ 38 _ rfl rfl rfl rfl (λH=>ap (by first|exact a7 rfl H|rfl) (E.aV es (Wz _)) ⟨rfl,eB.refl _⟩) (λw a=>?_);replace E:=E.ei a;refine tn.eV _ 38 _ rfl rfl rfl rfl (λI=>Z.eql (by first|exact a7 rfl I|rfl) rfl ⟨rfl,eB.refl _⟩) (λw a=>?_);replace E:=E.ei a;refine tn.eV _ 38 _ rfl rfl rfl rfl (λK=>di (by first|exact a7 rfl K|rfl) ⟨rfl,eB.refl _⟩) (λw a=>?_);replace E:=E.ei a;refine IF _ _ 42 _ rfl rfl rfl rfl (λL=>oD rfl ⟨rfl,eB.refl _⟩) (λw a=>?_);replace E:=E.ei a;refine IF _ _ 42 _ rfl rfl rfl rfl (λM=>Z.gtr (by first|exact a7 rfl M|rfl) rfl ⟨rfl,eB.refl _⟩) (λw a=>?_);replace E:=E.ei a;refine tn.eV _ 38 _ rfl rfl rfl rfl (λy=>fN (by first|exact a7 rfl y|rfl) (by first|exact Fh rfl y|rfl) rfl ⟨rfl,eB.refl _⟩) (λw a=>?_);replace E:=E.ei a;refine tn.eV _ 38 _ rfl rfl rfl rfl (λj=>Z.not (by first|exact a7 rfl j|rfl) ⟨rfl,eB.refl _⟩) (λw a=>?_);replace E:=E.ei a;refine ea (fN rfl (by first|rfl) rfl (ew 3 E<|om 13 11 (λP w E=>?_) (λP w E=>?_)))
       .
         exact⟨_,rfl,λ_=>⟨by omega,d⟩,E.J⟩
       .
         refine wD 13 9 E (λQ w E=>?_) (λQ=>⟨iA,λw E=>?_⟩)
         .
           exact⟨_,rfl,λ_=>⟨by omega,d⟩,E.J⟩
         .
           exact⟨(sO.take (uC x.tag)).length-(k+1),by omega,k+1,⟨rfl,rfl,rfl,rfl,congrArg (Value.int .i64) (by omega),trivial⟩,E,by omega,rfl⟩
     .
       exact⟨_,rfl,λ_=>⟨by omega,d⟩,E.J⟩
def sI:aB:=⟨0,oc 32,0⟩
def eab(a:aB):Bool:=decide (a.hJ=hZ)&&decide ((a.tv:Int)=0)
def dq(a:aB):Prop:=a.o6<18446744073709551616/\a.tv<18446744073709551616
def uU(l m:List aB):Prop:=m.length=l.length/\∀y∈m,dq y
theorem uU.set(h:uU l m)(b:dq y):uU l (m.set a y):=⟨by rw[List.length_set];exact h.1,λz c=>by rcases List.mem_or_eq_of_mem_set c with G|rfl;exact h.2 z G;exact b⟩
theorem uU.at(h:uU l m)(ep:a<m.length):dq m[a]:=h.2 _ (List.getElem_mem ep)
theorem eav(h:n<18446744073709551616):IntKind.u64.wrap (18446744073709551615-(n:Int))=((18446744073709551615-n:Nat):Int):=by rw[IntKind.wrap_u64];omega
theorem bY:tN 166 #[] w0 (.agg (O.enc hZ)):=by
 refine eH 7 (eG _) func166 ntmps166 results166 rfl λb w E=>?_;exact ea (yg (k:=hZ) (by first|rfl|(simp only[hZ,sI,sM,nn];rfl)) (by intro p a;first|(exfalso;simp at a;done)|(simp only[List.map_cons,List.map_nil,List.mem_cons,List.not_mem_nil,or_false]at a;rcases a with rfl|rfl|rfl|rfl<;>exact⟨by simp,rfl⟩)) (ew 5 E λw E=>(⟨rfl,E.J⟩)))
theorem D9{a:aB}:tN 409 #[.agg (O.enc a)] w0 (.bool (eab a)):=by
 refine eH 7 (eG _) func409 ntmps409 results409 rfl λiZ=>?_;refine ow 2 10 (e5 [0,1] (.one 2 (e5 [3,4,5,6,7,8,9] .nil))) [] λw E=>?_;refine iK 0 E (bY) λw E=>?_;exact tw rfl (λw E=>vT rfl rfl eY) (ao 1 E λw E=>(uc rfl rfl (λd w E=>o9 rfl eY) (uc rfl rfl (λb w E=>ap (by first|exact a7 rfl b|rfl) (E.aV es (Ds _)) eY) (uc rfl rfl (λc w E=>Z.eql (by first|exact a7 rfl c|rfl) rfl eY) (tw rfl (λw E=>fN rfl (by first|rfl) rfl eY) (ao 5 E λw E=>(⟨rfl,E.J⟩)))))))
theorem eak(ep:a<out.length)(f:b<out.length)(g:x.o6<18446744073709551616/\x.tv<18446744073709551616)(i:∀y∈out,dq y)(j:U en (B l2 62 out::S) w0):eJ 404 #[.agg (O.enc x),.agg #[oK l2 a (O.eo aB),oK l2 b (O.eo aB)]] w0 (λu w'=>∃(e:Int)(m:List aB),u= .int .i64 e/\(e=0->x.tv<=1048576)/\uU out m/\U en (B l2 62 m::S) w'):=by
 have c:uU out out:=⟨rfl,i⟩;have d:=c.at ep;have:=lC f;refine eH 15 j func404 ntmps404 results404 rfl λaa tZ w E=>?_;refine ea (rV (r:=((sI:aB):aB)) (ps:=aB.parts ((sI:aB):aB)) (jV _) (by first|(simp only[hZ,sI,sM,nn,jV,aB.parts];rfl)|rfl) (by(repeat' (first|exact trivial|refine And.intro ?_ ?_))<;>first|rfl|exact O.eT _|(simp;done)) ?_);refine ea (T6 rfl rfl (ew 3 E λw E=>?_));have:=lC ep;refine wD 9 6 E (λk w E=>?_) (λk w E=>?_)
 .
   exact⟨_,_,rfl,λh=>(by cases h),c,E.nF.nF⟩
 .
   refine ej 4 E (D9)<|om 9 8 (λl w E=>?_) (λl w E=>?_)
   .
     exact⟨_,_,rfl,λh=>(by cases h),c,E.nF.nF⟩
   .
     refine wD 9 1 E (λn w E=>?_) (λn w E=>?_)
     .
       exact⟨_,_,rfl,λh=>(by cases h),c,E.nF.nF⟩
     .
       refine nV 11 9 (e5 [0,1,2,3,4,5,6,7,8] .nil) [] E<|om 9 4 (λo w E=>?_) (λo w E=>?_)
       .
         exact⟨_,_,rfl,λh=>(by cases h),c,E.nF.nF⟩
       .
         refine nV 7 10 (e5 [0,1,2,3,4,5,6,7,8,9] (.one 10 .nil)) [] E λw E=>?_;refine tw rfl (λw E=>Z.sub rfl rfl (yk (by omega) d.1) eY) (ao 7 E λw E=>?_);have p:b<(out.set a {out[a]with o6:=out[a].o6-x.o6}).length:=by simpa using f
         refine ew 8 E λw E=>?_;have:=lC p;refine ag 11 E (p0 ((⟨x.o6,x.hJ,x.tv⟩:aB):aB)) λw E=>?_;exact⟨_,_,rfl,λ_=>by omega,(c.set (a:=a) (y:={out[a]with o6:=out[a].o6-x.o6}) ⟨Nat.lt_of_le_of_lt (Nat.sub_le _ _) d.1,d.2⟩).set (a:=b) (y:=⟨x.o6,x.hJ,x.tv⟩) g,E.nF.nF⟩
theorem eax(ep:a<out.length)(i:b<out.length)(j:x.o6<18446744073709551616/\x.tv<18446744073709551616)(d:∀y∈out,dq y)(f:U en (B l2 62 out::S) w0):eJ 405 #[.agg (O.enc x),.agg #[oK l2 a (O.eo aB),oK l2 b (O.eo aB)]] w0 (λu w'=>∃(e:Int)(m:List aB),u= .int .i64 e/\uU out m/\U en (B l2 62 m::S) w'):=by
 have c:uU out out:=⟨rfl,d⟩;have g:=c.at ep;refine eH 9 f func405 ntmps405 results405 rfl λaa tZ w E=>?_;have:=lC ep;refine nV 5 7 (e5 [0,1,2,3,4] (.one 5 (.look 6 .nil))) [] E λw E=>?_;refine iK 0 E (bY) λw E=>?_;refine tw rfl (λw E=>T6 rfl rfl eY) (ao 2 E<|om 8 20 (λh w E=>?_) (λh w E=>?_))
 .
   exact⟨_,_,rfl,c,E.nF.nF⟩
 .
   exact⟨_,_,rfl,c.set (a:=a) (y:={out[a]with hJ:=x.hJ}) g,E.nF.nF⟩
theorem eaj(ep:a<out.length)(l:b<out.length)(d:x.o6<18446744073709551616/\x.tv<18446744073709551616)(f:∀y∈out,dq y)(g:U en (B l2 62 out::S) w0):eJ 407 #[.agg (O.enc x),.agg #[oK l2 a (O.eo aB),oK l2 b (O.eo aB)]] w0 (λu w'=>∃(e:Int)(m:List aB),u= .int .i64 e/\(e=0->x.tv<=1048576)/\uU out m/\U en (B l2 62 m::S) w'):=by
 have c:uU out out:=⟨rfl,f⟩;have i:=c.at ep;have:=lC ep;refine eH 15 g func407 ntmps407 results407 rfl λaa tZ w E=>?_;refine ej 4 E (D9)<|om 9 8 (λj w E=>?_) (λj w E=>?_)
 .
   exact⟨_,_,rfl,λh=>(by cases h),c,E.nF.nF⟩
 .
   refine wD 9 21 E (λk w E=>?_) (λk w E=>?_)
   .
     exact⟨_,_,rfl,λh=>(by cases h),c,E.nF.nF⟩
   .
     exact⟨_,_,rfl,λ_=>by omega,c.set (a:=a) (y:={out[a]with tv:=x.tv}) ⟨i.1,d.2⟩,E.nF.nF⟩
theorem eaq(ep:a<out.length)(j:b<out.length)(r:x.o6<18446744073709551616/\x.tv<18446744073709551616)(s:∀y∈out,dq y)(t:U en (B l2 62 out::S) w0):eJ 406 #[.agg (O.enc x),.agg #[oK l2 a (O.eo aB),oK l2 b (O.eo aB)]] w0 (λu w'=>∃(e:Int)(m:List aB),u= .int .i64 e/\uU out m/\U en (B l2 62 m::S) w'):=by
 have d:uU out out:=⟨rfl,s⟩;have k:=d.at ep;refine eH 0 t func406 ntmps406 results406 rfl λw E=>?_;obtain⟨g,n,c,p⟩:∃g n c,l2=e4 g n c:=by
  have e1:=E.ue (v:=l2) (xs:=out) .nU;rcases e1 with⟨_,rfl⟩|⟨g,cap,i9,h,_⟩
  .simp at ep
  exact⟨g,_,cap,h⟩
 have:=lC ep;refine eI 15 E λaa tZ w E=>?_;refine ej 4 E (D9)<|om 9 1 (λz w E=>?_) (λz w E=>?_)
 .
   exact⟨_,_,rfl,d,E.nF.nF⟩
 .
   refine nV 11 9 (e5 [0,1,2,3,4,5,6,7,8] .nil) [] E<|om 9 6 (λA w E=>?_) (λA w E=>?_)
   .
     exact⟨_,_,rfl,d,E.nF.nF⟩
   .
     refine ea (LS (n:=33) (b:=g) (o:=0+a*34) (dl:=0+b*34) (by rw[p];rfl) (by rw[p];rfl) ?_);rw[show decide (0+a*34=0+b*34)=decide (a=b)from by rw[Bool.eq_iff_iff];simp only[decide_eq_true_eq];omega];refine ew 3 E<|na 9 0 (λ_ C w E=>?_) (λD C w E=>?_)
     .
       exact⟨_,_,rfl,d,E.nF.nF⟩
     .
       have F:a≠b:=of_decide_eq_false D;have l:=d.at j;refine eI 1 E λw E=>?_;have:=lC j;refine nV 7 10 (e5 [0,1,2,3,4,5,6,7,8,9] .nil) [] E λw E=>?_;refine fY 4 E (p1 (eav r.1))<|om 9 4 (λG w E=>?_) (λG w E=>?_)
       .
         exact⟨_,_,rfl,d,E.nF.nF⟩
       .
         refine nV 7 10 (e5 [0,1,2,3,4,5,6,7,8,9] (.one 10 .nil)) [] E λw E=>?_;refine tw rfl (λw E=>Z.sub rfl rfl (yk (by omega) k.1) eY) (ao 6 E ?_);refine ow 0 10 (e5 [0,1,2,3,4,5,6,7,8,9] (.one 10 .nil)) [] λw E=>?_;have f:b<(out.set a {out[a]with o6:=out[a].o6-x.o6}).length:=by simpa using j
         have q:(out.set a {out[a]with o6:=out[a].o6-x.o6})[b]=out[b]:=by rw[List.getElem_set_ne F]
         refine ao 1 E λw E=>?_;exact tw rfl (λw E=>ap rfl (E.aV es rfl) eY) (tw rfl (λw E=>Z.nilCheck rfl ((E.ef (v:=l2) (xs:=(out.set a {out[a]with o6:=out[a].o6-x.o6})) es).sv f) eY) (tw rfl (λw E=>Z.fieldAddr rfl ((E.ef (v:=l2) (xs:=(out.set a {out[a]with o6:=out[a].o6-x.o6})) es).sv f) eY) (tw rfl (λw E=>ap rfl (dK ((E.ef (v:=l2) (xs:=(out.set a {out[a]with o6:=out[a].o6-x.o6})) es).se f) 0 (by rw[q];exact AF _)) eY) (tw rfl (λw E=>o9 rfl eY) (tw rfl (λw E=>ap rfl (E.aV es (et4 _)) eY) (tw rfl (λw E=>Z.add rfl rfl (zp (by omega)) eY) (tw rfl (λw E=>Z.nilCheck rfl ((E.ef (v:=l2) (xs:=(out.set a {out[a]with o6:=out[a].o6-x.o6})) es).sv f) eY) (tw rfl (λw E=>Z.fieldAddr rfl ((E.ef (v:=l2) (xs:=(out.set a {out[a]with o6:=out[a].o6-x.o6})) es).sv f) eY) (nP rfl (pr (v:=l2) (u:=.int .u64 ((out[b].o6+x.o6:Nat):Int)) (eo:=1) (xs:=(out.set a {out[a]with o6:=out[a].o6-x.o6})) (i:=b) (off:=0) (ds:={out[b]with o6:=out[b].o6+x.o6}) E es f rfl rfl rfl (by decide) (o0 _ _) (by rw[q];exact GE out[b] (out[b].o6+x.o6)) (tA es λw E=>(ao 9 E λw E=>(⟨_,_,rfl,(d.set (a:=a) (y:={out[a]with o6:=out[a].o6-x.o6}) ⟨Nat.lt_of_le_of_lt (Nat.sub_le _ _) k.1,k.2⟩).set (a:=b) (y:={out[b]with o6:=out[b].o6+x.o6}) ⟨(by show out[b].o6+x.o6<_;omega),l.2⟩,E.nF.nF⟩)))))))))))))
def oQ:Value:=.nilFunc
def Oc:List (t7×Value):=[(⟨0⟩,.func (.func 404) #[] #[]),(⟨1⟩,.func (.func 405) #[] #[]),(⟨2⟩,.func (.func 406) #[] #[]),(⟨8⟩,.func (.func 407) #[] #[])]
def l3(v:Value):Value:=v
theorem eaE:oH (⟨8⟩:t7) (Value.func (.func 407) #[] #[]) (oH ⟨2⟩ (.func (.func 406) #[] #[]) (oH ⟨1⟩ (.func (.func 405) #[] #[]) (oH ⟨0⟩ (.func (.func 404) #[] #[]) [])))=Oc:=rfl
theorem eaT(ep:a<out.length)(c:b<out.length)(k:D4 x)(d:∀y∈out,dq y)(E:U en (B l2 62 out::S) w)(l:(tR (⟨x.tag⟩:t7) Oc).getD oQ=u):
 mH prog u [.agg (O.enc x),.agg #[oK l2 a (O.eo aB),oK l2 b (O.eo aB)]] w (λr w'=>∃(e:Int)(m:List aB),r= .int .i64 e/\(e=0->x.tv<=1048576)/\uU out m/\U en (B l2 62 m::S) w'):=by
 subst l;obtain⟨f,⟨h|h,i⟩|⟨h|h,i⟩⟩:=k<;>rw[h]
 .exact⟨_,[],[],rfl,inferInstance,eak ep c ⟨f,i⟩ d E⟩
 .exact⟨_,[],[],rfl,inferInstance,eaj ep c ⟨f,i⟩ d E⟩
 .exact⟨_,[],[],rfl,inferInstance,(eax ep c ⟨f,by omega⟩ d E).mono λ_ _⟨e,m,g,j⟩=>⟨e,m,g,λ_=>by omega,j⟩⟩
 exact⟨_,[],[],rfl,inferInstance,(eaq ep c ⟨f,by omega⟩ d E).mono λ_ _⟨e,m,g,j⟩=>⟨e,m,g,λ_=>by omega,j⟩⟩
theorem Ex{α:Type}{l:List α}(h:i<l.length)(d:α):l.getD i d=l[i]:=by simp[List.getD_eq_getElem?_getD,h]
theorem eaA:eJ 395 #[] w0 (λu w'=>La w0 w' u l3 Oc/\eB w0 w'):=by
 refine eH 7 (eG _) func395 ntmps395 results395 rfl λw E=>?_;refine ea (Z.makeMap t7 (l3:Value->Value) E ?_);intro tD w _ E;refine oA (Z.insert (tl:=t7) (tx:=Value) (k:=⟨0⟩) (v:=.func (.func 404) #[] #[]) (ti:=l3) (eS:=[]) E es rfl rfl rfl (tA es λw E=>(oA (Z.insert (tl:=t7) (tx:=Value) (k:=⟨1⟩) (v:=.func (.func 405) #[] #[]) (ti:=l3) (eS:=oH (⟨0⟩:t7) (.func (.func 404) #[] #[]) []) E es rfl rfl rfl (tA es λw E=>(oA (Z.insert (tl:=t7) (tx:=Value) (k:=⟨2⟩) (v:=.func (.func 406) #[] #[]) (ti:=l3) (eS:=oH (⟨1⟩:t7) (.func (.func 405) #[] #[]) (oH (⟨0⟩:t7) (.func (.func 404) #[] #[]) [])) E es rfl rfl rfl (tA es λw E=>(oA (Z.insert (tl:=t7) (tx:=Value) (k:=⟨8⟩) (v:=.func (.func 407) #[] #[]) (ti:=l3) (eS:=oH (⟨2⟩:t7) (.func (.func 406) #[] #[]) (oH (⟨1⟩:t7) (.func (.func 405) #[] #[]) (oH (⟨0⟩:t7) (.func (.func 404) #[] #[]) []))) E es rfl rfl rfl (tA es λw E=>?_)))))))))));rw[eaE]at E;refine ew 6 E λw E=>?_;exact⟨E.vO .nU,E.J⟩
theorem Ce(b:ev w0 v xs)(eM:xs.length<=100000):eJ 288 #[v] w0 (λu w'=>sN w0 w' u 62 xs/\eB w0 w'):=by
 obtain⟨a,c,rfl⟩:=b.eq;refine eH 9 (eG _) func288 ntmps288 results288 rfl λw E=>?_;refine ea (fS rfl rfl (ew 2 E<|om 8 4 (λd w E=>?_) (λd w E=>?_)))
 .
   cases a with
   |none=>
    obtain⟨rfl,_,_⟩:=b.wb;exact⟨sN.nil _ _ _,E.J⟩
   |some a=>cases d
 .
   refine ho 1 E (sL ([]:List aB)) λe w E=>?_;refine ea (dS (α:=aB) rfl E rfl es ((b.ei E.J)) (by(try simp only[List.length_append,List.length_cons,List.length_nil,List.length_map]);omega) (by simp only[maxLen];(try simp only[List.length_append,List.length_cons,List.length_nil,List.length_map]);omega) ?_);intro f w E;replace E:=E _ es;refine ew 5 E λw E=>?_;have G:=E.ut es;simp only[List.nil_append]at G;exact⟨G,E.J⟩
theorem WI(a:ev w0 v xs):tN 331 #[v] w0 (nT v 0 xs.length xs.length (O.eo (aB))):=by
 have:=aS a;refine eH 12 (eG _) func331 ntmps331 results331 rfl λw E=>?_;exact ea (hq (a.ei E.J) ⟨⟨_,rfl⟩,a.cap⟩ ⟨⟨_,rfl⟩,Nat.le_refl _⟩ ⟨rfl,Nat.zero_le _⟩ (ew 5 E λw E=>(⟨rfl,E.J⟩)))
theorem eaO(eM:ev w0 Ey l)(R:ev w0 xD r)(ep:ev w0 au.cG.v sO)(hd:ev w0 au.data.v oE)(py:l.length<=100000)(lP:∀y∈l,dq y):eJ 370 #[Ey,xD,.agg (O.enc au)] w0 (λu w'=>∃(v:Value)(n:Nat)(e:Int)(m:List aB),u= .tuple #[v,eb n,.int .i64 e]/\sN w0 w' v 62 m/\(e=0->uU l m)/\n<=1048576/\eB w0 w'):=by
 have:=aS eM;have:=aS R;refine eH 18 (eG _) func370 ntmps370 results370 rfl λiX=>om 10 0 (λtj w E=>?_) (λtj w E=>?_)
 .
   exact⟨_,0,_,[],rfl,sN.nil _ _ _,λh=>(by cases h),by decide,E.J⟩
 .
   have hlen:l.length=r.length:=by omega
   refine eI 6 E λw E=>?_;refine ej 4 E (eat (hd.ei E.J)) λx jE G r2 w E=>?_;refine oA (iV E rfl rfl es (by first|rfl|exact O.eT _) (tA es λw E=>(ew 10 E<|na 10 0 (λ_ al w E=>?_) (λa8 al w E=>?_))))
   .
     exact⟨_,0,_,[],rfl,sN.nil _ _ _,λh=>(by cases h),by decide,E.J⟩
   .
     have et:=G (by simpa using a8);refine eI 9 E λw E=>?_;refine ej 9 E (eaf (R.ei E.J) (ep.ei E.J)) λe H=>na 11 0 (λI aJ w E=>?_) (λI aJ w E=>?_)
     .
       exact⟨_,0,_,[],rfl,sN.nil _ _ _,λh=>absurd h (by simpa using I),by decide,E.J⟩
     .
       obtain⟨AX,S⟩:=H (by simpa using I);have ewL:=WT (t:=x.tag);obtain⟨j,tM⟩:∃j,uC x.tag-1=j:=⟨_,rfl⟩;have W:j<sO.length:=by omega
       have K:0<sO.length:=by omega
       have X:sO[0].toNat<l.length:=by rw[hlen];exact D8 S (List.getElem_mem _)
       have Y:sO[j].toNat<l.length:=by rw[hlen];exact D8 S (List.getElem_mem _)
       refine eI 5 E λw E=>?_;refine ea (Z.call (Ce (eM.ei E.J) py) rfl ?_);rintro WS w ⟨WR,q⟩;replace E:=E.pD q WR.1 WR.2;refine ea (Z.call (WI (E.ef (v:=WS) (xs:=l) es)) rfl ?_);rintro a w ⟨L,q⟩;replace E:=E.ei q;refine ew 1 E λw E=>?_;replace E:=E.bL (v:=WS) (T:=62) (xs:=l) es;rw[<-L]at E;obtain⟨ewD,z⟩:∃p,(oK a sO[0].toNat (O.eo aB))= .pointer p:=by obtain⟨b,o,h⟩:=(E.ef (v:=a) (xs:=l) es).sv (eo:=O.eo aB) X;exact⟨_,h⟩
       obtain⟨ewC,A⟩:∃p,(oK a sO[j].toNat (O.eo aB))= .pointer p:=by obtain⟨b,o,h⟩:=(E.ef (v:=a) (xs:=l) es).sv (eo:=O.eo aB) Y;exact⟨_,h⟩
       refine ew 2 E λw E=>?_;refine lK (λf w=>∃s:Nat,oW [(9,N r2),(12,a),(13,N s)] f/\U w0 [V s #[(oK a sO[0].toNat (O.eo aB)),(oK a sO[j].toNat (O.eo aB))] 627,B a 62 l,V r2 (O.enc x) 621] w) ?_ ?_
       .
         refine gU 17 (e5 [0,1,2,3,4,5,6,7,8,9] (.nc 10 16 (e5 [11,12,13,14,15] (oJ [16,17] .nil)) (.one 10 (e5 [11,12,13,14,15] (.one 17 .nil))))) (by kernel_rfl) (λ_ _ _ h=>h) (λaM M=>?_);replace E:=E.ei M;have d:=E;have i:=eG aM;refine hi 3 d ?_;refine si d rfl (λw E=>nL rfl ((ep.ei E.J)) rfl (by omega) eY) (si d rfl (λw E=>ap rfl (((ep.ei E.J).se K).ax rfl) eY) (si d rfl (λw E=>nL rfl (E.ef (v:=a) (xs:=l) es) rfl (by omega) eY) (hi 4 d ?_)));refine e3.nc rfl rfl rfl rfl ?_ ?_
         .refine Z.call (SV) rfl ?_;rintro _ w ⟨rfl,q⟩;replace i:=i.ei q;refine⟨i.J,?_⟩;have E:=ik d i;refine si d rfl (λw E=>Z.sub rfl rfl ((wrap_i64 (by omega)).trans (by omega:_=(j:Int))) eY) (si d rfl (λw E=>nL rfl ((ep.ei E.J)) rfl (by omega) eY) (si d rfl (λw E=>ap rfl (((ep.ei E.J).se W).ax rfl) eY) (si d rfl (λw E=>nL rfl (E.ef (v:=a) (xs:=l) es) rfl (by omega) eY) (si d rfl (λw E=>jI (c:=#[(oK a sO[0].toNat (O.eo aB)),(oK a sO[j].toNat (O.eo aB))]) (by show po _ [(0,(oK a sO[0].toNat (O.eo aB))),(1,(oK a sO[j].toNat (O.eo aB)))];rw[z,A];(repeat' (first|exact trivial|refine And.intro ?_ ?_))<;>first|rfl|exact O.eT _|(simp;done)) (by show eK (u3 _ [(0,(oK a sO[0].toNat (O.eo aB))),(1,(oK a sO[j].toNat (O.eo aB)))])=_;rw[z,A];rfl) eY) ?_))));refine ol rfl (sV i ?_);intro s w q i;refine⟨i.J,?_⟩;have E:=ik d i;exact nP rfl (IG (c:=#[(oK a sO[0].toNat (O.eo aB)),(oK a sO[j].toNat (O.eo aB))]) (cs:=eK [#[Value.pointer none],#[Value.pointer none]]) E rfl rfl es rfl rfl (by rw[z,A];intro u C;simp at C;rcases C with rfl|rfl<;>rfl) (tA es λw E=>(e3.nil (s4 1 E λw E=>(⟨s,⟨rfl,rfl,rfl,trivial⟩,E.sub aI⟩)))))
         refine sV i ?_;intro s w q i;refine⟨i.J,?_⟩;have E:=ik d i;refine ol rfl (Z.call (SV) rfl ?_);rintro _ w ⟨rfl,q⟩;replace i:=i.ei q;refine⟨i.J,?_⟩;have E:=ik d i;refine si d rfl (λw E=>Z.sub rfl rfl ((wrap_i64 (by omega)).trans (by omega:_=(j:Int))) eY) (si d rfl (λw E=>nL rfl ((ep.ei E.J)) rfl (by omega) eY) (si d rfl (λw E=>ap rfl (((ep.ei E.J).se W).ax rfl) eY) (si d rfl (λw E=>nL rfl (E.ef (v:=a) (xs:=l) es) rfl (by omega) eY) (si d rfl (λw E=>jI (c:=#[(oK a sO[0].toNat (O.eo aB)),(oK a sO[j].toNat (O.eo aB))]) (by show po _ [(0,(oK a sO[0].toNat (O.eo aB))),(1,(oK a sO[j].toNat (O.eo aB)))];rw[z,A];(repeat' (first|exact trivial|refine And.intro ?_ ?_))<;>first|rfl|exact O.eT _|(simp;done)) (by show eK (u3 _ [(0,(oK a sO[0].toNat (O.eo aB))),(1,(oK a sO[j].toNat (O.eo aB)))])=_;rw[z,A];rfl) eY) ?_))));exact nP rfl (IG (c:=#[(oK a sO[0].toNat (O.eo aB)),(oK a sO[j].toNat (O.eo aB))]) (cs:=eK [#[Value.pointer none],#[Value.pointer none]]) E rfl rfl es rfl rfl (by rw[z,A];intro u C;simp at C;rcases C with rfl|rfl<;>rfl) (tA es λw E=>(e3.nil (s4 1 E λw E=>(⟨s,⟨rfl,rfl,rfl,trivial⟩,E.sub aI⟩)))))
       .
         rintro f w ⟨s,D,E⟩;refine io _ D (λg=>?_);clear D;refine eI 1 E λw E=>?_;refine lK (λf w=>∃(F:Int)(m:List aB),oW [(9,N r2),(12,a),(14,.int .i64 F)] f/\U w0 [B a 62 m,V r2 (O.enc x) 621] w/\(F=0->x.tv<=1048576)/\uU l m) ?_ ?_
         .
           refine gU 6 (e5 [1,2,4,5] (oJ [0,3,6,7] .nil)) (by kernel_rfl) (λ_ _ _ h=>h) (λaM M=>?_);replace E:=E.ei M;have d:=E;have i:=eG aM;obtain⟨Ct,Ou⟩:∃u,(tR (⟨x.tag⟩:t7) Oc).getD oQ=u:=⟨_,rfl⟩;refine hi 4 d ?_;refine ol rfl (Z.call (eaA) rfl ?_);rintro _ w ⟨⟨ewU,rfl,kD,Ca⟩,q⟩;replace i:=i.Ln q Ca kD;refine⟨i.J,?_⟩;have E:=ik d i;refine ol rfl (vI (tl:=t7) (tx:=Value) (k:=⟨x.tag⟩) (ti:=l3) (eS:=Oc) (z0:=oQ) (inferInstanceAs (oG prog _ .nilFunc)) (E.map es) rfl rfl Ou ?_);refine⟨i.J,?_⟩;have E:=ik d i;refine hA rfl (bw rfl (eaT X Y et lP (E.pick (e:=B a 62 l) es) Ou) rfl ?_);rintro _ w ⟨F,m,rfl,P,th,E⟩;exact hA rfl (iM rfl (e3.nil (s4 1 E λw E=>(⟨_,m,⟨rfl,rfl,rfl,trivial⟩,((E.pick (e:=V r2 (O.enc x) 621) es).pick (e:=B a 62 m) es).sub aI,P,th⟩))))
         .
           rintro f w ⟨F,m,D,E,P,th⟩;refine io _ D (λg=>?_);clear D;refine eI 6 E<|na 11 3 (λQ nl w E=>?_) (λQ nl w E=>?_)
           .
             exact⟨_,0,_,[],rfl,sN.nil _ _ _,λh=>absurd h (by simpa using Q),by decide,E.J⟩
           .
             refine nV 10 6 (e5 [0,1,2,3,4,5] .nil) [] E λw E=>?_;exact⟨_,_,_,m,rfl,E.ut es,λ_=>th,P (by simpa using Q),E.J⟩
end
section
open Go.Proofs Tryz
variable{S:List eL}{sO oE:List UInt8}{b i j n tt p n1 li:Nat}{c:Instr}{uz uE:Option Nat}{e:Int}{f:tr}{hs qi v eaQ:Value}{l:List aB}{r:List o1}{w w' w0 en:World}{xs:List Instr}{oL:aX}{o3:eu}
structure sz where
 r:aX
 l:eu
 tK:Nat
 tv:Nat
variable{x:sz}
def sz.parts(x:sz):List (Array Value):=[O.enc x.r,#[x.l.v],#[eb x.tK],#[eb x.tv]]
theorem eaZ(x:sz):x.parts.map Array.size=[48,1,1,1]:=by
 simp only[sz.parts,List.map,O.eT];rfl
instance:O sz where
 enc x:=eK x.parts
 eo:=51
 pos:=by omega
 eT x:=by rw[iw,eaZ];rfl
 one x:=rY (all_cons (O.one _) (all_cons (O.one (α:=eu) _) (all_cons (o0 _ _) (all_cons (o0 _ _) rB))))
theorem WK(x:sz):O.enc x=eK x.parts:=rfl
theorem ea0(x:sz):(O.enc x).extract 0 (0+48)=O.enc x.r:=pV [] [#[x.l.v],#[eb x.tK],#[eb x.tv]] _ sH (by rw[O.eT];rfl)
theorem ea1(x:sz):(O.enc x)[49]? =some (eb x.tK):=hp [O.enc x.r,#[x.l.v]] [#[eb x.tv]] _ sH
theorem ea2(x:sz)(v:Nat):iH (O.enc x) 50 #[eb v]=O.enc {x with tv:=v}:=by
 have h:=rG [O.enc x.r,#[x.l.v],#[eb x.tK]] [] (#[eb x.tv]) (#[eb v]) (by first|(rw[O.eT,O.eT];done)|rfl);rw[show(eK [O.enc x.r,#[x.l.v],#[eb x.tK]]).size=50 from sH]at h;exact h
instance:nt x [O.enc x.r,#[x.l.v],#[eb x.tK],#[eb x.tv]]:=⟨rfl⟩
instance(priority:=2000):nt (⟨oL,o3,n1,li⟩:sz) [O.enc oL,#[o3.v],#[eb n1],#[eb li]]:=⟨rfl⟩
instance{v:eu}:st (O.enc x) 48 #[v.v] (O.enc {x with l:=v}):=rq
instance{v:Nat}:st (O.enc x) 49 #[eb v] (O.enc {x with tK:=v}):=rq
instance{v:Nat}:st (O.enc x) 50 #[eb v] (O.enc {x with tv:=v}):=rq
theorem ea3(p:Instr->Bool)(d:ev w0 v xs)(l:∀w,eB w0 w->∀c:Instr,c∈xs->mH prog hs [.agg (O.enc c)] w (λu w'=>u= .bool (p c)/\eB w w')):eJ 304 #[v,hs] w0 (λu w'=>∃n:Int,u= .int .i64 n/\decide (0<=n)=xs.any p/\eB w0 w'):=by
 have:=aS d;refine eH 14 (eG _) func304 ntmps304 results304 rfl λw E=>?_;refine ex.loop (λq f w=>∃k:Nat,oW [(0,v),(1,hs),(7,i6 xs.length),(8,i6 k)] f/\U w0 [] w/\(∀j(h:j<xs.length),j<k->p xs[j]=false)/\k<=xs.length/\q=xs.length-k) (xs.length) ?_ ?_
 .
   exact⟨0,⟨rfl,rfl,rfl,rfl,trivial⟩,E,λj _ h=>absurd h (by omega),Nat.zero_le _,rfl⟩
 .
   rintro q f w ⟨k,e,E,i,y,th⟩;refine io _ e (λg=>?_);clear e;refine eI 6 E<|om 0 12 (λm w E=>?_) (λm w E=>?_)
   .
     have a:k<xs.length:=by omega
     have o:=d.le;simp only[maxLen]at o;refine eI 16 E ⟨⟨by omega⟩,λ_ w E=>?_⟩;have:=lC a;refine ew 1 E λw E=>?_;refine ea (bw rfl (l _ E.J xs[k] (List.getElem_mem a)) rfl ?_);rintro _ w ⟨rfl,r⟩;replace E:=E.ei r;refine ew 2 E<|na 13 8 (λb s w E=>?_) (λb s=>⟨iA,λw E=>?_⟩)
     .
       exact⟨_,rfl,by rw[List.any_eq_true.2 ⟨xs[k],List.getElem_mem a,b⟩];exact decide_eq_true (by omega),E.J⟩
     .
       exact⟨xs.length-(k+1),by omega,k+1,⟨rfl,rfl,rfl,congrArg (Value.int .i64) (by omega),trivial⟩,E,λj G Y=>(by rcases Nat.lt_or_ge j k with h|h;exact i j G h;obtain rfl:j=k:=(by omega);exact b),by omega,rfl⟩
   .
     refine⟨_,rfl,?_,E.J⟩;rw[List.any_eq_false.2 (λc t=>by obtain⟨j,x,rfl⟩:=List.getElem_of_mem t;rw[i j x (by omega)];decide)];rfl
theorem ea4(p:Instr->Bool)(a:ev w0 v xs)(b:∀w,eB w0 w->∀c:Instr,c∈xs->mH prog hs [.agg (O.enc c)] w (λu w'=>u= .bool (p c)/\eB w w')):tN 233 #[v,hs] w0 (.bool (xs.any p)):=by
 refine eH 9 (eG _) func233 ntmps233 results233 rfl λw E=>?_;refine ej 6 E (ea3 p (a.ei E.J) (λw h c=>b w (E.J.trans h) c)) λn d w E=>?_;exact⟨congrArg Value.bool d,E.J⟩
theorem ea5(a:ar w0 (.pointer (some ⟨b,41,none⟩)) #[qi])(d:ev w0 qi r):tN 287 #[.agg (O.enc c),N b] w0 (.bool (decide ((r.length:Int)<=(c.program.toNat:Int)))):=by
 refine eH 10 (eG _) func287 ntmps287 results287 rfl λaa w E=>?_;refine ea (Z.conv rfl (wrap_i64 (by have:=wj c.program;omega)) ?_);have:=iu a;have:=aS d;refine ew 9 E λw E=>?_;exact⟨rfl,E.J⟩
theorem ea6:tN 368 #[eaQ,.agg (O.enc c)] w0 .nilIface:=by
 refine eH 13 (eG _) func368 ntmps368 results368 rfl λtZ w E=>?_;exact⟨rfl,E.J⟩
def ET(e:Int):Value:=if e=0 then .nilIface else .iface 34 (.int .i64 e)
theorem ea7:ET 0= .nilIface:=rfl
theorem WX(h:e≠0):ET e= .iface 34 (.int .i64 e):=if_neg h
theorem ea8(q:U en (V p (O.enc x) 502::B x.l.v 62 l::S) w0)(s:ev en x.r.s5.v r)(ep:ev en c.cG.v sO)(hd:ev en c.data.v oE)(t:l.length<=100000)(j:∀y∈l,dq y):eJ 369 #[N p,.agg (O.enc c)] w0 (λu w'=>∃(e:Int)(k:eu)(m:List aB)(n:Nat),u=ET e/\uU l m/\n<=x.tv+1048576/\U en (V p (O.enc ({x with l:=k,tv:=n}:sz)) 502::B k.v 62 m::S) w'):=by
 refine eH 7 q func369 ntmps369 results369 rfl λtZ w E=>?_;refine gU 18 (e5 [0,1,2,3,4,5,6,7,8,9] (.one 10 (e5 [11,12,13,14,15,16,17] .nil))) (by kernel_rfl) (λ_ _ _ h=>h) (λaM z=>?_);replace E:=E.ei z;have b:=E;have a:=eG aM;refine hi 10 b ?_;refine ol rfl (Z.call (eaO (E.ef (v:=x.l.v) (xs:=l) es) (s.ei (b.J.trans a.J)) (ep.ei (b.J.trans a.J)) (hd.ei (b.J.trans a.J)) t j) rfl ?_);rintro _ w ⟨d,n,e,m,rfl,o,th,D,A⟩;replace a:=a.pD A o.1 o.2;refine⟨a.J,?_⟩;have E:=ik b a;refine hi 7 b ?_;refine e3.nil (s4 8 E<|na 0 0 (λf C w E=>?_) (λf C w E=>?_))
 .
   have g:e≠0:=by simpa using f
   refine eI 3 E λw E=>?_;exact ea (p9 rfl (ew 6 E λw E=>(⟨_,x.l,l,x.tv,(WX g).symm,⟨rfl,j⟩,by omega,((E.pick (e:=B x.l.v 62 l) es).pick (e:=V p (O.enc x) 502) es).sub aI⟩)))
 .
   have g:e=0:=by simpa using f
   obtain⟨i,rfl⟩:=(E.ef (v:=d) (xs:=m) es).u9;refine eI 12 E λw E=>?_;exact ea (Z.add rfl rfl ((show IntKind.u64.wrap _=((((x.tv+n)%18446744073709551616):Nat):Int)from by rw[IntKind.wrap_u64];omega)) (ew 15 E λw E=>(⟨0,i,m,((x.tv+n)%18446744073709551616),rfl,th g,by omega,((E.pick (e:=B i.v 62 m) es).pick (e:=V p (O.enc ({x with l:=i,tv:=((x.tv+n)%18446744073709551616)}:sz)) 502) es).sub aI⟩)))
theorem Oy{P:Program}{I:World->Prop}{ops:Array Oper}{Q:Exit->tr->World->Prop}{dH fD:sU}{l m:Op}{o p:TypeId}{q r:String}{s t:Array Edge}
 (ey:ops[i]? =some ⟨uz,l,o,q,s,none⟩) (B:ops[j]? =some ⟨uE,m,p,r,t,none⟩) (e:uz.all (λx=>Nat.blt x n)=true) (g:uE.all (λx=>Nat.blt x n)=true)
 (G:Z P f ⟨uz,l,o,q,s,none⟩ w (λv w'=>I w'/\e3 P n ops tt I Q dH (dB f uz v) w'))
 (Y:Z P f ⟨uE,m,p,r,t,none⟩ w (λv w'=>I w'/\e3 P n ops tt I Q fD (dB f uE v) w')):e3 P n ops tt I Q (.nc i j dH fD) f w:=by
 have e:∀x,uz=some x->x<n:=by intro x b;subst b;simpa using e
 have g:∀x,uE=some x->x<n:=by intro x b;subst b;simpa using g
 unfold e3 at G Y⊢;intro listed a u y hinv ep z;simp only[dk,Bool.and_eq_true,decide_eq_true_eq]at y;obtain⟨⟨⟨⟨⟨C,D⟩,d⟩,E⟩,fC⟩,uT⟩:=y;have A:gH .any ops tt listed:=(hinv.resolve_right (λh=>by cases h)).1;have F:i∈Region.ready .any ops listed:=by rw[d];simp
 have H:j∈Region.ready .any ops listed:=by rw[d];simp
 refine⟨λem=>(by rw[d]at em;cases em),λx b=>?_⟩;rw[d]at b;rcases List.mem_cons.1 b with rfl|b
 .unfold wpOp;simp only[ey,Region.wanted,if_true];exact .inl (pL ep G λv w'⟨c,k⟩=>⟨λ_ _=>c,k _ _ u fC (.inl ⟨A.set F C,c⟩) (ep.put (dst:=uz) e v) z⟩)
 obtain rfl:x=j:=by simpa using b
 unfold wpOp;simp only[B,Region.wanted,if_true];refine .inl (pL ep Y λv w'⟨c,k⟩=>⟨λ_ _=>c,?_⟩);show wv P .any ops tt I _ (lX dH) _ _ _;rw[E];exact k _ _ u uT (.inl ⟨A.set H D,c⟩) (ep.put (dst:=uE) g v) z
theorem eoe:dx≠hZ:=by decide+kernel
def g4:Value:=.func (.func 368) #[] #[]
def g5:Value:=.func (.func 369) #[] #[]
def qs(k:av):Option Value:=if k=dx then some g4 else if k=hZ then some g5 else none
theorem Ob(k:av):tR k (oH hZ g5 (oH dx g4 []))=qs k:=by
 rw[mI,mI];unfold qs tR;split
 .next h=>subst h;rw[if_neg (λe=>eoe e.symm)]
 rfl
theorem Cd(k:av):tR k (oH dx g4 (oH hZ g5 []))=qs k:=by
 rw[mI,mI];rfl
theorem WQ:tN 167 #[] w0 (.agg (O.enc dx)):=by
 refine eH 7 (eG _) func167 ntmps167 results167 rfl λb w E=>?_;exact ea (yg (k:=dx) (by first|rfl|(simp only[hZ,sI,dx,sM,nn];rfl)) (by intro p a;first|(exfalso;simp at a;done)|(simp only[List.map_cons,List.map_nil,List.mem_cons,List.not_mem_nil,or_false]at a;rcases a with rfl|rfl|rfl|rfl<;>exact⟨by simp,rfl⟩)) (ew 5 E λw E=>(⟨rfl,E.J⟩)))
theorem eot:eJ 332 #[] w0 (λu w'=>∃eS:List (av×Value),(∀k,tR k eS=qs k)/\La w0 w' u l3 eS/\eB w0 w'):=by
 refine eH 6 (eG _) func332 ntmps332 results332 rfl λw E=>?_;refine gU 7 (.nc 0 1 (.one 1 (.nc 2 3 (oJ [3,4] (e5 [5,6] .nil)) (.nc 2 4 (.one 4 (e5 [5,6] .nil)) (.one 2 (e5 [5,6] .nil))))) (.nc 0 3 (.nc 2 3 (oJ [3,4] (e5 [5,6] .nil)) (.nc 2 4 (.one 4 (e5 [5,6] .nil)) (.one 2 (e5 [5,6] .nil)))) (.one 0 (.nc 2 4 (.one 4 (e5 [5,6] .nil)) (.one 2 (e5 [5,6] .nil)))))) (by kernel_rfl) (λ_ _ _ h=>h) (λaM d=>?_);replace E:=E.ei d;have b:=E;have a:=eG aM;refine e3.nc rfl rfl rfl rfl ?_ ?_
 .refine Z.makeMap av (l3:Value->Value) a ?_;intro tD w c a;refine⟨a.J,?_⟩;have E:=ik b a;refine ol rfl (Z.call (WQ) rfl ?_);rintro _ w ⟨rfl,c⟩;replace a:=a.ei c;refine⟨a.J,?_⟩;have E:=ik b a;refine Oy rfl rfl rfl rfl ?_ ?_
  .refine Z.insert (tl:=av) (tx:=Value) (k:=dx) (v:=g4) (ti:=l3) a es rfl rfl rfl ?_;intro w a;replace a:=a _ es;refine⟨a.J,?_⟩;simp only[dB];have E:=ik b a;refine ol rfl (Z.call (bY) rfl ?_);rintro _ w ⟨rfl,c⟩;replace a:=a.ei c;refine⟨a.J,?_⟩;have E:=ik b a;refine n5 rfl rfl (Z.insert (tl:=av) (tx:=Value) (k:=hZ) (v:=g5) (ti:=l3) a es rfl rfl rfl ?_);intro w a;replace a:=a _ es;refine⟨a.J,?_⟩;have E:=ik b a;refine hi 2 b ?_;exact e3.nil (s4 3 E λw E=>(⟨_,Ob,E.vO es,E.J⟩))
  refine Z.call (bY) rfl ?_;rintro _ w ⟨rfl,c⟩;replace a:=a.ei c;refine⟨a.J,?_⟩;simp only[dB];have E:=ik b a;refine Oy rfl rfl rfl rfl ?_ ?_
  .refine Z.insert (tl:=av) (tx:=Value) (k:=dx) (v:=g4) (ti:=l3) a es rfl rfl rfl ?_;intro w a;replace a:=a _ es;refine⟨a.J,?_⟩;simp only[dB];have E:=ik b a;refine n5 rfl rfl (Z.insert (tl:=av) (tx:=Value) (k:=hZ) (v:=g5) (ti:=l3) a es rfl rfl rfl ?_);intro w a;replace a:=a _ es;refine⟨a.J,?_⟩;have E:=ik b a;refine hi 2 b ?_;exact e3.nil (s4 3 E λw E=>(⟨_,Ob,E.vO es,E.J⟩))
  refine Z.insert (tl:=av) (tx:=Value) (k:=hZ) (v:=g5) (ti:=l3) a es rfl rfl rfl ?_;intro w a;replace a:=a _ es;refine⟨a.J,?_⟩;simp only[dB];have E:=ik b a;refine n5 rfl rfl (Z.insert (tl:=av) (tx:=Value) (k:=dx) (v:=g4) (ti:=l3) a es rfl rfl rfl ?_);intro w a;replace a:=a _ es;refine⟨a.J,?_⟩;have E:=ik b a;refine hi 2 b ?_;exact e3.nil (s4 3 E λw E=>(⟨_,Cd,E.vO es,E.J⟩))
 refine Z.call (WQ) rfl ?_;rintro _ w ⟨rfl,c⟩;replace a:=a.ei c;refine⟨a.J,?_⟩;have E:=ik b a;refine e3.nc rfl rfl rfl rfl ?_ ?_
 .refine Z.makeMap av (l3:Value->Value) a ?_;intro tD w c a;refine⟨a.J,?_⟩;have E:=ik b a;refine Oy rfl rfl rfl rfl ?_ ?_
  .refine Z.insert (tl:=av) (tx:=Value) (k:=dx) (v:=g4) (ti:=l3) a es rfl rfl rfl ?_;intro w a;replace a:=a _ es;refine⟨a.J,?_⟩;simp only[dB];have E:=ik b a;refine ol rfl (Z.call (bY) rfl ?_);rintro _ w ⟨rfl,c⟩;replace a:=a.ei c;refine⟨a.J,?_⟩;have E:=ik b a;refine n5 rfl rfl (Z.insert (tl:=av) (tx:=Value) (k:=hZ) (v:=g5) (ti:=l3) a es rfl rfl rfl ?_);intro w a;replace a:=a _ es;refine⟨a.J,?_⟩;have E:=ik b a;refine hi 2 b ?_;exact e3.nil (s4 3 E λw E=>(⟨_,Ob,E.vO es,E.J⟩))
  refine Z.call (bY) rfl ?_;rintro _ w ⟨rfl,c⟩;replace a:=a.ei c;refine⟨a.J,?_⟩;simp only[dB];have E:=ik b a;refine Oy rfl rfl rfl rfl ?_ ?_
  .refine Z.insert (tl:=av) (tx:=Value) (k:=dx) (v:=g4) (ti:=l3) a es rfl rfl rfl ?_;intro w a;replace a:=a _ es;refine⟨a.J,?_⟩;simp only[dB];have E:=ik b a;refine n5 rfl rfl (Z.insert (tl:=av) (tx:=Value) (k:=hZ) (v:=g5) (ti:=l3) a es rfl rfl rfl ?_);intro w a;replace a:=a _ es;refine⟨a.J,?_⟩;have E:=ik b a;refine hi 2 b ?_;exact e3.nil (s4 3 E λw E=>(⟨_,Ob,E.vO es,E.J⟩))
  refine Z.insert (tl:=av) (tx:=Value) (k:=hZ) (v:=g5) (ti:=l3) a es rfl rfl rfl ?_;intro w a;replace a:=a _ es;refine⟨a.J,?_⟩;simp only[dB];have E:=ik b a;refine n5 rfl rfl (Z.insert (tl:=av) (tx:=Value) (k:=dx) (v:=g4) (ti:=l3) a es rfl rfl rfl ?_);intro w a;replace a:=a _ es;refine⟨a.J,?_⟩;have E:=ik b a;refine hi 2 b ?_;exact e3.nil (s4 3 E λw E=>(⟨_,Cd,E.vO es,E.J⟩))
 refine Z.call (bY) rfl ?_;rintro _ w ⟨rfl,c⟩;replace a:=a.ei c;refine⟨a.J,?_⟩;have E:=ik b a;refine ol rfl (Z.makeMap av (l3:Value->Value) a ?_);intro tD w c a;refine⟨a.J,?_⟩;have E:=ik b a;refine Oy rfl rfl rfl rfl ?_ ?_
 .refine Z.insert (tl:=av) (tx:=Value) (k:=dx) (v:=g4) (ti:=l3) a es rfl rfl rfl ?_;intro w a;replace a:=a _ es;refine⟨a.J,?_⟩;simp only[dB];have E:=ik b a;refine n5 rfl rfl (Z.insert (tl:=av) (tx:=Value) (k:=hZ) (v:=g5) (ti:=l3) a es rfl rfl rfl ?_);intro w a;replace a:=a _ es;refine⟨a.J,?_⟩;have E:=ik b a;refine hi 2 b ?_;exact e3.nil (s4 3 E λw E=>(⟨_,Ob,E.vO es,E.J⟩))
 refine Z.insert (tl:=av) (tx:=Value) (k:=hZ) (v:=g5) (ti:=l3) a es rfl rfl rfl ?_;intro w a;replace a:=a _ es;refine⟨a.J,?_⟩;simp only[dB];have E:=ik b a;refine n5 rfl rfl (Z.insert (tl:=av) (tx:=Value) (k:=dx) (v:=g4) (ti:=l3) a es rfl rfl rfl ?_);intro w a;replace a:=a _ es;refine⟨a.J,?_⟩;have E:=ik b a;refine hi 2 b ?_;exact e3.nil (s4 3 E λw E=>(⟨_,Cd,E.vO es,E.J⟩))
section
open Go.RowKit Go.Extern.Stop Go.Stop Go.Extern
theorem eoa(t:Value)(w:World):Calls prog 290 #[.nilIface,t] w λe w'=>e= .returned (.bool false)/\w'=w:=by
 go_enter func290,ntmps290
 go_wp2
 go_ret
 exact⟨rfl,rfl⟩
theorem eon(t:Addr)(w:World):(ReflectliteValue.unpack (.iface 505 (.pointer (some t)))).run prog w= .ok (.agg #[.pointer (some ⟨8,505,none⟩),.pointer (some ⟨w.heap.size,0,none⟩),.int .u64 150]) (w.alloc (.cells #[.pointer (some t)] 505)):=by kernel_rfl
theorem eos(a:Addr)(w:World):(ReflectliteValue.methodAny (ReflectliteValue.valueError "reflectlite.Value.Type" 0) (λt _ _ _=>ReflectliteType.toType t) #[.agg #[.pointer (some ⟨8,505,none⟩),.pointer (some a),.int .u64 150]]).run prog w= .ok (.iface 332 (.agg #[.pointer (some ⟨8,505,none⟩)])) w:=by kernel_rfl
theorem eor(h:Value)(w:World):(Go.method 773 332 (.agg #[h]) "Kind").run prog w= .ok (424,h) w:=by kernel_rfl
theorem eoh(w:World):((ReflectliteType.abiMethod λt=>(λa:Nat=>Value.int IntKind.u8 (a:Int))<$>Rtype.kind t) #[.pointer (some ⟨8,505,none⟩)]).run prog w= .ok (.int .u8 22) w:=by kernel_rfl
theorem eol(w:World):((ReflectliteType.abiMethod λt=>(λa:Nat=>Value.int IntKind.u8 (a:Int))<$>Rtype.kind t) #[.pointer (some ⟨8,34,none⟩)]).run prog w= .ok (.int .u8 2) w:=by kernel_rfl
theorem W3(z:Sem Value)(f:TypeId->Addr->Nat->Nat->Sem Value)(v:Value):
 ReflectliteValue.method z f #[v]=(do match<-ReflectliteValue.parts v with|none=>z|some (t,a,tT)=>f t a tT (tT%32)):=rfl
theorem W4(a:Addr)(w:World):(ReflectliteValue.parts (.agg #[.pointer (some ⟨8,505,none⟩),.pointer (some a),.int .u64 150])).run prog w= .ok (some (505,a,150)) w:=by kernel_rfl
theorem eod(a p:Addr)(W:World)(ep:W.cell? a=some (.pointer (some p))):
 (ReflectliteValue.method (ReflectliteValue.valueError "reflectlite.Value.IsNil" 0) ReflectliteValue.isNil #[.agg #[.pointer (some ⟨8,505,none⟩),.pointer (some a),.int .u64 150]]).run prog W= .ok (.bool false) W:=by
 rw[W3];simp only[Sem.run_bind,W4,Result.andThen];simp[ReflectliteValue.isNil,loadVar,isAgg,underlying,underlying505,ep,Result.andThen]
theorem eoc(h:Value)(w:World):(Go.method 773 332 (.agg #[h]) "Elem").run prog w= .ok (436,.agg #[h]) w:=by kernel_rfl
theorem eou(h:Value)(w:World):(Go.method 773 332 (.agg #[h]) "Implements").run prog w= .ok (437,.agg #[h]) w:=by kernel_rfl
theorem eom(h:Value)(w:World):(Go.method 773 332 (.agg #[h]) "AssignableTo").run prog w= .ok (434,.agg #[h]) w:=by kernel_rfl
theorem eof(w:World):(ReflectliteType.method ReflectliteType.elem #[.agg #[.pointer (some ⟨8,505,none⟩)]]).run prog w= .ok (.iface 332 (.agg #[.pointer (some ⟨8,34,none⟩)])) w:=by kernel_rfl
theorem eop(w:World):(ReflectliteType.relation "Implements" ReflectliteType.implements_ #[.agg #[.pointer (some ⟨8,34,none⟩)],.iface 332 (.agg #[.pointer (some ⟨8,214,none⟩)])]).run prog w= .ok (.bool true) w:=by kernel_rfl
theorem eog(v:Value)(w:World):(ReflectliteType.typeOf #[.iface 34 v]).run prog w= .ok (.iface 332 (.agg #[.pointer (some ⟨8,34,none⟩)])) w:=by kernel_rfl
theorem eow(w:World):(ReflectliteType.relation "AssignableTo" ReflectliteType.assignableTo #[.agg #[.pointer (some ⟨8,34,none⟩)],.iface 332 (.agg #[.pointer (some ⟨8,34,none⟩)])]).run prog w= .ok (.bool true) w:=by kernel_rfl
theorem eoy(n:Int)(w:World):(ReflectliteValue.unpack (.iface 34 (.int .i64 n))).run prog w= .ok (.agg #[.pointer (some ⟨8,34,none⟩),.pointer (some ⟨w.heap.size,0,none⟩),.int .u64 130]) (w.alloc (.cells #[.int .i64 n] 34)):=by kernel_rfl
theorem eob(w:World):(Rtype.elem? 505).run prog w= .ok (some 34) w:=by kernel_rfl
theorem eov(p:Addr)(w:World):(ReflectliteValue.mk 34 p ReflectliteValue.flagAddr).run prog w= .ok (.agg #[.pointer (some ⟨8,34,none⟩),.pointer (some p),.int .u64 386]) w:=by kernel_rfl
theorem eok(a p:Addr)(W:World)(ep:W.cell? a=some (.pointer (some p))):
 (ReflectliteValue.method (ReflectliteValue.valueError "reflectlite.Value.Elem" 0) ReflectliteValue.elem #[.agg #[.pointer (some ⟨8,505,none⟩),.pointer (some a),.int .u64 150]]).run prog W= .ok (.agg #[.pointer (some ⟨8,34,none⟩),.pointer (some p),.int .u64 386]) W:=by
 rw[W3];simp only[Sem.run_bind,W4,Result.andThen];simp[ReflectliteValue.elem,loadVar,isAgg,underlying,underlying505,ep,Result.andThen,eob,eov]
theorem eox(v x:Value):ReflectliteValue.set #[v,x]=(do
 let(some (dst,a,tT),some (src,b,_)):=(<-ReflectliteValue.parts v,<-ReflectliteValue.parts x)
  |unsupported (.noEntry "extern/(internal/reflectlite.Value).Set.zeroValue")
 if tT/ReflectliteValue.flagAddr%2==0 then unsupported (.noEntry "extern/(internal/reflectlite.Value).Set.unaddressable")
 let val<-loadVar src b
 if<-Rtype.directlyAssignable dst src then storeVar dst a val
 else if<-Rtype.implements dst src then
  if(<-Rtype.kind src)==20 then
   match val with
   | .nilIface=>unsupported (.noEntry "extern/reflectlite: a nil value of one interface type handed on as a value of another")
   |_=>storeVar dst a val
  else storeVar dst a (.iface src val)
 else panicString ("reflectlite.Set: value of type "++(<-Rtype.spelt src)++ " is not assignable to type "++(<-Rtype.spelt dst))
 pure (.tuple #[])):=rfl
theorem eoj(a:Addr)(w:World):(ReflectliteValue.parts (.agg #[.pointer (some ⟨8,34,none⟩),.pointer (some a),.int .u64 386])).run prog w= .ok (some (34,a,386)) w:=by kernel_rfl
theorem eoq(a:Addr)(w:World):(ReflectliteValue.parts (.agg #[.pointer (some ⟨8,34,none⟩),.pointer (some a),.int .u64 130])).run prog w= .ok (some (34,a,130)) w:=by kernel_rfl
theorem eoz(w:World):(Rtype.directlyAssignable 34 34).run prog w= .ok true w:=by kernel_rfl
theorem eoE(aH:Nat)(b:Addr)(n:Int)(cs:Array Value)(ek:TypeId)(W:World)(c:W.cell? b=some (.int .i64 n))(d:W.heap[aH]? =some (.cells cs ek (0,0)))(f:1<=cs.size):
 (ReflectliteValue.set #[.agg #[.pointer (some ⟨8,34,none⟩),N aH,.int .u64 386],.agg #[.pointer (some ⟨8,34,none⟩),.pointer (some b),.int .u64 130]]).run prog W
  = .ok (.tuple #[]) (W.setRow aH (cs.toList.take 0++(Value.int .i64 n).cells.toList++cs.toList.drop (0+(Value.int .i64 n).cells.toList.length)).toArray):=by
 have e:=IP (P:=prog) (T:=34) (eo:=1) inferInstance d 0 (.int .i64 n) rfl (by omega) (by intro u a;simp[Value.cells]at a;subst a;rfl);rw[eox];simp only[Sem.run_bind,eoj,eoq,Result.andThen];simp[ReflectliteValue.flagAddr,loadVar,isAgg,underlying,underlying34,c,Result.andThen,eoz];simp only[Sem.run_bind,e,Result.andThen];rfl
end
section
open Go.RowKit Go.Extern.Stop Go.Stop Go.Extern
abbrev Cc(aH:Nat)(w:World):World:=w.alloc (.cells #[N aH] 505)
abbrev Ov(aH:Nat)(w:World):World:=(Cc aH w).alloc (.cells #[.pointer (some ⟨8,505,none⟩),.pointer (some ⟨w.heap.size,0,none⟩),.int .u64 150] 562)
abbrev S4(aH:Nat)(w:World):World:=(Ov aH w).alloc (.cells #[.pointer (some ⟨8,505,none⟩),.pointer (some ⟨w.heap.size,0,none⟩),.int .u64 150] 562)
abbrev S5(n:Int)(aH:Nat)(w:World):World:=(S4 aH w).alloc (.cells #[.int .i64 n] 34)
def ErrLaid(w:World):Prop:=w.cell? ⟨6,0,none⟩=some (.iface 332 (.agg #[.pointer (some ⟨8,214,none⟩)]))
theorem ErrLaid.ei{w w':World}(a:eB w w')(h:ErrLaid w):ErrLaid w':=a.cell h
theorem eoT(n:Int)(aH:Nat)(cs:Array Value)(ek:TypeId)(w:World)(a:ErrLaid w)(b:w.heap[aH]? =some (.cells cs ek (0,0)))(c:1<=cs.size):
 Calls prog 290 #[.iface 34 (.int .i64 n),.iface 505 (N aH)] w λeC w'=>eC= .returned (.bool true)/\w'=(S5 n aH w).setRow aH (cs.toList.take 0++(Value.int .i64 n).cells.toList++cs.toList.drop (0+(Value.int .i64 n).cells.toList.length)).toArray:=by
 unfold ErrLaid at a;have aW:= @run_callFunc_extern prog 333 _ (λargs=>ReflectliteValue.unpack (args.getD 0 (.tuple #[]))) func333 (by kernel_rfl) (by kernel_rfl) (by kernel_rfl) (by kernel_rfl);have nf:= @run_callFunc_extern prog 334 _ (ReflectliteValue.methodAny (ReflectliteValue.valueError "reflectlite.Value.Type" 0) (λt _ _ _=>ReflectliteType.toType t)) func334 (by kernel_rfl) (by kernel_rfl) (by kernel_rfl) (by kernel_rfl);have nE:= @run_callFunc_extern prog 335 _ (ReflectliteValue.method (ReflectliteValue.valueError "reflectlite.Value.IsNil" 0) ReflectliteValue.isNil) func335 (by kernel_rfl) (by kernel_rfl) (by kernel_rfl) (by kernel_rfl);have d:= @run_callFunc_extern prog 424 _ (ReflectliteType.abiMethod λt=>do pure (.int .u8 (<-Rtype.kind t))) func424 (by kernel_rfl) (by kernel_rfl) (by kernel_rfl) (by kernel_rfl);have e:= @run_callFunc_extern prog 436 _ (ReflectliteType.method ReflectliteType.elem) func436 (by kernel_rfl) (by kernel_rfl) (by kernel_rfl) (by kernel_rfl);have f:= @run_callFunc_extern prog 437 _ (ReflectliteType.relation "Implements" ReflectliteType.implements_) func437 (by kernel_rfl) (by kernel_rfl) (by kernel_rfl) (by kernel_rfl);have hR:= @run_callFunc_extern prog 83 _ ReflectliteType.typeOf func83 (by kernel_rfl) (by kernel_rfl) (by kernel_rfl) (by kernel_rfl);have g:= @run_callFunc_extern prog 434 _ (ReflectliteType.relation "AssignableTo" ReflectliteType.assignableTo) func434 (by kernel_rfl) (by kernel_rfl) (by kernel_rfl) (by kernel_rfl);have dN:= @run_callFunc_extern prog 371 _ (ReflectliteValue.method (ReflectliteValue.valueError "reflectlite.Value.Elem" 0) ReflectliteValue.elem) func371 (by kernel_rfl) (by kernel_rfl) (by kernel_rfl) (by kernel_rfl);have u1:= @run_callFunc_extern prog 372 _ ReflectliteValue.set func372 (by kernel_rfl) (by kernel_rfl) (by kernel_rfl) (by kernel_rfl);have h:=eog;have i:=eom;have a25:=eow;have v25:=eoy;have f6:=eon;have f7:=eos;have j:=eor;have Zg:=eoc;have k:=eou;have l:=eoh;have m:=eol;have o:=eof;have i25:=eop;have ce:=eod ⟨w.heap.size,0,none⟩ ⟨aH,0,none⟩ (Ov aH w) (by simp);have p:6<w.heap.size:=World.block_lt_of_cell? w ⟨6,0,none⟩ a;have r:(Ov aH w).cell? ⟨6,0,none⟩=some (.iface 332 (.agg #[.pointer (some ⟨8,214,none⟩)])):=by
  rw[World.cell?_alloc_lt _ _ ⟨6,0,none⟩ (by first|(simp;done)|(simp;omega)),World.cell?_alloc_lt _ _ ⟨6,0,none⟩ p];exact a
 have s:aH<w.heap.size:=(Array.getElem?_eq_some_iff.1 b).1;have q:(S5 n aH w).heap[aH]? =some (.cells cs ek (0,0)):=by
  have iZ:=eB.alloc w (.cells #[N aH] 505);have aa:=eB.alloc (Cc aH w) (.cells #[.pointer (some ⟨8,505,none⟩),.pointer (some ⟨w.heap.size,0,none⟩),.int .u64 150] 562);have tZ:=eB.alloc (Ov aH w) (.cells #[.pointer (some ⟨8,505,none⟩),.pointer (some ⟨w.heap.size,0,none⟩),.int .u64 150] 562);have aF:=eB.alloc (S4 aH w) (.cells #[.int .i64 n] 34);exact(((iZ.trans aa).trans tZ).trans aF).get b
 have el:=eok ⟨w.heap.size,0,none⟩ ⟨aH,0,none⟩ (S4 aH w) (by rw[World.cell?_alloc_lt _ _ ⟨w.heap.size,0,none⟩ (by simp;omega)];simp);have eQ:=eoE aH ⟨w.heap.size+1+1+1,0,none⟩ n cs ek (S5 n aH w) (by rw[World.cell?_alloc_at _ _ _ _ (by simp)];rfl) q c
 go_enter func290,ntmps290
 go_wp2
 refine wp_loop_rounds 1 ?_;rw[rounds_succ]
 go_wp2
 go_ret
 refine⟨rfl,?_⟩;simp[Value.cells]
end
end
end Go.Fer
