import Derived.Test.YtncdhadaifhleaaGreatDoorF7
set_option linter.all false
set_option synthInstance.maxSize 100000
set_option synthInstance.maxHeartbeats 400000
set_option maxHeartbeats 8000000
set_option maxRecDepth 100000
namespace Go.Fer
open Go Go.RowKit
section
open Go.Proofs Tryz
variable{S:List eH}{a b i n p t oU o5 n4:Nat}{sS bs ox:List UInt8}{c:UInt8}{hi l0 qo u v fu Ew xH:Value}{ad:Instr}{l m out xs:List aH}{r:List o6}{s:ec}{w w' w0 ea:World}{y:aH}{lo:Vector UInt8 32}
structure mC where
 tag:Nat
 iO:Nat
 tq:Nat
 dG:Vector UInt8 32
 deriving DecidableEq
variable{x:mC}
def mC.parts(x:mC):List (Array Value):=[#[ef x.tag],#[ef x.iO],#[ef x.tq],O.enc x.dG]
theorem etY(x:mC):x.parts.map Array.size=[1,1,1,32]:=by
 simp only[mC.parts,List.map,O.ez];rfl
instance:O mC where
 enc x:=eK x.parts
 eo:=35
 pos:=by omega
 ez x:=by rw[iw,etY];rfl
 one x:=rD (all_cons (oZ _ _) (all_cons (oZ _ _) (all_cons (oZ _ _) (all_cons (O.one _) rC))))
theorem etB(x:mC):O.enc x=eK x.parts:=rfl
theorem G7(x:mC):(O.enc x)[0]? =some (ef x.tag):=hu [] [#[ef x.iO],#[ef x.tq],O.enc x.dG] _ sU
theorem etV(x:mC):(O.enc x)[1]? =some (ef x.iO):=hu [#[ef x.tag]] [#[ef x.tq],O.enc x.dG] _ sU
theorem etK(x:mC)(v:Vector UInt8 32):iI (O.enc x) 3 (O.enc v)=O.enc {x with dG:=v}:=by
 have h:=rL [#[ef x.tag],#[ef x.iO],#[ef x.tq]] [] (O.enc x.dG) (O.enc v) (by first|(rw[O.ez,O.ez];done)|rfl);rw[show(eK [#[ef x.tag],#[ef x.iO],#[ef x.tq]]).size=3 from sU]at h;exact h
instance:nt x [#[ef x.tag],#[ef x.iO],#[ef x.tq],O.enc x.dG]:=⟨rfl⟩
instance(priority:=2000):nt (⟨oU,o5,n4,lo⟩:mC) [#[ef oU],#[ef o5],#[ef n4],O.enc lo]:=⟨rfl⟩
instance{v:Nat}:st (O.enc x) 0 #[ef v] (O.enc {x with tag:=v}):=rb
instance{v:Nat}:st (O.enc x) 1 #[ef v] (O.enc {x with iO:=v}):=rb
instance{v:Nat}:st (O.enc x) 2 #[ef v] (O.enc {x with tq:=v}):=rb
structure mr where
 b:ec
def mr.parts(x:mr):List (Array Value):=[#[x.b.v]]
theorem etX(x:mr):x.parts.map Array.size=[1]:=by
 simp only[mr.parts,List.map,O.ez];rfl
instance:O mr where
 enc x:=eK x.parts
 eo:=1
 pos:=by omega
 ez x:=by rw[iw,etX];rfl
 one x:=rD (all_cons (O.one (α:=ec) _) rC)
theorem etJ(x:mr)(v:ec):iI (O.enc x) 0 #[v.v]=O.enc {x with b:=v}:=by
 have h:=rL [] [] (#[x.b.v]) (#[v.v]) (by first|(rw[O.ez,O.ez];done)|rfl);rw[show(eK []).size=0 from sU]at h;exact h
instance(priority:=2000){oU:ec}:nt (⟨oU⟩:mr) [#[oU.v]]:=⟨rfl⟩
def uE(t:Nat):Nat:=if t=0∨t=2 then 2 else 1
def bP:List (aa×Int):=[(⟨0⟩,48),(⟨1⟩,32),(⟨2⟩,8),(⟨8⟩,8)]
def DT(x:mC):Prop:=x.iO<18446744073709551616/\((x.tag=0∨x.tag=8)/\x.tq<18446744073709551616∨(x.tag=1∨x.tag=2)/\x.tq=0)
theorem etQ(h:(tL (⟨t⟩:aa) bP).isSome=true):(t=0/\(tL (⟨t⟩:aa) bP).getD 0=48)∨(t=1/\(tL (⟨t⟩:aa) bP).getD 0=32)∨(t=2/\(tL (⟨t⟩:aa) bP).getD 0=8)∨(t=8/\(tL (⟨t⟩:aa) bP).getD 0=8):=by
 by_cases em:t=0
 .subst em;exact .inl ⟨rfl,rfl⟩
 by_cases G:t=1
 .subst G;exact .inr (.inl ⟨rfl,rfl⟩)
 by_cases Y:t=2
 .subst Y;exact .inr (.inr (.inl ⟨rfl,rfl⟩))
 by_cases iG:t=8
 .subst iG;exact .inr (.inr (.inr ⟨rfl,rfl⟩))
 exfalso;simp only[bP,tL,aa.mk.injEq]at h;simp[em,G,Y,iG,Ne.symm em,Ne.symm G,Ne.symm Y,Ne.symm iG,eq_comm]at h
theorem Sw{m:Nat}(eC:U ea (B p (O.enc (mr.mk s)) 636::S) w0)(hb:ex ea s.v bs)(G:1<=m)(iG:m<=8)(e5:m<=bs.length):eJ 402 #[N p,i6 m] w0 (λu w'=>∃b:ec,u= .int .u64 ((hS (bs.take m):Nat):Int)/\ex ea b.v (bs.drop m)/\U ea (B p (O.enc (mr.mk b)) 636::S) w'):=by
 refine eN 12 eC func402 ntmps402 results402 rfl λw E=>?_;refine ev 0 E (GX (hb.es E.ee)) λw E=>?_;rw[Dw G iG e5];refine ey 9 E λw E=>?_;obtain⟨a,c⟩:∃a:ec,(nz s.v m bs.length (s2 s.v) (O.eo UInt8))=a.v:=by
  have h:=hb.cut (l:=m) (h:=bs.length) (m:=s2 s.v) e5 (Nat.le_refl _) hb.cap (Nat.le_refl _);exact h.mI
 have d:ex ea a.v (bs.drop m):=by
  have h:=hb.cut (l:=m) (h:=bs.length) (m:=s2 s.v) e5 (Nat.le_refl _) hb.cap (Nat.le_refl _);rw[c,List.take_length]at h;exact h
 refine ey 6 E λw E=>?_;refine et (hj (l:=m) (h':=bs.length) (m:=s2 s.v) (hb.es E.ee) ⟨rfl,Nat.le_refl _⟩ ⟨⟨rfl,rfl⟩,hb.cap⟩ ⟨⟨_,rfl⟩,e5⟩ (ey 2 E λw E=>?_));refine oE (iU (v:=a.v) (eo:=1) (iA:=O.enc (mr.mk a)) E rfl c en rfl (by rw[O.ez];decide) (O.one (α:=ec) a) (etJ (mr.mk s) a) (tH en λw E=>?_));refine ey 10 E λw E=>?_;exact⟨a,rfl,d,E⟩
theorem etZ:(eK [#[.int .u64 0],#[.int .u64 0],#[.int .u64 0],(Array.replicate 32 (.int .u8 0))])=O.enc (⟨0,0,0,aO 32⟩:mC):=by
 simp only[etB,mC.parts,iW];rfl
theorem et0:oC (⟨8⟩:aa) (8:Int) (oC ⟨2⟩ 8 (oC ⟨1⟩ 32 (oC ⟨0⟩ 48 [])))=bP:=by decide
theorem DA{b:List UInt8}{m:Nat}(e5:m<=8):hS (b.take m)<18446744073709551616:=by
 have:=GK (b:=b) (k:=m);have Y:2^(8*m)<=2^64:=Nat.pow_le_pow_right (by omega) (by omega);omega
theorem et1(I:ex w0 v bs):eJ 392 #[v] w0 (λu w'=>∃(x:mC)(b:Bool),u= .tuple #[.agg (O.enc x),.bool b]/\(b=true->DT x)/\eV w0 w'):=by
 obtain⟨ay,rfl⟩:=I.mI;have Z:=I;refine eN 4 (eY _) func392 ntmps392 results392 rfl λao w E=>?_;rw[etZ]at E;have:=aL Z;refine ey 10 E λw E=>?_;refine wR 10 0 E (λQ w E=>?_) (λQ w E=>?_)
 .
   exact⟨_,false,rfl,λh=>(by cases h),E.ee⟩
 .
   have gn:(bs.drop 4).length=bs.length-4:=by simp
   refine eA 5 E λw E=>?_;refine af 7 E (p5 ((mr.mk ay):mr)) λa w E=>?_;refine ev 6 E (Sw (p:=a) (s:=ay) (bs:=bs) (m:=4) (E.pick (e:=B a (O.enc (mr.mk ay)) 636) en) Z (by omega) (by omega) (by omega)) λd i w E=>?_;obtain⟨X,K⟩:∃X,(tL (⟨(hS (bs.take 4))⟩:aa) bP).getD 0=X:=⟨_,rfl⟩;obtain⟨q,L⟩:∃q,(tL (⟨(hS (bs.take 4))⟩:aa) bP).isSome=q:=⟨_,rfl⟩;refine et (J.makeMap aa (Value.int .i64:Int->Value) E ?_);intro R w _ E;refine oE (J.insert (tn:=aa) (tx:=Int) (k:=⟨0⟩) (v:=48) (e7:=Value.int .i64) (eI:=[]) E en rfl rfl rfl (tH en λw E=>(oE (J.insert (tn:=aa) (tx:=Int) (k:=⟨1⟩) (v:=32) (e7:=Value.int .i64) (eI:=oC ⟨0⟩ 48 []) E en rfl rfl rfl (tH en λw E=>(oE (J.insert (tn:=aa) (tx:=Int) (k:=⟨2⟩) (v:=8) (e7:=Value.int .i64) (eI:=oC ⟨1⟩ 32 (oC ⟨0⟩ 48 [])) E en rfl rfl rfl (tH en λw E=>(oE (J.insert (tn:=aa) (tx:=Int) (k:=⟨8⟩) (v:=8) (e7:=Value.int .i64) (eI:=oC ⟨2⟩ 8 (oC ⟨1⟩ 32 (oC ⟨0⟩ 48 []))) E en rfl rfl rfl (tH en λw E=>?_)))))))))));rw[et0]at E;refine ey 3 E λw E=>?_;refine et (zn (tn:=aa) (tx:=Int) (k:=⟨(hS (bs.take 4))⟩) (e7:=Value.int .i64) (eI:=bP) (z0:=0) (u:=X) inferInstance (E.map en) rfl rfl K ?_);rw[L];refine ey 13 E λw E=>?_;cases r:(!q)with
   |true=>
    refine ey 10 E λw E=>?_;refine NT 10 0 E (λ_ t w E=>?_) (λS t w E=>?_)
    .
      exact⟨_,false,rfl,λh=>(by cases h),E.ee⟩
    .
      exact absurd S (by decide)
   |false=>
    have:=aL i;refine ey 10 E λw E=>?_;refine wR 10 0 E (λt w E=>?_) (λt w E=>?_)
    .
      exact⟨_,false,rfl,λh=>(by cases h),E.ee⟩
    .
      have T:=etQ (L.trans (by simpa using r));rw[K]at T;refine eA 2 E λw E=>?_;refine lB (λf w=>∃(sW:ec)(l:List UInt8)(x:mC),oV [(2,N ao),(4,N a)] f/\U w0 [B a (O.enc (mr.mk sW)) 636,B ao (O.enc (x:mC)) 621] w/\ex w0 sW.v l/\DT x) ?_ ?_
      .
        refine eA 7 E λw E=>?_;refine lB (λf w=>∃(sW:ec)(l:List UInt8)(c:Nat),oV [(2,N ao),(4,N a)] f/\U w0 [B a (O.enc (mr.mk sW)) 636,B ao (O.enc (⟨(hS (bs.take 4)),c,0,aO 32⟩:mC)) 621] w/\ex w0 sW.v l/\8<=l.length/\((hS (bs.take 4))=0∨(hS (bs.take 4))=8)/\c<18446744073709551616) ?_ ?_
        .
          refine eA 13 E λw E=>?_;refine wR 0 9 E (λV w E=>?_) (λV w E=>?_)
          .
            have W:(hS (bs.take 4))=2:=by omega
            have y:(bs.drop 4).length=8:=by omega
            refine eA 8 E λw E=>?_;refine ev 11 E (Sw (p:=a) (s:=d) (bs:=(bs.drop 4)) (m:=8) (E.pick (e:=B a (O.enc (mr.mk d)) 636) en) i (by omega) (by omega) (by omega)) λY z w E=>?_;exact⟨Y,_,⟨(hS (bs.take 4)),hS ((bs.drop 4).take 8),0,aO 32⟩,⟨rfl,rfl,trivial⟩,E.sub aS,z,DA (by decide),.inr ⟨.inr W,rfl⟩⟩
          .
            refine wR 0 8 E (λnD w E=>?_) (λnD w E=>?_)
            .
              have A:(hS (bs.take 4))=0:=by omega
              have ewQ:(bs.drop 4).length=48:=by omega
              refine eA 9 E λw E=>?_;refine ev 5 E (Sw (p:=a) (s:=d) (bs:=(bs.drop 4)) (m:=8) (E.pick (e:=B a (O.enc (mr.mk d)) 636) en) i (by omega) (by omega) (by omega)) λC D w E=>?_;exact⟨C,_,_,⟨rfl,rfl,trivial⟩,E.sub aS,D,by simp;omega,.inl A,DA (by decide)⟩
            .
              refine wR 0 0 E (λh1 w E=>?_) (λh1 w E=>?_)
              .
                have F:(hS (bs.take 4))=8:=by omega
                have y:(bs.drop 4).length=8:=by omega
                refine eA 8 E λw E=>?_;exact⟨d,_,_,⟨rfl,rfl,trivial⟩,E.sub aS,i,by omega,.inr F,by decide⟩
              .
                have DI:(hS (bs.take 4))=1:=by omega
                refine eA 11 E λw E=>?_;exact⟨d,_,⟨(hS (bs.take 4)),0,0,aO 32⟩,⟨rfl,rfl,trivial⟩,E.sub aS,i,(by decide:0<18446744073709551616),.inr ⟨.inl DI,rfl⟩⟩
        .
          rintro f w ⟨sW,l,c,j,E,o,ewZ,eT,e0⟩;refine il _ j (λg=>?_);clear j;refine eA 3 E λw E=>?_;refine ev 7 E (Sw (p:=a) (s:=sW) (bs:=l) (m:=8) (E.pick (e:=B a (O.enc (mr.mk sW)) 636) en) o (by omega) (by omega) (by omega)) λG H w E=>?_;exact⟨G,_,⟨(hS (bs.take 4)),c,hS (l.take 8),aO 32⟩,⟨rfl,rfl,trivial⟩,E.sub aS,H,e0,.inl ⟨eT,DA (by decide)⟩⟩
      .
        rintro f w ⟨sW,l,x,j,E,o,M⟩;refine il _ j (λg=>?_);clear j;have:=aL o;refine eA 11 E λw E=>?_;refine wR 0 11 E (λkt w E=>?_) (λkt w E=>?_)
        .
          have P:l.length=32:=by omega
          refine eA 5 E λw E=>?_;refine et (Ls (n:=32) (xs:=l) rfl (o.es E.ee) P (by omega) (af 1 E (hA λw E=>((o.es E.ee).key (n:=31) P).n5 (O.ez _)) λw E=>?_));refine oE (iU (v:=.agg (O.enc (mS 32 l))) (eo:=32) (iA:=O.enc {x with dG:=mS 32 l}) E rfl rfl en (O.ez (mS 32 l)) (by rw[O.ez];decide) (O.one (mS 32 l)) (etK x (mS 32 l)) (tH en λw E=>?_));refine ey 11 E λw E=>?_;exact⟨_,true,rfl,λ_=>M,E.ee⟩
        .
          exact⟨_,true,rfl,λ_=>M,E.ee⟩
def Sy(n:Nat)(sS:List UInt8):Bool:=sS.any λc=>decide ((n:Int)<=(c.toNat:Int))
theorem DN(h:Sy n sS=false)(a:c∈sS):c.toNat<n:=by
 unfold Sy at h;have:=List.any_eq_false.1 h c a;simp only[decide_eq_true_eq]at this;omega
theorem G9:1<=uE t/\uE t<=2:=by unfold uE;split<;>omega
theorem Sb:tS 394 #[.agg (O.enc x)] w0 (i6 (uE x.tag:Int)):=by
 refine eN 13 (eY _) func394 ntmps394 results394 rfl λni w E=>?_;refine ts.eQ _ 6 _ rfl rfl rfl rfl (λf=>o9 rfl ⟨rfl,eV.refl _⟩) (λw a=>?_);replace E:=E.es a;refine ts.eQ _ 6 _ rfl rfl rfl rfl (λc=>ag (by first|exact ov rfl c|rfl) (E.a6 en (G7 _)) ⟨rfl,eV.refl _⟩) (λw a=>?_);replace E:=E.es a;refine ts.eQ _ 6 _ rfl rfl rfl rfl (λd=>J.eql (by first|exact ov rfl d|rfl) rfl ⟨rfl,eV.refl _⟩) (λw a=>?_);replace E:=E.es a;refine et (fe rfl rfl (by first|rfl) (ey 2 E<|na 8 9 (λb e w E=>?_) (λb e w E=>?_)))
 .
   refine⟨congrArg (Value.int .i64) ?_,E.ee⟩;unfold uE;simp only[Bool.or_eq_true,decide_eq_true_eq]at b;rw[if_pos (by omega)];rfl
 .
   refine⟨congrArg (Value.int .i64) ?_,E.ee⟩;unfold uE;simp only[Bool.or_eq_false_iff,decide_eq_false_iff_not]at b;rw[if_neg (by omega)];rfl
theorem eat(a:an w0 (N b) #[qo])(hr:ex w0 qo r):tS 403 #[.int .u8 (c.toNat:Int),N b] w0 (.bool (decide ((r.length:Int)<=(c.toNat:Int)))):=by
 refine eN 8 (eY _) func403 ntmps403 results403 rfl λw E=>?_;refine et (J.conv rfl (wrap_i64 (by have:=wb c;omega)) ?_);have:=ir a;have:=aL hr;refine ey 8 E λw E=>?_;exact⟨rfl,E.ee⟩
theorem eaa{xs:List UInt8}(p:UInt8->Bool)(Z:ex w0 v xs)(i:∀w,eV w0 w->∀c:UInt8,mN prog hi [.int .u8 (c.toNat:Int)] w (λu w'=>u= .bool (p c)/\eV w w')):eJ 305 #[v,hi] w0 (λu w'=>∃n:Int,u= .int .i64 n/\decide (0<=n)=xs.any p/\eV w0 w'):=by
 have:=aL Z;refine eN 14 (eY _) func305 ntmps305 results305 rfl λw E=>?_;refine ek.loop (λq f w=>∃k:Nat,oV [(0,v),(1,hi),(7,i6 xs.length),(8,i6 k)] f/\U w0 [] w/\(∀j(h:j<xs.length),j<k->p xs[j]=false)/\k<=xs.length/\q=xs.length-k) (xs.length) ?_ ?_
 .
   exact⟨0,⟨rfl,rfl,rfl,rfl,trivial⟩,E,λj _ h=>absurd h (by omega),Nat.zero_le _,rfl⟩
 .
   rintro q f w ⟨k,b,E,d,x,e5⟩;refine il _ b (λg=>?_);clear b;refine eA 6 E<|om 0 12 (λl w E=>?_) (λl w E=>?_)
   .
     have e:k<xs.length:=by omega
     have m:=Z.le;simp only[maxLen]at m;refine eA 16 E ⟨⟨by omega⟩,λ_ w E=>?_⟩;have:=lq e;refine ey 1 E λw E=>?_;refine et (bf rfl (i _ E.ee xs[k]) rfl ?_);rintro _ w ⟨rfl,o⟩;replace E:=E.es o;refine ey 2 E<|na 13 8 (λa r w E=>?_) (λa r=>⟨ib,λw E=>?_⟩)
     .
       exact⟨_,rfl,by rw[List.any_eq_true.2 ⟨xs[k],List.getElem_mem e,a⟩];exact decide_eq_true (by omega),E.ee⟩
     .
       exact⟨xs.length-(k+1),by omega,k+1,⟨rfl,rfl,rfl,congrArg (Value.int .i64) (by omega),trivial⟩,E,λj G Y=>(by rcases Nat.lt_or_ge j k with h|h;exact d j G h;obtain rfl:j=k:=(by omega);exact a),by omega,rfl⟩
   .
     refine⟨_,rfl,?_,E.ee⟩;rw[List.any_eq_false.2 (λc s=>by obtain⟨j,t,rfl⟩:=List.getElem_of_mem s;rw[d j t (by omega)];decide)];rfl
theorem eao{xs:List UInt8}(p:UInt8->Bool)(Z:ex w0 v xs)(a:∀w,eV w0 w->∀c:UInt8,mN prog hi [.int .u8 (c.toNat:Int)] w (λu w'=>u= .bool (p c)/\eV w w')):tS 236 #[v,hi] w0 (.bool (xs.any p)):=by
 refine eN 9 (eY _) func236 ntmps236 results236 rfl λw E=>?_;refine ev 6 E (eaa p (Z.es E.ee) (λw h c=>a w (E.ee.trans h) c)) λn b w E=>?_;exact⟨congrArg Value.bool b,E.ee⟩
theorem eai(hr:ex w0 qo r)(ep:ex w0 fu sS):eJ 393 #[.agg (O.enc x),qo,fu] w0 (λu w'=>∃e:Int,u= .int .i64 e/\(e=0->uE x.tag<=sS.length/\Sy r.length sS=false)/\eV w0 w'):=by
 obtain⟨d,rfl⟩:=hr.mI;have:=aL ep;refine eN 19 (eY _) func393 ntmps393 results393 rfl λt6 aW w E=>?_;refine ev 2 E (Sb) λw E=>?_;refine ts.eQ _ 16 _ rfl rfl rfl rfl (λR=>oI (v:=fu) rfl ⟨rfl,eV.refl _⟩) (λw a=>?_);replace E:=E.es a;refine ts.eQ _ 16 _ rfl rfl rfl rfl (λS=>oI (v:=(.func (.func 403) #[] #[N aW])) rfl ⟨rfl,eV.refl _⟩) (λw a=>?_);replace E:=E.es a;refine ts.eQ _ 16 (.bool (Sy r.length sS)) rfl rfl rfl rfl (λj=>?_) (λw a=>?_)
 .refine J.call (eao (λc=>decide ((r.length:Int)<=(c.toNat:Int))) (ep.es E.ee) (λw' h c=>⟨_,[],[N aW],rfl,inferInstance,eat ((E.tb en).es h) (hr.es (E.ee.trans h))⟩)) (HV (by first|exact ov rfl j|rfl) (by first|exact ov rfl j|rfl)) ?_;rintro v w ⟨rfl,a⟩;replace E:=E.es a;exact⟨rfl,‹_›⟩
 replace E:=E.es a;refine et (fe rfl rfl (by first|rfl) (ey 2 E<|na 8 0 (λ_ y w E=>?_) (λz y w E=>?_)))
 .
   exact⟨_,rfl,λh=>(by cases h),E.ee⟩
 .
   obtain⟨A,b⟩:=Bool.or_eq_false_iff.1 z;simp only[decide_eq_false_iff_not]at A;have T:=G9 (t:=x.tag);have V:(sS.take (uE x.tag)).length=(uE x.tag):=by simp;omega
   have n:ex w0 (nz fu 0 (uE x.tag) (s2 fu) (O.eo UInt8)) (sS.take (uE x.tag)):=ep.Fj (by omega) (by have:=ep.cap;omega) (Nat.le_refl _);have C:=hr.le;simp only[maxLen]at C;refine eA 7 E λw E=>?_;refine ev 0 E (Sb) λw E=>?_;refine et (hj (l:=0) (h':=(uE x.tag)) (m:=s2 fu) (ep.es E.ee) ⟨rfl,Nat.le_refl _⟩ ⟨⟨_,rfl⟩,by have:=ep.cap;omega⟩ ⟨rfl,Nat.zero_le _⟩ (et (J.hD rfl ((n.es E.ee)) (ey 4 E λw E=>?_))));refine ek.loop (λq f w=>∃k:Nat,oV [(3,N t6),(4,N aW),(24,(nz fu 0 (uE x.tag) (s2 fu) (O.eo UInt8))),(25,.int .i64 ((sS.take (uE x.tag)).length:Int)),(26,i6 k)] f/\U w0 [B aW #[d.v] 49,B t6 (O.enc x) 621] w/\k<=(sS.take (uE x.tag)).length/\q=(sS.take (uE x.tag)).length-k) ((sS.take (uE x.tag)).length) ?_ ?_
   .
     exact⟨0,⟨rfl,rfl,rfl,rfl,rfl,trivial⟩,E,Nat.zero_le _,rfl⟩
   .
     rintro q f w ⟨k,o,E,W,e5⟩;refine il _ o (λg=>?_);clear o;refine eA 6 E<|om 0 12 (λD w E=>?_) (λD w E=>?_)
     .
       have p:k<(sS.take (uE x.tag)).length:=by omega
       have F:=DN b (List.mem_of_mem_take (List.getElem_mem p));have:=aL n;refine eA 8 E ⟨⟨by omega⟩,λ_ w E=>?_⟩;have:=lq p;have:=aL hr;refine ey 11 E ⟨⟨by omega⟩,λ_ w E=>?_⟩;have:=lq F;refine ey 4 E λw E=>?_;refine ts.eQ _ 38 _ rfl rfl rfl rfl (λG=>o9 rfl ⟨rfl,eV.refl _⟩) (λw a=>?_);replace E:=E.es a;refine ts.eQ _ 38 _ rfl rfl rfl rfl (λH=>ag (by first|exact ov rfl H|rfl) (E.a6 en (G7 _)) ⟨rfl,eV.refl _⟩) (λw a=>?_);replace E:=E.es a;refine ts.eQ _ 38 _ rfl rfl rfl rfl (λI=>J.eql (by first|exact ov rfl I|rfl) rfl ⟨rfl,eV.refl _⟩) (λw a=>?_);replace E:=E.es a;refine ts.eQ _ 38 _ rfl rfl rfl rfl (λK=>u0 (by first|exact ov rfl K|rfl) ⟨rfl,eV.refl _⟩) (λw a=>?_);replace E:=E.es a;refine Ic _ _ 42 _ rfl rfl rfl rfl (λL=>oP rfl ⟨rfl,eV.refl _⟩) (λw a=>?_);replace E:=E.es a;refine Ic _ _ 42 _ rfl rfl rfl rfl (λM=>J.gtr (by first|exact ov rfl M|rfl) rfl ⟨rfl,eV.refl _⟩) (λw a=>?_);replace E:=E.es a;refine ts.eQ _ 38 _ rfl rfl rfl rfl (λs=>pZ (by first|exact ov rfl s|rfl) (by first|exact MW rfl s|rfl) rfl ⟨rfl,eV.refl _⟩) (λw a=>?_);replace E:=E.es a;refine ts.eQ _ 38 _ rfl rfl rfl rfl (λi=>J.not (by first|exact ov rfl i|rfl) ⟨rfl,eV.refl _⟩) (λw a=>?_);replace E:=E.es a;refine et (pZ rfl (by first|rfl) rfl (ey 3 E<|om 13 11 (λP w E=>?_) (λP w E=>?_)))
       .
         exact⟨_,rfl,λ_=>⟨by omega,b⟩,E.ee⟩
       .
         refine wR 13 9 E (λQ w E=>?_) (λQ=>⟨ib,λw E=>?_⟩)
         .
           exact⟨_,rfl,λ_=>⟨by omega,b⟩,E.ee⟩
         .
           exact⟨(sS.take (uE x.tag)).length-(k+1),by omega,k+1,⟨rfl,rfl,rfl,rfl,congrArg (Value.int .i64) (by omega),trivial⟩,E,by omega,rfl⟩
     .
       exact⟨_,rfl,λ_=>⟨by omega,b⟩,E.ee⟩
def sZ:aH:=⟨0,aO 32,0⟩
def eal(a:aH):Bool:=decide (a.dG=hJ)&&decide ((a.tq:Int)=0)
def cC(a:aH):Prop:=a.iO<18446744073709551616/\a.tq<18446744073709551616
def uT(l m:List aH):Prop:=m.length=l.length/\∀y∈m,cC y
theorem uT.set(h:uT l m)(b:cC y):uT l (m.set a y):=⟨by rw[List.length_set];exact h.1,λz c=>by rcases List.mem_or_eq_of_mem_set c with G|rfl;exact h.2 z G;exact b⟩
theorem uT.at(h:uT l m)(ep:a<m.length):cC m[a]:=h.2 _ (List.getElem_mem ep)
theorem ead(h:n<18446744073709551616):IntKind.u64.wrap (18446744073709551615-(n:Int))=((18446744073709551615-n:Nat):Int):=by rw[IntKind.wrap_u64];omega
theorem bG:tS 166 #[] w0 (.agg (O.enc hJ)):=by
 refine eN 7 (eY _) func166 ntmps166 results166 rfl λb w E=>?_;exact et (yf (k:=hJ) (by first|rfl|(simp only[hJ,sZ,sg,iW];rfl)) (by intro p a;first|(exfalso;simp at a;done)|(simp only[List.map_cons,List.map_nil,List.mem_cons,List.not_mem_nil,or_false]at a;rcases a with rfl|rfl|rfl|rfl<;>exact⟨by simp,rfl⟩)) (ey 5 E λw E=>(⟨rfl,E.ee⟩)))
theorem DS{a:aH}:tS 409 #[.agg (O.enc a)] w0 (.bool (eal a)):=by
 refine eN 7 (eY _) func409 ntmps409 results409 rfl λni=>?_;refine aC 2 10 (eX [0,1] (.one 2 (eX [3,4,5,6,7,8,9] .nil))) [] λw E=>?_;refine o0 0 E (bG) λw E=>?_;exact tl rfl (λw E=>jm rfl rfl eG) (t7 1 E λw E=>(ue rfl rfl (λd w E=>o9 rfl eG) (ue rfl rfl (λb w E=>ag (by first|exact ov rfl b|rfl) (E.a6 en (LF _)) eG) (ue rfl rfl (λc w E=>J.eql (by first|exact ov rfl c|rfl) rfl eG) (tl rfl (λw E=>pZ rfl (by first|rfl) rfl eG) (t7 5 E λw E=>(⟨rfl,E.ee⟩)))))))
theorem eac(ep:a<out.length)(hb:b<out.length)(f:x.iO<18446744073709551616/\x.tq<18446744073709551616)(g:∀y∈out,cC y)(eC:U ea (V l0 62 out::S) w0):eJ 404 #[.agg (O.enc x),.agg #[oX l0 a (O.eo aH),oX l0 b (O.eo aH)]] w0 (λu w'=>∃(e:Int)(m:List aH),u= .int .i64 e/\(e=0->x.tq<=1048576)/\uT out m/\U ea (V l0 62 m::S) w'):=by
 have c:uT out out:=⟨rfl,g⟩;have d:=c.at ep;have:=lq hb;refine eN 15 eC func404 ntmps404 results404 rfl λao t6 w E=>?_;refine et (sV (r:=((sZ:aH):aH)) (ps:=aH.parts ((sZ:aH):aH)) (pg _) (by first|(simp only[hJ,sZ,sg,iW,pg,aH.parts];rfl)|rfl) (by(repeat' (first|exact trivial|refine And.intro ?_ ?_))<;>first|rfl|exact O.ez _|(simp;done)) ?_);refine et (TH rfl rfl (ey 3 E λw E=>?_));have:=lq ep;refine wR 9 6 E (λi w E=>?_) (λi w E=>?_)
 .
   exact⟨_,_,rfl,λh=>(by cases h),c,E.nS.nS⟩
 .
   refine ev 4 E (DS)<|om 9 8 (λj w E=>?_) (λj w E=>?_)
   .
     exact⟨_,_,rfl,λh=>(by cases h),c,E.nS.nS⟩
   .
     refine wR 9 1 E (λk w E=>?_) (λk w E=>?_)
     .
       exact⟨_,_,rfl,λh=>(by cases h),c,E.nS.nS⟩
     .
       refine nC 11 9 (eX [0,1,2,3,4,5,6,7,8] .nil) [] E<|om 9 4 (λl w E=>?_) (λl w E=>?_)
       .
         exact⟨_,_,rfl,λh=>(by cases h),c,E.nS.nS⟩
       .
         refine nC 7 10 (eX [0,1,2,3,4,5,6,7,8,9] (.one 10 .nil)) [] E λw E=>?_;refine tl rfl (λw E=>J.sub rfl rfl (yb (by omega) d.1) eG) (t7 7 E λw E=>?_);have n:b<(out.set a {out[a]with iO:=out[a].iO-x.iO}).length:=by simpa using hb
         refine ey 8 E λw E=>?_;have:=lq n;refine af 11 E (p5 ((⟨x.iO,x.dG,x.tq⟩:aH):aH)) λw E=>?_;exact⟨_,_,rfl,λ_=>by omega,(c.set (a:=a) (y:={out[a]with iO:=out[a].iO-x.iO}) ⟨Nat.lt_of_le_of_lt (Nat.sub_le _ _) d.1,d.2⟩).set (a:=b) (y:=⟨x.iO,x.dG,x.tq⟩) f,E.nS.nS⟩
theorem eau(ep:a<out.length)(hb:b<out.length)(h:x.iO<18446744073709551616/\x.tq<18446744073709551616)(d:∀y∈out,cC y)(eC:U ea (V l0 62 out::S) w0):eJ 405 #[.agg (O.enc x),.agg #[oX l0 a (O.eo aH),oX l0 b (O.eo aH)]] w0 (λu w'=>∃(e:Int)(m:List aH),u= .int .i64 e/\uT out m/\U ea (V l0 62 m::S) w'):=by
 have c:uT out out:=⟨rfl,d⟩;have f:=c.at ep;refine eN 9 eC func405 ntmps405 results405 rfl λao t6 w E=>?_;have:=lq ep;refine nC 5 7 (eX [0,1,2,3,4] (.one 5 (.look 6 .nil))) [] E λw E=>?_;refine o0 0 E (bG) λw E=>?_;refine tl rfl (λw E=>TH rfl rfl eG) (t7 2 E<|om 8 20 (λg w E=>?_) (λg w E=>?_))
 .
   exact⟨_,_,rfl,c,E.nS.nS⟩
 .
   exact⟨_,_,rfl,c.set (a:=a) (y:={out[a]with dG:=x.dG}) f,E.nS.nS⟩
theorem eam(ep:a<out.length)(hb:b<out.length)(d:x.iO<18446744073709551616/\x.tq<18446744073709551616)(f:∀y∈out,cC y)(eC:U ea (V l0 62 out::S) w0):eJ 407 #[.agg (O.enc x),.agg #[oX l0 a (O.eo aH),oX l0 b (O.eo aH)]] w0 (λu w'=>∃(e:Int)(m:List aH),u= .int .i64 e/\(e=0->x.tq<=1048576)/\uT out m/\U ea (V l0 62 m::S) w'):=by
 have c:uT out out:=⟨rfl,f⟩;have g:=c.at ep;have:=lq ep;refine eN 15 eC func407 ntmps407 results407 rfl λao t6 w E=>?_;refine ev 4 E (DS)<|om 9 8 (λi w E=>?_) (λi w E=>?_)
 .
   exact⟨_,_,rfl,λh=>(by cases h),c,E.nS.nS⟩
 .
   refine wR 9 21 E (λj w E=>?_) (λj w E=>?_)
   .
     exact⟨_,_,rfl,λh=>(by cases h),c,E.nS.nS⟩
   .
     exact⟨_,_,rfl,λ_=>by omega,c.set (a:=a) (y:={out[a]with tq:=x.tq}) ⟨g.1,d.2⟩,E.nS.nS⟩
theorem eaf(ep:a<out.length)(hb:b<out.length)(q:x.iO<18446744073709551616/\x.tq<18446744073709551616)(r:∀y∈out,cC y)(eC:U ea (V l0 62 out::S) w0):eJ 406 #[.agg (O.enc x),.agg #[oX l0 a (O.eo aH),oX l0 b (O.eo aH)]] w0 (λu w'=>∃(e:Int)(m:List aH),u= .int .i64 e/\uT out m/\U ea (V l0 62 m::S) w'):=by
 have d:uT out out:=⟨rfl,r⟩;have j:=d.at ep;refine eN 0 eC func406 ntmps406 results406 rfl λw E=>?_;obtain⟨g,n,c,l⟩:∃g n c,l0=ta g n c:=by
  have e1:=E.cQ (v:=l0) (xs:=out) .nW;rcases e1 with⟨_,rfl⟩|⟨g,cap,ne,h,_⟩
  .simp at ep
  exact⟨g,_,cap,h⟩
 have:=lq ep;refine eA 15 E λao t6 w E=>?_;refine ev 4 E (DS)<|om 9 1 (λs w E=>?_) (λs w E=>?_)
 .
   exact⟨_,_,rfl,d,E.nS.nS⟩
 .
   refine nC 11 9 (eX [0,1,2,3,4,5,6,7,8] .nil) [] E<|om 9 6 (λt w E=>?_) (λt w E=>?_)
   .
     exact⟨_,_,rfl,d,E.nS.nS⟩
   .
     refine et (Lr (n:=33) (b:=g) (o:=0+a*34) (di:=0+b*34) (by rw[l];rfl) (by rw[l];rfl) ?_);rw[show decide (0+a*34=0+b*34)=decide (a=b)from by rw[Bool.eq_iff_iff];simp only[decide_eq_true_eq];omega];refine ey 3 E<|na 9 0 (λ_ z w E=>?_) (λA z w E=>?_)
     .
       exact⟨_,_,rfl,d,E.nS.nS⟩
     .
       have B:a≠b:=of_decide_eq_false A;have k:=d.at hb;refine eA 1 E λw E=>?_;have:=lq hb;refine nC 7 10 (eX [0,1,2,3,4,5,6,7,8,9] .nil) [] E λw E=>?_;refine mR 4 E (p6 (ead q.1))<|om 9 4 (λC w E=>?_) (λC w E=>?_)
       .
         exact⟨_,_,rfl,d,E.nS.nS⟩
       .
         refine nC 7 10 (eX [0,1,2,3,4,5,6,7,8,9] (.one 10 .nil)) [] E λw E=>?_;refine tl rfl (λw E=>J.sub rfl rfl (yb (by omega) j.1) eG) (t7 6 E ?_);refine aC 0 10 (eX [0,1,2,3,4,5,6,7,8,9] (.one 10 .nil)) [] λw E=>?_;have f:b<(out.set a {out[a]with iO:=out[a].iO-x.iO}).length:=by simpa using hb
         have p:(out.set a {out[a]with iO:=out[a].iO-x.iO})[b]=out[b]:=by rw[List.getElem_set_ne B]
         refine t7 1 E λw E=>?_;exact tl rfl (λw E=>ag rfl (E.a6 en rfl) eG) (tl rfl (λw E=>J.nilCheck rfl ((E.eu (v:=l0) (xs:=(out.set a {out[a]with iO:=out[a].iO-x.iO})) en).sY f) eG) (tl rfl (λw E=>J.fieldAddr rfl ((E.eu (v:=l0) (xs:=(out.set a {out[a]with iO:=out[a].iO-x.iO})) en).sY f) eG) (tl rfl (λw E=>ag rfl (ud ((E.eu (v:=l0) (xs:=(out.set a {out[a]with iO:=out[a].iO-x.iO})) en).sm f) 0 (by rw[p];exact Aw _)) eG) (tl rfl (λw E=>o9 rfl eG) (tl rfl (λw E=>ag rfl (E.a6 en (etV _)) eG) (tl rfl (λw E=>J.add rfl rfl (zp (by omega)) eG) (tl rfl (λw E=>J.nilCheck rfl ((E.eu (v:=l0) (xs:=(out.set a {out[a]with iO:=out[a].iO-x.iO})) en).sY f) eG) (tl rfl (λw E=>J.fieldAddr rfl ((E.eu (v:=l0) (xs:=(out.set a {out[a]with iO:=out[a].iO-x.iO})) en).sY f) eG) (nH rfl (pd (v:=l0) (u:=.int .u64 ((out[b].iO+x.iO:Nat):Int)) (eo:=1) (xs:=(out.set a {out[a]with iO:=out[a].iO-x.iO})) (i:=b) (off:=0) (l9:={out[b]with iO:=out[b].iO+x.iO}) E en f rfl rfl rfl (by decide) (oZ _ _) (by rw[p];exact P6 out[b] (out[b].iO+x.iO)) (tH en λw E=>(t7 9 E λw E=>(⟨_,_,rfl,(d.set (a:=a) (y:={out[a]with iO:=out[a].iO-x.iO}) ⟨Nat.lt_of_le_of_lt (Nat.sub_le _ _) j.1,j.2⟩).set (a:=b) (y:={out[b]with iO:=out[b].iO+x.iO}) ⟨(by show out[b].iO+x.iO<_;omega),k.2⟩,E.nS.nS⟩)))))))))))))
def aJ:Value:=.nilFunc
def AB:List (aa×Value):=[(⟨0⟩,.func (.func 404) #[] #[]),(⟨1⟩,.func (.func 405) #[] #[]),(⟨2⟩,.func (.func 406) #[] #[]),(⟨8⟩,.func (.func 407) #[] #[])]
def l1(v:Value):Value:=v
theorem eag:oC (⟨8⟩:aa) (Value.func (.func 407) #[] #[]) (oC ⟨2⟩ (.func (.func 406) #[] #[]) (oC ⟨1⟩ (.func (.func 405) #[] #[]) (oC ⟨0⟩ (.func (.func 404) #[] #[]) [])))=AB:=rfl
theorem eaw(ep:a<out.length)(hb:b<out.length)(Z:DT x)(c:∀y∈out,cC y)(E:U ea (V l0 62 out::S) w)(j:(tL (⟨x.tag⟩:aa) AB).getD aJ=u):
 mN prog u [.agg (O.enc x),.agg #[oX l0 a (O.eo aH),oX l0 b (O.eo aH)]] w (λr w'=>∃(e:Int)(m:List aH),r= .int .i64 e/\(e=0->x.tq<=1048576)/\uT out m/\U ea (V l0 62 m::S) w'):=by
 subst j;obtain⟨d,⟨h|h,f⟩|⟨h|h,f⟩⟩:=Z<;>rw[h]
 .exact⟨_,[],[],rfl,inferInstance,eac ep hb ⟨d,f⟩ c E⟩
 .exact⟨_,[],[],rfl,inferInstance,eam ep hb ⟨d,f⟩ c E⟩
 .exact⟨_,[],[],rfl,inferInstance,(eau ep hb ⟨d,by omega⟩ c E).mono λ_ _⟨e,m,g,i⟩=>⟨e,m,g,λ_=>by omega,i⟩⟩
 exact⟨_,[],[],rfl,inferInstance,(eaf ep hb ⟨d,by omega⟩ c E).mono λ_ _⟨e,m,g,i⟩=>⟨e,m,g,λ_=>by omega,i⟩⟩
theorem Ek{α:Type}{l:List α}(h:i<l.length)(d:α):l.getD i d=l[i]:=by simp[List.getD_eq_getElem?_getD,h]
theorem eay:eJ 395 #[] w0 (λu w'=>HF w0 w' u l1 AB/\eV w0 w'):=by
 refine eN 7 (eY _) func395 ntmps395 results395 rfl λw E=>?_;refine et (J.makeMap aa (l1:Value->Value) E ?_);intro tj w _ E;refine oE (J.insert (tn:=aa) (tx:=Value) (k:=⟨0⟩) (v:=.func (.func 404) #[] #[]) (e7:=l1) (eI:=[]) E en rfl rfl rfl (tH en λw E=>(oE (J.insert (tn:=aa) (tx:=Value) (k:=⟨1⟩) (v:=.func (.func 405) #[] #[]) (e7:=l1) (eI:=oC (⟨0⟩:aa) (.func (.func 404) #[] #[]) []) E en rfl rfl rfl (tH en λw E=>(oE (J.insert (tn:=aa) (tx:=Value) (k:=⟨2⟩) (v:=.func (.func 406) #[] #[]) (e7:=l1) (eI:=oC (⟨1⟩:aa) (.func (.func 405) #[] #[]) (oC (⟨0⟩:aa) (.func (.func 404) #[] #[]) [])) E en rfl rfl rfl (tH en λw E=>(oE (J.insert (tn:=aa) (tx:=Value) (k:=⟨8⟩) (v:=.func (.func 407) #[] #[]) (e7:=l1) (eI:=oC (⟨2⟩:aa) (.func (.func 406) #[] #[]) (oC (⟨1⟩:aa) (.func (.func 405) #[] #[]) (oC (⟨0⟩:aa) (.func (.func 404) #[] #[]) []))) E en rfl rfl rfl (tH en λw E=>?_)))))))))));rw[eag]at E;refine ey 6 E λw E=>?_;exact⟨E.vE .nW,E.ee⟩
theorem DR(Z:ex w0 v xs)(eB:xs.length<=100000):eJ 288 #[v] w0 (λu w'=>sH w0 w' u 62 xs/\eV w0 w'):=by
 obtain⟨a,c,rfl⟩:=Z.eq;refine eN 9 (eY _) func288 ntmps288 results288 rfl λw E=>?_;refine et (fO rfl rfl (ey 2 E<|om 8 4 (λb w E=>?_) (λb w E=>?_)))
 .
   cases a with
   |none=>
    obtain⟨rfl,_,_⟩:=Z.wg;exact⟨sH.nil _ _ _,E.ee⟩
   |some a=>cases b
 .
   refine rF 1 E (nB ([]:List aH)) λd w E=>?_;refine et (dj (α:=aH) rfl E rfl en ((Z.es E.ee)) (by(try simp only[List.length_append,List.length_cons,List.length_nil,List.length_map]);omega) (by simp only[maxLen];(try simp only[List.length_append,List.length_cons,List.length_nil,List.length_map]);omega) ?_);intro e w E;replace E:=E _ en;refine ey 5 E λw E=>?_;have G:=E.cZ en;simp only[List.nil_append]at G;exact⟨G,E.ee⟩
theorem Wa(Z:ex w0 v xs):tS 331 #[v] w0 (nz v 0 xs.length xs.length (O.eo (aH))):=by
 have:=aL Z;refine eN 12 (eY _) func331 ntmps331 results331 rfl λw E=>?_;exact et (hj (Z.es E.ee) ⟨⟨_,rfl⟩,Z.cap⟩ ⟨⟨_,rfl⟩,Nat.le_refl _⟩ ⟨rfl,Nat.zero_le _⟩ (ey 5 E λw E=>(⟨rfl,E.ee⟩)))
theorem eab(eB:ex w0 Ew l)(hr:ex w0 xH r)(ep:ex w0 ad.cS.v sS)(hd:ex w0 ad.data.v ox)(pk:l.length<=100000)(dh:∀y∈l,cC y):eJ 370 #[Ew,xH,.agg (O.enc ad)] w0 (λu w'=>∃(v:Value)(n:Nat)(e:Int)(m:List aH),u= .tuple #[v,ef n,.int .i64 e]/\sH w0 w' v 62 m/\(e=0->uT l m)/\n<=1048576/\eV w0 w'):=by
 have:=aL eB;have:=aL hr;refine eN 18 (eY _) func370 ntmps370 results370 rfl λiD=>om 10 0 (λtz w E=>?_) (λtz w E=>?_)
 .
   exact⟨_,0,_,[],rfl,sH.nil _ _ _,λh=>(by cases h),by decide,E.ee⟩
 .
   have hlen:l.length=r.length:=by omega
   refine eA 6 E λw E=>?_;refine ev 4 E (et1 (hd.es E.ee)) λx jE G lm w E=>?_;refine oE (iJ E rfl rfl en (by first|rfl|exact O.ez _) (tH en λw E=>(ey 10 E<|na 10 0 (λ_ ah w E=>?_) (λoe ah w E=>?_))))
   .
     exact⟨_,0,_,[],rfl,sH.nil _ _ _,λh=>(by cases h),by decide,E.ee⟩
   .
     have Z:=G (by simpa using oe);refine eA 9 E λw E=>?_;refine ev 9 E (eai (hr.es E.ee) (ep.es E.ee)) λe H=>na 11 0 (λI a8 w E=>?_) (λI a8 w E=>?_)
     .
       exact⟨_,0,_,[],rfl,sH.nil _ _ _,λh=>absurd h (by simpa using I),by decide,E.ee⟩
     .
       obtain⟨bR,R⟩:=H (by simpa using I);have ew0:=G9 (t:=x.tag);obtain⟨j,tO⟩:∃j,uE x.tag-1=j:=⟨_,rfl⟩;have S:j<sS.length:=by omega
       have K:0<sS.length:=by omega
       have W:sS[0].toNat<l.length:=by rw[hlen];exact DN R (List.getElem_mem _)
       have X:sS[j].toNat<l.length:=by rw[hlen];exact DN R (List.getElem_mem _)
       refine eA 5 E λw E=>?_;refine et (J.call (DR (eB.es E.ee) pk) rfl ?_);rintro Y w ⟨Wn,q⟩;replace E:=E.pB q Wn.1 Wn.2;refine et (J.call (Wa (E.eu (v:=Y) (xs:=l) en)) rfl ?_);rintro a w ⟨L,q⟩;replace E:=E.es q;refine ey 1 E λw E=>?_;replace E:=E.bS (v:=Y) (T:=62) (xs:=l) en;rw[<-L]at E;obtain⟨ew1,z⟩:∃p,(oX a sS[0].toNat (O.eo aH))= .pointer p:=by obtain⟨b,o,h⟩:=(E.eu (v:=a) (xs:=l) en).sY (eo:=O.eo aH) W;exact⟨_,h⟩
       obtain⟨ew2,A⟩:∃p,(oX a sS[j].toNat (O.eo aH))= .pointer p:=by obtain⟨b,o,h⟩:=(E.eu (v:=a) (xs:=l) en).sY (eo:=O.eo aH) X;exact⟨_,h⟩
       refine ey 2 E λw E=>?_;refine lB (λf w=>∃s:Nat,oV [(9,N lm),(12,a),(13,N s)] f/\U w0 [B s #[(oX a sS[0].toNat (O.eo aH)),(oX a sS[j].toNat (O.eo aH))] 627,V a 62 l,B lm (O.enc x) 621] w) ?_ ?_
       .
         refine gC 17 (eX [0,1,2,3,4,5,6,7,8,9] (.iZ 10 16 (eX [11,12,13,14,15] (oA [16,17] .nil)) (.one 10 (eX [11,12,13,14,15] (.one 17 .nil))))) (by kernel_rfl) (λ_ _ _ h=>h) (λaB M=>?_);replace E:=E.es M;have d:=E;have i:=eY aB;refine ht 3 d ?_;refine ss d rfl (λw E=>nX rfl ((ep.es E.ee)) rfl (by omega) eG) (ss d rfl (λw E=>ag rfl (((ep.es E.ee).sm K).ab rfl) eG) (ss d rfl (λw E=>nX rfl (E.eu (v:=a) (xs:=l) en) rfl (by omega) eG) (ht 4 d ?_)));refine e2.iZ rfl rfl rfl rfl ?_ ?_
         .refine J.call (Sb) rfl ?_;rintro _ w ⟨rfl,q⟩;replace i:=i.es q;refine⟨i.ee,?_⟩;have E:=iq d i;refine ss d rfl (λw E=>J.sub rfl rfl ((wrap_i64 (by omega)).trans (by omega:_=(j:Int))) eG) (ss d rfl (λw E=>nX rfl ((ep.es E.ee)) rfl (by omega) eG) (ss d rfl (λw E=>ag rfl (((ep.es E.ee).sm S).ab rfl) eG) (ss d rfl (λw E=>nX rfl (E.eu (v:=a) (xs:=l) en) rfl (by omega) eG) (ss d rfl (λw E=>jN (c:=#[(oX a sS[0].toNat (O.eo aH)),(oX a sS[j].toNat (O.eo aH))]) (by show pr _ [(0,(oX a sS[0].toNat (O.eo aH))),(1,(oX a sS[j].toNat (O.eo aH)))];rw[z,A];(repeat' (first|exact trivial|refine And.intro ?_ ?_))<;>first|rfl|exact O.ez _|(simp;done)) (by show eK (uQ _ [(0,(oX a sS[0].toNat (O.eo aH))),(1,(oX a sS[j].toNat (O.eo aH)))])=_;rw[z,A];rfl) eG) ?_))));refine ol rfl (sI i ?_);intro s w q i;refine⟨i.ee,?_⟩;have E:=iq d i;exact nH rfl (Im (c:=#[(oX a sS[0].toNat (O.eo aH)),(oX a sS[j].toNat (O.eo aH))]) (cs:=eK [#[Value.pointer none],#[Value.pointer none]]) E rfl rfl en rfl rfl (by rw[z,A];intro u C;simp at C;rcases C with rfl|rfl<;>rfl) (tH en λw E=>(e2.nil (s6 1 E λw E=>(⟨s,⟨rfl,rfl,rfl,trivial⟩,E.sub aS⟩)))))
         refine sI i ?_;intro s w q i;refine⟨i.ee,?_⟩;have E:=iq d i;refine ol rfl (J.call (Sb) rfl ?_);rintro _ w ⟨rfl,q⟩;replace i:=i.es q;refine⟨i.ee,?_⟩;have E:=iq d i;refine ss d rfl (λw E=>J.sub rfl rfl ((wrap_i64 (by omega)).trans (by omega:_=(j:Int))) eG) (ss d rfl (λw E=>nX rfl ((ep.es E.ee)) rfl (by omega) eG) (ss d rfl (λw E=>ag rfl (((ep.es E.ee).sm S).ab rfl) eG) (ss d rfl (λw E=>nX rfl (E.eu (v:=a) (xs:=l) en) rfl (by omega) eG) (ss d rfl (λw E=>jN (c:=#[(oX a sS[0].toNat (O.eo aH)),(oX a sS[j].toNat (O.eo aH))]) (by show pr _ [(0,(oX a sS[0].toNat (O.eo aH))),(1,(oX a sS[j].toNat (O.eo aH)))];rw[z,A];(repeat' (first|exact trivial|refine And.intro ?_ ?_))<;>first|rfl|exact O.ez _|(simp;done)) (by show eK (uQ _ [(0,(oX a sS[0].toNat (O.eo aH))),(1,(oX a sS[j].toNat (O.eo aH)))])=_;rw[z,A];rfl) eG) ?_))));exact nH rfl (Im (c:=#[(oX a sS[0].toNat (O.eo aH)),(oX a sS[j].toNat (O.eo aH))]) (cs:=eK [#[Value.pointer none],#[Value.pointer none]]) E rfl rfl en rfl rfl (by rw[z,A];intro u C;simp at C;rcases C with rfl|rfl<;>rfl) (tH en λw E=>(e2.nil (s6 1 E λw E=>(⟨s,⟨rfl,rfl,rfl,trivial⟩,E.sub aS⟩)))))
       .
         rintro f w ⟨s,D,E⟩;refine il _ D (λg=>?_);clear D;refine eA 1 E λw E=>?_;refine lB (λf w=>∃(F:Int)(m:List aH),oV [(9,N lm),(12,a),(14,.int .i64 F)] f/\U w0 [V a 62 m,B lm (O.enc x) 621] w/\(F=0->x.tq<=1048576)/\uT l m) ?_ ?_
         .
           refine gC 6 (eX [1,2,4,5] (oA [0,3,6,7] .nil)) (by kernel_rfl) (λ_ _ _ h=>h) (λaB M=>?_);replace E:=E.es M;have d:=E;have i:=eY aB;obtain⟨DH,AV⟩:∃u,(tL (⟨x.tag⟩:aa) AB).getD aJ=u:=⟨_,rfl⟩;refine ht 4 d ?_;refine ol rfl (J.call (eay) rfl ?_);rintro _ w ⟨⟨ew3,rfl,uJ,DL⟩,q⟩;replace i:=i.HW q DL uJ;refine⟨i.ee,?_⟩;have E:=iq d i;refine ol rfl (ym (tn:=aa) (tx:=Value) (k:=⟨x.tag⟩) (e7:=l1) (eI:=AB) (z0:=aJ) (inferInstanceAs (oB prog _ .nilFunc)) (E.map en) rfl rfl AV ?_);refine⟨i.ee,?_⟩;have E:=iq d i;refine hO rfl (bf rfl (eaw W X Z dh (E.pick (e:=V a 62 l) en) AV) rfl ?_);rintro _ w ⟨F,m,rfl,P,e5,E⟩;exact hO rfl (iP rfl (e2.nil (s6 1 E λw E=>(⟨_,m,⟨rfl,rfl,rfl,trivial⟩,((E.pick (e:=B lm (O.enc x) 621) en).pick (e:=V a 62 m) en).sub aS,P,e5⟩))))
         .
           rintro f w ⟨F,m,D,E,P,e5⟩;refine il _ D (λg=>?_);clear D;refine eA 6 E<|na 11 3 (λQ nD w E=>?_) (λQ nD w E=>?_)
           .
             exact⟨_,0,_,[],rfl,sH.nil _ _ _,λh=>absurd h (by simpa using Q),by decide,E.ee⟩
           .
             refine nC 10 6 (eX [0,1,2,3,4,5] .nil) [] E λw E=>?_;exact⟨_,_,_,m,rfl,E.cZ en,λ_=>e5,P (by simpa using Q),E.ee⟩
end
section
open Go.Proofs Tryz
variable{S:List eH}{sS ox:List UInt8}{b i j n e9 p n4 lo:Nat}{c:Instr}{um uf:Option Nat}{e:Int}{f:te}{hi qo v eaF:Value}{l:List aH}{r:List o6}{w w' w0 ea:World}{xs:List Instr}{oU:aZ}{o5:ec}
structure sT where
 r:aZ
 l:ec
 tJ:Nat
 tq:Nat
variable{x:sT}
def sT.parts(x:sT):List (Array Value):=[O.enc x.r,#[x.l.v],#[ef x.tJ],#[ef x.tq]]
theorem eaP(x:sT):x.parts.map Array.size=[48,1,1,1]:=by
 simp only[sT.parts,List.map,O.ez];rfl
instance:O sT where
 enc x:=eK x.parts
 eo:=51
 pos:=by omega
 ez x:=by rw[iw,eaP];rfl
 one x:=rD (all_cons (O.one _) (all_cons (O.one (α:=ec) _) (all_cons (oZ _ _) (all_cons (oZ _ _) rC))))
theorem Wv(x:sT):O.enc x=eK x.parts:=rfl
theorem eaG(x:sT):(O.enc x).extract 0 (0+48)=O.enc x.r:=p1 [] [#[x.l.v],#[ef x.tJ],#[ef x.tq]] _ sU (by rw[O.ez];rfl)
theorem eaW(x:sT):(O.enc x)[49]? =some (ef x.tJ):=hu [O.enc x.r,#[x.l.v]] [#[ef x.tq]] _ sU
theorem eaY(x:sT)(v:Nat):iI (O.enc x) 50 #[ef v]=O.enc {x with tq:=v}:=by
 have h:=rL [O.enc x.r,#[x.l.v],#[ef x.tJ]] [] (#[ef x.tq]) (#[ef v]) (by first|(rw[O.ez,O.ez];done)|rfl);rw[show(eK [O.enc x.r,#[x.l.v],#[ef x.tJ]]).size=50 from sU]at h;exact h
instance:nt x [O.enc x.r,#[x.l.v],#[ef x.tJ],#[ef x.tq]]:=⟨rfl⟩
instance(priority:=2000):nt (⟨oU,o5,n4,lo⟩:sT) [O.enc oU,#[o5.v],#[ef n4],#[ef lo]]:=⟨rfl⟩
instance{v:ec}:st (O.enc x) 48 #[v.v] (O.enc {x with l:=v}):=rb
instance{v:Nat}:st (O.enc x) 49 #[ef v] (O.enc {x with tJ:=v}):=rb
instance{v:Nat}:st (O.enc x) 50 #[ef v] (O.enc {x with tq:=v}):=rb
theorem eaB(p:Instr->Bool)(Z:ex w0 v xs)(i:∀w,eV w0 w->∀c:Instr,c∈xs->mN prog hi [.agg (O.enc c)] w (λu w'=>u= .bool (p c)/\eV w w')):eJ 304 #[v,hi] w0 (λu w'=>∃n:Int,u= .int .i64 n/\decide (0<=n)=xs.any p/\eV w0 w'):=by
 have:=aL Z;refine eN 14 (eY _) func304 ntmps304 results304 rfl λw E=>?_;refine ek.loop (λq f w=>∃k:Nat,oV [(0,v),(1,hi),(7,i6 xs.length),(8,i6 k)] f/\U w0 [] w/\(∀j(h:j<xs.length),j<k->p xs[j]=false)/\k<=xs.length/\q=xs.length-k) (xs.length) ?_ ?_
 .
   exact⟨0,⟨rfl,rfl,rfl,rfl,trivial⟩,E,λj _ h=>absurd h (by omega),Nat.zero_le _,rfl⟩
 .
   rintro q f w ⟨k,d,E,e,x,e5⟩;refine il _ d (λg=>?_);clear d;refine eA 6 E<|om 0 12 (λl w E=>?_) (λl w E=>?_)
   .
     have a:k<xs.length:=by omega
     have m:=Z.le;simp only[maxLen]at m;refine eA 16 E ⟨⟨by omega⟩,λ_ w E=>?_⟩;have:=lq a;refine ey 1 E λw E=>?_;refine et (bf rfl (i _ E.ee xs[k] (List.getElem_mem a)) rfl ?_);rintro _ w ⟨rfl,o⟩;replace E:=E.es o;refine ey 2 E<|na 13 8 (λb r w E=>?_) (λb r=>⟨ib,λw E=>?_⟩)
     .
       exact⟨_,rfl,by rw[List.any_eq_true.2 ⟨xs[k],List.getElem_mem a,b⟩];exact decide_eq_true (by omega),E.ee⟩
     .
       exact⟨xs.length-(k+1),by omega,k+1,⟨rfl,rfl,rfl,congrArg (Value.int .i64) (by omega),trivial⟩,E,λj G Y=>(by rcases Nat.lt_or_ge j k with h|h;exact e j G h;obtain rfl:j=k:=(by omega);exact b),by omega,rfl⟩
   .
     refine⟨_,rfl,?_,E.ee⟩;rw[List.any_eq_false.2 (λc s=>by obtain⟨j,t,rfl⟩:=List.getElem_of_mem s;rw[e j t (by omega)];decide)];rfl
theorem eaV(p:Instr->Bool)(Z:ex w0 v xs)(a:∀w,eV w0 w->∀c:Instr,c∈xs->mN prog hi [.agg (O.enc c)] w (λu w'=>u= .bool (p c)/\eV w w')):tS 233 #[v,hi] w0 (.bool (xs.any p)):=by
 refine eN 9 (eY _) func233 ntmps233 results233 rfl λw E=>?_;refine ev 6 E (eaB p (Z.es E.ee) (λw h c=>a w (E.ee.trans h) c)) λn b w E=>?_;exact⟨congrArg Value.bool b,E.ee⟩
theorem eaK(a:an w0 (.pointer (some ⟨b,41,none⟩)) #[qo])(hr:ex w0 qo r):tS 287 #[.agg (O.enc c),N b] w0 (.bool (decide ((r.length:Int)<=(c.program.toNat:Int)))):=by
 refine eN 10 (eY _) func287 ntmps287 results287 rfl λao w E=>?_;refine et (J.conv rfl (wrap_i64 (by have:=wb c.program;omega)) ?_);have:=ir a;have:=aL hr;refine ey 9 E λw E=>?_;exact⟨rfl,E.ee⟩
theorem eaX:tS 368 #[eaF,.agg (O.enc c)] w0 .nilIface:=by
 refine eN 13 (eY _) func368 ntmps368 results368 rfl λt6 w E=>?_;exact⟨rfl,E.ee⟩
def EE(e:Int):Value:=if e=0 then .nilIface else .iface 34 (.int .i64 e)
theorem eaJ:EE 0= .nilIface:=rfl
theorem Wk(h:e≠0):EE e= .iface 34 (.int .i64 e):=if_neg h
theorem eaQ(eC:U ea (B p (O.enc x) 502::V x.l.v 62 l::S) w0)(hr:ex ea x.r.rI.v r)(ep:ex ea c.cS.v sS)(hd:ex ea c.data.v ox)(q:l.length<=100000)(j:∀y∈l,cC y):eJ 369 #[N p,.agg (O.enc c)] w0 (λu w'=>∃(e:Int)(k:ec)(m:List aH)(n:Nat),u=EE e/\uT l m/\n<=x.tq+1048576/\U ea (B p (O.enc ({x with l:=k,tq:=n}:sT)) 502::V k.v 62 m::S) w'):=by
 refine eN 7 eC func369 ntmps369 results369 rfl λt6 w E=>?_;refine gC 18 (eX [0,1,2,3,4,5,6,7,8,9] (.one 10 (eX [11,12,13,14,15,16,17] .nil))) (by kernel_rfl) (λ_ _ _ h=>h) (λaB s=>?_);replace E:=E.es s;have b:=E;have a:=eY aB;refine ht 10 b ?_;refine ol rfl (J.call (eab (E.eu (v:=x.l.v) (xs:=l) en) (hr.es (b.ee.trans a.ee)) (ep.es (b.ee.trans a.ee)) (hd.es (b.ee.trans a.ee)) q j) rfl ?_);rintro _ w ⟨d,n,e,m,rfl,o,e5,A,t⟩;replace a:=a.pB t o.1 o.2;refine⟨a.ee,?_⟩;have E:=iq b a;refine ht 7 b ?_;refine e2.nil (s6 8 E<|na 0 0 (λf z w E=>?_) (λf z w E=>?_))
 .
   have g:e≠0:=by simpa using f
   refine eA 3 E λw E=>?_;exact et (gh rfl (ey 6 E λw E=>(⟨_,x.l,l,x.tq,(Wk g).symm,⟨rfl,j⟩,by omega,((E.pick (e:=V x.l.v 62 l) en).pick (e:=B p (O.enc x) 502) en).sub aS⟩)))
 .
   have g:e=0:=by simpa using f
   obtain⟨i,rfl⟩:=(E.eu (v:=d) (xs:=m) en).mI;refine eA 12 E λw E=>?_;exact et (J.add rfl rfl ((show IntKind.u64.wrap _=((((x.tq+n)%18446744073709551616):Nat):Int)from by rw[IntKind.wrap_u64];omega)) (ey 15 E λw E=>(⟨0,i,m,((x.tq+n)%18446744073709551616),rfl,e5 g,by omega,((E.pick (e:=V i.v 62 m) en).pick (e:=B p (O.enc ({x with l:=i,tq:=((x.tq+n)%18446744073709551616)}:sT)) 502) en).sub aS⟩)))
theorem AQ{P:Program}{I:World->Prop}{ops:Array Oper}{Q:Exit->te->World->Prop}{dz fR:sF}{k l:Op}{m o:TypeId}{p q:String}{r s:Array Edge}
 (ew:ops[i]? =some ⟨um,k,m,p,r,none⟩) (A:ops[j]? =some ⟨uf,l,o,q,s,none⟩) (d:um.all (λx=>Nat.blt x n)=true) (e:uf.all (λx=>Nat.blt x n)=true)
 (G:J P f ⟨um,k,m,p,r,none⟩ w (λv w'=>I w'/\e2 P n ops e9 I Q dz (dM f um v) w'))
 (Y:J P f ⟨uf,l,o,q,s,none⟩ w (λv w'=>I w'/\e2 P n ops e9 I Q fR (dM f uf v) w')):e2 P n ops e9 I Q (.iZ i j dz fR) f w:=by
 have d:∀x,um=some x->x<n:=by intro x Z;subst Z;simpa using d
 have e:∀x,uf=some x->x<n:=by intro x Z;subst Z;simpa using e
 unfold e2 at G Y⊢;intro listed a t u hinv ep y;simp only[dg,Bool.and_eq_true,decide_eq_true_eq]at u;obtain⟨⟨⟨⟨⟨B,C⟩,c⟩,D⟩,fH⟩,up⟩:=u;have z:gR .any ops e9 listed:=(hinv.resolve_right (λh=>by cases h)).1;have E:i∈Region.ready .any ops listed:=by rw[c];simp
 have F:j∈Region.ready .any ops listed:=by rw[c];simp
 refine⟨λem=>(by rw[c]at em;cases em),λx Z=>?_⟩;rw[c]at Z;rcases List.mem_cons.1 Z with rfl|Z
 .unfold wpOp;simp only[ew,Region.wanted,if_true];exact .inl (pY ep G λv w'⟨b,g⟩=>⟨λ_ _=>b,g _ _ t fH (.inl ⟨z.set E B,b⟩) (ep.put (dst:=um) d v) y⟩)
 obtain rfl:x=j:=by simpa using Z
 unfold wpOp;simp only[A,Region.wanted,if_true];refine .inl (pY ep Y λv w'⟨b,g⟩=>⟨λ_ _=>b,?_⟩);show ww P .any ops e9 I _ (lK dz) _ _ _;rw[D];exact g _ _ t up (.inl ⟨z.set F C,b⟩) (ep.put (dst:=uf) e v) y
theorem ea0:dw≠hJ:=by decide+kernel
def g2:Value:=.func (.func 368) #[] #[]
def g3:Value:=.func (.func 369) #[] #[]
def qn(k:ak):Option Value:=if k=dw then some g2 else if k=hJ then some g3 else none
theorem AZ(k:ak):tL k (oC hJ g3 (oC dw g2 []))=qn k:=by
 rw[mT,mT];unfold qn tL;split
 .next h=>subst h;rw[if_neg (λe=>ea0 e.symm)]
 rfl
theorem DG(k:ak):tL k (oC dw g2 (oC hJ g3 []))=qn k:=by
 rw[mT,mT];rfl
theorem Wj:tS 167 #[] w0 (.agg (O.enc dw)):=by
 refine eN 7 (eY _) func167 ntmps167 results167 rfl λb w E=>?_;exact et (yf (k:=dw) (by first|rfl|(simp only[hJ,sZ,dw,sg,iW];rfl)) (by intro p a;first|(exfalso;simp at a;done)|(simp only[List.map_cons,List.map_nil,List.mem_cons,List.not_mem_nil,or_false]at a;rcases a with rfl|rfl|rfl|rfl<;>exact⟨by simp,rfl⟩)) (ey 5 E λw E=>(⟨rfl,E.ee⟩)))
theorem ea1:eJ 332 #[] w0 (λu w'=>∃eI:List (ak×Value),(∀k,tL k eI=qn k)/\HF w0 w' u l1 eI/\eV w0 w'):=by
 refine eN 6 (eY _) func332 ntmps332 results332 rfl λw E=>?_;refine gC 7 (.iZ 0 1 (.one 1 (.iZ 2 3 (oA [3,4] (eX [5,6] .nil)) (.iZ 2 4 (.one 4 (eX [5,6] .nil)) (.one 2 (eX [5,6] .nil))))) (.iZ 0 3 (.iZ 2 3 (oA [3,4] (eX [5,6] .nil)) (.iZ 2 4 (.one 4 (eX [5,6] .nil)) (.one 2 (eX [5,6] .nil)))) (.one 0 (.iZ 2 4 (.one 4 (eX [5,6] .nil)) (.one 2 (eX [5,6] .nil)))))) (by kernel_rfl) (λ_ _ _ h=>h) (λaB d=>?_);replace E:=E.es d;have b:=E;have a:=eY aB;refine e2.iZ rfl rfl rfl rfl ?_ ?_
 .refine J.makeMap ak (l1:Value->Value) a ?_;intro tj w c a;refine⟨a.ee,?_⟩;have E:=iq b a;refine ol rfl (J.call (Wj) rfl ?_);rintro _ w ⟨rfl,c⟩;replace a:=a.es c;refine⟨a.ee,?_⟩;have E:=iq b a;refine AQ rfl rfl rfl rfl ?_ ?_
  .refine J.insert (tn:=ak) (tx:=Value) (k:=dw) (v:=g2) (e7:=l1) a en rfl rfl rfl ?_;intro w a;replace a:=a _ en;refine⟨a.ee,?_⟩;simp only[dM];have E:=iq b a;refine ol rfl (J.call (bG) rfl ?_);rintro _ w ⟨rfl,c⟩;replace a:=a.es c;refine⟨a.ee,?_⟩;have E:=iq b a;refine n8 rfl rfl (J.insert (tn:=ak) (tx:=Value) (k:=hJ) (v:=g3) (e7:=l1) a en rfl rfl rfl ?_);intro w a;replace a:=a _ en;refine⟨a.ee,?_⟩;have E:=iq b a;refine ht 2 b ?_;exact e2.nil (s6 3 E λw E=>(⟨_,AZ,E.vE en,E.ee⟩))
  refine J.call (bG) rfl ?_;rintro _ w ⟨rfl,c⟩;replace a:=a.es c;refine⟨a.ee,?_⟩;simp only[dM];have E:=iq b a;refine AQ rfl rfl rfl rfl ?_ ?_
  .refine J.insert (tn:=ak) (tx:=Value) (k:=dw) (v:=g2) (e7:=l1) a en rfl rfl rfl ?_;intro w a;replace a:=a _ en;refine⟨a.ee,?_⟩;simp only[dM];have E:=iq b a;refine n8 rfl rfl (J.insert (tn:=ak) (tx:=Value) (k:=hJ) (v:=g3) (e7:=l1) a en rfl rfl rfl ?_);intro w a;replace a:=a _ en;refine⟨a.ee,?_⟩;have E:=iq b a;refine ht 2 b ?_;exact e2.nil (s6 3 E λw E=>(⟨_,AZ,E.vE en,E.ee⟩))
  refine J.insert (tn:=ak) (tx:=Value) (k:=hJ) (v:=g3) (e7:=l1) a en rfl rfl rfl ?_;intro w a;replace a:=a _ en;refine⟨a.ee,?_⟩;simp only[dM];have E:=iq b a;refine n8 rfl rfl (J.insert (tn:=ak) (tx:=Value) (k:=dw) (v:=g2) (e7:=l1) a en rfl rfl rfl ?_);intro w a;replace a:=a _ en;refine⟨a.ee,?_⟩;have E:=iq b a;refine ht 2 b ?_;exact e2.nil (s6 3 E λw E=>(⟨_,DG,E.vE en,E.ee⟩))
 refine J.call (Wj) rfl ?_;rintro _ w ⟨rfl,c⟩;replace a:=a.es c;refine⟨a.ee,?_⟩;have E:=iq b a;refine e2.iZ rfl rfl rfl rfl ?_ ?_
 .refine J.makeMap ak (l1:Value->Value) a ?_;intro tj w c a;refine⟨a.ee,?_⟩;have E:=iq b a;refine AQ rfl rfl rfl rfl ?_ ?_
  .refine J.insert (tn:=ak) (tx:=Value) (k:=dw) (v:=g2) (e7:=l1) a en rfl rfl rfl ?_;intro w a;replace a:=a _ en;refine⟨a.ee,?_⟩;simp only[dM];have E:=iq b a;refine ol rfl (J.call (bG) rfl ?_);rintro _ w ⟨rfl,c⟩;replace a:=a.es c;refine⟨a.ee,?_⟩;have E:=iq b a;refine n8 rfl rfl (J.insert (tn:=ak) (tx:=Value) (k:=hJ) (v:=g3) (e7:=l1) a en rfl rfl rfl ?_);intro w a;replace a:=a _ en;refine⟨a.ee,?_⟩;have E:=iq b a;refine ht 2 b ?_;exact e2.nil (s6 3 E λw E=>(⟨_,AZ,E.vE en,E.ee⟩))
  refine J.call (bG) rfl ?_;rintro _ w ⟨rfl,c⟩;replace a:=a.es c;refine⟨a.ee,?_⟩;simp only[dM];have E:=iq b a;refine AQ rfl rfl rfl rfl ?_ ?_
  .refine J.insert (tn:=ak) (tx:=Value) (k:=dw) (v:=g2) (e7:=l1) a en rfl rfl rfl ?_;intro w a;replace a:=a _ en;refine⟨a.ee,?_⟩;simp only[dM];have E:=iq b a;refine n8 rfl rfl (J.insert (tn:=ak) (tx:=Value) (k:=hJ) (v:=g3) (e7:=l1) a en rfl rfl rfl ?_);intro w a;replace a:=a _ en;refine⟨a.ee,?_⟩;have E:=iq b a;refine ht 2 b ?_;exact e2.nil (s6 3 E λw E=>(⟨_,AZ,E.vE en,E.ee⟩))
  refine J.insert (tn:=ak) (tx:=Value) (k:=hJ) (v:=g3) (e7:=l1) a en rfl rfl rfl ?_;intro w a;replace a:=a _ en;refine⟨a.ee,?_⟩;simp only[dM];have E:=iq b a;refine n8 rfl rfl (J.insert (tn:=ak) (tx:=Value) (k:=dw) (v:=g2) (e7:=l1) a en rfl rfl rfl ?_);intro w a;replace a:=a _ en;refine⟨a.ee,?_⟩;have E:=iq b a;refine ht 2 b ?_;exact e2.nil (s6 3 E λw E=>(⟨_,DG,E.vE en,E.ee⟩))
 refine J.call (bG) rfl ?_;rintro _ w ⟨rfl,c⟩;replace a:=a.es c;refine⟨a.ee,?_⟩;have E:=iq b a;refine ol rfl (J.makeMap ak (l1:Value->Value) a ?_);intro tj w c a;refine⟨a.ee,?_⟩;have E:=iq b a;refine AQ rfl rfl rfl rfl ?_ ?_
 .refine J.insert (tn:=ak) (tx:=Value) (k:=dw) (v:=g2) (e7:=l1) a en rfl rfl rfl ?_;intro w a;replace a:=a _ en;refine⟨a.ee,?_⟩;simp only[dM];have E:=iq b a;refine n8 rfl rfl (J.insert (tn:=ak) (tx:=Value) (k:=hJ) (v:=g3) (e7:=l1) a en rfl rfl rfl ?_);intro w a;replace a:=a _ en;refine⟨a.ee,?_⟩;have E:=iq b a;refine ht 2 b ?_;exact e2.nil (s6 3 E λw E=>(⟨_,AZ,E.vE en,E.ee⟩))
 refine J.insert (tn:=ak) (tx:=Value) (k:=hJ) (v:=g3) (e7:=l1) a en rfl rfl rfl ?_;intro w a;replace a:=a _ en;refine⟨a.ee,?_⟩;simp only[dM];have E:=iq b a;refine n8 rfl rfl (J.insert (tn:=ak) (tx:=Value) (k:=dw) (v:=g2) (e7:=l1) a en rfl rfl rfl ?_);intro w a;replace a:=a _ en;refine⟨a.ee,?_⟩;have E:=iq b a;refine ht 2 b ?_;exact e2.nil (s6 3 E λw E=>(⟨_,DG,E.vE en,E.ee⟩))
section
open Go.RowKit Go.Extern.Stop Go.Stop Go.Extern
theorem ea2(t:Value)(w:World):Calls prog 290 #[.nilIface,t] w λe w'=>e= .returned (.bool false)/\w'=w:=by
 go_enter func290,ntmps290
 go_wp2
 go_ret
 exact⟨rfl,rfl⟩
theorem ea5(t:Addr)(w:World):(ReflectliteValue.unpack (.iface 505 (.pointer (some t)))).run prog w= .ok (.agg #[.pointer (some ⟨8,505,none⟩),.pointer (some ⟨w.heap.size,0,none⟩),.int .u64 150]) (w.alloc (.cells #[.pointer (some t)] 505)):=by kernel_rfl
theorem ea6(a:Addr)(w:World):(ReflectliteValue.methodAny (ReflectliteValue.valueError "reflectlite.Value.Type" 0) (λt _ _ _=>ReflectliteType.toType t) #[.agg #[.pointer (some ⟨8,505,none⟩),.pointer (some a),.int .u64 150]]).run prog w= .ok (.iface 332 (.agg #[.pointer (some ⟨8,505,none⟩)])) w:=by kernel_rfl
theorem ea7(h:Value)(w:World):(Go.method 773 332 (.agg #[h]) "Kind").run prog w= .ok (424,h) w:=by kernel_rfl
theorem ea8(w:World):((ReflectliteType.abiMethod λt=>(λa:Nat=>Value.int IntKind.u8 (a:Int))<$>Rtype.kind t) #[.pointer (some ⟨8,505,none⟩)]).run prog w= .ok (.int .u8 22) w:=by kernel_rfl
theorem ea9(w:World):((ReflectliteType.abiMethod λt=>(λa:Nat=>Value.int IntKind.u8 (a:Int))<$>Rtype.kind t) #[.pointer (some ⟨8,34,none⟩)]).run prog w= .ok (.int .u8 2) w:=by kernel_rfl
theorem Wz(z:Sem Value)(f:TypeId->Addr->Nat->Nat->Sem Value)(v:Value):
 ReflectliteValue.method z f #[v]=(do match<-ReflectliteValue.parts v with|none=>z|some (t,a,tf)=>f t a tf (tf%32)):=rfl
theorem WE(a:Addr)(w:World):(ReflectliteValue.parts (.agg #[.pointer (some ⟨8,505,none⟩),.pointer (some a),.int .u64 150])).run prog w= .ok (some (505,a,150)) w:=by kernel_rfl
theorem eoe(a p:Addr)(W:World)(ep:W.cell? a=some (.pointer (some p))):
 (ReflectliteValue.method (ReflectliteValue.valueError "reflectlite.Value.IsNil" 0) ReflectliteValue.isNil #[.agg #[.pointer (some ⟨8,505,none⟩),.pointer (some a),.int .u64 150]]).run prog W= .ok (.bool false) W:=by
 rw[Wz];simp only[Sem.run_bind,WE,Result.andThen];simp[ReflectliteValue.isNil,loadVar,isAgg,underlying,underlying505,ep,Result.andThen]
theorem eot(h:Value)(w:World):(Go.method 773 332 (.agg #[h]) "Elem").run prog w= .ok (436,.agg #[h]) w:=by kernel_rfl
theorem eoa(h:Value)(w:World):(Go.method 773 332 (.agg #[h]) "Implements").run prog w= .ok (437,.agg #[h]) w:=by kernel_rfl
theorem eoo(h:Value)(w:World):(Go.method 773 332 (.agg #[h]) "AssignableTo").run prog w= .ok (434,.agg #[h]) w:=by kernel_rfl
theorem eoi(w:World):(ReflectliteType.method ReflectliteType.elem #[.agg #[.pointer (some ⟨8,505,none⟩)]]).run prog w= .ok (.iface 332 (.agg #[.pointer (some ⟨8,34,none⟩)])) w:=by kernel_rfl
theorem eon(w:World):(ReflectliteType.relation "Implements" ReflectliteType.implements_ #[.agg #[.pointer (some ⟨8,34,none⟩)],.iface 332 (.agg #[.pointer (some ⟨8,214,none⟩)])]).run prog w= .ok (.bool true) w:=by kernel_rfl
theorem eos(v:Value)(w:World):(ReflectliteType.typeOf #[.iface 34 v]).run prog w= .ok (.iface 332 (.agg #[.pointer (some ⟨8,34,none⟩)])) w:=by kernel_rfl
theorem eor(w:World):(ReflectliteType.relation "AssignableTo" ReflectliteType.assignableTo #[.agg #[.pointer (some ⟨8,34,none⟩)],.iface 332 (.agg #[.pointer (some ⟨8,34,none⟩)])]).run prog w= .ok (.bool true) w:=by kernel_rfl
theorem eoh(n:Int)(w:World):(ReflectliteValue.unpack (.iface 34 (.int .i64 n))).run prog w= .ok (.agg #[.pointer (some ⟨8,34,none⟩),.pointer (some ⟨w.heap.size,0,none⟩),.int .u64 130]) (w.alloc (.cells #[.int .i64 n] 34)):=by kernel_rfl
theorem eol(w:World):(Rtype.elem? 505).run prog w= .ok (some 34) w:=by kernel_rfl
theorem eod(p:Addr)(w:World):(ReflectliteValue.mk 34 p ReflectliteValue.flagAddr).run prog w= .ok (.agg #[.pointer (some ⟨8,34,none⟩),.pointer (some p),.int .u64 386]) w:=by kernel_rfl
theorem eoc(a p:Addr)(W:World)(ep:W.cell? a=some (.pointer (some p))):
 (ReflectliteValue.method (ReflectliteValue.valueError "reflectlite.Value.Elem" 0) ReflectliteValue.elem #[.agg #[.pointer (some ⟨8,505,none⟩),.pointer (some a),.int .u64 150]]).run prog W= .ok (.agg #[.pointer (some ⟨8,34,none⟩),.pointer (some p),.int .u64 386]) W:=by
 rw[Wz];simp only[Sem.run_bind,WE,Result.andThen];simp[ReflectliteValue.elem,loadVar,isAgg,underlying,underlying505,ep,Result.andThen,eol,eod]
theorem eou(v x:Value):ReflectliteValue.set #[v,x]=(do
 let(some (dst,a,tf),some (src,b,_)):=(<-ReflectliteValue.parts v,<-ReflectliteValue.parts x)
  |unsupported (.noEntry "extern/(internal/reflectlite.Value).Set.zeroValue")
 if tf/ReflectliteValue.flagAddr%2==0 then unsupported (.noEntry "extern/(internal/reflectlite.Value).Set.unaddressable")
 let val<-loadVar src b
 if<-Rtype.directlyAssignable dst src then storeVar dst a val
 else if<-Rtype.implements dst src then
  if(<-Rtype.kind src)==20 then
   match val with
   | .nilIface=>unsupported (.noEntry "extern/reflectlite: a nil value of one interface type handed on as a value of another")
   |_=>storeVar dst a val
  else storeVar dst a (.iface src val)
 else panicString ("reflectlite.Set: value of type "++(<-Rtype.spelt src)++ " is not assignable to type "++(<-Rtype.spelt dst))
 pure (.tuple #[])):=rfl
theorem eom(a:Addr)(w:World):(ReflectliteValue.parts (.agg #[.pointer (some ⟨8,34,none⟩),.pointer (some a),.int .u64 386])).run prog w= .ok (some (34,a,386)) w:=by kernel_rfl
theorem eof(a:Addr)(w:World):(ReflectliteValue.parts (.agg #[.pointer (some ⟨8,34,none⟩),.pointer (some a),.int .u64 130])).run prog w= .ok (some (34,a,130)) w:=by kernel_rfl
theorem eop(w:World):(Rtype.directlyAssignable 34 34).run prog w= .ok true w:=by kernel_rfl
theorem eog(ar:Nat)(b:Addr)(n:Int)(cs:Array Value)(eb:TypeId)(W:World)(hb:W.cell? b=some (.int .i64 n))(c:W.heap[ar]? =some (.cells cs eb (0,0)))(e:1<=cs.size):
 (ReflectliteValue.set #[.agg #[.pointer (some ⟨8,34,none⟩),N ar,.int .u64 386],.agg #[.pointer (some ⟨8,34,none⟩),.pointer (some b),.int .u64 130]]).run prog W
  = .ok (.tuple #[]) (W.setRow ar (cs.toList.take 0++(Value.int .i64 n).cells.toList++cs.toList.drop (0+(Value.int .i64 n).cells.toList.length)).toArray):=by
 have d:=Iu (P:=prog) (T:=34) (eo:=1) inferInstance c 0 (.int .i64 n) rfl (by omega) (by intro u a;simp[Value.cells]at a;subst a;rfl);rw[eou];simp only[Sem.run_bind,eom,eof,Result.andThen];simp[ReflectliteValue.flagAddr,loadVar,isAgg,underlying,underlying34,hb,Result.andThen,eop];simp only[Sem.run_bind,d,Result.andThen];rfl
end
section
open Go.RowKit Go.Extern.Stop Go.Stop Go.Extern
abbrev DW(ar:Nat)(w:World):World:=w.alloc (.cells #[N ar] 505)
abbrev A0(ar:Nat)(w:World):World:=(DW ar w).alloc (.cells #[.pointer (some ⟨8,505,none⟩),.pointer (some ⟨w.heap.size,0,none⟩),.int .u64 150] 562)
abbrev SI(ar:Nat)(w:World):World:=(A0 ar w).alloc (.cells #[.pointer (some ⟨8,505,none⟩),.pointer (some ⟨w.heap.size,0,none⟩),.int .u64 150] 562)
abbrev SN(n:Int)(ar:Nat)(w:World):World:=(SI ar w).alloc (.cells #[.int .i64 n] 34)
def ErrLaid(w:World):Prop:=w.cell? ⟨6,0,none⟩=some (.iface 332 (.agg #[.pointer (some ⟨8,214,none⟩)]))
theorem ErrLaid.es{w w':World}(hb:eV w w')(h:ErrLaid w):ErrLaid w':=hb.cell h
theorem eow(n:Int)(ar:Nat)(cs:Array Value)(eb:TypeId)(w:World)(a:ErrLaid w)(b:w.heap[ar]? =some (.cells cs eb (0,0)))(c:1<=cs.size):
 Calls prog 290 #[.iface 34 (.int .i64 n),.iface 505 (N ar)] w λeD w'=>eD= .returned (.bool true)/\w'=(SN n ar w).setRow ar (cs.toList.take 0++(Value.int .i64 n).cells.toList++cs.toList.drop (0+(Value.int .i64 n).cells.toList.length)).toArray:=by
 unfold ErrLaid at a;have a2:= @run_callFunc_extern prog 333 _ (λargs=>ReflectliteValue.unpack (args.getD 0 (.tuple #[]))) func333 (by kernel_rfl) (by kernel_rfl) (by kernel_rfl) (by kernel_rfl);have iK:= @run_callFunc_extern prog 334 _ (ReflectliteValue.methodAny (ReflectliteValue.valueError "reflectlite.Value.Type" 0) (λt _ _ _=>ReflectliteType.toType t)) func334 (by kernel_rfl) (by kernel_rfl) (by kernel_rfl) (by kernel_rfl);have iG:= @run_callFunc_extern prog 335 _ (ReflectliteValue.method (ReflectliteValue.valueError "reflectlite.Value.IsNil" 0) ReflectliteValue.isNil) func335 (by kernel_rfl) (by kernel_rfl) (by kernel_rfl) (by kernel_rfl);have d:= @run_callFunc_extern prog 424 _ (ReflectliteType.abiMethod λt=>do pure (.int .u8 (<-Rtype.kind t))) func424 (by kernel_rfl) (by kernel_rfl) (by kernel_rfl) (by kernel_rfl);have e:= @run_callFunc_extern prog 436 _ (ReflectliteType.method ReflectliteType.elem) func436 (by kernel_rfl) (by kernel_rfl) (by kernel_rfl) (by kernel_rfl);have f:= @run_callFunc_extern prog 437 _ (ReflectliteType.relation "Implements" ReflectliteType.implements_) func437 (by kernel_rfl) (by kernel_rfl) (by kernel_rfl) (by kernel_rfl);have hh:= @run_callFunc_extern prog 83 _ ReflectliteType.typeOf func83 (by kernel_rfl) (by kernel_rfl) (by kernel_rfl) (by kernel_rfl);have g:= @run_callFunc_extern prog 434 _ (ReflectliteType.relation "AssignableTo" ReflectliteType.assignableTo) func434 (by kernel_rfl) (by kernel_rfl) (by kernel_rfl) (by kernel_rfl);have l5:= @run_callFunc_extern prog 371 _ (ReflectliteValue.method (ReflectliteValue.valueError "reflectlite.Value.Elem" 0) ReflectliteValue.elem) func371 (by kernel_rfl) (by kernel_rfl) (by kernel_rfl) (by kernel_rfl);have uV:= @run_callFunc_extern prog 372 _ ReflectliteValue.set func372 (by kernel_rfl) (by kernel_rfl) (by kernel_rfl) (by kernel_rfl);have h:=eos;have i:=eoo;have a25:=eor;have v25:=eoh;have f6:=ea5;have f7:=ea6;have j:=ea7;have Zs:=eot;have k:=eoa;have l:=ea8;have m:=ea9;have o:=eoi;have i25:=eon;have hQ:=eoe ⟨w.heap.size,0,none⟩ ⟨ar,0,none⟩ (A0 ar w) (by simp);have hlt:6<w.heap.size:=World.block_lt_of_cell? w ⟨6,0,none⟩ a;have q:(A0 ar w).cell? ⟨6,0,none⟩=some (.iface 332 (.agg #[.pointer (some ⟨8,214,none⟩)])):=by
  rw[World.cell?_alloc_lt _ _ ⟨6,0,none⟩ (by first|(simp;done)|(simp;omega)),World.cell?_alloc_lt _ _ ⟨6,0,none⟩ hlt];exact a
 have r:ar<w.heap.size:=(Array.getElem?_eq_some_iff.1 b).1;have p:(SN n ar w).heap[ar]? =some (.cells cs eb (0,0)):=by
  have ni:=eV.alloc w (.cells #[N ar] 505);have ao:=eV.alloc (DW ar w) (.cells #[.pointer (some ⟨8,505,none⟩),.pointer (some ⟨w.heap.size,0,none⟩),.int .u64 150] 562);have t6:=eV.alloc (A0 ar w) (.cells #[.pointer (some ⟨8,505,none⟩),.pointer (some ⟨w.heap.size,0,none⟩),.int .u64 150] 562);have aW:=eV.alloc (SI ar w) (.cells #[.int .i64 n] 34);exact(((ni.trans ao).trans t6).trans aW).get b
 have el:=eoc ⟨w.heap.size,0,none⟩ ⟨ar,0,none⟩ (SI ar w) (by rw[World.cell?_alloc_lt _ _ ⟨w.heap.size,0,none⟩ (by simp;omega)];simp);have eW:=eog ar ⟨w.heap.size+1+1+1,0,none⟩ n cs eb (SN n ar w) (by rw[World.cell?_alloc_at _ _ _ _ (by simp)];rfl) p c
 go_enter func290,ntmps290
 go_wp2
 refine wp_loop_rounds 1 ?_;rw[rounds_succ]
 go_wp2
 go_ret
 refine⟨rfl,?_⟩;simp[Value.cells]
end
end
end Go.Fer
