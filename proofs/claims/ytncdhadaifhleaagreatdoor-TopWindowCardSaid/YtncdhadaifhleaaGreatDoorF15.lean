import Derived.Test.YtncdhadaifhleaaGreatDoorF12
import Derived.Test.YtncdhadaifhleaaGreatDoorF14
set_option linter.all false
set_option synthInstance.maxSize 100000
set_option synthInstance.maxHeartbeats 400000
set_option maxHeartbeats 8000000
set_option maxRecDepth 100000
namespace Go.Fer
open Go Go.RowKit
section
open Go.Proofs Tryz
variable{S:List eH}{a b ow k p tq y o5 n4:Nat}{td:List ak}{l:List aa}{v:Value}{w w' w0:World}{oU:uN}{lo:Option Nat}
structure dQ where
 pA:uN
 block:Nat
 tq:Nat
 of:Option Nat
variable{x:dQ}
def dQ.parts(x:dQ):List (Array Value):=[O.enc x.pA,#[ef x.block],#[ef x.tq],#[.map x.of]]
theorem ehy(x:dQ):x.parts.map Array.size=[3,1,1,1]:=by
 simp only[dQ.parts,List.map,O.ez];rfl
instance:O dQ where
 enc x:=eK x.parts
 eo:=6
 pos:=by omega
 ez x:=by rw[iw,ehy];rfl
 one x:=rD (all_cons (O.one _) (all_cons (oZ _ _) (all_cons (oZ _ _) (all_cons (ze _) rC))))
theorem ehb(x:dQ):(O.enc x)[3]? =some (ef x.block):=hu [O.enc x.pA] [#[ef x.tq],#[.map x.of]] _ sU
theorem ehv(x:dQ):(O.enc x)[4]? =some (ef x.tq):=hu [O.enc x.pA,#[ef x.block]] [#[.map x.of]] _ sU
theorem Bn(x:dQ):(O.enc x)[5]? =some (.map x.of):=hu [O.enc x.pA,#[ef x.block],#[ef x.tq]] [] _ sU
theorem CB(x:dQ)(v:Nat):iI (O.enc x) 3 #[ef v]=O.enc {x with block:=v}:=by
 have h:=rL [O.enc x.pA] [#[ef x.tq],#[.map x.of]] (#[ef x.block]) (#[ef v]) (by first|(rw[O.ez,O.ez];done)|rfl);rw[show(eK [O.enc x.pA]).size=3 from sU]at h;exact h
theorem CV(x:dQ)(v:Nat):iI (O.enc x) 4 #[ef v]=O.enc {x with tq:=v}:=by
 have h:=rL [O.enc x.pA,#[ef x.block]] [#[.map x.of]] (#[ef x.tq]) (#[ef v]) (by first|(rw[O.ez,O.ez];done)|rfl);rw[show(eK [O.enc x.pA,#[ef x.block]]).size=4 from sU]at h;exact h
instance(priority:=2000):nt (⟨oU,o5,n4,lo⟩:dQ) [O.enc oU,#[ef o5],#[ef n4],#[.map lo]]:=⟨rfl⟩
structure sa where
 ls:uN
 block:Nat
 tq:Nat
 r:Nat
 eI:List (ak×Nat)
variable{d d':sa}
def dD(n:Nat):Value:=ef n
def sa.l3(d:sa)(k:ak):Nat:=(tL k d.eI).getD 0
@[irreducible] def fb (p:Nat) (d:sa):eH:=hC [B p (O.enc (dQ.mk d.ls d.block d.tq (some d.r))) 434,tM d.r dD d.eI]
theorem U.ehk(h:U w0 (fb p d::S) w):U w0 (B p (O.enc (dQ.mk d.ls d.block d.tq (some d.r))) 434::tM d.r dD d.eI::S) w:=by
 unfold fb at h;exact h.de
theorem U.CK(d:sa)(h:U w0 (B p (O.enc (dQ.mk d.ls d.block d.tq (some d.r))) 434::tM d.r dD d.eI::S) w):U w0 (fb p d::S) w:=by
 unfold fb;exact U.closed (l:=[B p (O.enc (dQ.mk d.ls d.block d.tq (some d.r))) 434,tM d.r dD d.eI]) h
def CX(w:World)(p:Nat)(d:sa):Prop:=an w (N p) (O.enc (dQ.mk d.ls d.block d.tq (some d.r)))/\hV w d.r dD d.eI
theorem U.Bs(h:U w0 S w)(a:tP (fb p d) S):CX w p d:=by
 have G:=h.get a;unfold fb at G;rw[p2]at G;refine⟨?_,?_⟩
 .have:=G.2 (B p (O.enc (dQ.mk d.ls d.block d.tq (some d.r))) 434) (by simp);unfold B at this;exact an.dF this
 have:=G.2 (tM d.r dD d.eI) (by simp);rw[mA]at this;exact this
def b0(d:sa)(ow:Nat)(td:List ak)(tq:Nat):Int:=
 if d.ls.block<nO d.block ow then 24 else if td.any (λk=>decide (d.ls.cr<nO (d.l3 k) ow))=true then 25 else if d.ls.tq<nO d.tq tq then 26 else 0
def Rm(d:sa)(ow:Nat)(td:List ak)(tq:Nat)(d':sa):Prop:=
 d'.ls=d.ls/\d'.block=nO d.block ow/\d'.tq=nO d.tq tq/\∀k,d'.l3 k=if k∈td then nO (d.l3 k) ow else d.l3 k
def wV(l:List aa):Nat:=l.foldl (λn x=>nO n x.n) 0
theorem ehx(l:List aa):l.foldl (λn x=>nO n x.n) 18446744073709551615=18446744073709551615:=by
 induction l with
 |nil=>rfl
 |cons x l a=>
  rw[List.foldl_cons];have:nO 18446744073709551615 x.n=18446744073709551615:=by unfold nO;split<;>omega
  rw[this];exact a
theorem Br(a:k<l.length):wV (l.take (k+1))=nO (wV (l.take k)) l[k].n:=by
 unfold wV;rw[List.take_succ_eq_append_getElem a,List.foldl_append];rfl
theorem ehj(a:k<l.length)(h:18446744073709551616<=wV (l.take k)+l[k].n):wV l=18446744073709551615:=by
 have e:l=l.take (k+1)++l.drop (k+1):=(List.take_append_drop _ _).symm;have G:=Br a;have Y:nO (wV (l.take k)) l[k].n=18446744073709551615:=by unfold nO;split<;>omega
 rw[Y]at G;rw[e];unfold wV at G⊢;rw[List.foldl_append,G,ehx]
theorem b1(ep:a<18446744073709551616):wV [⟨a⟩,⟨b⟩]=nO a b:=by
 show nO (nO 0 a) b=nO a b;have:nO 0 a=a:=by unfold nO;split<;>omega
 rw[this]
theorem ehq{x:Nat}:(callFunc 171 #[ef x,ef y,.int .u64 0]).run prog w= .ok (.value (.tuple #[.int .u64 (((x+y)%18446744073709551616:Nat):Int),.int .u64 (((x+y)/18446744073709551616:Nat):Int)])) w:=
 F0 func171 (by kernel_rfl) (by kernel_rfl) (by kernel_rfl) (by kernel_rfl) x y w
def yV(d:sa):Prop:=d.block<18446744073709551616/\d.tq<18446744073709551616/\∀k,d.l3 k<18446744073709551616
theorem Rm.ok(h:Rm d ow td tq d')(hd:yV d):yV d':=by
 obtain⟨_,Y,ej,e8⟩:=h;refine⟨by rw[Y];exact IB _ _,by rw[ej];exact IB _ _,λk=>?_⟩;rw[e8];split
 .exact IB _ _
 exact hd.2.2 k
theorem b2(Z:ex w0 v l):tS 397 #[v] w0 (.int .u64 (wV l:Int)):=by
 have:=aL Z;refine eN 14 (eY _) func397 ntmps397 results397 rfl λw E=>?_;refine ek.loop (λq f w=>∃k:Nat,oV [(2,.int .u64 ((wV (l.take k)):Int)),(7,v),(8,i6 l.length),(9,i6 k)] f/\U w0 [] w/\k<=l.length/\q=l.length-k) (l.length) ?_ ?_
 .
   exact⟨0,⟨rfl,rfl,rfl,rfl,trivial⟩,E,Nat.zero_le _,rfl⟩
 .
   rintro q f w ⟨k,c,E,m,e5⟩;refine il _ c (λg=>?_);clear c;refine eA 6 E<|om 0 0 (λd w E=>?_) (λd w E=>?_)
   .
     have a:k<l.length:=by omega
     have e:=Z.le;simp only[maxLen]at e;have h:=Br a;refine eA 7 E ⟨⟨by omega⟩,λ_ w E=>?_⟩;have:=lq a;refine ey 8 E λw E=>?_;refine et (TY (ehq) rfl (ey 14 E<|om 13 0 (λi w E=>?_) (λi w E=>?_)))
     .
       exact⟨congrArg (λn:Nat=>Value.int .u64 (n:Int)) (ehj a (by omega)).symm,E.ee⟩
     .
       have b:nO (wV (l.take k)) l[k].n=((wV (l.take k))+l[k].n)%18446744073709551616:=by unfold nO;rw[if_pos (by omega),Nat.mod_eq_of_lt (by omega)]
       refine eA 13 E ⟨ib,λw E=>?_⟩;exact⟨l.length-(k+1),by omega,k+1,⟨congrArg (Value.int .u64) (by rw[h];exact congrArg _ b.symm),rfl,rfl,congrArg (Value.int .i64) (by omega),trivial⟩,E,by omega,rfl⟩
   .
     have j:k=l.length:=by omega
     subst j;rw[List.take_length];refine eA 13 E λw E=>?_;exact⟨rfl,E.ee⟩
theorem ehE(ep:CX w0 p d)(c:yV d)(e:ex w0 v td):tS 396 #[N p,ef ow,v,ef tq] w0 (i6 (b0 d ow td tq)):=by
 have:=ir ep.1;refine eN 19 (eY _) func396 ntmps396 results396 rfl<|na 0 4 (λn o w E=>?_) (λ_ o w E=>?_)
 .
   simp at n
 .
   refine nC 10 13 (eX [0,1,2,3,4,7,8,9,10,11] (oA [5,6] (.look 12 .nil))) [] E λw E=>?_;refine ol rfl (n7 E (([⟨d.block⟩,⟨ow⟩]:List aa)) [ef d.block,ef ow] rfl rfl rfl rfl (by decide) ?_);intro r w a E;refine⟨pp E,?_⟩;refine ol rfl (J.call (b2 (E.eu en)) rfl ?_);rintro _ w ⟨rfl,a⟩;replace E:=E.es a;rw[b1 c.1];refine⟨pp E,?_⟩;refine t7 3 E<|om 8 0 (λs w E=>?_) (λs w E=>?_)
   .
     have G:d.ls.block<nO d.block ow:=by omega
     exact⟨congrArg (Value.int .i64) (if_pos G).symm,E.ee⟩
   .
     have G:¬d.ls.block<nO d.block ow:=by omega
     have:=aL e;refine eA 11 E λw E=>?_;refine ek.loop (λq f w=>∃k:Nat,oV [(0,N p),(1,ef ow),(3,ef tq),(33,v),(34,i6 td.length),(35,i6 k)] f/\U w0 [] w/\(∀j(b:j<td.length),j<k->¬d.ls.cr<nO (d.l3 td[j]) ow)/\k<=td.length/\q=td.length-k) (td.length) ?_ ?_
     .
       exact⟨0,⟨rfl,rfl,rfl,rfl,rfl,rfl,trivial⟩,E.sub aS,λj _ h=>by omega,Nat.zero_le _,rfl⟩
     .
       rintro q f w ⟨k,i,E,l,H,e5⟩;refine il _ i (λg=>?_);clear i;refine eA 6 E<|om 0 0 (λt w E=>?_) (λt w E=>?_)
       .
         have m:k<td.length:=by omega
         have y:=e.le;simp only[maxLen]at y;refine eA 7 E ⟨⟨by omega⟩,λ_ w E=>?_⟩;have:=lq m;refine ey 6 E λI=>?_;refine aC 5 15 (eX [0,1,2,3,4,5,6,9,10,11,12,13] (oA [7,8] (.look 14 .nil))) [] λw E=>?_;refine tl rfl (λw E=>ym (tn:=ak) (k:=td[k]) (e7:=dD) (z0:=0) (u:=d.l3 td[k]) inferInstance (ep.2.es E.ee) rfl rfl rfl eG) ?_;refine t7 6 E λw E=>?_;refine ol rfl (n7 E (([⟨d.l3 td[k]⟩,⟨ow⟩]:List aa)) [.int .u64 (d.l3 td[k]:Int),ef ow] rfl rfl rfl rfl (by decide) ?_);intro z w a E;refine⟨pp E,?_⟩;refine ol rfl (J.call (b2 (E.eu en)) rfl ?_);rintro _ w ⟨rfl,a⟩;replace E:=E.es a;rw[b1 (c.2.2 _)];refine⟨pp E,?_⟩;refine t7 3 E<|om 12 8 (λA w E=>?_) (λA=>⟨ib,λw E=>?_⟩)
         .
           have Y:td.any (λk=>decide (d.ls.cr<nO (d.l3 k) ow))=true:=List.any_eq_true.2 ⟨td[k],List.getElem_mem m,decide_eq_true (by omega)⟩;exact⟨congrArg (Value.int .i64) (by unfold b0;rw[if_neg G,if_pos Y]),E.ee⟩
         .
           refine⟨td.length-(k+1),by omega,k+1,⟨rfl,rfl,rfl,rfl,rfl,congrArg (Value.int .i64) (by omega),trivial⟩,E.sub aS,λj b K=>?_,by omega,rfl⟩;rcases Nat.lt_or_ge j k with h|h
           .exact l j b h
           obtain rfl:j=k:=by omega
           omega
       .
         have L:k=td.length:=by omega
         have Y:¬td.any (λk=>decide (d.ls.cr<nO (d.l3 k) ow))=true:=by
          intro B;obtain⟨x,Z,C⟩:=List.any_eq_true.1 B;obtain⟨j,b,rfl⟩:=List.getElem_of_mem Z;exact l j b (by omega) (of_decide_eq_true C)
         refine eA 7 E ?_;refine aC 10 13 (eX [0,1,2,3,4,7,8,9,10,11] (oA [5,6] (.look 12 .nil))) [] λw E=>?_;refine ol rfl (n7 E (([⟨d.tq⟩,⟨tq⟩]:List aa)) [ef d.tq,ef tq] rfl rfl rfl rfl (by decide) ?_);intro D w a E;refine⟨pp E,?_⟩;refine ol rfl (J.call (b2 (E.eu en)) rfl ?_);rintro _ w ⟨rfl,a⟩;replace E:=E.es a;rw[b1 c.2.1];refine⟨pp E,?_⟩;refine t7 3 E<|om 8 9 (λF w E=>?_) (λF w E=>?_)
         .
           have ej:d.ls.tq<nO d.tq tq:=by omega
           exact⟨congrArg (Value.int .i64) (by unfold b0;rw[if_neg G,if_neg Y,if_pos ej]),E.ee⟩
         .
           have ej:¬d.ls.tq<nO d.tq tq:=by omega
           exact⟨congrArg (Value.int .i64) (by unfold b0;rw[if_neg G,if_neg Y,if_neg ej]),E.ee⟩
theorem Bh(ep:CX w0 p d):tS 216 #[N p] w0 (ef d.block):=by
 refine eN 12 (eY _) func216 ntmps216 results216 rfl<|have:=ir ep.1;na 0 13 (λa b w E=>?_) (λ_ b w E=>?_)
 .
   simp at a
 .
   exact⟨rfl,E.ee⟩
theorem ehT{l:uN}:eJ 158 #[.agg (O.enc l)] w0 (λu w'=>∃p d,u=N p/\d.ls=l/\d.block=0/\d.tq=0/\(∀k,d.l3 k=0)/\jk w0 w' (fb p d)/\eV w0 w'):=by
 refine eN 9 (eY _) func158 ntmps158 results158 rfl λni w E=>?_;refine et (J.makeMap ak dD E ?_);intro tj w _ E;refine af 6 E (p5 ((dQ.mk l 0 0 (some tj)):dQ)) λa w E=>?_;refine⟨a,⟨l,0,0,tj,[]⟩,rfl,rfl,rfl,rfl,λk=>rfl,?_,E.ee⟩;replace E:=E.sub (tp:=[B a (O.enc (dQ.mk l 0 0 (some tj))) 434,tM tj dD ([]:List (ak×Nat))]) aS;exact(E.CK (S:=[]) ⟨l,0,0,tj,[]⟩).zi .nW
variable{c i:Nat}{ne re:List (ak×Nat)}{is:List Nat}{ri:List ak}{ea:World}
def ku(d:sa)(ow:Nat)(td:List ak)(re:List (ak×Nat)):Prop:=∀x,tL x re=if x∈td then some (nO (d.l3 x) ow)else none
theorem ku.nil(d:sa)(ow:Nat):ku d ow [] []:=λx=>by simp[tL]
theorem ku.step(a:k<td.length)(h:ku d ow (td.take k) re):ku d ow (td.take (k+1)) (oC td[k] (nO (d.l3 td[k]) ow) re):=by
 intro x;have e5:x∈td.take (k+1)↔x∈td.take k∨x=td[k]:=by rw[List.take_succ_eq_append_getElem a,List.mem_append,List.mem_singleton]
 rw[mT,h x];by_cases e:x=td[k]
 .rw[if_pos e,if_pos (e5.2 (.inr e)),e]
 rw[if_neg e];by_cases Z:x∈td.take k
 .rw[if_pos Z,if_pos (e5.2 (.inl Z))]
 rw[if_neg Z,if_neg (λh=>(e5.1 h).elim Z e)]
theorem CJ{tn tx:Type}[DecidableEq tn]:∀{l:List (tn×tx)}{i:Nat}(ew:i<l.length),(l.map Prod.fst).Nodup->tL (l[i]'ew).1 l=some (l[i]'ew).2
 |(x,v)::r,0,_,_=>by simp[tL]
 |(x,v)::r,i+1,ew,a=>by
  simp only[List.map_cons,List.nodup_cons]at a;have b:i<r.length:=by simpa using ew
  have c:=CJ b a.2;have d:r[i].1≠x:=λe=>a.1 (e▸List.mem_map_of_mem (List.getElem_mem b));simp[tL,d,c]
theorem Bl{tn tx:Type}[DecidableEq tn]:∀{l:List (tn×tx)}{k:tn}{v:tx},tL k l=some v->∃i,∃ew:i<l.length,(l[i]'ew).1=k
 |(x,u)::r,k,v,h=>by
  by_cases a:k=x
  .exact⟨0,by simp,by simp[a]⟩
  simp[tL,a]at h;obtain⟨i,ew,e⟩:=Bl h;exact⟨i+1,by simpa using ew,by simpa using e⟩
def km(d:sa)(ow:Nat)(re:List (ak×Nat))(is:List Nat)(ne:List (ak×Nat)):Prop:=
 (∀i∈is,∀ew:i<re.length,(tL (re[i]'ew).1 ne).getD 0=nO (d.l3 (re[i]'ew).1) ow)/\∀x,(∀i∈is,∀ew:i<re.length,(re[i]'ew).1≠x) ->(tL x ne).getD 0=d.l3 x
theorem km.nil(d:sa)(ow:Nat)(re:List (ak×Nat)):km d ow re [] d.eI:=⟨λi h=>(by cases h),λx _=>rfl⟩
theorem km.step(ew:i<re.length)(c:(re.map Prod.fst).Nodup)(f:ku d ow td re)(h:km d ow re is ne):
 km d ow re (is++[i]) (oC re[i].1 re[i].2 ne):=by
 have tG:re[i].2=nO (d.l3 re[i].1) ow:=by
  have G:=CJ ew c;rw[f]at G;split at G
  .exact(Option.some.inj G).symm
  cases G
 refine⟨λj a b=>?_,λx Z=>?_⟩
 .rw[mT];by_cases e:re[j].1=re[i].1
  .rw[if_pos e,Option.getD_some,tG,e]
  rw[if_neg e];rcases List.mem_append.1 a with a|a
  .exact h.1 j a b
  simp at a;subst a;exact absurd rfl e
 rw[mT,if_neg (λe=>Z i (by simp) ew e.symm)];exact h.2 x λj a b=>Z j (List.mem_append_left _ a) b
theorem km.all(b:(re.map Prod.fst).Nodup)(a:ku d ow td re)(h:km d ow re is ne)(c:∀i,i<re.length->i∈is)(x:ak):
 (tL x ne).getD 0=if x∈td then nO (d.l3 x) ow else d.l3 x:=by
 by_cases Z:x∈td
 .rw[if_pos Z];have G:=a x;rw[if_pos Z]at G;obtain⟨i,ew,rfl⟩:=Bl G;exact h.1 i (c i ew) ew
 rw[if_neg Z];refine h.2 x λi _ ew e=>?_;have G:=CJ ew b;rw[e,a x,if_neg Z]at G;cases G
theorem ehA(eC:U ea (fb p d::S) w0)(e:yV d)(l:∀w,U ea S w->ex w v td):eJ 376 #[N p,ef ow,v,ef tq] w0 (λu w'=>∃d',u=i6 (b0 d ow td tq)/\(b0 d ow td tq=0->Rm d ow td tq d')/\(b0 d ow td tq≠0->d'=d)/\yV d'/\U ea (fb p d'::S) w'):=by
 refine nr.enter (args:=[N p,ef ow,v,ef tq]) func376 rfl ntmps376 results376 rfl ?_;have E:=eY w0;replace E:=eC.ehk;refine ek.seq (λfB K=>?_);refine ek.region ?_;refine et (iP rfl ?_);refine ts.nil ?_;refine aE (K _ _ ?_);refine ek.seq (λfV L=>?_);refine ek.seq (λyI M=>?_);refine ek.region ?_;refine et (oI (v:=N p) rfl ?_);refine et (oP rfl ?_);refine et (oI (v:=v) rfl ?_);refine et (oP rfl ?_);refine et (J.call (ehE ⟨E.tb en,E.map en⟩ e (l _ (E.sub aS))) rfl ?_);rintro _ w ⟨rfl,c⟩;replace E:=E.es c;refine et (iP rfl ?_);refine ts.nil ?_;refine aE (M _ _ ?_);refine ek.seq (λbL P=>?_);refine ek.region ?_;refine et (oP rfl ?_);refine et (J.neq rfl rfl ?_);refine ts.nil ?_;refine aE (P _ _ ?_);refine ek.cond _ rfl (λm=>?_) (λm=>?_)
 .
   have z:=m
   try simp only[sX]at m
   refine ek.seq (λbD Q=>?_);refine ek.region ?_;refine et (oP rfl ?_);refine et (iP rfl ?_);refine ts.nil ?_;refine aE (Q _ _ ?_);refine ek.ret ?_;refine pQ ?_;refine cJ (.hB rfl .nil) ?_;have s:b0 d ow td tq≠0:=by simpa using z
   exact⟨d,rfl,λh=>absurd h s,λ_=>rfl,e,E.CK d⟩
 .
   have z:=m
   try simp only[sX]at m
   have s:b0 d ow td tq=0:=by simpa using z
   refine ek.skip ?_;refine aE (L _ _ ?_);refine lB (λf w=>oV [(0,N p),(1,ef ow),(2,v)] f/\U ea (B p (O.enc (dQ.mk d.ls (nO d.block ow) (nO d.tq tq) (some d.r))) 434::tM d.r dD d.eI::S) w) ?_ ?_
   .
     refine gC 16 (eX [0,1,2,3,4,5,6,9,10,11,12,13] (.iZ 7 14 (.iZ 8 14 (oA [14,15,16,17,18,19,20,21] .nil) (oA [8,15,16,17,18,19,20,21] .nil)) (oA [7,8,15,16,17,18,19,20,21] .nil))) (by kernel_rfl) (λ_ _ _ h=>h) (λaB R=>?_);replace E:=E.es R;have b:=E;have a:=eY aB;refine ss b rfl (λw E=>oI (v:=N p) rfl eG) ?_;refine ss b rfl (λw E=>oI (v:=N p) rfl eG) ?_;refine ss b rfl (λw E=>oI (v:=N p) rfl eG) ?_;refine ss b rfl (λw E=>sk rfl eG) ?_;refine ss b rfl (λw E=>o9 rfl eG) ?_;refine ss b rfl (λw E=>ag rfl (E.a6 en (ehb _)) eG) ?_;refine ss b rfl (λw E=>oP rfl eG) ?_;refine ss b rfl (λw E=>oI (v:=N p) rfl eG) ?_;refine ss b rfl (λw E=>sk rfl eG) ?_;refine ss b rfl (λw E=>o9 rfl eG) ?_;refine ss b rfl (λw E=>ag rfl (E.a6 en (ehv _)) eG) ?_;refine ss b rfl (λw E=>oP rfl eG) ?_;refine e2.iZ rfl rfl rfl rfl ?_ ?_
     .refine n7 a (([⟨d.block⟩,⟨ow⟩]:List aa)) [ef d.block,ef ow] rfl rfl rfl rfl (by decide) ?_;intro T w c a;refine⟨a.ee,?_⟩;have E:=iq b a;refine e2.iZ rfl rfl rfl rfl ?_ ?_
      .refine J.call (b2 (E.eu en)) rfl ?_;rintro _ w ⟨rfl,c⟩;replace a:=a.es c;rw[b1 e.1];refine⟨a.ee,?_⟩;have E:=iq b a;refine ol rfl (n7 a (([⟨d.tq⟩,⟨tq⟩]:List aa)) [ef d.tq,ef tq] rfl rfl rfl rfl (by decide) ?_);intro F w c a;refine⟨a.ee,?_⟩;have E:=iq b a;refine ol rfl (J.call (b2 (E.eu en)) rfl ?_);rintro _ w ⟨rfl,c⟩;replace a:=a.es c;rw[b1 e.2.1];refine⟨a.ee,?_⟩;have E:=iq b a;refine hO rfl (sk rfl ?_);refine hO rfl (o9 rfl ?_);refine nH rfl (iU (eo:=1) E rfl rfl en rfl (by rw[O.ez];decide) (oZ _ _) (CB _ _) ?_);intro w E;replace E:=E _ en;refine hO rfl (sk rfl ?_);refine hO rfl (o9 rfl ?_);refine nH rfl (iU (eo:=1) E rfl rfl en rfl (by rw[O.ez];decide) (oZ _ _) (CV _ _) ?_);intro w E;replace E:=E _ en;refine e2.nil ?_;refine aE ?_;exact⟨⟨rfl,rfl,rfl,trivial⟩,E.sub aS⟩
      refine n7 a (([⟨d.tq⟩,⟨tq⟩]:List aa)) [ef d.tq,ef tq] rfl rfl rfl rfl (by decide) ?_;intro F w c a;refine⟨a.ee,?_⟩;have E:=iq b a;refine ol rfl (J.call (b2 (E.eu en)) rfl ?_);rintro _ w ⟨rfl,c⟩;replace a:=a.es c;rw[b1 e.1];refine⟨a.ee,?_⟩;have E:=iq b a;refine ol rfl (J.call (b2 (E.eu en)) rfl ?_);rintro _ w ⟨rfl,c⟩;replace a:=a.es c;rw[b1 e.2.1];refine⟨a.ee,?_⟩;have E:=iq b a;refine hO rfl (sk rfl ?_);refine hO rfl (o9 rfl ?_);refine nH rfl (iU (eo:=1) E rfl rfl en rfl (by rw[O.ez];decide) (oZ _ _) (CB _ _) ?_);intro w E;replace E:=E _ en;refine hO rfl (sk rfl ?_);refine hO rfl (o9 rfl ?_);refine nH rfl (iU (eo:=1) E rfl rfl en rfl (by rw[O.ez];decide) (oZ _ _) (CV _ _) ?_);intro w E;replace E:=E _ en;refine e2.nil ?_;refine aE ?_;exact⟨⟨rfl,rfl,rfl,trivial⟩,E.sub aS⟩
     refine n7 a (([⟨d.tq⟩,⟨tq⟩]:List aa)) [ef d.tq,ef tq] rfl rfl rfl rfl (by decide) ?_;intro F w c a;refine⟨a.ee,?_⟩;have E:=iq b a;refine ol rfl (n7 a (([⟨d.block⟩,⟨ow⟩]:List aa)) [ef d.block,ef ow] rfl rfl rfl rfl (by decide) ?_);intro T w c a;refine⟨a.ee,?_⟩;have E:=iq b a;refine ol rfl (J.call (b2 (E.eu en)) rfl ?_);rintro _ w ⟨rfl,c⟩;replace a:=a.es c;rw[b1 e.1];refine⟨a.ee,?_⟩;have E:=iq b a;refine ol rfl (J.call (b2 (E.eu en)) rfl ?_);rintro _ w ⟨rfl,c⟩;replace a:=a.es c;rw[b1 e.2.1];refine⟨a.ee,?_⟩;have E:=iq b a;refine hO rfl (sk rfl ?_);refine hO rfl (o9 rfl ?_);refine nH rfl (iU (eo:=1) E rfl rfl en rfl (by rw[O.ez];decide) (oZ _ _) (CB _ _) ?_);intro w E;replace E:=E _ en;refine hO rfl (sk rfl ?_);refine hO rfl (o9 rfl ?_);refine nH rfl (iU (eo:=1) E rfl rfl en rfl (by rw[O.ez];decide) (oZ _ _) (CV _ _) ?_);intro w E;replace E:=E _ en;refine e2.nil ?_;refine aE ?_;exact⟨⟨rfl,rfl,rfl,trivial⟩,E.sub aS⟩
   .
     rintro f w ⟨j,E⟩;refine il _ j (λg=>?_);clear j;refine ek.seq (λwM V=>?_);refine ek.region ?_;refine et (J.makeMap ak dD E ?_);intro tZ w _ E;refine et (yo (v:=tA tZ) rfl ?_);refine ts.nil ?_;refine aE (V _ _ ?_);refine ek.seq (λyN W=>?_);refine ek.seq (λxN X=>?_);refine ek.region ?_;refine et (oI (v:=v) rfl ?_);refine et (J.hD rfl ((l _ (E.sub aS))) ?_);refine et (oP rfl ?_);refine ts.nil ?_;refine aE (X _ _ ?_);refine ek.block ?_;refine ek.loop (λq f w=>∃(k:Nat)(re:List (ak×Nat)),oV [(0,N p),(1,ef ow),(10,tA tZ),(44,v),(45,i6 td.length),(46,i6 k)] f/\U ea (tM tZ dD re::B p (O.enc (dQ.mk d.ls (nO d.block ow) (nO d.tq tq) (some d.r))) 434::tM d.r dD d.eI::S) w/\ku d ow (td.take k) re/\k<=td.length/\q=td.length-k) (td.length) ?_ ?_
     .
       exact⟨0,[],⟨rfl,rfl,rfl,rfl,rfl,rfl,trivial⟩,E,ku.nil _ _,Nat.zero_le _,rfl⟩
     .
       rintro q f w ⟨k,re,j,E,t,rP,e5⟩;refine il _ j (λg=>?_);clear j;refine ek.seq (λEl Y=>?_);refine ek.region ?_;refine et (J.lss rfl rfl ?_);refine ts.nil ?_;refine aE (Y _ _ ?_);refine ek.seq (λEd Z=>?_);refine ek.cond _ rfl (λn=>?_) (λn=>?_)
       .
         have oe:=n
         try simp only[sX]at n
         have G:k<td.length:=by omega
         have nq:=(l _ (E.sub aS)).le;simp only[maxLen]at nq;refine ek.skip ?_;refine aE (Z _ _ ?_);refine ek.seq (λEc g0=>?_);refine ek.block ?_;refine ek.seq (λSt vV=>?_);refine ek.region ?_;refine et (nX rfl ((l _ (E.sub aS))) rfl (by omega) ?_);refine et (ag rfl (((l _ (E.sub aS)).sm G).n5 (O.ez td[k])) ?_);refine et (sI E ?_);intro li w _ E;refine oE (iJ E rfl rfl en (by first|rfl|exact O.ez _) ?_);intro w E;replace E:=E _ en;refine ts.nil ?_;refine aE (vV _ _ ?_);refine nC 0 11 (eX [0,1,2,3,4,5,6,7,8] (oA [9,10,11] .nil)) [] E λw E=>?_;refine tl rfl (λw E=>oI (v:=tA tZ) rfl eG) ?_;refine tl rfl (λw E=>ag rfl (E.n5 (cs:=O.enc td[k]) en (O.ez _)) eG) ?_;refine tl rfl (λw E=>oI (v:=N p) rfl eG) ?_;refine tl rfl (λw E=>sk rfl eG) ?_;refine tl rfl (λw E=>o9 rfl eG) ?_;refine tl rfl (λw E=>ag rfl (E.a6 en (Bn _)) eG) ?_;refine tl rfl (λw E=>ag rfl (E.n5 (cs:=O.enc td[k]) en (O.ez _)) eG) ?_;refine tl rfl (λw E=>ym (tn:=ak) (k:=td[k]) (e7:=dD) (z0:=0) (u:=d.l3 td[k]) inferInstance (E.map (r:=d.r) (e7:=dD) (eI:=d.eI) en) rfl rfl rfl eG) ?_;refine tl rfl (λw E=>oP rfl eG) ?_;refine ol rfl (n7 E (([⟨d.l3 td[k]⟩,⟨ow⟩]:List aa)) [.int .u64 (d.l3 td[k]:Int),ef ow] rfl rfl rfl rfl (by decide) ?_);intro f5 w c E;refine⟨pp E,?_⟩;refine ol rfl (J.call (b2 (E.eu en)) rfl ?_);rintro _ w ⟨rfl,c⟩;replace E:=E.es c;rw[b1 (e.2.2 _)];refine⟨pp E,?_⟩;refine nH rfl (J.mapUpdate (tn:=ak) (k:=td[k]) (v:=nO (d.l3 td[k]) ow) (e7:=dD) (eI:=re) E en rfl rfl rfl ?_);intro w E;replace E:=E _ en;refine e2.nil ?_;refine m9 ?_;refine aE (g0 _ _ ?_);refine ek.region ?_;refine et (J.add rfl rfl (wrap_i64 (by omega)) ?_);refine et (oP rfl ?_);refine ts.nil ?_;refine aE ?_;exact⟨td.length-(k+1),by omega,k+1,_,⟨rfl,rfl,rfl,rfl,rfl,congrArg (Value.int .i64) (by omega),trivial⟩,E.sub aS,t.step G,by omega,rfl⟩
       .
         have oe:=n
         try simp only[sX]at n
         have dN:k=td.length:=by omega
         subst dN;rw[List.take_length]at t;refine ek.exit ?_;refine uZ ?_;refine uZ ?_;refine ya ?_;refine aE (W _ _ ?_);refine ek.seq (λSa yS=>?_);refine ek.seq (λDr j5=>?_);refine ek.region ?_;refine et (oI (v:=tA tZ) rfl ?_);refine et (J.range (tn:=ak) (tx:=Nat) (e7:=dD) (eI:=re) E en rfl ?_);intro oM w E;replace E:=E _ en;refine ts.nil ?_;refine aE (j5 _ _ ?_);refine ek.block ?_;refine ek.loop (λq f w=>∃(is:List Nat)(ne:List (ak×Nat)),oV [(0,N p),(63,N oM)] f/\U ea (ld oM tZ dD re is::B p (O.enc (dQ.mk d.ls (nO d.block ow) (nO d.tq tq) (some d.r))) 434::tM d.r dD ne::S) w/\km d ow re is ne/\q=re.length-is.length) (re.length) ?_ ?_
         .
           exact⟨[],d.eI,⟨rfl,rfl,trivial⟩,E,km.nil _ _ _,rfl⟩
         .
           rintro q f w ⟨is,ne,j,E,H,e5⟩;refine il _ j (λg=>?_);clear j;refine ek.seq (λDl j6=>?_);refine ek.region ?_;refine et (jb (tn:=ak) (tx:=Nat) (e7:=dD) E en rfl ?_);intro jE vs za w em iR A E;replace E:=E _ en;refine et (J.extract rfl em ?_);refine ts.nil ?_;refine aE (j6 _ _ ?_);refine ek.seq (λSi vK=>?_);refine ek.cond _ rfl (λo=>?_) (λo=>?_)
           .
             have C:=o
             try simp only[sX]at o
             obtain⟨i,ew,hE,hlt,rfl⟩:=A C;have y:=E.wx (e7:=dD) (eI:=re) en;obtain⟨_,_,_,D⟩:=y.map;have r8:=D.2.2;refine ek.skip ?_;refine aE (vK _ _ ?_);refine ek.block ?_;refine ek.seq (λSn vX=>?_);refine ek.region ?_;refine et (jv y ew rfl ?_);refine et (J.extract rfl rfl ?_);refine et (J.extract rfl rfl ?_);refine et (sI E ?_);intro n9 w _ E;refine oE (iJ E rfl rfl en (by first|rfl|exact O.ez _) ?_);intro w E;replace E:=E _ en;refine et (yo (v:=dD (re[i]).2) rfl ?_);refine ts.nil ?_;refine aE (vX _ _ ?_);refine nC 0 6 (eX [0,1,2,3,4,5] (.one 6 .nil)) [] E λw E=>?_;refine tl rfl (λw E=>oI (v:=N p) rfl eG) ?_;refine tl rfl (λw E=>sk rfl eG) ?_;refine tl rfl (λw E=>o9 rfl eG) ?_;refine tl rfl (λw E=>ag rfl (E.a6 en (Bn _)) eG) ?_;refine tl rfl (λw E=>ag rfl (E.n5 (cs:=O.enc (re[i]).1) en (O.ez _)) eG) ?_;refine tl rfl (λw E=>oI (v:=dD (re[i]).2) rfl eG) ?_;refine nH rfl (J.mapUpdate (tn:=ak) (k:=(re[i]).1) (v:=(re[i]).2) (e7:=dD) (eI:=ne) E en rfl rfl rfl ?_);intro w E;replace E:=E _ en;refine e2.nil ?_;refine m9 ?_;refine aE ?_;refine⟨re.length-(is++[i]).length,by simp;omega,is++[i],_,⟨rfl,rfl,trivial⟩,E.sub aS,H.step ew r8 t,rfl⟩
           .
             have C:=o
             try simp only[sX]at o
             obtain⟨_,lh⟩:=iR C;refine ek.exit ?_;refine uZ ?_;refine uZ ?_;refine ya ?_;refine aE (yS _ _ ?_);refine ek.seq (λSs vJ=>?_);refine ek.region ?_;refine et (iP rfl ?_);refine ts.nil ?_;refine aE (vJ _ _ ?_);refine ek.ret ?_;refine cJ (.hB rfl .nil) ?_;have y:=E.wx (e7:=dD) (eI:=re) en;obtain⟨_,_,_,D⟩:=y.map;have I:Rm d ow td tq ⟨d.ls,nO d.block ow,nO d.tq tq,d.r,ne⟩:=⟨rfl,rfl,rfl,λx=>H.all D.2.2 t lh x⟩;exact⟨⟨d.ls,nO d.block ow,nO d.tq tq,d.r,ne⟩,congrArg (Value.int .i64) s.symm,λ_=>I,λh=>absurd s h,I.ok e,E.nS.CK ⟨d.ls,nO d.block ow,nO d.tq tq,d.r,ne⟩⟩
@[irreducible] def rn (p:Nat) (d:sa) (a b c:Nat):eH:=hC [nn (d.ls=⟨a,b,c⟩/\d.block=0/\d.tq=0/\∀k,d.l3 k=0),fb p d]
theorem U.Bu(h:U w0 (rn p d a b c::S) w):(d.ls=⟨a,b,c⟩/\d.block=0/\d.tq=0/\∀k,d.l3 k=0)/\U w0 (fb p d::S) w:=by
 unfold rn at h;have h:=h.de;have G:=h.get (e:=nn (d.ls=⟨a,b,c⟩/\d.block=0/\d.tq=0/\∀k,d.l3 k=0)) .em;rw[md]at G;exact⟨G,h.sub (List.sublist_cons_self _ _)⟩
theorem ehI(e1:d.ls=⟨a,b,c⟩/\d.block=0/\d.tq=0/\∀k,d.l3 k=0)(h:U w0 (fb p d::S) w):U w0 (rn p d a b c::S) w:=by
 unfold rn;exact U.closed (l:=[nn (d.ls=⟨a,b,c⟩/\d.block=0/\d.tq=0/\∀k,d.l3 k=0),fb p d]) (h.pure e1)
@[irreducible] def cW (p:Nat) (d:sa):eH:=hC [nn (yV d),fb p d]
theorem U.ehN(h:U w0 (cW p d::S) w):(yV d)/\U w0 (fb p d::S) w:=by
 unfold cW at h;have h:=h.de;have G:=h.get (e:=nn (yV d)) .em;rw[md]at G;exact⟨G,h.sub (List.sublist_cons_self _ _)⟩
theorem ehS(e1:yV d)(h:U w0 (fb p d::S) w):U w0 (cW p d::S) w:=by
 unfold cW;exact U.closed (l:=[nn (yV d),fb p d]) (h.pure e1)
theorem ehR:eJ 158 #[.agg #[ef a,ef b,ef c]] w0 (λu w'=>∃(p:Nat)(d:sa),u=N p/\U w0 [rn p d a b c] w'):=by
 refine(ehT (w0:=w0) (l:=⟨a,b,c⟩)).mono ?_;rintro u w' ⟨p,d,rfl,G,Y,ej,e8,e,hb⟩;exact⟨p,d,rfl,ehI ⟨G,Y,ej,e8⟩ ((eY w0).TW hb e)⟩
theorem ehH{v:ec}(G:ow<=a)(Y:ow<=b)(ej:tq<=c)(e8:ow<18446744073709551616)(au:tq<18446744073709551616)(eC:U ea (rn p d a b c::V v.v 60 ri::S) w0):eJ 376 #[N p,ef ow,v.v,ef tq] w0 (λu w'=>∃d:sa,u=i6 0/\U ea (cW p d::V v.v 60 ri::S) w'):=by
 obtain⟨⟨i,e,f,g⟩,E⟩:=eC.Bu;have j:yV d:=⟨by rw[e];decide,by rw[f];decide,λk=>by rw[g];decide⟩;have aM:∀n:Nat,n<18446744073709551616->nO 0 n=n:=λn h=>by unfold nO;split<;>omega
 refine(ehA E j (λw h=>h.eu .em)).mono ?_;rintro u w' ⟨d',l,_,_,a2,iK⟩;refine⟨d',?_,ehS a2 iK⟩;rw[l];unfold b0;rw[i,e,f,aM _ e8,aM _ au,if_neg (by simp only;omega),if_neg (by simp only[g,aM _ e8];simp;intros;omega),if_neg (by simp only;omega)]
theorem ehL(a:U ea S w0)(b:tP (cW p d) S):eJ 216 #[N p] w0 (λu w'=>u=ef d.block/\eV w0 w'):=
 Bh ((a.mem b).ehN.2.Bs .em)
theorem ehD(f:U ea S w0)(g:tP (rn p d a b c) S):tS 216 #[N p] w0 (.int .u64 0):=by
 obtain⟨⟨_,i,_⟩,h⟩:=(f.mem g).Bu;have e:=Bh (h.Bs .em);rw[i]at e;exact e
end
section
open Go.Proofs Tryz
variable{S:List eH}{cs:List ec}{f i k n eo:Nat}{ac b3:Value}{s v oU z:ec}{w0 ea:World}{xs:List eL}{o5 n4:Int}
structure Ring where
 l:ec
 b4:Int
 sc:Int
variable{aw:List Ring}{x:Ring}
def Ring.parts(x:Ring):List (Array Value):=[#[x.l.v],#[.int .i64 x.b4],#[.int .i64 x.sc]]
theorem ehC(x:Ring):x.parts.map Array.size=[1,1,1]:=by
 simp only[Ring.parts,List.map,O.ez];rfl
instance:O Ring where
 enc x:=eK x.parts
 eo:=3
 pos:=by omega
 ez x:=by rw[iw,ehC];rfl
 one x:=rD (all_cons (O.one (α:=ec) _) (all_cons (oZ _ _) (all_cons (oZ _ _) rC)))
theorem ehU(x:Ring):(O.enc x)[0]? =some (x.l.v):=hu [] [#[.int .i64 x.b4],#[.int .i64 x.sc]] _ sU
theorem ehM(x:Ring):(O.enc x)[1]? =some (.int .i64 x.b4):=hu [#[x.l.v]] [#[.int .i64 x.sc]] _ sU
theorem Bm(x:Ring):(O.enc x)[2]? =some (.int .i64 x.sc):=hu [#[x.l.v],#[.int .i64 x.b4]] [] _ sU
theorem ehF(x:Ring)(v:Int):iI (O.enc x) 1 #[.int .i64 v]=O.enc {x with b4:=v}:=by
 have h:=rL [#[x.l.v]] [#[.int .i64 x.sc]] (#[.int .i64 x.b4]) (#[.int .i64 v]) (by first|(rw[O.ez,O.ez];done)|rfl);rw[show(eK [#[x.l.v]]).size=1 from sU]at h;exact h
theorem Bf(x:Ring)(v:Int):iI (O.enc x) 2 #[.int .i64 v]=O.enc {x with sc:=v}:=by
 have h:=rL [#[x.l.v],#[.int .i64 x.b4]] [] (#[.int .i64 x.sc]) (#[.int .i64 v]) (by first|(rw[O.ez,O.ez];done)|rfl);rw[show(eK [#[x.l.v],#[.int .i64 x.b4]]).size=2 from sU]at h;exact h
instance:nt x [#[x.l.v],#[.int .i64 x.b4],#[.int .i64 x.sc]]:=⟨rfl⟩
instance(priority:=2000):nt (⟨oU,o5,n4⟩:Ring) [#[oU.v],#[.int .i64 o5],#[.int .i64 n4]]:=⟨rfl⟩
instance:st (O.enc x) 0 #[v.v] (O.enc {x with l:=v}):=rb
instance{v:Int}:st (O.enc x) 1 #[.int .i64 v] (O.enc {x with b4:=v}):=rb
structure rB where
 Rf:ec
 count:ec
def rB.parts(x:rB):List (Array Value):=[#[x.Rf.v],#[x.count.v]]
theorem ehP(x:rB):x.parts.map Array.size=[1,1]:=by
 simp only[rB.parts,List.map,O.ez];rfl
instance:O rB where
 enc x:=eK x.parts
 eo:=2
 pos:=by omega
 ez x:=by rw[iw,ehP];rfl
 one x:=rD (all_cons (O.one (α:=ec) _) (all_cons (O.one (α:=ec) _) rC))
theorem Rp(x:rB):O.enc x=eK x.parts:=rfl
theorem ehG(x:rB):(O.enc x)[0]? =some (x.Rf.v):=hu [] [#[x.count.v]] _ sU
theorem Bp(x:rB):(O.enc x)[1]? =some (x.count.v):=hu [#[x.Rf.v]] [] _ sU
instance(priority:=2000){o5:ec}:nt (⟨oU,o5⟩:rB) [#[oU.v],#[o5.v]]:=⟨rfl⟩
abbrev gw:=ec×List eL
variable{b:gw}{q:List gw}
structure np where
 l:ec
 f:Nat
 cs:List ec
 q:List gw
variable{L:np}
def np.r(L:np):Ring:=⟨L.l,(L.f:Int),(L.q.length:Int)⟩
instance:nt L.r [#[L.l.v],#[i6 L.f],#[i6 L.q.length]]:=⟨rfl⟩
def gy(L:np):Prop:=L.q.length<=L.cs.length/\L.cs.length<=4001/\(L.f<L.cs.length∨(L.f=0/\L.cs=[]))/\∀i(h:i<L.q.length),L.cs[(L.f+i)%L.cs.length]? =some (L.q[i]'h).1
def gb(q:List gw):List eH:=q.map λb=>V b.1.v 3 b.2
def uS(L:np):List eH:=V L.l.v 134 L.cs::gb L.q
theorem ehW{α:Type}(cs:List α)(a:f<=cs.length)(ew:i<cs.length):(cs.drop f++cs.take f)[i]? =cs[(f+i)%cs.length]? :=by
 by_cases h:f+i<cs.length
 .rw[List.getElem?_append_left (by rw[List.length_drop];omega),List.getElem?_drop,Nat.mod_eq_of_lt h]
 rw[List.getElem?_append_right (by rw[List.length_drop];omega),List.length_drop,List.getElem?_take_of_lt (by omega)];congr 1;rw[Nat.mod_eq_sub_mod (by omega),Nat.mod_eq_of_lt (by omega)];omega
def kp(cs:List ec)(f:Nat):List ec:=cs.drop f++cs.take f++List.replicate (cs.length+1) ed
theorem Ob(cs:List ec)(f:Nat):(kp cs f).length=2*cs.length+1:=by simp[kp];omega
theorem ehY(h:gy L)(b:L.q.length=L.cs.length)(c:L.cs.length<=2000):gy ⟨s,0,kp L.cs L.f,L.q⟩:=by
 obtain⟨G,Y,ej,e8⟩:=h;refine⟨by rw[Ob];simp only;omega,by rw[Ob];omega,.inl (by show 0<(kp L.cs L.f).length;rw[Ob];omega),λi ew=>?_⟩;have ew:i<L.q.length:=ew;have a:L.f<=L.cs.length:=by rcases ej with h|⟨h,_⟩<;>omega
 rw[Ob,Nat.zero_add,Nat.mod_eq_of_lt (by omega)];unfold kp;rw[List.getElem?_append_left (by simp;omega),ehW _ a (by omega)];exact e8 i ew
theorem ehB(h:gy L)(a:L.q.length<L.cs.length):gy ⟨L.l,L.f,L.cs.set ((L.f+L.q.length)%L.cs.length) b.1,L.q++[b]⟩:=by
 obtain⟨G,Y,ej,e8⟩:=h;have d:L.f<L.cs.length:=by rcases ej with h|⟨_,h⟩;exact h;rw[h]at a;simp at a
 refine⟨by simp;omega,by simpa using Y,.inl (by simpa using d),λi ew=>?_⟩;simp only[List.length_set];simp only[List.length_append,List.length_cons,List.length_nil]at ew;rw[List.getElem?_set];by_cases e:i=L.q.length
 .subst e;rw[if_pos rfl,if_pos (Nat.mod_lt _ (by omega))];simp
 have c:i<L.q.length:=by omega
 have g:¬(L.f+L.q.length)%L.cs.length=(L.f+i)%L.cs.length:=by
  intro e5;have j:(L.f+L.q.length)%L.cs.length=if L.f+L.q.length<L.cs.length then L.f+L.q.length else L.f+L.q.length-L.cs.length:=by
   split
   .exact Nat.mod_eq_of_lt (by assumption)
   rw[Nat.mod_eq_sub_mod (by omega),Nat.mod_eq_of_lt (by omega)]
  have k:(L.f+i)%L.cs.length=if L.f+i<L.cs.length then L.f+i else L.f+i-L.cs.length:=by
   split
   .exact Nat.mod_eq_of_lt (by assumption)
   rw[Nat.mod_eq_sub_mod (by omega),Nat.mod_eq_of_lt (by omega)]
  rw[j,k]at e5;split at e5<;>split at e5<;>omega
 rw[if_neg g,e8 i c];simp[List.getElem_append_left c]
theorem ehV(h:gy L)(a:L.q=b::q):gy ⟨L.l,(L.f+1)%L.cs.length,L.cs.set L.f ed,q⟩/\L.f<L.cs.length/\L.cs[L.f]? =some b.1:=by
 obtain⟨G,Y,ej,e8⟩:=h;rw[a]at G;simp only[List.length_cons]at G;have c:L.f<L.cs.length:=by rcases ej with h|⟨_,h⟩;exact h;rw[h]at G;simp at G
 refine⟨⟨by simp;omega,by simpa using Y,.inl (by simpa using Nat.mod_lt _ (by omega)),λi ew=>?_⟩,c,?_⟩
 .have ew:i<q.length:=ew;simp only[List.length_set];have d:i+1<L.q.length:=by rw[a];simp;omega
  have e:((L.f+1)%L.cs.length+i)%L.cs.length=(L.f+(i+1))%L.cs.length:=by
   rw[Nat.mod_add_mod];congr 1;omega
  have g:¬L.f=(L.f+(i+1))%L.cs.length:=by
   intro e5;by_cases hlt:L.f+(i+1)<L.cs.length
   .rw[Nat.mod_eq_of_lt hlt]at e5;omega
   rw[Nat.mod_eq_sub_mod (by omega),Nat.mod_eq_of_lt (by omega)]at e5;omega
  rw[e,List.getElem?_set,if_neg g,e8 (i+1) d];simp[a]
 have:=e8 0 (by rw[a];simp);rw[Nat.add_zero,Nat.mod_eq_of_lt c]at this;simpa[a]using this
theorem Bw(L:np):(O.enc L.r)[0]? =some L.l.v:=ehU L.r
theorem ehK(L:np):(O.enc L.r)[1]? =some (i6 L.f):=ehM L.r
theorem By(L:np):(O.enc L.r)[2]? =some (i6 L.q.length):=Bm L.r
theorem ehX{v:Value}(h:zl v n):v=nz v 0 n (s2 v) eo:=(h.JD eo).symm
theorem Bb(a:an w0 b3 (O.enc L.r))(b:ex w0 L.l.v L.cs)(em:0<L.cs.length)(c:L.cs.length<=4001)(d:L.f<=4001)(ew:i<=4001):tS 327 #[b3,i6 i] w0 (.int .i64 (((L.f+i)%L.cs.length:Nat):Int)):=by
 refine eN 6 (eY _) func327 ntmps327 results327 rfl ?_;have:=ir a;refine aC 3 13 (eX [0,1,2,3,4,5,6,7,8,9,10,11,12] .nil) [] λw E=>?_;refine mR 5 E (hA λw E=>ud (a.es E.ee) 1 (ehK L)) ⟨ib,λw E=>?_⟩;have:=aL b;refine mR 1 E (hA λw E=>ud (a.es E.ee) 0 (Bw L)) λw E=>?_;exact tl rfl (λw E=>J.rem rfl rfl (by omega) (FF (L.f+i) L.cs.length) eG) (t7 5 E λw E=>(⟨rfl,E.ee⟩))
theorem ehJ:(List.replicate (2*cs.length+1) z).take 0++cs.drop f++(List.replicate (2*cs.length+1) z).drop (0+(cs.drop f).length)=cs.drop f++List.replicate (2*cs.length+1-(cs.drop f).length) z:=by
 rw[List.take_zero,List.nil_append,List.drop_replicate,Nat.zero_add]
theorem Rg:(cs.drop f++List.replicate (2*cs.length+1-(cs.drop f).length) z).length=2*cs.length+1:=by
 rw[List.length_append,List.length_replicate,List.length_drop];omega
theorem ehQ(a:f<=cs.length):(cs.drop f++List.replicate (2*cs.length+1-(cs.drop f).length) ed).take (cs.drop f).length++cs.take f++(cs.drop f++List.replicate (2*cs.length+1-(cs.drop f).length) ed).drop ((cs.drop f).length+(cs.take f).length)=kp cs f:=by
 rw[List.take_left,<-List.drop_drop,List.drop_left,List.drop_replicate];unfold kp;congr 2;rw[List.length_drop,List.length_take];omega
theorem ehZ(j:k<aw.length)(hr:aw[k]=L.r)(o:gy L){b:ec}(hb:L.q.length<=1000)(eC:U ea (V ac 493 aw::V L.l.v 134 L.cs::S) w0):eJ 282 #[(oX ac k (O.eo Ring)),b.v] w0 (λu w'=>∃L',L'.q=L.q++[(b,xs)]/\gy L'/\U ea (V ac 493 (aw.set k L'.r)::V L'.l.v 134 L'.cs::S) w'):=by
 have Q:=o.2.1;have F:=o.1;refine eN 0 eC func282 ntmps282 results282 rfl λw E=>?_;refine lB (λf w=>∃(L1:np)(t:List Ring),oV [(0,(oX ac k (O.eo Ring))),(1,b.v)] f/\U ea (V ac 493 t::V L1.l.v 134 L1.cs::S) w/\gy L1/\L1.q=L.q/\L1.q.length<L1.cs.length/\t=aw.set k L1.r) ?_ ?_
 .
   refine eA 1 E λw E=>?_;have:=lq j;have:=P2 j hr;refine nC 12 10 (eX [0,1,2,3,4,5,6,7,8,9] .nil) [] E<|om 0 2 (λG w E=>?_) (λG w E=>?_)
   .
     have H:L.q.length=L.cs.length:=by omega
     refine eA 9 E ⟨ib,⟨ib,λw E=>?_⟩⟩;refine et (dt (α:=ec) (n:=2*L.cs.length+1) ed rfl E rfl rfl (by omega) (by simp only[maxLen];omega) ?_);intro c w _ E;refine et (yo (v:=(ta c (2*L.cs.length+1) (2*L.cs.length+1))) rfl (ey 3 E ?_));refine aC 0 10 (eX [0,1,2,3,4,5,6,7,8,9] (oA [10,11] .nil)) [] λw E=>?_;have p:L.f<=L.cs.length:=by rcases o.2.2.1 with h|⟨h,_⟩<;>omega
     refine tl rfl (λw E=>oI (v:=(ta c (2*L.cs.length+1) (2*L.cs.length+1))) rfl eG) ?_;refine t7 8 E λw E=>?_;refine tl rfl (λw E=>hj (l:=L.f) (h':=L.cs.length) (m:=s2 L.l.v) (E.eu (v:=L.l.v) (xs:=L.cs) en) ⟨rfl,Nat.le_refl _⟩ ⟨⟨rfl,rfl⟩,(E.eu (v:=L.l.v) (xs:=L.cs) en).cap⟩ ⟨⟨_,rfl⟩,p⟩ eG) ?_;refine hO rfl (Pv (α:=ec) (v:=(ta c (2*L.cs.length+1) (2*L.cs.length+1))) (xs:=(List.replicate (2*L.cs.length+1) ed)) (ys:=L.cs.drop L.f) (n:=0) (m:=2*L.cs.length+1) E en (by rw[List.length_replicate];exact ehX (.inr ⟨c,_,rfl,Nat.le_refl _,by simp only[maxLen];omega⟩)) (by have sr:=(E.eu (v:=L.l.v) (xs:=L.cs) en).cut (l:=L.f) (h:=L.cs.length) (m:=s2 L.l.v) p (Nat.le_refl _) (E.eu (v:=L.l.v) (xs:=L.cs) en).cap (Nat.le_refl _);rw[List.take_length]at sr;exact sr) (by rw[List.length_replicate,List.length_drop];omega) (by rw[List.length_replicate];exact Nat.le_refl _) (by exact Nat.le_refl _) (tH en λw E=>?_));rw[ehJ]at E;refine hO rfl (iP rfl ?_);refine t7 3 E ?_;refine aC 0 12 (eX [0,1,2,3,4,5,6,7,8,9,10,11] (.one 12 .nil)) [] λw E=>?_;refine tl rfl (λw E=>oI (v:=(ta c (2*L.cs.length+1) (2*L.cs.length+1))) rfl eG) ?_;refine t7 1 E λw E=>?_;refine tl rfl (λw E=>hj (l:=(L.cs.drop L.f).length) (h':=2*L.cs.length+1) (m:=2*L.cs.length+1) (E.eu (v:=(ta c (2*L.cs.length+1) (2*L.cs.length+1))) (xs:=(L.cs.drop L.f++List.replicate (2*L.cs.length+1-(L.cs.drop L.f).length) ed)) en) ⟨rfl,Nat.le_refl _⟩ ⟨⟨by rw[Rg],rfl⟩,Nat.le_refl _⟩ ⟨⟨_,rfl⟩,by rw[List.length_drop];omega⟩ eG) ?_;refine t7 8 E λw E=>?_;refine tl rfl (λw E=>hj (l:=0) (h':=L.f) (m:=s2 L.l.v) (E.eu (v:=L.l.v) (xs:=L.cs) en) ⟨rfl,Nat.le_refl _⟩ ⟨⟨_,rfl⟩,Nat.le_trans p (E.eu (v:=L.l.v) (xs:=L.cs) en).cap⟩ ⟨rfl,Nat.zero_le _⟩ eG) ?_;refine hO rfl (Pv (α:=ec) (v:=(ta c (2*L.cs.length+1) (2*L.cs.length+1))) (xs:=(L.cs.drop L.f++List.replicate (2*L.cs.length+1-(L.cs.drop L.f).length) ed)) (ys:=L.cs.take L.f) (n:=(L.cs.drop L.f).length) (m:=2*L.cs.length+1) E en (by rw[Rg];rfl) ((E.eu (v:=L.l.v) (xs:=L.cs) en).Fj p (Nat.le_trans p (E.eu (v:=L.l.v) (xs:=L.cs) en).cap) (Nat.le_refl _)) (by rw[Rg,List.length_drop,List.length_take];omega) (by rw[Rg];exact Nat.le_refl _) (by exact Nat.le_refl _) (tH en λw E=>?_));rw[ehQ p]at E;refine t7 1 E λw E=>?_;obtain⟨eM,I⟩:∃eM:ec,(ta c (2*L.cs.length+1) (2*L.cs.length+1))=eM.v:=⟨⟨some ⟨c,0,none⟩,2*L.cs.length+1,2*L.cs.length+1⟩,rfl⟩;rw[I]at E⊢;refine s6 2 E λw E=>?_;refine et (oI (v:=(oX ac k (O.eo Ring))) rfl ?_);refine et (oI (v:=(oX ac k (O.eo Ring))) rfl ?_);refine ey 4 E λw E=>?_;have a:k<(aw.set k ⟨eM,(L.f:Int),(L.q.length:Int)⟩).length:=by rw[List.length_set];exact j
     have s:(aw.set k ⟨eM,(L.f:Int),(L.q.length:Int)⟩)[k]=⟨eM,(L.f:Int),(L.q.length:Int)⟩:=List.getElem_set_self a;refine et (J.nilCheck rfl ((E.eu (v:=ac) (xs:=(aw.set k ⟨eM,(L.f:Int),(L.q.length:Int)⟩)) en).sY a) (et (J.fieldAddr rfl ((E.eu (v:=ac) (xs:=(aw.set k ⟨eM,(L.f:Int),(L.q.length:Int)⟩)) en).sY a) (oE (pd (v:=ac) (u:=i6 0) (eo:=1) (xs:=(aw.set k ⟨eM,(L.f:Int),(L.q.length:Int)⟩)) (i:=k) (off:=1) (l9:=⟨eM,0,(L.q.length:Int)⟩) E en a rfl rfl rfl (by decide) (oZ _ _) (by rw[s];exact ehF (⟨eM,(L.f:Int),(L.q.length:Int)⟩:Ring) 0) (tH en λw E=>?_))))));rw[List.set_set]at E;refine ey 2 E λw E=>?_;exact⟨⟨eM,0,kp L.cs L.f,L.q⟩,_,⟨rfl,rfl,trivial⟩,((E.pick (e:=V eM.v 134 (kp L.cs L.f)) en).pick (e:=V ac 493 _) en).sub (.cons₂ _ (.cons₂ _ (.cons _ (List.Sublist.refl _)))),ehY o H (by omega),rfl,by rw[Ob];show L.q.length<_;omega,rfl⟩
   .
     exact⟨L,aw,⟨rfl,rfl,trivial⟩,E,o,rfl,by have:=o.1;omega,(by rw[<-hr];exact(List.set_getElem_self j).symm)⟩
 .
   rintro f w ⟨L1,t,C,E,x,D,R,y⟩;refine il _ C (λg=>?_);clear C;refine eA 2 E λw E=>?_;subst y;have a:k<(aw.set k L1.r).length:=by rw[List.length_set];exact j
   have s:(aw.set k L1.r)[k]=L1.r:=List.getElem_set_self a;have d:k<(aw.set k (⟨L1.l,L1.f,L1.cs,L1.q++[(b,xs)]⟩:np).r).length:=by rw[List.length_set];exact j
   have z:(aw.set k (⟨L1.l,L1.f,L1.cs,L1.q++[(b,xs)]⟩:np).r)[k]=(⟨L1.l,L1.f,L1.cs,L1.q++[(b,xs)]⟩:np).r:=List.getElem_set_self d;have K:=x.2.1;have T:L1.f<L1.cs.length:=by have:=x.2.2.1;omega
   have M:L1.q.length=L.q.length:=by rw[D]
   refine et (oI (v:=(oX ac k (O.eo Ring))) rfl (et (J.nilCheck rfl ((E.eu (v:=ac) (xs:=(aw.set k L1.r)) en).sY a) (et (J.fieldAddr rfl ((E.eu (v:=ac) (xs:=(aw.set k L1.r)) en).sY a) (et (ag rfl (ud (show an _ (oX ac k (O.eo Ring)) (O.enc L1.r)from(congrArg O.enc s)▸(E.eu (v:=ac) (xs:=(aw.set k L1.r)) en).sm a) 2 (By L1)) (et (J.add rfl rfl ((wrap_i64 (by omega)).trans (by simp:_=((L1.q++[(b,xs)]).length:Int))) (et (J.nilCheck rfl ((E.eu (v:=ac) (xs:=(aw.set k L1.r)) en).sY a) (et (J.fieldAddr rfl ((E.eu (v:=ac) (xs:=(aw.set k L1.r)) en).sY a) (oE (pd (v:=ac) (u:=.int .i64 ((L1.q++[(b,xs)]).length:Int)) (eo:=1) (xs:=(aw.set k L1.r)) (i:=k) (off:=2) (l9:=(⟨L1.l,L1.f,L1.cs,L1.q++[(b,xs)]⟩:np).r) E en a rfl rfl rfl (by decide) (oZ _ _) (by rw[s];exact Bf L1.r _) (tH en λw E=>?_))))))))))))))));rw[List.set_set]at E;refine ey 2 E ?_;refine aC 0 12 (eX [0,1,2,3,4,5,6,7,8,9,11] (oA [10,12,13] .nil)) [] λw E=>?_;have N:((L1.f+L1.q.length)%L1.cs.length)<L1.cs.length:=Nat.mod_lt _ (by omega);refine tl rfl (λw E=>oI (v:=(oX ac k (O.eo Ring))) rfl eG) ?_;refine tl rfl (λw E=>J.nilCheck rfl ((E.eu (v:=ac) (xs:=(aw.set k (⟨L1.l,L1.f,L1.cs,L1.q++[(b,xs)]⟩:np).r)) en).sY d) eG) ?_;refine tl rfl (λw E=>J.fieldAddr rfl ((E.eu (v:=ac) (xs:=(aw.set k (⟨L1.l,L1.f,L1.cs,L1.q++[(b,xs)]⟩:np).r)) en).sY d) eG) ?_;refine tl rfl (λw E=>ag rfl (ud (show an _ (oX ac k (O.eo Ring)) (O.enc (⟨L1.l,L1.f,L1.cs,L1.q++[(b,xs)]⟩:np).r)from(congrArg O.enc z)▸(E.eu (v:=ac) (xs:=(aw.set k (⟨L1.l,L1.f,L1.cs,L1.q++[(b,xs)]⟩:np).r)) en).sm d) 0 (Bw (⟨L1.l,L1.f,L1.cs,L1.q++[(b,xs)]⟩:np))) eG) ?_;refine t7 2 E λw E=>?_;refine tl rfl (λw E=>J.nilCheck rfl ((E.eu (v:=ac) (xs:=(aw.set k (⟨L1.l,L1.f,L1.cs,L1.q++[(b,xs)]⟩:np).r)) en).sY d) eG) ?_;refine tl rfl (λw E=>J.fieldAddr rfl ((E.eu (v:=ac) (xs:=(aw.set k (⟨L1.l,L1.f,L1.cs,L1.q++[(b,xs)]⟩:np).r)) en).sY d) eG) ?_;refine tl rfl (λw E=>ag rfl (ud (show an _ (oX ac k (O.eo Ring)) (O.enc (⟨L1.l,L1.f,L1.cs,L1.q++[(b,xs)]⟩:np).r)from(congrArg O.enc z)▸(E.eu (v:=ac) (xs:=(aw.set k (⟨L1.l,L1.f,L1.cs,L1.q++[(b,xs)]⟩:np).r)) en).sm d) 2 (By (⟨L1.l,L1.f,L1.cs,L1.q++[(b,xs)]⟩:np))) eG) ?_;refine tl rfl (λw E=>J.sub rfl rfl ((wrap_i64 (by simp;omega)).trans (by simp:_=(L1.q.length:Int))) eG) ?_;refine t7 1 E λw E=>?_;refine ol rfl (J.call (Bb (show an _ (oX ac k (O.eo Ring)) (O.enc (⟨L1.l,L1.f,L1.cs,L1.q++[(b,xs)]⟩:np).r)from(congrArg O.enc z)▸(E.eu (v:=ac) (xs:=(aw.set k (⟨L1.l,L1.f,L1.cs,L1.q++[(b,xs)]⟩:np).r)) en).sm d) (E.eu (v:=L1.l.v) (xs:=L1.cs) en) (by show 0<L1.cs.length;omega) K (by show L1.f<=4001;omega) (by omega)) rfl ?_);rintro A w ⟨B,P⟩;replace E:=E.es P;replace B:A= .int .i64 (((L1.f+L1.q.length)%L1.cs.length:Nat):Int):=B;subst B;refine⟨pp E,?_⟩;refine hO rfl (nX rfl (E.eu (v:=L1.l.v) (xs:=L1.cs) en) rfl (by omega) ?_);refine nH rfl (pd (v:=L1.l.v) (u:=b.v) (eo:=1) (xs:=L1.cs) (i:=((L1.f+L1.q.length)%L1.cs.length)) (off:=0) (l9:=b) E en N (yA L1.l.v ((L1.f+L1.q.length)%L1.cs.length) (O.eo ec)).symm rfl (by rfl) (by decide) (O.one (α:=ec) b) (mq (by rfl)) (tH en λw E=>?_));refine t7 2 E λw E=>?_;exact⟨⟨L1.l,L1.f,L1.cs.set ((L1.f+L1.q.length)%L1.cs.length) b,L1.q++[(b,xs)]⟩,by rw[D],ehB x (by omega),E⟩
theorem eh3(c:k<aw.length)(hr:aw[k]=L.r)(d:gy L)(eC:U ea (V ac 493 aw::V L.l.v 134 L.cs::S) w0):eJ 328 #[(oX ac k (O.eo Ring))] w0 (λu w'=>∃L',L'.q=L.q.tail/\gy L'/\u= .tuple #[(L.q.headD (ed,[])).1.v,.bool (!L.q.isEmpty)]/\U ea (V ac 493 (aw.set k L'.r)::V L'.l.v 134 L'.cs::S) w'):=by
 have s:=d.2.1;have t:=d.1;have:=lq c;have:=P2 c hr;refine eN 16 eC func328 ntmps328 results328 rfl<|na 10 0 (λ_ x w E=>?_) (λm x w E=>?_)
 .
   have em:L.q=[]:=List.length_eq_zero_iff.1 (by omega);rw[em];exact⟨L,by rw[em];rfl,d,rfl,by rw[<-hr,List.set_getElem_self];exact E⟩
 .
   obtain⟨b,q,g⟩:∃b q,L.q=b::q:=by
    cases y:L.q with
    |nil=>rw[y]at m;simp at m
    |cons b q=>exact⟨b,q,rfl⟩
   obtain⟨z,n,o⟩:=ehV d g;have h:L.cs[L.f]=b.1:=by rw[List.getElem?_eq_getElem n]at o;exact Option.some.inj o
   refine eA 3 E ?_;refine aC 16 21 (eX [0,1,2,3,4,5,6,7,8,9,10,11,12,13,14,15,16,17,18,19,20] (.one 21 .nil)) [] λw E=>?_;refine tl rfl (λw E=>nX rfl (E.eu (v:=L.l.v) (xs:=L.cs) en) rfl (by omega) eG) (tl rfl (λw E=>ag rfl ((show s1 _ _ _ _ (b.1.v)from h▸((E.eu (v:=L.l.v) (xs:=L.cs) en).sm n).ab rfl)) eG) ?_);refine tl rfl (λw E=>oI (v:=eF) rfl eG) ?_;refine t7 2 E ⟨⟨by omega⟩,λ_=>jB 7 λw E=>?_⟩;refine et (J.call (Bb (b3:=(oX ac k (O.eo Ring))) (L:=(⟨L.l,L.f,(L.cs.set L.f ed),L.q⟩:np)) (i:=1) (show an _ (oX ac k (O.eo Ring)) (O.enc (⟨L.l,L.f,(L.cs.set L.f ed),L.q⟩:np).r)from(congrArg O.enc (hr:aw[k]=L.r))▸(E.eu (v:=ac) (xs:=aw) en).sm c) (E.eu (v:=L.l.v) (xs:=(L.cs.set L.f ed)) en) (by show 0<(L.cs.set L.f ed).length;rw[List.length_set];omega) (by show(L.cs.set L.f ed).length<=4001;rw[List.length_set];exact s) (by show L.f<=4001;omega) (by omega)) rfl ?_);rintro A w ⟨j,B⟩;replace E:=E.es B;replace j:A= .int .i64 (((L.f+1)%L.cs.length:Nat):Int):=(by rw[j];show Value.int .i64 (((L.f+1)%(L.cs.set L.f ed).length:Nat):Int)=_;rw[List.length_set]);subst j;refine ey 3 E λw E=>?_;have a:k<(aw.set k (⟨L.l,(((L.f+1)%L.cs.length):Nat),(L.q.length:Int)⟩:Ring)).length:=by rw[List.length_set];exact c
   have p:(aw.set k (⟨L.l,(((L.f+1)%L.cs.length):Nat),(L.q.length:Int)⟩:Ring))[k]=(⟨L.l,(((L.f+1)%L.cs.length):Nat),(L.q.length:Int)⟩:Ring):=List.getElem_set_self a;have:=lq a;refine ey 6 E λw E=>?_;refine et (J.fieldAddr rfl ((E.eu (v:=ac) (xs:=(aw.set k (⟨L.l,(((L.f+1)%L.cs.length):Nat),(L.q.length:Int)⟩:Ring))) en).sY a) ?_);refine et (ag rfl (ud (show an _ (oX ac k (O.eo Ring)) (O.enc (⟨L.l,(((L.f+1)%L.cs.length):Nat),(L.q.length:Int)⟩:Ring))from(congrArg O.enc p)▸(E.eu (v:=ac) (xs:=(aw.set k (⟨L.l,(((L.f+1)%L.cs.length):Nat),(L.q.length:Int)⟩:Ring))) en).sm a) 2 (show(O.enc (⟨L.l,(((L.f+1)%L.cs.length):Nat),(L.q.length:Int)⟩:Ring))[2]? =some (i6 L.q.length)from Bm (⟨L.l,(((L.f+1)%L.cs.length):Nat),(L.q.length:Int)⟩:Ring))) (et (J.sub rfl rfl ((wrap_i64 (by omega)).trans (by rw[g];simp:_=(q.length:Int))) (et (J.nilCheck rfl ((E.eu (v:=ac) (xs:=(aw.set k (⟨L.l,(((L.f+1)%L.cs.length):Nat),(L.q.length:Int)⟩:Ring))) en).sY a) (et (J.fieldAddr rfl ((E.eu (v:=ac) (xs:=(aw.set k (⟨L.l,(((L.f+1)%L.cs.length):Nat),(L.q.length:Int)⟩:Ring))) en).sY a) (oE (pd (v:=ac) (u:=i6 q.length) (eo:=1) (xs:=(aw.set k (⟨L.l,(((L.f+1)%L.cs.length):Nat),(L.q.length:Int)⟩:Ring))) (i:=k) (off:=2) (l9:=(⟨L.l,(L.f+1)%L.cs.length,L.cs.set L.f ed,q⟩:np).r) E en a rfl rfl rfl (by decide) (oZ _ _) (by rw[p];exact Bf (⟨L.l,(((L.f+1)%L.cs.length):Nat),(L.q.length:Int)⟩:Ring) _) (tH en λw E=>?_))))))))));rw[List.set_set]at E;refine ey 4 E λw E=>?_;refine et (oI (v:=b.1.v) rfl (et (yo (v:=b.1.v) rfl (et (gN rfl (ey 4 E λw E=>?_))))));rw[g];exact⟨(⟨L.l,(L.f+1)%L.cs.length,L.cs.set L.f ed,q⟩:np),rfl,z,rfl,(E.pick (e:=V ac 493 _) en)⟩
end
section
open Go.Proofs Tryz
variable{L:np}{M sl k n p:Nat}{S:List eH}{b:gw}{og ac s t:ec}{i:Int}{o:Option Nat}{q:List gw}{aw:List Ring}{v:Value}{w w0 ea:World}{xs:List eL}
structure i9 where
 ac:ec
 og:ec
 D:List np
variable{d:i9}
def dK(q:List gw):Nat:=(q.map λb=>b.2.length).sum
def rx(L:np):eL:=⟨(dK L.q:Int)⟩
def Rw(p:Nat)(d:i9):List eH:=[B p (O.enc (rB.mk d.ac d.og)) 329,V d.ac.v 493 (d.D.map np.r),V d.og.v 3 (d.D.map rx)]
def mu(p:Nat)(d:i9):eH:=hC (Rw p d++d.D.flatMap uS)
def xK(D:List np)(k:Nat):List eH:=(D.take k++D.drop (k+1)).flatMap uS
structure uR(sl:Nat)(d:i9):Prop where
 n:d.D.length<=64
 all:∀L∈d.D,gy L/\L.q.length<=sl/\dK L.q<=64*sl
theorem uR.at(h:uR sl d)(a:k<d.D.length):gy d.D[k]/\d.D[k].q.length<=sl/\dK d.D[k].q<=64*sl:=h.all _ (List.getElem_mem a)
theorem uR.set(h:uR sl d)(e:sl<=M)(G:gy L)(Y:L.q.length<=M)(ej:dK L.q<=64*M):uR M ⟨ac,og,d.D.set k L⟩:=by
 refine⟨by simpa using h.n,λL' f=>?_⟩;rcases List.mem_or_eq_of_mem_set f with e8|rfl
 .obtain⟨a,b,c⟩:=h.all _ e8;exact⟨a,by omega,by omega⟩
 exact⟨G,Y,ej⟩
theorem uR.pj(h:uR sl d)(e:sl<=M):uR M d:=⟨h.n,λL f=>by obtain⟨a,b,c⟩:=h.all _ f;exact⟨a,by omega,by omega⟩⟩
section
variable{w0 w:World}{S:List eH}{p:Nat}{d:i9}
theorem U.Bk(E:U w0 (mu p d::S) w):U w0 (B p (O.enc (rB.mk d.ac d.og)) 329::V d.ac.v 493 (d.D.map np.r)::V d.og.v 3 (d.D.map rx)::(d.D.flatMap uS++S)) w:=by
 have:=E.de;rw[List.append_assoc]at this;exact this
theorem U.Ov(E:U w0 (B p (O.enc (rB.mk d.ac d.og)) 329::V d.ac.v 493 (d.D.map np.r)::V d.og.v 3 (d.D.map rx)::(d.D.flatMap uS++S)) w):U w0 (mu p d::S) w:=
 U.closed (by rw[List.append_assoc];exact E)
structure Ok(w:World)(p:Nat)(d:i9):Prop where
 b:an w (N p) (O.enc (rB.mk d.ac d.og))
 l:ex w d.ac.v (d.D.map np.r)
 c:ex w d.og.v (d.D.map rx)
 q:∀L∈d.D,ex w L.l.v L.cs/\∀b∈L.q,ex w b.1.v b.2
theorem Ok.es{w':World}(h:Ok w p d)(hb:eV w w'):Ok w' p d:=⟨h.b.es hb,h.l.es hb,h.c.es hb,λL a=>⟨(h.q L a).1.es hb,λb e=>((h.q L a).2 b e).es hb⟩⟩
theorem U.Bx(h:U w0 S w)(c:tP (mu p d) S):Ok w p d:=by
 have G:=h.get c;unfold mu at G;rw[p2]at G;refine⟨?_,?_,?_,λL a=>⟨?_,λb hb=>?_⟩⟩
 .have:=G.2 (B p (O.enc (rB.mk d.ac d.og)) 329) (by simp[Rw]);unfold B at this;exact an.dF this
 .have:=G.2 (V d.ac.v 493 (d.D.map np.r)) (by simp[Rw]);rw[df]at this;exact this.eu
 .have:=G.2 (V d.og.v 3 (d.D.map rx)) (by simp[Rw]);rw[df]at this;exact this.eu
 .have:=G.2 (V L.l.v 134 L.cs) (List.mem_append_right _ (List.mem_flatMap.2 ⟨L,a,List.mem_cons_self⟩));rw[df]at this;exact this.eu
 have:=G.2 (V b.1.v 3 b.2) (List.mem_append_right _ (List.mem_flatMap.2 ⟨L,a,List.mem_cons_of_mem _ (List.mem_map.2 ⟨b,hb,rfl⟩)⟩));rw[df]at this;exact this.eu
theorem U.eh6{α:Type}[O α]{v:Value}{eb:TypeId}{xs:List α}{tp:List eH}(E:U w0 S w)(a:iH (V v eb xs) (V (nz v 0 xs.length xs.length (O.eo α)) eb xs) S tp):U w0 tp w:=
 E.F2 (k:=xs.length) (m:=xs.length) (Nat.le_refl _) (Nat.le_refl _) (E.eu a.kS).cap (show iH _ (V _ eb (xs.take xs.length)) S tp from(by rw[List.take_length];exact a))
theorem eh7{D:List np}{k:Nat}(b:k<D.length):(D.flatMap uS).Perm (uS D[k]++xK D k):=by
 have e:D.take k++D[k]::D.drop (k+1)=D:=by rw[<-List.drop_eq_getElem_cons b,List.take_append_drop]
 have h:=(List.perm_middle (l₁:=D.take k) (l₂:=D.drop (k+1)) (a:=D[k])).flatMap_right uS;rwa[e,List.flatMap_cons]at h
theorem eh8{D:List np}{k:Nat}(b:k<D.length)(L:np):((D.set k L).flatMap uS).Perm (uS L++xK D k):=by
 have h:=(List.perm_middle (l₁:=D.take k) (l₂:=D.drop (k+1)) (a:=L)).flatMap_right uS;rw[List.set_eq_take_append_cons_drop,if_pos b];rwa[List.flatMap_cons]at h
theorem U.Bj(A:List eH){D:List np}{k:Nat}(E:U w0 (A++(D.flatMap uS++S)) w)(a:k<D.length):U w0 (A++(uS D[k]++(xK D k++S))) w:=by
 refine E.hK (List.Perm.append_left _ ?_);rw[<-List.append_assoc];exact(eh7 a).append_right S
theorem eh9(A:List eH){D:List np}{k:Nat}(a:k<D.length){L:np}(E:U w0 (A++(uS L++(xK D k++S))) w):U w0 (A++((D.set k L).flatMap uS++S)) w:=by
 refine E.hK (List.Perm.append_left _ ?_);rw[<-List.append_assoc];exact((eh8 a L).append_right S).symm
end
abbrev wK:=List (List (List eL))
def cY(i:Int)(n:Nat):Bool:=decide (0<=i)&&decide (i<(n:Int))
def f9(C:wK)(i:Int):List (List eL):=if cY i C.length then C.getD i.toNat []else[]
def E2(C:wK)(i:Int):wK:=if cY i C.length then C.set i.toNat (f9 C i).tail else C
def kg(C:wK)(i:Int)(xs:List eL):Bool:=cY i C.length&&(decide (1<=xs.length)&&decide (xs.length<=64))
def Ry(C:wK)(i:Int)(xs:List eL):wK:=if kg C i xs then C.set i.toNat (f9 C i++[xs])else C
def E3(C:wK)(i:Int):Nat:=((f9 C i).map List.length).sum
def i9.C(d:i9):wK:=d.D.map λL=>L.q.map Prod.snd
theorem i9.qj(d:i9):d.C.length=d.D.length:=List.length_map _
theorem E4(h:k<n):cY (k:Int) n=true:=by simp[cY,h]
theorem C1(h:cY i n=true):∃k:Nat,i=(k:Int)/\k<n:=by
 simp only[cY,Bool.and_eq_true,decide_eq_true_eq]at h;exact⟨i.toNat,by omega,by omega⟩
theorem laneC_at{C:wK}(h:k<C.length):f9 C (k:Int)=C[k]:=by
 unfold f9;rw[E4 h,if_pos rfl,Int.toNat_natCast,List.getD_eq_getElem?_getD,List.getElem?_eq_getElem h];rfl
theorem Bq{C:wK}(h:cY i C.length=false):f9 C i=[]:=by unfold f9;rw[h];rfl
theorem i9.laneC_at(d:i9)(h:k<d.D.length):f9 d.C (k:Int)=d.D[k].q.map Prod.snd:=by
 rw[Go.Fer.laneC_at (by rw[d.qj];exact h)];simp[i9.C]
theorem i9.Bz(d:i9):i9.C ⟨ac,og,d.D.set k L⟩=d.C.set k (L.q.map Prod.snd):=by simp[i9.C,List.map_set]
theorem ele(q:List gw):dK q=((q.map Prod.snd).map List.length).sum:=by simp[dK,List.map_map,Function.comp_def]
theorem elt(h:k<d.D.length):E3 d.C (k:Int)=dK d.D[k].q:=by rw[E3,d.laneC_at h,ele]
def xX:gw:=(ed,[])
theorem U.ela(A:List eH)(E:U w0 (A++(gb q++S)) w):U w0 (V (q.headD xX).1.v 3 (q.headD xX).2::(A++(gb q.tail++S))) w:=by
 cases q with
 |nil=>exact E.lR _
 |cons b q=>exact E.hK (List.perm_middle (l₁:=A) (l₂:=gb q++S) (a:=V b.1.v 3 b.2))
theorem elo(q:List gw)(b:gw):gb (q++[b])=gb q++[V b.1.v 3 b.2]:=by simp[gb]
theorem eli:dK (q++[b])=dK q+b.2.length:=by simp[dK]
section
variable{w0 w:World}{S:List eH}{p:Nat}{d:i9}
theorem U.BE{e:eH}{k:Nat}{L:np}(b:k<d.D.length)(E:U w0 (e::V d.ac.v 493 ((d.D.map np.r).set k L.r)::V L.l.v 134 L.cs::B p (O.enc (rB.mk d.ac d.og)) 329::V d.og.v 3 ((d.D.map rx).set k (rx L))::(gb L.q++(xK d.D k++S))) w):U w0 (e::mu p ⟨d.ac,d.og,d.D.set k L⟩::S) w:=by
 have G:=(((E.pick (e:=V d.og.v 3 ((d.D.map rx).set k (rx L))) .e8).pick (e:=V d.ac.v 493 ((d.D.map np.r).set k L.r)) .Y).pick (e:=B p (O.enc (rB.mk d.ac d.og)) 329) .e8).pick (e:=e) .ej;have Y:=eh9 [e,B p (O.enc (rB.mk d.ac d.og)) 329,V d.ac.v 493 ((d.D.map np.r).set k L.r),V d.og.v 3 ((d.D.map rx).set k (rx L))] b (L:=L) G;rw[<-List.map_set,<-List.map_set]at Y;have ej:=Y.hK (List.perm_middle (l₁:=B p (O.enc (rB.mk d.ac d.og)) 329::V d.ac.v 493 ((d.D.set k L).map np.r)::V d.og.v 3 ((d.D.set k L).map rx)::((d.D.set k L).flatMap uS)) (l₂:=S) (a:=e)).symm;exact(ej.Ov (d:=⟨d.ac,d.og,d.D.set k L⟩)).swap
theorem U.eln{k:Nat}{L:np}(a:k<d.D.length)(E:U w0 (V d.ac.v 493 ((d.D.map np.r).set k L.r)::V L.l.v 134 L.cs::B p (O.enc (rB.mk d.ac d.og)) 329::V d.og.v 3 ((d.D.map rx).set k (rx L))::(gb L.q++(xK d.D k++S))) w):U w0 (mu p ⟨d.ac,d.og,d.D.set k L⟩::S) w:=
 ((E.lR (α:=eL) 3).BE a).nS
theorem els(A:List eH){q:List gw}{b:gw}(E:U w0 (V b.1.v 3 b.2::(A++(gb q++S))) w):U w0 (A++(gb (q++[b])++S)) w:=by
 rw[elo,List.append_assoc,<-List.append_assoc];refine U.hK ?_ (List.perm_middle (l₁:=A++gb q) (l₂:=S) (a:=V b.1.v 3 b.2)).symm;rw[List.append_assoc];exact E
end
theorem elr:dK q=(q.headD xX).2.length+dK q.tail:=by cases q<;>simp[dK,xX]
theorem elh:(q.map Prod.snd).headD []=(q.headD xX).2:=by cases q<;>rfl
theorem ell(Z:ex w0 v xs)(eB:xs.length<=100000):eJ 283 #[v] w0 (λu w'=>sH w0 w' u 3 xs/\eV w0 w'):=by
 obtain⟨a,c,rfl⟩:=Z.eq;refine eN 9 (eY _) func283 ntmps283 results283 rfl λw E=>?_;refine et (fO rfl rfl (ey 2 E<|om 8 4 (λb w E=>?_) (λb w E=>?_)))
 .
   cases a with
   |none=>
    obtain⟨rfl,_,_⟩:=Z.wg;exact⟨sH.nil _ _ _,E.ee⟩
   |some a=>cases b
 .
   refine rF 1 E (nB ([]:List eL)) λd w E=>?_;refine et (dj rfl E rfl en ((Z.es E.ee)) (by(try simp only[List.length_append,List.length_cons,List.length_nil,List.length_map]);omega) (by simp only[maxLen];(try simp only[List.length_append,List.length_cons,List.length_nil,List.length_map]);omega) ?_);intro e w E;replace E:=E _ en;refine ey 5 E λw E=>?_;have G:=E.cZ en;simp only[List.nil_append]at G;exact⟨G,E.ee⟩
theorem C2{s:rB}(c:an w0 (N p) (O.enc s))(hr:ex w0 s.Rf.v aw):tS 281 #[N p,.int .i64 i] w0 (.bool (cY i aw.length)):=by
 refine eN 10 (eY _) func281 ntmps281 results281 rfl λw E=>?_;refine ts.eQ _ 7 _ rfl rfl rfl rfl (λj=>oP rfl ⟨rfl,eV.refl _⟩) (λw a=>?_);replace E:=E.es a;refine ts.eQ _ 7 _ rfl rfl rfl rfl (λd=>J.geq (by first|exact ov rfl d|rfl) rfl ⟨rfl,eV.refl _⟩) (λw a=>?_);replace E:=E.es a;refine et (pZ rfl (by first|rfl) rfl (ey 1 E λw E=>(ts.eQ _ 11 _ rfl rfl rfl rfl (λk=>oP rfl ⟨rfl,eV.refl _⟩) (λw a=>?_))));replace E:=E.es a;refine ts.eQ _ 11 _ rfl rfl rfl rfl (λl=>oI (v:=N p) rfl ⟨rfl,eV.refl _⟩) (λw a=>?_);replace E:=E.es a;refine ts.eQ _ 11 _ rfl rfl rfl rfl (λe=>sk (by first|exact ov rfl e|rfl) ⟨rfl,eV.refl _⟩) (λw a=>?_);replace E:=E.es a;refine ts.eQ _ 11 _ rfl rfl rfl rfl (λf=>o9 (by first|exact ov rfl f|rfl) ⟨rfl,eV.refl _⟩) (λw a=>?_);replace E:=E.es a;refine ts.eQ _ 11 _ rfl rfl rfl rfl (λg=>ag (by first|exact ov rfl g|rfl) ((c.es E.ee).vA (ehG _)) ⟨rfl,eV.refl _⟩) (λw a=>?_);replace E:=E.es a;refine ts.eQ _ 11 _ rfl rfl rfl rfl (λh=>J.hD (by first|exact ov rfl h|rfl) ((hr.es E.ee)) ⟨rfl,eV.refl _⟩) (λw a=>?_);replace E:=E.es a;refine ts.eQ _ 11 _ rfl rfl rfl rfl (λb=>J.lss (by first|exact ov rfl b|rfl) (by first|exact ov rfl b|rfl) ⟨rfl,eV.refl _⟩) (λw a=>?_);replace E:=E.es a;exact et (pZ rfl (by first|rfl) rfl (ey 5 E λw E=>(⟨congrArg Value.bool (by simp[cY,Bool.and_comm]),E.ee⟩)))
def uH(s t:ec)(n:Nat):i9:=⟨s,t,List.replicate n ⟨ed,0,[],[]⟩⟩
theorem BT:(List.replicate n (⟨ed,0,[],[]⟩:np)).flatMap uS=List.replicate n (V (ec.v ed) 134 ([]:List ec)):=by
 induction n with
 |zero=>rfl
 |succ n a=>rw[List.replicate_succ,List.flatMap_cons,a,List.replicate_succ];rfl
theorem U.BA(n:Nat)(E:U w0 S w):U w0 (List.replicate n (V (ec.v ed) 134 ([]:List ec))++S) w:=by
 induction n with
 |zero=>exact E
 |succ n a=>rw[List.replicate_succ];exact a.lR _
theorem BO(h:n<=64):uR 0 (uH s t n):=by
 refine⟨by simpa[uH]using h,λL a=>?_⟩;obtain rfl:=List.eq_of_mem_replicate a;exact⟨⟨Nat.le_refl _,by simp,.inr ⟨rfl,rfl⟩,λi h=>absurd h (by simp)⟩,Nat.le_refl _,Nat.le_refl _⟩
theorem BI:(uH s t n).C=List.replicate n []:=by simp[uH,i9.C]
theorem eld:eJ 77 #[.int .i64 i] w0 (λu w'=>(cY (i-1) 64=false/\u= .tuple #[.pointer none,i6 1]/\eV w0 w')∨(cY (i-1) 64=true/\∃p d,u= .tuple #[N p,i6 0]/\uR 0 d/\d.C=List.replicate i.toNat []/\d.ac.a.isNone=false/\jk w0 w' (mu p d)/\eV w0 w')):=by
 refine eN 12 (eY _) func77 ntmps77 results77 rfl λw E=>?_;refine ts.eQ _ 6 _ rfl rfl rfl rfl (λt=>oP rfl ⟨rfl,eV.refl _⟩) (λw g=>?_);replace E:=E.es g;refine ts.eQ _ 6 _ rfl rfl rfl rfl (λo=>J.gtr (by first|exact ov rfl o|rfl) rfl ⟨rfl,eV.refl _⟩) (λw g=>?_);replace E:=E.es g;refine et (fe rfl rfl (by first|rfl) (ey 2 E<|na 9 0 (λk q w E=>?_) (λk q w E=>?_)))
 .
   exact .inl ⟨by simp at k;simp[cY];omega,rfl,E.ee⟩
 .
   have hb:1<=i/\i<=64:=by simp at k;omega
   obtain⟨n,rfl⟩:∃n:Nat,i=(n:Int):=⟨i.toNat,by omega⟩;refine eA 3 E λw E=>?_;refine gC 8 (eX [0,2] (.iZ 1 3 (.one 3 (.look 4 (.one 5 (eX [6,7] .nil)))) (.one 1 (.look 4 (.one 5 (eX [6,7] .nil)))))) (by kernel_rfl) (λ_ _ _ h=>h) (λaB s=>?_);replace E:=E.es s;have f:=E;have e:=eY aB;refine ht 2 f ?_;refine e2.iZ rfl rfl rfl rfl ?_ ?_
   .refine dt (α:=Ring) (n:=n) (⟨ed,0,0⟩:Ring) rfl e rfl rfl (by omega) (by simp only[maxLen];omega) ?_;intro b w g e;refine⟨e.ee,?_⟩;have E:=iq f e;refine ol rfl (dt (α:=eL) (n:=n) ⟨0⟩ rfl e rfl rfl (by omega) (by simp only[maxLen];omega) ?_);intro c w g e;refine⟨e.ee,?_⟩;have E:=iq f e;refine ss f rfl (λw E=>sV (r:=((rB.mk (tE b n n) (tE c n n)):rB)) (ps:=rB.parts ((rB.mk (tE b n n) (tE c n n)):rB)) (Rp _) (by first|rfl|(simp only[hJ,dw,sg,iW,Rp,rB.parts];rfl)) (by(repeat' (first|exact trivial|refine And.intro ?_ ?_))<;>first|rfl|exact O.ez _|(simp;done)) eG) ?_;refine ol rfl (ba e rfl ?_);intro j w g e;refine⟨e.ee,?_⟩;have E:=iq f e;refine ht 2 f ?_;refine e2.nil (s6 3 E λw E=>?_);refine .inr ⟨by simp[cY];omega,j,uH (tE b n n) (tE c n n) n,rfl,BO (by omega),BI,rfl,?_,E.ee⟩;have G:U w0 (B j (O.enc (rB.mk (tE b n n) (tE c n n))) 329::V (ec.v (tE b n n)) 493 (List.replicate n (⟨ed,0,0⟩:Ring))::V (ec.v (tE c n n)) 3 (List.replicate n (⟨0⟩:eL))::[]) w:=
     E.hK (by first|exact List.Perm.refl _|exact .cons _ (List.Perm.swap _ _ _))
    have Y:=(G.BA n).hK (List.perm_append_comm);have ej:U w0 (B j (O.enc (rB.mk (tE b n n) (tE c n n))) 329::V (ec.v (tE b n n)) 493 ((uH (tE b n n) (tE c n n) n).D.map np.r)::V (ec.v (tE c n n)) 3 ((uH (tE b n n) (tE c n n) n).D.map rx)::((uH (tE b n n) (tE c n n) n).D.flatMap uS++[])) w:=by
     have l:(uH (tE b n n) (tE c n n) n).D.map np.r=List.replicate n (⟨ed,0,0⟩:Ring):=List.map_replicate;have m:(uH (tE b n n) (tE c n n) n).D.map rx=List.replicate n (⟨0⟩:eL):=List.map_replicate;rw[l,m,show(uH (tE b n n) (tE c n n) n).D.flatMap uS=_ from BT,List.append_nil];exact Y
    exact(ej.Ov (d:=uH (tE b n n) (tE c n n) n)).zi .nW
   refine dt (α:=eL) (n:=n) ⟨0⟩ rfl e rfl rfl (by omega) (by simp only[maxLen];omega) ?_;intro c w g e;refine⟨e.ee,?_⟩;have E:=iq f e;refine ol rfl (dt (α:=Ring) (n:=n) (⟨ed,0,0⟩:Ring) rfl e rfl rfl (by omega) (by simp only[maxLen];omega) ?_);intro b w g e;refine⟨e.ee,?_⟩;have E:=iq f e;refine ss f rfl (λw E=>sV (r:=((rB.mk (tE b n n) (tE c n n)):rB)) (ps:=rB.parts ((rB.mk (tE b n n) (tE c n n)):rB)) (Rp _) (by first|rfl|(simp only[hJ,dw,sg,iW,Rp,rB.parts];rfl)) (by(repeat' (first|exact trivial|refine And.intro ?_ ?_))<;>first|rfl|exact O.ez _|(simp;done)) eG) ?_;refine ol rfl (ba e rfl ?_);intro j w g e;refine⟨e.ee,?_⟩;have E:=iq f e;refine ht 2 f ?_;refine e2.nil (s6 3 E λw E=>?_);refine .inr ⟨by simp[cY];omega,j,uH (tE b n n) (tE c n n) n,rfl,BO (by omega),BI,rfl,?_,E.ee⟩;have G:U w0 (B j (O.enc (rB.mk (tE b n n) (tE c n n))) 329::V (ec.v (tE b n n)) 493 (List.replicate n (⟨ed,0,0⟩:Ring))::V (ec.v (tE c n n)) 3 (List.replicate n (⟨0⟩:eL))::[]) w:=
    E.hK (by first|exact List.Perm.refl _|exact .cons _ (List.Perm.swap _ _ _))
   have Y:=(G.BA n).hK (List.perm_append_comm);have ej:U w0 (B j (O.enc (rB.mk (tE b n n) (tE c n n))) 329::V (ec.v (tE b n n)) 493 ((uH (tE b n n) (tE c n n) n).D.map np.r)::V (ec.v (tE c n n)) 3 ((uH (tE b n n) (tE c n n) n).D.map rx)::((uH (tE b n n) (tE c n n) n).D.flatMap uS++[])) w:=by
    have l:(uH (tE b n n) (tE c n n) n).D.map np.r=List.replicate n (⟨ed,0,0⟩:Ring):=List.map_replicate;have m:(uH (tE b n n) (tE c n n) n).D.map rx=List.replicate n (⟨0⟩:eL):=List.map_replicate;rw[l,m,show(uH (tE b n n) (tE c n n) n).D.flatMap uS=_ from BT,List.append_nil];exact Y
   exact(ej.Ov (d:=uH (tE b n n) (tE c n n) n)).zi .nW
theorem BN(ep:Ok w0 p d):tS 212 #[N p,.int .i64 i] w0 (i6 (E3 d.C i:Nat)):=by
 refine eN 10 (eY _) func212 ntmps212 results212 rfl λw E=>?_;refine et (J.call (C2 (ep.es E.ee).b (ep.es E.ee).l) rfl ?_);rintro _ w ⟨rfl,f⟩;replace E:=E.es f;rw[List.length_map];refine ey 3 E<|na 8 0 (λa g w E=>?_) (λa g w E=>?_)
 .
   have ew:cY i d.D.length=false:=by simpa using a
   rw[E3,Bq (by rw[d.qj];exact ew)];exact⟨rfl,E.ee⟩
 .
   have ew:cY i d.D.length=true:=by simpa using a
   obtain⟨k,rfl,e⟩:=C1 ew;have h:k<(d.D.map rx).length:=by rw[List.length_map];exact e
   have j:(d.D.map rx)[k]=rx d.D[k]:=List.getElem_map ..;have:=ir ep.b;refine eA 9 E λw E=>?_;refine et (nX rfl ((ep.es E.ee).c) rfl (by omega) (et (ag rfl (Ie ((ep.es E.ee).c.sm h) (by rw[j];rfl:(O.enc ((d.D.map rx)[k]))[0]? =some (i6 (dK d.D[k].q:Int)))) (et (iP rfl (ey 4 E λw E=>?_))))));rw[elt e];exact⟨rfl,E.ee⟩
theorem C3(eC:U ea (mu p d::S) w0)(g:uR sl d)(M:sl<=1000):eJ 284 #[N p,.int .i64 i] w0 (λu w'=>∃(b:gw)(d':i9),u= .tuple #[b.1.v,.bool (!(f9 d.C i).isEmpty)]/\b.2=(f9 d.C i).headD []/\d'.C=E2 d.C i/\d'.ac=d.ac/\uR sl d'/\U ea (V b.1.v 3 b.2::mu p d'::S) w'):=by
 refine eN 11 eC.Bk func284 ntmps284 results284 rfl λw E=>?_;refine et (J.call (C2 (E.tb en) (E.eu (v:=d.ac.v) (xs:=(d.D.map np.r)) en)) rfl ?_);rintro _ w ⟨rfl,s⟩;replace E:=E.es s;rw[List.length_map];refine ey 3 E<|na 9 0 (λh t w E=>?_) (λh t w E=>?_)
 .
   have ew:cY i d.C.length=false:=by rw[d.qj];simpa using h
   rw[Bq ew];exact⟨xX,d,rfl,rfl,by rw[E2,ew];rfl,rfl,g,E.Ov.lR 3⟩
 .
   have ew:cY i d.D.length=true:=by simpa using h
   obtain⟨k,rfl,a⟩:=C1 ew;obtain⟨L,c⟩:∃L,d.D[k]=L:=⟨_,rfl⟩;have m:=g.at a;rw[c]at m;obtain⟨x,y,z⟩:=m;have A:k<(d.D.map np.r).length:=by rw[List.length_map];exact a
   have F:(d.D.map np.r)[k]=L.r:=by rw[List.getElem_map,c]
   have n:k<(d.D.map rx).length:=by rw[List.length_map];exact a
   have G:(d.D.map rx)[k]=rx L:=by rw[List.getElem_map,c]
   have o:f9 d.C (k:Int)=L.q.map Prod.snd:=by rw[d.laneC_at a,c]
   replace E:U ea (B p (O.enc (rB.mk d.ac d.og)) 329::V d.ac.v 493 (d.D.map np.r)::V d.og.v 3 (d.D.map rx)::V d.D[k].l.v 134 d.D[k].cs::(gb d.D[k].q++(xK d.D k++S))) _:=E.Bj [_,_,_] a;rw[c]at E;refine eA 10 E ⟨⟨by omega⟩,λ_ w E=>?_⟩;refine et (J.call (eh3 A F x ((E.pick (e:=V L.l.v 134 L.cs) en).pick (e:=V d.ac.v 493 (d.D.map np.r)) en)) rfl ?_);rintro H w ⟨L',f,I,j,E⟩;replace j:H= .tuple #[(L.q.headD xX).1.v,.bool (!L.q.isEmpty)]:=j;subst j;refine ey 9 E λw E=>?_;replace E:=E.ela [_,_,_,_];rw[<-f]at E;have K:=elr (q:=L.q);rw[<-f]at K;refine ey 3 E λw E=>?_;refine af 1 E (hA λw E=>E.a6 en (Bp (rB.mk d.ac d.og))) λw E=>?_;refine et (nX rfl (E.eu (v:=d.og.v) (xs:=(d.D.map rx)) en) rfl (by omega) ?_);refine af 2 E (hA λw E=>Ie ((E.eu (v:=d.og.v) (xs:=(d.D.map rx)) en).sm n) (by rw[G];rfl:(O.enc ((d.D.map rx)[k]))[0]? =some (i6 (dK L.q:Int)))) λw E=>?_;refine et (J.sub rfl rfl ((wrap_i64 (by omega)).trans (by omega:_=(dK L'.q:Int))) ?_);refine et (nX rfl (E.eu (v:=d.og.v) (xs:=(d.D.map rx)) en) rfl (by omega) ?_);refine oE (pd (v:=d.og.v) (u:=i6 (dK L'.q:Int)) (eo:=1) (xs:=(d.D.map rx)) (i:=k) (off:=0) (l9:=rx L') E en n (yA d.og.v k (O.eo eL)).symm rfl (by rfl) (by decide) (oZ _ _) (mq (by rfl)) (tH en λw E=>?_));refine ey 12 E λw E=>?_;rw[o];refine⟨(L.q.headD xX),⟨d.ac,d.og,d.D.set k L'⟩,by cases L.q<;>rfl,(elh).symm,?_,rfl,g.set (Nat.le_refl _) I (by rw[f,List.length_tail];omega) (by omega),E.BE a⟩;rw[d.Bz,E2,E4 (by rw[d.qj];exact a),if_pos rfl,o,Int.toNat_natCast,f,List.map_tail]
theorem elm(eC:U ea (mu p d::S) w0)(t:uR sl d)(nh:sl<=900)(M:d.ac.a.isNone=false)(eB:∀w,U ea S w->ex w v xs):eJ 203 #[N p,.int .i64 i,v] w0 (λu w'=>∃d':i9,u=i6 (if kg d.C i xs then 0 else 1)/\d'.C=Ry d.C i xs/\d'.ac=d.ac/\uR (sl+1) d'/\U ea (mu p d'::S) w'):=by
 refine eN 16 eC.Bk func203 ntmps203 results203 rfl λw E=>?_;refine dp 10 rfl rfl rfl (et (fO rfl rfl (ey 4 E<|na 0 4 (λF P w E=>?_) (λ_ P w E=>?_))))
 .
   rw[M]at F;cases F
 .
   refine et (J.call (C2 (E.tb en) (E.eu (v:=d.ac.v) (xs:=(d.D.map np.r)) en)) rfl ?_);rintro _ w ⟨rfl,c⟩;replace E:=E.es c;rw[List.length_map];refine ey 2 E λw E=>?_;refine ts.eQ _ 22 _ rfl rfl rfl rfl (λbI=>oI (v:=v) rfl ⟨rfl,eV.refl _⟩) (λw c=>?_);replace E:=E.es c;refine ts.eQ _ 22 _ rfl rfl rfl rfl (λQ=>J.hD (by first|exact ov rfl Q|rfl) ((eB _ (E.nS.nS.nS.sub (List.sublist_append_right _ _)))) ⟨rfl,eV.refl _⟩) (λw c=>?_);replace E:=E.es c;refine ts.eQ _ 22 _ rfl rfl rfl rfl (λR=>J.lss (by first|exact ov rfl R|rfl) rfl ⟨rfl,eV.refl _⟩) (λw c=>?_);replace E:=E.es c;refine et (fe rfl rfl (by first|rfl) (ey 1 E λw E=>(ts.eQ _ 27 _ rfl rfl rfl rfl (λWA=>oI (v:=v) rfl ⟨rfl,eV.refl _⟩) (λw c=>?_))));replace E:=E.es c;refine ts.eQ _ 27 _ rfl rfl rfl rfl (λT=>J.hD (by first|exact ov rfl T|rfl) ((eB _ (E.nS.nS.nS.sub (List.sublist_append_right _ _)))) ⟨rfl,eV.refl _⟩) (λw c=>?_);replace E:=E.es c;refine ts.eQ _ 27 _ rfl rfl rfl rfl (λW=>J.gtr (by first|exact ov rfl W|rfl) rfl ⟨rfl,eV.refl _⟩) (λw c=>?_);replace E:=E.es c;refine et (fe rfl rfl (by first|rfl) (ey 3 E<|na 9 0 (λn X w E=>?_) (λn X w E=>?_)))
   .
     have hb:kg d.C i xs=false:=by
      cases x:cY i d.D.length
      .simp[kg,d.qj,x]
      simp[x]at n;simp[kg,d.qj,x];omega
     rw[hb,Ry,hb];exact⟨d,rfl,rfl,rfl,t.pj (Nat.le_succ _),E.Ov⟩
   .
     have hb:cY i d.D.length=true/\1<=xs.length/\xs.length<=64:=by
      simp at n;refine⟨?_,by omega,by omega⟩;exact n.1.1
     obtain⟨ew,Y,Z⟩:=hb;have G:kg d.C i xs=true:=by simp[kg,d.qj,ew,Y,Z]
     obtain⟨k,rfl,g⟩:=C1 ew;obtain⟨L,j⟩:∃L,d.D[k]=L:=⟨_,rfl⟩;have H:=t.at g;rw[j]at H;obtain⟨C4,elc,elu⟩:=H;have v2:k<(d.D.map np.r).length:=by rw[List.length_map];exact g
     have AC:(d.D.map np.r)[k]=L.r:=by rw[List.getElem_map,j]
     have I:k<(d.D.map rx).length:=by rw[List.length_map];exact g
     have Ox:(d.D.map rx)[k]=rx L:=by rw[List.getElem_map,j]
     have xQ:f9 d.C (k:Int)=L.q.map Prod.snd:=by rw[d.laneC_at g,j]
     replace E:U ea (B p (O.enc (rB.mk d.ac d.og)) 329::V d.ac.v 493 (d.D.map np.r)::V d.og.v 3 (d.D.map rx)::V d.D[k].l.v 134 d.D[k].cs::(gb d.D[k].q++(xK d.D k++S))) _:=E.Bj [_,_,_] g;rw[j]at E;refine eA 4 E λw E=>?_;refine gC 9 (eX [0,1,2,3,4,5,6] (oA [7,8,9] .nil)) (by kernel_rfl) (λ_ _ _ h=>h) (λaB iN=>?_);replace E:=E.es iN;have m:=E;have f:=eY aB;refine ht 5 m ?_;refine ss m rfl (λw E=>nX rfl (E.eu (v:=d.ac.v) (xs:=(d.D.map np.r)) en) rfl (by omega) eG) (ht 1 m (ol rfl (J.call (ell (eB _ (E.nS.nS.nS.nS.sub ((List.sublist_append_right _ _).trans (List.sublist_append_right _ _)))) (by omega)) rfl ?_)));rintro v39 w ⟨K,c⟩;replace f:=f.pB c K.1 K.2;refine⟨f.ee,?_⟩;have E:=iq m f;refine ol rfl (J.call (YD (E.eu (v:=v39) (xs:=xs) en)) rfl ?_);rintro y w ⟨z,c⟩;replace f:=f.es c;replace f:=f.eh6 (v:=v39) (xs:=xs) en;rw[<-z]at f;obtain⟨o,rfl⟩:=(f.eu (v:=y) (xs:=xs) en).mI;refine⟨f.ee,?_⟩;have E:=iq m f;refine hO rfl (J.call (ehZ (ea:=ea) (ac:=d.ac.v) (aw:=(d.D.map np.r)) (k:=k) (L:=L) v2 AC C4 (b:=o) (xs:=xs) (by omega) ((E.pick (e:=V L.l.v 134 L.cs) en).pick (e:=V d.ac.v 493 (d.D.map np.r)) en)) rfl ?_);rintro L6 w ⟨L',s,C5,E⟩;refine e2.nil (s6 3 E λw E=>?_);replace E:=els [_,_,_,_] (b:=(o,xs)) (E.pick (e:=V o.v 3 xs) en);rw[<-s]at E;have A:=eli (q:=L.q) (b:=(o,xs));rw[<-s]at A;have WT:L'.q.length=L.q.length+1:=by rw[s];simp
     refine ey 3 E λw E=>?_;refine af 1 E (hA λw E=>E.a6 en (Bp (rB.mk d.ac d.og))) λw E=>?_;refine et (nX rfl (E.eu (v:=d.og.v) (xs:=(d.D.map rx)) en) rfl (by omega) ?_);refine af 1 E (hA λw E=>Ie ((E.eu (v:=d.og.v) (xs:=(d.D.map rx)) en).sm I) (by rw[Ox];rfl:(O.enc ((d.D.map rx)[k]))[0]? =some (i6 (dK L.q:Int)))) λw E=>?_;refine et (J.hD rfl ((eB _ (E.nS.nS.nS.nS.sub ((List.sublist_append_right _ _).trans (List.sublist_append_right _ _))))) ?_);refine et (J.add rfl rfl ((wrap_i64 (by omega)).trans (by simp only at A;omega:_=(dK L'.q:Int))) ?_);refine et (nX rfl (E.eu (v:=d.og.v) (xs:=(d.D.map rx)) en) rfl (by omega) ?_);refine oE (pd (v:=d.og.v) (u:=i6 (dK L'.q:Int)) (eo:=1) (xs:=(d.D.map rx)) (i:=k) (off:=0) (l9:=rx L') E en I (yA d.og.v k (O.eo eL)).symm rfl (by rfl) (by decide) (oZ _ _) (mq (by rfl)) (tH en λw E=>?_));refine ey 9 E λw E=>?_;rw[G,if_pos rfl];refine⟨⟨d.ac,d.og,d.D.set k L'⟩,rfl,?_,rfl,t.set (Nat.le_succ _) C5 (by omega) (by simp only at A;omega),E.eln g⟩;rw[d.Bz,Ry,G,if_pos rfl,xQ,Int.toNat_natCast,s,List.map_append];rfl
def uL(n:Nat)(o:Option Nat):wK:=match o with|none=>List.replicate n []|some w=>(List.replicate n []).set w [[⟨0⟩]]
theorem Oj(n:Nat)(o:Option Nat):(uL n o).length=n:=by cases o<;>simp[uL]
theorem b6(h:k<n)(o:Option Nat):f9 (uL n o) (k:Int)=if o=some k then[[⟨0⟩]]else[]:=by
 rw[laneC_at (by rw[Oj];exact h)];cases o with
 |none=>simp[uL]
 |some w=>
  simp only[uL,List.getElem_set,Option.some.injEq];split<;>simp
theorem C7{C:wK}(h:k<C.length)(e:C[k]=[]):C.set k []=C:=by
 rw[<-e];exact List.set_getElem_self h
structure Oq(n:Nat)(o:Option Nat)(d:i9):Prop where
 ok:uR (if o.isSome then 1 else 0) d
 C:d.C=uL n o
 ac:d.ac.a.isNone=false
@[irreducible] def sj (p:Nat) (d:i9) (n:Nat) (o:Option Nat):eH:=hC [nn (Oq n o d),mu p d]
theorem U.Rv(h:U w0 (sj p d n o::S) w):(Oq n o d)/\U w0 (mu p d::S) w:=by
 unfold sj at h;have h:=h.de;have G:=h.get (e:=nn (Oq n o d)) .em;rw[md]at G;exact⟨G,h.sub (List.sublist_cons_self _ _)⟩
theorem C8(e1:Oq n o d)(h:U w0 (mu p d::S) w):U w0 (sj p d n o::S) w:=by
 unfold sj;exact U.closed (l:=[nn (Oq n o d),mu p d]) (h.pure e1)
@[irreducible] def rf (p:Nat) (d:i9) (n:Nat):eH:=hC [nn (uR 1 d/\d.C=uL n none/\d.ac.a.isNone=false),mu p d]
theorem U.BR(h:U w0 (rf p d n::S) w):(uR 1 d/\d.C=uL n none/\d.ac.a.isNone=false)/\U w0 (mu p d::S) w:=by
 unfold rf at h;have h:=h.de;have G:=h.get (e:=nn (uR 1 d/\d.C=uL n none/\d.ac.a.isNone=false)) .em;rw[md]at G;exact⟨G,h.sub (List.sublist_cons_self _ _)⟩
theorem BH(e1:uR 1 d/\d.C=uL n none/\d.ac.a.isNone=false)(h:U w0 (mu p d::S) w):U w0 (rf p d n::S) w:=by
 unfold rf;exact U.closed (l:=[nn (uR 1 d/\d.C=uL n none/\d.ac.a.isNone=false),mu p d]) (h.pure e1)
theorem elg(G:1<=n)(Y:n<=64):eJ 77 #[i6 n] w0 (λu w'=>∃(p:Nat)(d:i9),u= .tuple #[N p,i6 0]/\U w0 [sj p d n none] w'):=by
 refine(eld).mono ?_;rintro u w' (⟨h,_⟩|⟨_,p,d,rfl,ej,e8,au,a,hb⟩)
 .exfalso;simp[cY]at h;omega
 exact⟨p,d,rfl,C8 ⟨ej,by rw[e8];simp[uL],au⟩ ((eY w0).TW hb a)⟩
theorem elw(a:k<n)(b:U ea S w0)(c:tP (sj p d n none) S):tS 212 #[N p,i6 k] w0 (i6 0):=by
 obtain⟨e1,h⟩:=(b.mem c).Rv;have e:=BN (w0:=w0) (p:=p) (d:=d) (i:=(k:Int)) (h.Bx .em);rw[e1.C,E3,b6 a,if_neg (by simp)]at e;exact e
theorem ely(a:k<n)(c:o≠some k)(eC:U ea (sj p d n o::S) w0):eJ 284 #[N p,i6 k] w0 (λu w'=>∃(s:ec)(d:i9),u= .tuple #[s.v,.bool false]/\U ea (V s.v 3 ([]:List eL)::sj p d n o::S) w'):=by
 obtain⟨e1,E⟩:=eC.Rv;refine(C3 E e1.ok (by split<;>omega)).mono ?_;rintro u w' ⟨b,d',g,hb,i,eB,j,l⟩;have e:f9 d.C (k:Int)=[]:=by rw[e1.C,b6 a,if_neg c]
 rw[e]at g hb;obtain⟨s,xs⟩:=b;obtain rfl:xs=[]:=hb;have m:d'.C=uL n o:=by
  rw[i,e1.C,E2];have f:k<(uL n o).length:=by rw[Oj];exact a
  rw[E4 f,if_pos rfl,b6 a,if_neg c,Int.toNat_natCast];have h:=laneC_at f;rw[b6 a,if_neg c]at h;exact C7 f h.symm
 refine⟨s,d',g,?_⟩;exact(C8 (S:=V s.v 3 ([]:List eL)::S) ⟨j,m,by rw[eB];exact e1.ac⟩ (l.pick .G)).pick .G
theorem elb(a:k<n)(eC:U ea (sj p d n (some k)::S) w0):eJ 284 #[N p,i6 k] w0 (λu w'=>∃(s:ec)(d:i9),u= .tuple #[s.v,.bool true]/\U ea (V s.v 3 ([⟨0⟩]:List eL)::rf p d n::S) w'):=by
 obtain⟨e1,E⟩:=eC.Rv;refine(C3 E e1.ok (by split<;>omega)).mono ?_;rintro u w' ⟨b,d',c,hb,f,eB,g,h⟩;have e:f9 d.C (k:Int)=[[⟨0⟩]]:=by rw[e1.C,b6 a,if_pos rfl]
 rw[e]at c hb;obtain⟨s,xs⟩:=b;obtain rfl:xs=[⟨0⟩]:=hb;have i:d'.C=uL n none:=by
  rw[f,e1.C,E2];have j:k<(uL n (some k)).length:=by rw[Oj];exact a
  rw[E4 j,if_pos rfl,b6 a,if_pos rfl,Int.toNat_natCast];simp only[uL,List.set_set,List.tail_cons];exact C7 (by simpa using a) (by simp)
 refine⟨s,d',c,?_⟩;exact(BH (S:=V s.v 3 ([⟨0⟩]:List eL)::S) ⟨g,i,by rw[eB];exact e1.ac⟩ (h.pick .G)).pick .G
theorem elv(a:k<n)(eC:U ea (rf p d n::S) w0):eJ 284 #[N p,i6 k] w0 (λu w'=>∃(s:ec)(d:i9),u= .tuple #[s.v,.bool false]/\U ea (V s.v 3 ([]:List eL)::rf p d n::S) w'):=by
 obtain⟨⟨G,Y,ej⟩,E⟩:=eC.BR;refine(C3 E G (by omega)).mono ?_;rintro u w' ⟨b,d',c,hb,g,eB,h,i⟩;have e:f9 d.C (k:Int)=[]:=by rw[Y,b6 a,if_neg (by simp)]
 rw[e]at c hb;obtain⟨s,xs⟩:=b;obtain rfl:xs=[]:=hb;have j:d'.C=uL n none:=by
  rw[g,Y,E2];have f:k<(uL n none).length:=by rw[Oj];exact a
  rw[E4 f,if_pos rfl,b6 a,if_neg (by simp),Int.toNat_natCast];exact C7 f (by simp[uL])
 refine⟨s,d',c,?_⟩;exact(BH (S:=V s.v 3 ([]:List eL)::S) ⟨h,j,by rw[eB];exact ej⟩ (i.pick .G)).pick .G
theorem elk(a:k<n)(b:U ea S w0)(c:tP (rf p d n) S):tS 212 #[N p,i6 k] w0 (i6 0):=by
 obtain⟨⟨_,Y,_⟩,h⟩:=(b.mem c).BR;have e:=BN (w0:=w0) (p:=p) (d:=d) (i:=(k:Int)) (h.Bx .em);rw[Y,E3,b6 a,if_neg (by simp)]at e;exact e
theorem elx{v:ec}(a:k<n)(eC:U ea (sj p d n none::V v.v 3 ([⟨0⟩]:List eL)::S) w0):eJ 203 #[N p,i6 k,v.v] w0 (λu w'=>∃(d:i9),u=i6 0/\U ea (sj p d n (some k)::V v.v 3 ([⟨0⟩]:List eL)::S) w'):=by
 obtain⟨e1,E⟩:=eC.Rv;have hb:kg d.C (k:Int) [⟨0⟩]=true:=by rw[e1.C];unfold kg;rw[Oj,E4 a];rfl
 refine(elm E e1.ok (by decide) e1.ac (λw h=>h.eu .em)).mono ?_;rintro u w' ⟨d',b,c,eB,e,f⟩;rw[hb]at b;refine⟨d',b,C8 ⟨e,?_,by rw[eB];exact e1.ac⟩ f⟩;rw[c,Ry,hb,if_pos rfl,e1.C,b6 a,if_neg (by simp),Int.toNat_natCast];rfl
end
end Go.Fer
