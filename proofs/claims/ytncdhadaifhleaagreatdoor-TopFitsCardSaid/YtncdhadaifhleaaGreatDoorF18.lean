import Derived.Test.YtncdhadaifhleaaGreatDoorF14
import Derived.Test.YtncdhadaifhleaaGreatDoorF17
set_option linter.all false
set_option synthInstance.maxSize 100000
set_option synthInstance.maxHeartbeats 400000
set_option maxHeartbeats 8000000
set_option maxRecDepth 100000
namespace Go.Fer
open Go Go.RowKit
section
open Go.Proofs Tryz
variable{S:List eL}{a b oy k p tv y o3 n1:Nat}{tu:List av}{l:List t7}{v:Value}{w w' w0:World}{oL:uF}{li:Option Nat}
structure cn where
 pj:uF
 block:Nat
 tv:Nat
 of:Option Nat
variable{x:cn}
def cn.parts(x:cn):List (Array Value):=[O.enc x.pj,#[eb x.block],#[eb x.tv],#[.map x.of]]
theorem ehj(x:cn):x.parts.map Array.size=[3,1,1,1]:=by
 simp only[cn.parts,List.map,O.eT];rfl
instance:O cn where
 enc x:=eK x.parts
 eo:=6
 pos:=by omega
 eT x:=by rw[iw,ehj];rfl
 one x:=rY (all_cons (O.one _) (all_cons (o0 _ _) (all_cons (o0 _ _) (all_cons (q9 _) rB))))
theorem ehq(x:cn):(O.enc x)[3]? =some (eb x.block):=hp [O.enc x.pj] [#[eb x.tv],#[.map x.of]] _ sH
theorem ehz(x:cn):(O.enc x)[4]? =some (eb x.tv):=hp [O.enc x.pj,#[eb x.block]] [#[.map x.of]] _ sH
theorem BR(x:cn):(O.enc x)[5]? =some (.map x.of):=hp [O.enc x.pj,#[eb x.block],#[eb x.tv]] [] _ sH
theorem Uf(x:cn)(v:Nat):iH (O.enc x) 3 #[eb v]=O.enc {x with block:=v}:=by
 have h:=rG [O.enc x.pj] [#[eb x.tv],#[.map x.of]] (#[eb x.block]) (#[eb v]) (by first|(rw[O.eT,O.eT];done)|rfl);rw[show(eK [O.enc x.pj]).size=3 from sH]at h;exact h
theorem Up(x:cn)(v:Nat):iH (O.enc x) 4 #[eb v]=O.enc {x with tv:=v}:=by
 have h:=rG [O.enc x.pj,#[eb x.block]] [#[.map x.of]] (#[eb x.tv]) (#[eb v]) (by first|(rw[O.eT,O.eT];done)|rfl);rw[show(eK [O.enc x.pj,#[eb x.block]]).size=4 from sH]at h;exact h
instance(priority:=2000):nt (⟨oL,o3,n1,li⟩:cn) [O.enc oL,#[eb o3],#[eb n1],#[.map li]]:=⟨rfl⟩
structure sw where
 lh:uF
 block:Nat
 tv:Nat
 r:Nat
 eS:List (av×Nat)
variable{d d':sw}
def dY(n:Nat):Value:=eb n
def sw.l6(d:sw)(k:av):Nat:=(tR k d.eS).getD 0
@[irreducible] def fw (p:Nat) (d:sw):eL:=hD [V p (O.enc (cn.mk d.lh d.block d.tv (some d.r))) 434,tW d.r dY d.eS]
theorem U.ehE(h:U w0 (fw p d::S) w):U w0 (V p (O.enc (cn.mk d.lh d.block d.tv (some d.r))) 434::tW d.r dY d.eS::S) w:=by
 unfold fw at h;exact h.dr
theorem U.Ug(d:sw)(h:U w0 (V p (O.enc (cn.mk d.lh d.block d.tv (some d.r))) 434::tW d.r dY d.eS::S) w):U w0 (fw p d::S) w:=by
 unfold fw;exact U.closed (l:=[V p (O.enc (cn.mk d.lh d.block d.tv (some d.r))) 434,tW d.r dY d.eS]) h
def Uw(w:World)(p:Nat)(d:sw):Prop:=ar w (N p) (O.enc (cn.mk d.lh d.block d.tv (some d.r)))/\hV w d.r dY d.eS
theorem U.BH(h:U w0 S w)(a:tX (fw p d) S):Uw w p d:=by
 have G:=h.get a;unfold fw at G;rw[pK]at G;refine⟨?_,?_⟩
 .have:=G.2 (V p (O.enc (cn.mk d.lh d.block d.tv (some d.r))) 434) (by simp);unfold V at this;exact ar.dV this
 have:=G.2 (tW d.r dY d.eS) (by simp);rw[mN]at this;exact this
def b4(d:sw)(oy:Nat)(tu:List av)(tv:Nat):Int:=
 if d.lh.block<nO d.block oy then 24 else if tu.any (λk=>decide (d.lh.rJ<nO (d.l6 k) oy))=true then 25 else if d.lh.tv<nO d.tv tv then 26 else 0
def RO(d:sw)(oy:Nat)(tu:List av)(tv:Nat)(d':sw):Prop:=
 d'.lh=d.lh/\d'.block=nO d.block oy/\d'.tv=nO d.tv tv/\∀k,d'.l6 k=if k∈tu then nO (d.l6 k) oy else d.l6 k
def wJ(l:List t7):Nat:=l.foldl (λn x=>nO n x.n) 0
theorem ehT(l:List t7):l.foldl (λn x=>nO n x.n) 18446744073709551615=18446744073709551615:=by
 induction l with
 |nil=>rfl
 |cons x l a=>
  rw[List.foldl_cons];have:nO 18446744073709551615 x.n=18446744073709551615:=by unfold nO;split<;>omega
  rw[this];exact a
theorem BL(a:k<l.length):wJ (l.take (k+1))=nO (wJ (l.take k)) l[k].n:=by
 unfold wJ;rw[List.take_succ_eq_append_getElem a,List.foldl_append];rfl
theorem ehA(a:k<l.length)(h:18446744073709551616<=wJ (l.take k)+l[k].n):wJ l=18446744073709551615:=by
 have e:l=l.take (k+1)++l.drop (k+1):=(List.take_append_drop _ _).symm;have G:=BL a;have Y:nO (wJ (l.take k)) l[k].n=18446744073709551615:=by unfold nO;split<;>omega
 rw[Y]at G;rw[e];unfold wJ at G⊢;rw[List.foldl_append,G,ehT]
theorem b5(ep:a<18446744073709551616):wJ [⟨a⟩,⟨b⟩]=nO a b:=by
 show nO (nO 0 a) b=nO a b;have:nO 0 a=a:=by unfold nO;split<;>omega
 rw[this]
theorem ehO{x:Nat}:(callFunc 171 #[eb x,eb y,.int .u64 0]).run prog w= .ok (.value (.tuple #[.int .u64 (((x+y)%18446744073709551616:Nat):Int),.int .u64 (((x+y)/18446744073709551616:Nat):Int)])) w:=
 Pv func171 (by kernel_rfl) (by kernel_rfl) (by kernel_rfl) (by kernel_rfl) x y w
def yK(d:sw):Prop:=d.block<18446744073709551616/\d.tv<18446744073709551616/\∀k,d.l6 k<18446744073709551616
theorem RO.ok(h:RO d oy tu tv d')(hd:yK d):yK d':=by
 obtain⟨_,Y,ez,e6⟩:=h;refine⟨by rw[Y];exact Nc _ _,by rw[ez];exact Nc _ _,λk=>?_⟩;rw[e6];split
 .exact Nc _ _
 exact hd.2.2 k
theorem b6(c:ev w0 v l):tN 397 #[v] w0 (.int .u64 (wJ l:Int)):=by
 have:=aS c;refine eH 14 (eG _) func397 ntmps397 results397 rfl λw E=>?_;refine ex.loop (λq f w=>∃k:Nat,oW [(2,.int .u64 ((wJ (l.take k)):Int)),(7,v),(8,i6 l.length),(9,i6 k)] f/\U w0 [] w/\k<=l.length/\q=l.length-k) (l.length) ?_ ?_
 .
   exact⟨0,⟨rfl,rfl,rfl,rfl,trivial⟩,E,Nat.zero_le _,rfl⟩
 .
   rintro q f w ⟨k,d,E,o,th⟩;refine io _ d (λg=>?_);clear d;refine eI 6 E<|om 0 0 (λe w E=>?_) (λe w E=>?_)
   .
     have a:k<l.length:=by omega
     have h:=c.le;simp only[maxLen]at h;have i:=BL a;refine eI 7 E ⟨⟨by omega⟩,λ_ w E=>?_⟩;have:=lC a;refine ew 8 E λw E=>?_;refine ea (As (ehO) rfl (ew 14 E<|om 13 0 (λj w E=>?_) (λj w E=>?_)))
     .
       exact⟨congrArg (λn:Nat=>Value.int .u64 (n:Int)) (ehA a (by omega)).symm,E.J⟩
     .
       have b:nO (wJ (l.take k)) l[k].n=((wJ (l.take k))+l[k].n)%18446744073709551616:=by unfold nO;rw[if_pos (by omega),Nat.mod_eq_of_lt (by omega)]
       refine eI 13 E ⟨iA,λw E=>?_⟩;exact⟨l.length-(k+1),by omega,k+1,⟨congrArg (Value.int .u64) (by rw[i];exact congrArg _ b.symm),rfl,rfl,congrArg (Value.int .i64) (by omega),trivial⟩,E,by omega,rfl⟩
   .
     have m:k=l.length:=by omega
     subst m;rw[List.take_length];refine eI 13 E λw E=>?_;exact⟨rfl,E.J⟩
theorem ehN(ep:Uw w0 p d)(c:yK d)(e:ev w0 v tu):tN 396 #[N p,eb oy,v,eb tv] w0 (i6 (b4 d oy tu tv)):=by
 have:=iu ep.1;refine eH 19 (eG _) func396 ntmps396 results396 rfl<|na 0 4 (λn o w E=>?_) (λ_ o w E=>?_)
 .
   simp at n
 .
   refine nV 10 13 (e5 [0,1,2,3,4,7,8,9,10,11] (oJ [5,6] (.look 12 .nil))) [] E λw E=>?_;refine ol rfl (n4 E (([⟨d.block⟩,⟨oy⟩]:List t7)) [eb d.block,eb oy] rfl rfl rfl rfl (by decide) ?_);intro r w a E;refine⟨pm E,?_⟩;refine ol rfl (Z.call (b6 (E.ef es)) rfl ?_);rintro _ w ⟨rfl,a⟩;replace E:=E.ei a;rw[b5 c.1];refine⟨pm E,?_⟩;refine ao 3 E<|om 8 0 (λs w E=>?_) (λs w E=>?_)
   .
     have G:d.lh.block<nO d.block oy:=by omega
     exact⟨congrArg (Value.int .i64) (if_pos G).symm,E.J⟩
   .
     have G:¬d.lh.block<nO d.block oy:=by omega
     have:=aS e;refine eI 11 E λw E=>?_;refine ex.loop (λq f w=>∃k:Nat,oW [(0,N p),(1,eb oy),(3,eb tv),(33,v),(34,i6 tu.length),(35,i6 k)] f/\U w0 [] w/\(∀j(b:j<tu.length),j<k->¬d.lh.rJ<nO (d.l6 tu[j]) oy)/\k<=tu.length/\q=tu.length-k) (tu.length) ?_ ?_
     .
       exact⟨0,⟨rfl,rfl,rfl,rfl,rfl,rfl,trivial⟩,E.sub aI,λj _ h=>by omega,Nat.zero_le _,rfl⟩
     .
       rintro q f w ⟨k,i,E,l,I,th⟩;refine io _ i (λg=>?_);clear i;refine eI 6 E<|om 0 0 (λt w E=>?_) (λt w E=>?_)
       .
         have m:k<tu.length:=by omega
         have y:=e.le;simp only[maxLen]at y;refine eI 7 E ⟨⟨by omega⟩,λ_ w E=>?_⟩;have:=lC m;refine ew 6 E λK=>?_;refine ow 5 15 (e5 [0,1,2,3,4,5,6,9,10,11,12,13] (oJ [7,8] (.look 14 .nil))) [] λw E=>?_;refine tw rfl (λw E=>vI (tl:=av) (k:=tu[k]) (ti:=dY) (z0:=0) (u:=d.l6 tu[k]) inferInstance (ep.2.ei E.J) rfl rfl rfl eY) ?_;refine ao 6 E λw E=>?_;refine ol rfl (n4 E (([⟨d.l6 tu[k]⟩,⟨oy⟩]:List t7)) [.int .u64 (d.l6 tu[k]:Int),eb oy] rfl rfl rfl rfl (by decide) ?_);intro z w a E;refine⟨pm E,?_⟩;refine ol rfl (Z.call (b6 (E.ef es)) rfl ?_);rintro _ w ⟨rfl,a⟩;replace E:=E.ei a;rw[b5 (c.2.2 _)];refine⟨pm E,?_⟩;refine ao 3 E<|om 12 8 (λA w E=>?_) (λA=>⟨iA,λw E=>?_⟩)
         .
           have Y:tu.any (λk=>decide (d.lh.rJ<nO (d.l6 k) oy))=true:=List.any_eq_true.2 ⟨tu[k],List.getElem_mem m,decide_eq_true (by omega)⟩;exact⟨congrArg (Value.int .i64) (by unfold b4;rw[if_neg G,if_pos Y]),E.J⟩
         .
           refine⟨tu.length-(k+1),by omega,k+1,⟨rfl,rfl,rfl,rfl,rfl,congrArg (Value.int .i64) (by omega),trivial⟩,E.sub aI,λj b L=>?_,by omega,rfl⟩;rcases Nat.lt_or_ge j k with h|h
           .exact l j b h
           obtain rfl:j=k:=by omega
           omega
       .
         have M:k=tu.length:=by omega
         have Y:¬tu.any (λk=>decide (d.lh.rJ<nO (d.l6 k) oy))=true:=by
          intro B;obtain⟨x,C,D⟩:=List.any_eq_true.1 B;obtain⟨j,b,rfl⟩:=List.getElem_of_mem C;exact l j b (by omega) (of_decide_eq_true D)
         refine eI 7 E ?_;refine ow 10 13 (e5 [0,1,2,3,4,7,8,9,10,11] (oJ [5,6] (.look 12 .nil))) [] λw E=>?_;refine ol rfl (n4 E (([⟨d.tv⟩,⟨tv⟩]:List t7)) [eb d.tv,eb tv] rfl rfl rfl rfl (by decide) ?_);intro F w a E;refine⟨pm E,?_⟩;refine ol rfl (Z.call (b6 (E.ef es)) rfl ?_);rintro _ w ⟨rfl,a⟩;replace E:=E.ei a;rw[b5 c.2.1];refine⟨pm E,?_⟩;refine ao 3 E<|om 8 9 (λH w E=>?_) (λH w E=>?_)
         .
           have ez:d.lh.tv<nO d.tv tv:=by omega
           exact⟨congrArg (Value.int .i64) (by unfold b4;rw[if_neg G,if_neg Y,if_pos ez]),E.J⟩
         .
           have ez:¬d.lh.tv<nO d.tv tv:=by omega
           exact⟨congrArg (Value.int .i64) (by unfold b4;rw[if_neg G,if_neg Y,if_neg ez]),E.J⟩
theorem BD(ep:Uw w0 p d):tN 216 #[N p] w0 (eb d.block):=by
 refine eH 12 (eG _) func216 ntmps216 results216 rfl<|have:=iu ep.1;na 0 13 (λa b w E=>?_) (λ_ b w E=>?_)
 .
   simp at a
 .
   exact⟨rfl,E.J⟩
theorem ehS{l:uF}:eJ 158 #[.agg (O.enc l)] w0 (λu w'=>∃p d,u=N p/\d.lh=l/\d.block=0/\d.tv=0/\(∀k,d.l6 k=0)/\jv w0 w' (fw p d)/\eB w0 w'):=by
 refine eH 9 (eG _) func158 ntmps158 results158 rfl λiZ w E=>?_;refine ea (Z.makeMap av dY E ?_);intro tD w _ E;refine ag 6 E (p0 ((cn.mk l 0 0 (some tD)):cn)) λa w E=>?_;refine⟨a,⟨l,0,0,tD,[]⟩,rfl,rfl,rfl,rfl,λk=>rfl,?_,E.J⟩;replace E:=E.sub (tg:=[V a (O.enc (cn.mk l 0 0 (some tD))) 434,tW tD dY ([]:List (av×Nat))]) aI;exact(E.Ug (S:=[]) ⟨l,0,0,tD,[]⟩).zn .nU
variable{c i:Nat}{i9 rt:List (av×Nat)}{is:List Nat}{rh:List av}{en:World}
def kc(d:sw)(oy:Nat)(tu:List av)(rt:List (av×Nat)):Prop:=∀x,tR x rt=if x∈tu then some (nO (d.l6 x) oy)else none
theorem kc.nil(d:sw)(oy:Nat):kc d oy [] []:=λx=>by simp[tR]
theorem kc.step(b:k<tu.length)(h:kc d oy (tu.take k) rt):kc d oy (tu.take (k+1)) (oH tu[k] (nO (d.l6 tu[k]) oy) rt):=by
 intro x;have th:x∈tu.take (k+1)↔x∈tu.take k∨x=tu[k]:=by rw[List.take_succ_eq_append_getElem b,List.mem_append,List.mem_singleton]
 rw[mI,h x];by_cases e:x=tu[k]
 .rw[if_pos e,if_pos (th.2 (.inr e)),e]
 rw[if_neg e];by_cases a:x∈tu.take k
 .rw[if_pos a,if_pos (th.2 (.inl a))]
 rw[if_neg a,if_neg (λh=>(th.1 h).elim a e)]
theorem Uy{tl tx:Type}[DecidableEq tl]:∀{l:List (tl×tx)}{i:Nat}(ey:i<l.length),(l.map Prod.fst).Nodup->tR (l[i]'ey).1 l=some (l[i]'ey).2
 |(x,v)::r,0,_,_=>by simp[tR]
 |(x,v)::r,i+1,ey,a=>by
  simp only[List.map_cons,List.nodup_cons]at a;have b:i<r.length:=by simpa using ey
  have c:=Uy b a.2;have d:r[i].1≠x:=λe=>a.1 (e▸List.mem_map_of_mem (List.getElem_mem b));simp[tR,d,c]
theorem BC{tl tx:Type}[DecidableEq tl]:∀{l:List (tl×tx)}{k:tl}{v:tx},tR k l=some v->∃i,∃ey:i<l.length,(l[i]'ey).1=k
 |(x,u)::r,k,v,h=>by
  by_cases a:k=x
  .exact⟨0,by simp,by simp[a]⟩
  simp[tR,a]at h;obtain⟨i,ey,e⟩:=BC h;exact⟨i+1,by simpa using ey,by simpa using e⟩
def ku(d:sw)(oy:Nat)(rt:List (av×Nat))(is:List Nat)(i9:List (av×Nat)):Prop:=
 (∀i∈is,∀ey:i<rt.length,(tR (rt[i]'ey).1 i9).getD 0=nO (d.l6 (rt[i]'ey).1) oy)/\∀x,(∀i∈is,∀ey:i<rt.length,(rt[i]'ey).1≠x) ->(tR x i9).getD 0=d.l6 x
theorem ku.nil(d:sw)(oy:Nat)(rt:List (av×Nat)):ku d oy rt [] d.eS:=⟨λi h=>(by cases h),λx _=>rfl⟩
theorem ku.step(ey:i<rt.length)(f:(rt.map Prod.fst).Nodup)(g:kc d oy tu rt)(h:ku d oy rt is i9):
 ku d oy rt (is++[i]) (oH rt[i].1 rt[i].2 i9):=by
 have tC:rt[i].2=nO (d.l6 rt[i].1) oy:=by
  have G:=Uy ey f;rw[g]at G;split at G
  .exact(Option.some.inj G).symm
  cases G
 refine⟨λj a b=>?_,λx c=>?_⟩
 .rw[mI];by_cases e:rt[j].1=rt[i].1
  .rw[if_pos e,Option.getD_some,tC,e]
  rw[if_neg e];rcases List.mem_append.1 a with a|a
  .exact h.1 j a b
  simp at a;subst a;exact absurd rfl e
 rw[mI,if_neg (λe=>c i (by simp) ey e.symm)];exact h.2 x λj a b=>c j (List.mem_append_left _ a) b
theorem ku.all(c:(rt.map Prod.fst).Nodup)(b:kc d oy tu rt)(h:ku d oy rt is i9)(f:∀i,i<rt.length->i∈is)(x:av):
 (tR x i9).getD 0=if x∈tu then nO (d.l6 x) oy else d.l6 x:=by
 by_cases a:x∈tu
 .rw[if_pos a];have G:=b x;rw[if_pos a]at G;obtain⟨i,ey,rfl⟩:=BC G;exact h.1 i (f i ey) ey
 rw[if_neg a];refine h.2 x λi _ ey e=>?_;have G:=Uy ey c;rw[e,b x,if_neg a]at G;cases G
theorem ehR(I:U en (fw p d::S) w0)(e:yK d)(l:∀w,U en S w->ev w v tu):eJ 376 #[N p,eb oy,v,eb tv] w0 (λu w'=>∃d',u=i6 (b4 d oy tu tv)/\(b4 d oy tu tv=0->RO d oy tu tv d')/\(b4 d oy tu tv≠0->d'=d)/\yK d'/\U en (fw p d'::S) w'):=by
 refine nk.enter (args:=[N p,eb oy,v,eb tv]) func376 rfl ntmps376 results376 rfl ?_;have E:=eG w0;replace E:=I.ehE;refine ex.seq (λfQ K=>?_);refine ex.region ?_;refine ea (iM rfl ?_);refine tn.nil ?_;refine aE (K _ _ ?_);refine ex.seq (λfZ L=>?_);refine ex.seq (λyR M=>?_);refine ex.region ?_;refine ea (oM (v:=N p) rfl ?_);refine ea (oD rfl ?_);refine ea (oM (v:=v) rfl ?_);refine ea (oD rfl ?_);refine ea (Z.call (ehN ⟨E.tU es,E.map es⟩ e (l _ (E.sub aI))) rfl ?_);rintro _ w ⟨rfl,c⟩;replace E:=E.ei c;refine ea (iM rfl ?_);refine tn.nil ?_;refine aE (M _ _ ?_);refine ex.seq (λbC P=>?_);refine ex.region ?_;refine ea (oD rfl ?_);refine ea (Z.neq rfl rfl ?_);refine tn.nil ?_;refine aE (P _ _ ?_);refine ex.cond _ rfl (λm=>?_) (λm=>?_)
 .
   have z:=m
   try simp only[rs]at m
   refine ex.seq (λbU Q=>?_);refine ex.region ?_;refine ea (oD rfl ?_);refine ea (iM rfl ?_);refine tn.nil ?_;refine aE (Q _ _ ?_);refine ex.ret ?_;refine pP ?_;refine cI (.hB rfl .nil) ?_;have s:b4 d oy tu tv≠0:=by simpa using z
   exact⟨d,rfl,λh=>absurd h s,λ_=>rfl,e,E.Ug d⟩
 .
   have z:=m
   try simp only[rs]at m
   have s:b4 d oy tu tv=0:=by simpa using z
   refine ex.skip ?_;refine aE (L _ _ ?_);refine lK (λf w=>oW [(0,N p),(1,eb oy),(2,v)] f/\U en (V p (O.enc (cn.mk d.lh (nO d.block oy) (nO d.tv tv) (some d.r))) 434::tW d.r dY d.eS::S) w) ?_ ?_
   .
     refine gU 16 (e5 [0,1,2,3,4,5,6,9,10,11,12,13] (.nc 7 14 (.nc 8 14 (oJ [14,15,16,17,18,19,20,21] .nil) (oJ [8,15,16,17,18,19,20,21] .nil)) (oJ [7,8,15,16,17,18,19,20,21] .nil))) (by kernel_rfl) (λ_ _ _ h=>h) (λaM R=>?_);replace E:=E.ei R;have b:=E;have a:=eG aM;refine si b rfl (λw E=>oM (v:=N p) rfl eY) ?_;refine si b rfl (λw E=>oM (v:=N p) rfl eY) ?_;refine si b rfl (λw E=>oM (v:=N p) rfl eY) ?_;refine si b rfl (λw E=>sS rfl eY) ?_;refine si b rfl (λw E=>o9 rfl eY) ?_;refine si b rfl (λw E=>ap rfl (E.aV es (ehq _)) eY) ?_;refine si b rfl (λw E=>oD rfl eY) ?_;refine si b rfl (λw E=>oM (v:=N p) rfl eY) ?_;refine si b rfl (λw E=>sS rfl eY) ?_;refine si b rfl (λw E=>o9 rfl eY) ?_;refine si b rfl (λw E=>ap rfl (E.aV es (ehz _)) eY) ?_;refine si b rfl (λw E=>oD rfl eY) ?_;refine e3.nc rfl rfl rfl rfl ?_ ?_
     .refine n4 a (([⟨d.block⟩,⟨oy⟩]:List t7)) [eb d.block,eb oy] rfl rfl rfl rfl (by decide) ?_;intro T w c a;refine⟨a.J,?_⟩;have E:=ik b a;refine e3.nc rfl rfl rfl rfl ?_ ?_
      .refine Z.call (b6 (E.ef es)) rfl ?_;rintro _ w ⟨rfl,c⟩;replace a:=a.ei c;rw[b5 e.1];refine⟨a.J,?_⟩;have E:=ik b a;refine ol rfl (n4 a (([⟨d.tv⟩,⟨tv⟩]:List t7)) [eb d.tv,eb tv] rfl rfl rfl rfl (by decide) ?_);intro D w c a;refine⟨a.J,?_⟩;have E:=ik b a;refine ol rfl (Z.call (b6 (E.ef es)) rfl ?_);rintro _ w ⟨rfl,c⟩;replace a:=a.ei c;rw[b5 e.2.1];refine⟨a.J,?_⟩;have E:=ik b a;refine hA rfl (sS rfl ?_);refine hA rfl (o9 rfl ?_);refine nP rfl (iU (eo:=1) E rfl rfl es rfl (by rw[O.eT];decide) (o0 _ _) (Uf _ _) ?_);intro w E;replace E:=E _ es;refine hA rfl (sS rfl ?_);refine hA rfl (o9 rfl ?_);refine nP rfl (iU (eo:=1) E rfl rfl es rfl (by rw[O.eT];decide) (o0 _ _) (Up _ _) ?_);intro w E;replace E:=E _ es;refine e3.nil ?_;refine aE ?_;exact⟨⟨rfl,rfl,rfl,trivial⟩,E.sub aI⟩
      refine n4 a (([⟨d.tv⟩,⟨tv⟩]:List t7)) [eb d.tv,eb tv] rfl rfl rfl rfl (by decide) ?_;intro D w c a;refine⟨a.J,?_⟩;have E:=ik b a;refine ol rfl (Z.call (b6 (E.ef es)) rfl ?_);rintro _ w ⟨rfl,c⟩;replace a:=a.ei c;rw[b5 e.1];refine⟨a.J,?_⟩;have E:=ik b a;refine ol rfl (Z.call (b6 (E.ef es)) rfl ?_);rintro _ w ⟨rfl,c⟩;replace a:=a.ei c;rw[b5 e.2.1];refine⟨a.J,?_⟩;have E:=ik b a;refine hA rfl (sS rfl ?_);refine hA rfl (o9 rfl ?_);refine nP rfl (iU (eo:=1) E rfl rfl es rfl (by rw[O.eT];decide) (o0 _ _) (Uf _ _) ?_);intro w E;replace E:=E _ es;refine hA rfl (sS rfl ?_);refine hA rfl (o9 rfl ?_);refine nP rfl (iU (eo:=1) E rfl rfl es rfl (by rw[O.eT];decide) (o0 _ _) (Up _ _) ?_);intro w E;replace E:=E _ es;refine e3.nil ?_;refine aE ?_;exact⟨⟨rfl,rfl,rfl,trivial⟩,E.sub aI⟩
     refine n4 a (([⟨d.tv⟩,⟨tv⟩]:List t7)) [eb d.tv,eb tv] rfl rfl rfl rfl (by decide) ?_;intro D w c a;refine⟨a.J,?_⟩;have E:=ik b a;refine ol rfl (n4 a (([⟨d.block⟩,⟨oy⟩]:List t7)) [eb d.block,eb oy] rfl rfl rfl rfl (by decide) ?_);intro T w c a;refine⟨a.J,?_⟩;have E:=ik b a;refine ol rfl (Z.call (b6 (E.ef es)) rfl ?_);rintro _ w ⟨rfl,c⟩;replace a:=a.ei c;rw[b5 e.1];refine⟨a.J,?_⟩;have E:=ik b a;refine ol rfl (Z.call (b6 (E.ef es)) rfl ?_);rintro _ w ⟨rfl,c⟩;replace a:=a.ei c;rw[b5 e.2.1];refine⟨a.J,?_⟩;have E:=ik b a;refine hA rfl (sS rfl ?_);refine hA rfl (o9 rfl ?_);refine nP rfl (iU (eo:=1) E rfl rfl es rfl (by rw[O.eT];decide) (o0 _ _) (Uf _ _) ?_);intro w E;replace E:=E _ es;refine hA rfl (sS rfl ?_);refine hA rfl (o9 rfl ?_);refine nP rfl (iU (eo:=1) E rfl rfl es rfl (by rw[O.eT];decide) (o0 _ _) (Up _ _) ?_);intro w E;replace E:=E _ es;refine e3.nil ?_;refine aE ?_;exact⟨⟨rfl,rfl,rfl,trivial⟩,E.sub aI⟩
   .
     rintro f w ⟨j,E⟩;refine io _ j (λg=>?_);clear j;refine ex.seq (λwP W=>?_);refine ex.region ?_;refine ea (Z.makeMap av dY E ?_);intro t6 w _ E;refine ea (wy (v:=tz t6) rfl ?_);refine tn.nil ?_;refine aE (W _ _ ?_);refine ex.seq (λyH X=>?_);refine ex.seq (λxR Y=>?_);refine ex.region ?_;refine ea (oM (v:=v) rfl ?_);refine ea (Z.hL rfl ((l _ (E.sub aI))) ?_);refine ea (oD rfl ?_);refine tn.nil ?_;refine aE (Y _ _ ?_);refine ex.block ?_;refine ex.loop (λq f w=>∃(k:Nat)(rt:List (av×Nat)),oW [(0,N p),(1,eb oy),(10,tz t6),(44,v),(45,i6 tu.length),(46,i6 k)] f/\U en (tW t6 dY rt::V p (O.enc (cn.mk d.lh (nO d.block oy) (nO d.tv tv) (some d.r))) 434::tW d.r dY d.eS::S) w/\kc d oy (tu.take k) rt/\k<=tu.length/\q=tu.length-k) (tu.length) ?_ ?_
     .
       exact⟨0,[],⟨rfl,rfl,rfl,rfl,rfl,rfl,trivial⟩,E,kc.nil _ _,Nat.zero_le _,rfl⟩
     .
       rintro q f w ⟨k,rt,j,E,t,rU,th⟩;refine io _ j (λg=>?_);clear j;refine ex.seq (λEl g1=>?_);refine ex.region ?_;refine ea (Z.lss rfl rfl ?_);refine tn.nil ?_;refine aE (g1 _ _ ?_);refine ex.seq (λEd wG=>?_);refine ex.cond _ rfl (λn=>?_) (λn=>?_)
       .
         have a8:=n
         try simp only[rs]at n
         have F:k<tu.length:=by omega
         have nI:=(l _ (E.sub aI)).le;simp only[maxLen]at nI;refine ex.skip ?_;refine aE (wG _ _ ?_);refine ex.seq (λEc g2=>?_);refine ex.block ?_;refine ex.seq (λSA vK=>?_);refine ex.region ?_;refine ea (nL rfl ((l _ (E.sub aI))) rfl (by omega) ?_);refine ea (ap rfl (((l _ (E.sub aI)).se F).nZ (O.eT tu[k])) ?_);refine ea (sV E ?_);intro ln w _ E;refine oA (iV E rfl rfl es (by first|rfl|exact O.eT _) ?_);intro w E;replace E:=E _ es;refine tn.nil ?_;refine aE (vK _ _ ?_);refine nV 0 11 (e5 [0,1,2,3,4,5,6,7,8] (oJ [9,10,11] .nil)) [] E λw E=>?_;refine tw rfl (λw E=>oM (v:=tz t6) rfl eY) ?_;refine tw rfl (λw E=>ap rfl (E.nZ (cs:=O.enc tu[k]) es (O.eT _)) eY) ?_;refine tw rfl (λw E=>oM (v:=N p) rfl eY) ?_;refine tw rfl (λw E=>sS rfl eY) ?_;refine tw rfl (λw E=>o9 rfl eY) ?_;refine tw rfl (λw E=>ap rfl (E.aV es (BR _)) eY) ?_;refine tw rfl (λw E=>ap rfl (E.nZ (cs:=O.enc tu[k]) es (O.eT _)) eY) ?_;refine tw rfl (λw E=>vI (tl:=av) (k:=tu[k]) (ti:=dY) (z0:=0) (u:=d.l6 tu[k]) inferInstance (E.map (r:=d.r) (ti:=dY) (eS:=d.eS) es) rfl rfl rfl eY) ?_;refine tw rfl (λw E=>oD rfl eY) ?_;refine ol rfl (n4 E (([⟨d.l6 tu[k]⟩,⟨oy⟩]:List t7)) [.int .u64 (d.l6 tu[k]:Int),eb oy] rfl rfl rfl rfl (by decide) ?_);intro RI w c E;refine⟨pm E,?_⟩;refine ol rfl (Z.call (b6 (E.ef es)) rfl ?_);rintro _ w ⟨rfl,c⟩;replace E:=E.ei c;rw[b5 (e.2.2 _)];refine⟨pm E,?_⟩;refine nP rfl (Z.mapUpdate (tl:=av) (k:=tu[k]) (v:=nO (d.l6 tu[k]) oy) (ti:=dY) (eS:=rt) E es rfl rfl rfl ?_);intro w E;replace E:=E _ es;refine e3.nil ?_;refine m7 ?_;refine aE (g2 _ _ ?_);refine ex.region ?_;refine ea (Z.add rfl rfl (wrap_i64 (by omega)) ?_);refine ea (oD rfl ?_);refine tn.nil ?_;refine aE ?_;exact⟨tu.length-(k+1),by omega,k+1,_,⟨rfl,rfl,rfl,rfl,rfl,congrArg (Value.int .i64) (by omega),trivial⟩,E.sub aI,t.step F,by omega,rfl⟩
       .
         have a8:=n
         try simp only[rs]at n
         have dj:k=tu.length:=by omega
         subst dj;rw[List.take_length]at t;refine ex.exit ?_;refine u4 ?_;refine u4 ?_;refine yl ?_;refine aE (X _ _ ?_);refine ex.seq (λSO yL=>?_);refine ex.seq (λDD j6=>?_);refine ex.region ?_;refine ea (oM (v:=tz t6) rfl ?_);refine ea (Z.range (tl:=av) (tx:=Nat) (ti:=dY) (eS:=rt) E es rfl ?_);intro oC w E;replace E:=E _ es;refine tn.nil ?_;refine aE (j6 _ _ ?_);refine ex.block ?_;refine ex.loop (λq f w=>∃(is:List Nat)(i9:List (av×Nat)),oW [(0,N p),(63,N oC)] f/\U en (lm oC t6 dY rt is::V p (O.enc (cn.mk d.lh (nO d.block oy) (nO d.tv tv) (some d.r))) 434::tW d.r dY i9::S) w/\ku d oy rt is i9/\q=rt.length-is.length) (rt.length) ?_ ?_
         .
           exact⟨[],d.eS,⟨rfl,rfl,trivial⟩,E,ku.nil _ _ _,rfl⟩
         .
           rintro q f w ⟨is,i9,j,E,G,th⟩;refine io _ j (λg=>?_);clear j;refine ex.seq (λDU j7=>?_);refine ex.region ?_;refine ea (jy (tl:=av) (tx:=Nat) (ti:=dY) E es rfl ?_);intro jE vs zo w em ig A E;replace E:=E _ es;refine ea (Z.extract rfl em ?_);refine tn.nil ?_;refine aE (j7 _ _ ?_);refine ex.seq (λSN vX=>?_);refine ex.cond _ rfl (λo=>?_) (λo=>?_)
           .
             have B:=o
             try simp only[rs]at o
             obtain⟨i,ey,mR,oT,rfl⟩:=A B;have y:=E.wz (ti:=dY) (eS:=rt) es;obtain⟨_,_,_,C⟩:=y.map;have he:=C.2.2;refine ex.skip ?_;refine aE (vX _ _ ?_);refine ex.block ?_;refine ex.seq (λSS vJ=>?_);refine ex.region ?_;refine ea (jb y ey rfl ?_);refine ea (Z.extract rfl rfl ?_);refine ea (Z.extract rfl rfl ?_);refine ea (sV E ?_);intro n7 w _ E;refine oA (iV E rfl rfl es (by first|rfl|exact O.eT _) ?_);intro w E;replace E:=E _ es;refine ea (wy (v:=dY (rt[i]).2) rfl ?_);refine tn.nil ?_;refine aE (vJ _ _ ?_);refine nV 0 6 (e5 [0,1,2,3,4,5] (.one 6 .nil)) [] E λw E=>?_;refine tw rfl (λw E=>oM (v:=N p) rfl eY) ?_;refine tw rfl (λw E=>sS rfl eY) ?_;refine tw rfl (λw E=>o9 rfl eY) ?_;refine tw rfl (λw E=>ap rfl (E.aV es (BR _)) eY) ?_;refine tw rfl (λw E=>ap rfl (E.nZ (cs:=O.enc (rt[i]).1) es (O.eT _)) eY) ?_;refine tw rfl (λw E=>oM (v:=dY (rt[i]).2) rfl eY) ?_;refine nP rfl (Z.mapUpdate (tl:=av) (k:=(rt[i]).1) (v:=(rt[i]).2) (ti:=dY) (eS:=i9) E es rfl rfl rfl ?_);intro w E;replace E:=E _ es;refine e3.nil ?_;refine m7 ?_;refine aE ?_;refine⟨rt.length-(is++[i]).length,by simp;omega,is++[i],_,⟨rfl,rfl,trivial⟩,E.sub aI,G.step ey he t,rfl⟩
           .
             have B:=o
             try simp only[rs]at o
             obtain⟨_,lu⟩:=ig B;refine ex.exit ?_;refine u4 ?_;refine u4 ?_;refine yl ?_;refine aE (yL _ _ ?_);refine ex.seq (λSR vQ=>?_);refine ex.region ?_;refine ea (iM rfl ?_);refine tn.nil ?_;refine aE (vQ _ _ ?_);refine ex.ret ?_;refine cI (.hB rfl .nil) ?_;have y:=E.wz (ti:=dY) (eS:=rt) es;obtain⟨_,_,_,C⟩:=y.map;have H:RO d oy tu tv ⟨d.lh,nO d.block oy,nO d.tv tv,d.r,i9⟩:=⟨rfl,rfl,rfl,λx=>G.all C.2.2 t lu x⟩;exact⟨⟨d.lh,nO d.block oy,nO d.tv tv,d.r,i9⟩,congrArg (Value.int .i64) s.symm,λ_=>H,λh=>absurd s h,H.ok e,E.nF.Ug ⟨d.lh,nO d.block oy,nO d.tv tv,d.r,i9⟩⟩
@[irreducible] def rl (p:Nat) (d:sw) (a b c:Nat):eL:=hD [no (d.lh=⟨a,b,c⟩/\d.block=0/\d.tv=0/\∀k,d.l6 k=0),fw p d]
theorem U.BF(h:U w0 (rl p d a b c::S) w):(d.lh=⟨a,b,c⟩/\d.block=0/\d.tv=0/\∀k,d.l6 k=0)/\U w0 (fw p d::S) w:=by
 unfold rl at h;have h:=h.dr;have G:=h.get (e:=no (d.lh=⟨a,b,c⟩/\d.block=0/\d.tv=0/\∀k,d.l6 k=0)) .em;rw[mf]at G;exact⟨G,h.sub (List.sublist_cons_self _ _)⟩
theorem ehL(e1:d.lh=⟨a,b,c⟩/\d.block=0/\d.tv=0/\∀k,d.l6 k=0)(h:U w0 (fw p d::S) w):U w0 (rl p d a b c::S) w:=by
 unfold rl;exact U.closed (l:=[no (d.lh=⟨a,b,c⟩/\d.block=0/\d.tv=0/\∀k,d.l6 k=0),fw p d]) (h.pure e1)
@[irreducible] def cZ (p:Nat) (d:sw):eL:=hD [no (yK d),fw p d]
theorem U.ehD(h:U w0 (cZ p d::S) w):(yK d)/\U w0 (fw p d::S) w:=by
 unfold cZ at h;have h:=h.dr;have G:=h.get (e:=no (yK d)) .em;rw[mf]at G;exact⟨G,h.sub (List.sublist_cons_self _ _)⟩
theorem ehC(e1:yK d)(h:U w0 (fw p d::S) w):U w0 (cZ p d::S) w:=by
 unfold cZ;exact U.closed (l:=[no (yK d),fw p d]) (h.pure e1)
theorem ehU:eJ 158 #[.agg #[eb a,eb b,eb c]] w0 (λu w'=>∃(p:Nat)(d:sw),u=N p/\U w0 [rl p d a b c] w'):=by
 refine(ehS (w0:=w0) (l:=⟨a,b,c⟩)).mono ?_;rintro u w' ⟨p,d,rfl,G,Y,ez,e6,e,f⟩;exact⟨p,d,rfl,ehL ⟨G,Y,ez,e6⟩ ((eG w0).An f e)⟩
theorem ehM{v:eu}(G:oy<=a)(Y:oy<=b)(ez:tv<=c)(e6:oy<18446744073709551616)(ac:tv<18446744073709551616)(i:U en (rl p d a b c::B v.v 60 rh::S) w0):eJ 376 #[N p,eb oy,v.v,eb tv] w0 (λu w'=>∃d:sw,u=i6 0/\U en (cZ p d::B v.v 60 rh::S) w'):=by
 obtain⟨⟨j,e,f,g⟩,E⟩:=i.BF;have l:yK d:=⟨by rw[e];decide,by rw[f];decide,λk=>by rw[g];decide⟩;have a2:∀n:Nat,n<18446744073709551616->nO 0 n=n:=λn h=>by unfold nO;split<;>omega
 refine(ehR E l (λw h=>h.ef .em)).mono ?_;rintro u w' ⟨d',m,_,_,aW,nf⟩;refine⟨d',?_,ehC aW nf⟩;rw[m];unfold b4;rw[j,e,f,a2 _ e6,a2 _ ac,if_neg (by simp only;omega),if_neg (by simp only[g,a2 _ e6];simp;intros;omega),if_neg (by simp only;omega)]
theorem ehF(a:U en S w0)(b:tX (cZ p d) S):eJ 216 #[N p] w0 (λu w'=>u=eb d.block/\eB w0 w'):=
 BD ((a.mem b).ehD.2.BH .em)
theorem ehP(f:U en S w0)(g:tX (rl p d a b c) S):tN 216 #[N p] w0 (.int .u64 0):=by
 obtain⟨⟨_,i,_⟩,h⟩:=(f.mem g).BF;have e:=BD (h.BH .em);rw[i]at e;exact e
end
end Go.Fer
