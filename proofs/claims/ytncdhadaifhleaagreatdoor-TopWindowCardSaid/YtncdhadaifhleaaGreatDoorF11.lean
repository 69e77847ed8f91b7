import Derived.Test.YtncdhadaifhleaaGreatDoorF8
import Derived.Test.YtncdhadaifhleaaGreatDoorF10
set_option linter.all false
set_option synthInstance.maxSize 100000
set_option synthInstance.maxHeartbeats 400000
set_option maxHeartbeats 8000000
set_option maxRecDepth 100000
namespace Go.Fer
open Go Go.RowKit
section
open Go.Proofs Tryz
variable{R:aZ}{S:List eH}{a:aH}{k uy:ak}{p:Nat}{r:List o6}{v oU:Option Nat}{w w' w0 ea:World}
structure cU where
 of:Option Nat
variable{x:cU}
def cU.parts(x:cU):List (Array Value):=[#[.map x.of]]
theorem eaq(x:cU):x.parts.map Array.size=[1]:=by
 simp only[cU.parts,List.map,O.ez];rfl
instance:O cU where
 enc x:=eK x.parts
 eo:=1
 pos:=by omega
 ez x:=by rw[iw,eaq];rfl
 one x:=rD (all_cons (ze _) rC)
instance(priority:=2000):nt (⟨oU⟩:cU) [#[.map oU]]:=⟨rfl⟩
theorem Ws:(eK [#[.int .u64 0],(Array.replicate 32 (.int .u8 0)),#[.int .u64 0]])=O.enc (sZ:aH):=by
 simp only[pg,aH.parts,iW,sZ];rfl
instance:wS (eK [#[.int .u64 0],(Array.replicate 32 (.int .u8 0)),#[.int .u64 0]]) (O.enc (sZ:aH)):=⟨Ws⟩
theorem eaz:uQ [#[.int .u64 0],Array.replicate 32 (.int .u8 0),#[.int .u64 0]] []=aH.parts sZ:=by
 simp only[sZ,aH.parts,uQ,iW];rfl
structure iL where
 r:Nat
 eI:List (ak×aH)
variable{d d':iL}
def mU(a:aH):Value:=.agg (O.enc a)
def iL.get(d:iL)(k:ak):aH:=(tL k d.eI).getD sZ
def iL.put(d:iL)(k:ak)(a:aH):iL:={d with eI:=if a=sZ then sp k d.eI else oC k a d.eI}
structure cM(d:iL):Prop where
 nU:(d.eI.map Prod.fst).Nodup
 Sq:∀x∈d.eI,x.2≠sZ
theorem Wr{tn tx:Type}[DecidableEq tn]{k:tn}{v:tx}:∀{l:List (tn×tx)}{x:tn×tx},x∈oC k v l->x=(k,v)∨x∈l
 |[],x,h=>by simp[oC]at h;exact .inl h
 |(y,u)::l,x,h=>by
  by_cases a:k=y
  .simp[oC,a]at h;rcases h with rfl|h
   .exact .inl (by rw[a])
   exact .inr (List.mem_cons_of_mem _ h)
  simp[oC,a]at h;rcases h with rfl|h
  .exact .inr List.mem_cons_self
  rcases Wr h with h|h
  .exact .inl h
  exact .inr (List.mem_cons_of_mem _ h)
theorem cM.put(h:cM d)(k:ak)(a:aH):cM (d.put k a):=by
 unfold iL.put;split
 .exact⟨h.nU.sublist ((HD k d.eI).map _),λx Z=>h.Sq x ((HD k d.eI).subset Z)⟩
 next ep=>
 refine⟨FO k a h.nU,λx Z=>?_⟩;rcases Wr Z with rfl|Z
 .exact ep
 exact h.Sq x Z
theorem eaE(h:cM d)(k uy:ak)(a:aH):(d.put k a).get uy=if uy=k then a else d.get uy:=by
 unfold iL.put iL.get;split
 .next ep=>
  rw[HC k uy h.nU];split
  .rw[ep];rfl
  rfl
 rw[mT];split<;>rfl
@[irreducible] def hR (p:Nat) (d:iL):eH:=hC [B p (O.enc (cU.mk (some d.r))) 205,tM d.r mU d.eI]
theorem U.Wh(h:U w0 (hR p d::S) w):U w0 (B p (O.enc (cU.mk (some d.r))) 205::tM d.r mU d.eI::S) w:=by
 unfold hR at h;exact h.de
theorem U.Sz(d:iL)(h:U w0 (B p (O.enc (cU.mk (some d.r))) 205::tM d.r mU d.eI::S) w):U w0 (hR p d::S) w:=by
 unfold hR;exact U.closed (l:=[B p (O.enc (cU.mk (some d.r))) 205,tM d.r mU d.eI]) h
def Wl(w:World)(p:Nat)(d:iL):Prop:=an w (N p) (O.enc (cU.mk (some d.r)))/\hV w d.r mU d.eI
theorem U.DD(h:U w0 S w)(a:tP (hR p d) S):Wl w p d:=by
 have G:=h.get a;unfold hR at G;rw[p2]at G;refine⟨?_,?_⟩
 .have:=G.2 (B p (O.enc (cU.mk (some d.r))) 205) (by simp);unfold B at this;exact an.dF this
 have:=G.2 (tM d.r mU d.eI) (by simp);rw[mA]at this;exact this
theorem eaT:oB prog 62 (mU sZ):=by
 have h:oB prog 62 _:=inferInstance;unfold mU;rw[show O.enc sZ=_ from Ws.symm];exact h
theorem DC{r:Nat}(a:an w0 (N p) (O.enc (cU.mk (some r)))):tS 78 #[N p] w0 (.bool true):=by
 have:=ir a;refine eN 21 (eY _) func78 ntmps78 results78 rfl λw E=>?_;exact⟨rfl,E.ee⟩
theorem eaA:eJ 22 #[] w0 (λu w'=>∃p d,u=N p/\(∀k,d.get k=sZ)/\cM d/\jk w0 w' (hR p d)/\eV w0 w'):=by
 refine eN 7 (eY _) func22 ntmps22 results22 rfl λw E=>?_;refine et (J.makeMap ak mU E ?_);intro tj w _ E;refine af 6 E (p5 ((cU.mk (some tj)):cU)) λt6 w E=>?_;exact⟨t6,⟨tj,[]⟩,rfl,λk=>rfl,⟨List.nodup_nil,λx Z=>by cases Z⟩,(E.Sz (S:=[]) ⟨tj,[]⟩).zi .nW,E.ee⟩
theorem DU(ep:Wl w0 p d):tS 222 #[N p,.agg (O.enc k)] w0 (.agg (O.enc (d.get k))):=by
 refine eN 10 (eY _) func222 ntmps222 results222 rfl λt6 aW w E=>?_;refine ev 3 E (DC (ep.1.es E.ee))<|na 0 3 (λa b w E=>?_) (λ_ b w E=>?_)
 .
   cases a
 .
   have:=ir ep.1;refine nC 5 6 (eX [0,1,2,3,4,5] (.one 6 .nil)) [] E λw E=>?_;refine tl rfl (λw E=>ym (tn:=ak) (tx:=aH) (k:=k) (e7:=mU) (eI:=d.eI) (z0:=sZ) eaT (ep.2.es E.ee) rfl rfl (rfl:_=d.get k) eG) ?_;refine nH rfl (iJ E rfl rfl en (by first|rfl|exact O.ez _) (tH en λw E=>?_));refine t7 4 E λw E=>?_;exact⟨rfl,E.ee⟩
theorem SE(eC:U ea (hR p d::S) w0):eJ 24 #[N p,.agg (O.enc k),.agg (O.enc a)] w0 (λu w'=>u=i6 0/\U ea (hR p (d.put k a)::S) w'):=by
 refine eN 11 eC.Wh func24 ntmps24 results24 rfl λaW i w E=>?_;refine ev 3 E (DC (E.tb (b:=p) (cs:=O.enc (cU.mk (some d.r))) en))<|na 0 6 (λf g w E=>?_) (λ_ g w E=>?_)
 .
   cases f
 .
   refine et (sV (r:=sZ) (ps:=aH.parts sZ) (pg _) (by exact eaz) (by exact trivial) (et (jm rfl rfl (ey 2 E<|na 1 3 (λc h w E=>?_) (λc h w E=>?_)))))
   .
     refine nC 5 5 (eX [0,1,2,3,4] (.one 5 .nil)) [] E λw E=>?_;refine nH rfl (J.delete (t:=203) (tn:=ak) (tx:=aH) (k:=k) (e7:=mU) (eI:=d.eI) rfl E en rfl rfl (tH en λw E=>(t7 10 E λw E=>?_)));have ep:a=sZ:=of_decide_eq_true c;have hd:d.put k a=⟨d.r,sp k d.eI⟩:=by unfold iL.put;rw[if_pos ep]
     rw[hd];exact⟨rfl,U.Sz ⟨d.r,sp k d.eI⟩ (((E.pick (e:=tM d.r mU (sp k d.eI)) en).pick (e:=B p (O.enc (cU.mk (some d.r))) 205) en).sub aS)⟩
   .
     refine nC 6 6 (eX [0,1,2,3,4,5] (.one 6 .nil)) [] E λw E=>?_;refine nH rfl (J.mapUpdate (tn:=ak) (tx:=aH) (k:=k) (v:=a) (e7:=mU) (eI:=d.eI) E en rfl rfl rfl (tH en λw E=>(t7 9 E λw E=>?_)));have ep:a≠sZ:=of_decide_eq_false c;have hd:d.put k a=⟨d.r,oC k a d.eI⟩:=by unfold iL.put;rw[if_neg ep]
     rw[hd];exact⟨rfl,U.Sz ⟨d.r,oC k a d.eI⟩ (((E.pick (e:=tM d.r mU (oC k a d.eI)) en).pick (e:=B p (O.enc (cU.mk (some d.r))) 205) en).sub aS)⟩
theorem Wd{tn tx:Type}[DecidableEq tn]{k:tn}{v:tx}:∀{l:List (tn×tx)},tL k l=some v->oC k v l=l
 |[],h=>by cases h
 |(y,u)::l,h=>by
  by_cases a:k=y
  .subst a;simp[tL]at h;subst h;simp[oC]
  simp only[tL,oC,if_neg a]at h⊢;rw[Wd h]
theorem Wc{tn tx:Type}[DecidableEq tn]{k:tn}{v:tx}:∀{l:List (tn×tx)},tL k l=some v->(k,v)∈l
 |[],h=>by cases h
 |(y,u)::l,h=>by
  by_cases a:k=y
  .subst a;simp[tL]at h;subst h;exact List.mem_cons_self
  simp only[tL,if_neg a]at h;exact List.mem_cons_of_mem _ (Wc h)
theorem Wu(h:cM d)(k:ak):d.put k (d.get k)=d:=by
 unfold iL.put iL.get;cases b:tL k d.eI with
 |none=>simp only[Option.getD_none,if_pos];rw[IL b]
 |some a=>
  simp only[Option.getD_some];rw[if_neg (h.Sq _ (Wc b)),Wd b]
theorem eaO(a:cM d)(eC:U ea (hR p d::S) w0):eJ 330 #[N p] w0 (λu w'=>u= .bool true/\∃d',d'=d/\cM d'/\U ea (hR p d'::S) w'):=by
 refine eN 7 eC func330 ntmps330 results330 rfl λw E=>?_;refine ev 5 E (bG) λt6=>?_;refine aC 4 5 (eX [0,1,2,3] (oA [4,5,6,7] .nil)) [] λw E=>?_;refine o0 0 E (DU (E.DD en)) λw E=>?_;refine c8 6 E (SE (E.pick (e:=hR p d) en)) λw E=>?_;exact⟨rfl,d.put hJ (d.get hJ),Wu a hJ,a.put _ _,E.sub aS⟩
def iE(d:iL)(r:List o6):List aH:=r.map λx=>d.get x.key
def ST:o6:=⟨aO 32,false,false⟩
def cF(tv:Nat)(r:List o6)(l:List aH):Bool:=(r.getD 0 ST).iY&&decide ((l.getD 0 sZ).dG=hJ)&&decide (tv<=(l.getD 0 sZ).iO)
def gr(tv:Nat)(l:List aH):List aH:=l.set 0 {l.getD 0 sZ with iO:=(l.getD 0 sZ).iO-tv}
theorem DM(d:iL)(r:List o6):(iE d r).length=r.length:=by unfold iE;rw[List.length_map]
theorem eaI{k:Nat}(h:k<r.length):iE d (r.take (k+1))=iE d (r.take k)++[d.get r[k].key]:=by
 unfold iE;rw[List.take_succ_eq_append_getElem h,List.map_append];rfl
theorem eaN{k:Nat}(h:k<(iE d r).length)(Y:k<r.length):(iE d r)[k]=d.get r[k].key:=by simp[iE]
theorem eaS(h:∀k,d'.get k=d.get k):iE d' r=iE d r:=by
 unfold iE;exact List.map_congr_left λx _=>h x.key
def fK(d:iL):Prop:=∀k,cC (d.get k)
theorem eaR(tv:Nat)(l:List aH):cF tv [] l=false:=rfl
theorem Wm(aA:cM d)(Sp:fK d)(hr:∀w,U ea S w->ex w R.rI.v r)(ew4:r.length<=100000)(eC:U ea (hR p d::S) w0):eJ 286 #[N p,.agg (O.enc R)] w0 (λu w'=>∃d',d'=d/\cM d'/\((cF R.tv r (iE d r)=false/\u= .tuple #[eF,i6 22]/\U ea (hR p d'::S) w')∨(cF R.tv r (iE d r)=true/\∃o:ec,u= .tuple #[o.v,i6 0]/\U ea (V o.v 62 (gr R.tv (iE d r))::hR p d'::S) w'))):=by
 refine eN 11 eC func286 ntmps286 results286 rfl λt6 w E=>?_;refine et (J.call (eaO aA (E.pick (e:=hR p d) en)) rfl ?_);rintro _ w ⟨rfl,d2,s,F,E⟩;refine ey 3 E<|na 0 0 (λie tz w E=>?_) (λ_ tz w E=>?_)
 .
   cases ie
 .
   have H:=eaS (d:=d) (d':=d2) (λk=>by rw[s]) (r:=r);refine eA 12 E λw E=>?_;refine et (J.hD rfl ((hr _ (E.sub aS))) (ey 4 E λw E=>?_));refine ek.loop (λq f w=>∃(k:Nat)(a:Value),oV [(0,N p),(3,N t6),(6,a),(13,R.rI.v),(14,i6 r.length),(15,i6 k)] f/\U ea (V a 62 (iE d2 (r.take k))::hR p d2::B t6 (O.enc R) 53::S) w/\k<=r.length/\q=r.length-k) (r.length) ?_ ?_
   .
     exact⟨0,eF,⟨rfl,rfl,rfl,rfl,rfl,rfl,trivial⟩,(show U ea (V (eF) 62 ([]:List aH)::hR p d2::B t6 (O.enc R) 53::S) w from(((E.pick (e:=B t6 (O.enc R) 53) en).pick (e:=hR p d2) en).lR 62).sub aS),Nat.zero_le _,rfl⟩
   .
     rintro q f w ⟨k,a,I,E,rP,e5⟩;refine il _ I (λg=>?_);clear I;refine eA 6 E<|om 0 0 (λah w E=>?_) (λah w E=>?_)
     .
       have K:k<r.length:=by omega
       have l:=DM d2 (r.take k);rw[List.length_take]at l;refine eA 6 E λw E=>?_;refine et (nX rfl ((hr _ (E.sub aS))) rfl (by omega) (af 1 E (hA λw E=>((hr _ (E.sub aS)).sm K).n5 (O.ez r[k])) λnP w E=>(oE (iJ E rfl rfl en (by first|rfl|exact O.ez _) (tH en λw E=>?_)))));refine ey 7 E λw E=>?_;refine ev 0 E (DU (E.DD en)) λw E=>?_;refine et (n7 E (([d2.get r[k].key]:List aH)) [.agg (O.enc (d2.get r[k].key))] rfl rfl rfl rfl (by decide) ?_);intro dR w t E;refine et (dj (α:=aH) (xs:=iE d2 (r.take k)) (ys:=[d2.get r[k].key]) rfl E rfl en (E.eu (v:=ta dR 1 1) (xs:=([d2.get r[k].key]:List aH)) en) (by simp only[List.length_cons,List.length_nil];omega) (by simp only[maxLen,List.length_cons,List.length_nil];omega) ?_);intro v25 w E;replace E:=E _ en;refine ey 9 E ⟨ib,λw E=>?_⟩;rw[<-eaI K]at E;exact⟨r.length-(k+1),by omega,k+1,v25,⟨rfl,rfl,rfl,rfl,rfl,congrArg (Value.int .i64) (by omega),trivial⟩,(((E.pick (e:=B t6 (O.enc R) 53) en).pick (e:=hR p d2) en).pick (e:=V v25 62 (iE d2 (r.take (k+1)))) en).sub aS,by omega,rfl⟩
     .
       have dN:r.take k=r:=List.take_of_length_le (by omega);rw[dN]at E;have l:=DM d2 r;refine eA 7 E λw E=>?_;refine gC 28 (eX [0,1,2,3,4,5,6,7,8,9,10,11,12,13,14,15] (.one 16 (eX [17,18,19,20,21,22,23,24,25,26,27] .nil))) (by kernel_rfl) (λ_ _ _ h=>h) (λaB iN=>?_);replace E:=E.es iN;have c:=E;have x:=eY aB;refine ht 3 c ?_;refine ss c rfl (λw E=>u0 rfl eG) ?_;refine ds c rfl rfl (λAX w E=>o9 rfl eG) ?_;refine ds (eb:=R.rI.v) c rfl rfl (λL w E=>by have em:0<r.length:=(by rcases Nat.eq_zero_or_pos r.length with h|h;(exfalso;revert L;simp[l,h]);exact h);have j:0<(iE d2 r).length:=(by omega);exact ag (by first|exact ov rfl L|rfl) (E.a6 (b:=t6) (cs:=O.enc R) en (Gn R)) eG) (ds (eb:=(oX R.rI.v 0 (O.eo o6))) c rfl rfl (λM w E=>by have em:0<r.length:=(by rcases Nat.eq_zero_or_pos r.length with h|h;(exfalso;revert M;simp[l,h]);exact h);have j:0<(iE d2 r).length:=(by omega);exact nX (by first|exact ov rfl M|rfl) ((hr _ (E.sub aS))) rfl (by omega) eG) (ds (eb:=(rs (oX R.rI.v 0 (O.eo o6)) 33)) c rfl rfl (λP w E=>by have em:0<r.length:=(by rcases Nat.eq_zero_or_pos r.length with h|h;(exfalso;revert P;simp[l,h]);exact h);have j:0<(iE d2 r).length:=(by omega);exact J.fieldAddr (by first|exact ov rfl P|rfl) ((hr _ (E.sub aS)).sY em) eG) (ds (eb:=.bool (r.getD 0 ST).iY) c rfl rfl (λQ w E=>by have em:0<r.length:=(by rcases Nat.eq_zero_or_pos r.length with h|h;(exfalso;revert Q;simp[l,h]);exact h);have j:0<(iE d2 r).length:=(by omega);exact ag (by first|exact ov rfl Q|rfl) ((show s1 _ _ _ (rs (oX R.rI.v 0 (O.eo o6)) 33) (.bool (r.getD 0 ST).iY)from by rw[Ek em];exact ud ((hr _ (E.sub aS)).sm em) 33 (Zm _))) eG) (ds c rfl rfl (λy w E=>J.not (by first|exact ov rfl y|rfl) eG) (ss c rfl (λw E=>fe rfl rfl (by first|rfl) eG) (ss c rfl (λw E=>u0 rfl eG) (ds (eb:=a) c rfl rfl (λeas w E=>oI (v:=a) rfl eG) (ds (eb:=(oX a 0 (O.eo aH))) c rfl rfl (λW w E=>by have em:0<r.length:=(by rcases Nat.eq_zero_or_pos r.length with h|h;(exfalso;revert W;simp[l,h]);exact h);have j:0<(iE d2 r).length:=(by omega);exact nX (by first|exact ov rfl W|rfl) ((E.eu (v:=a) (xs:=(iE d2 r)) en)) rfl (by omega) eG) (ds (eb:=(rs (oX a 0 (O.eo aH)) 1)) c rfl rfl (λX w E=>by have em:0<r.length:=(by rcases Nat.eq_zero_or_pos r.length with h|h;(exfalso;revert X;simp[l,h]);exact h);have j:0<(iE d2 r).length:=(by omega);exact J.fieldAddr (by first|exact ov rfl X|rfl) ((E.eu (v:=a) (xs:=(iE d2 r)) en).sY j) eG) (ds (eb:=.agg (O.enc ((iE d2 r).getD 0 sZ).dG)) c rfl rfl (λZ w E=>by have em:0<r.length:=(by rcases Nat.eq_zero_or_pos r.length with h|h;(exfalso;revert Z;simp[l,h]);exact h);have j:0<(iE d2 r).length:=(by omega);exact ag (by first|exact ov rfl Z|rfl) ((show s1 _ _ _ (rs (oX a 0 (O.eo aH)) 1) (.agg (O.enc ((iE d2 r).getD 0 sZ).dG))from by rw[Ek j];exact s1.wl ((E.eu (v:=a) (xs:=(iE d2 r)) en).sm j) 1 (LM _) (by rw[O.ez];decide))) eG) ?_))))))))));refine Hv (.agg (O.enc hJ)) _ 38 x.ee rfl rfl rfl rfl rfl rfl (λear=>J.call (bG) rfl (λ_ _ h=>h)) (λw t=>?_);replace x:=x.es t;have E:=iq c x;refine ds c rfl rfl (λSj w E=>TH (by first|exact ov rfl Sj|rfl) (by first|exact ov rfl Sj|rfl) eG) (ss c rfl (λw E=>fe rfl rfl (by first|rfl) eG) (ss c rfl (λw E=>u0 rfl eG) (ds (eb:=a) c rfl rfl (λew5 w E=>oI (v:=a) rfl eG) (ds (eb:=(oX a 0 (O.eo aH))) c rfl rfl (λWw w E=>by have em:0<r.length:=(by rcases Nat.eq_zero_or_pos r.length with h|h;(exfalso;revert Ww;simp[l,h]);exact h);have j:0<(iE d2 r).length:=(by omega);exact nX (by first|exact ov rfl Ww|rfl) ((E.eu (v:=a) (xs:=(iE d2 r)) en)) rfl (by omega) eG) (ds (eb:=(rs (oX a 0 (O.eo aH)) 0)) c rfl rfl (λWy w E=>by have em:0<r.length:=(by rcases Nat.eq_zero_or_pos r.length with h|h;(exfalso;revert Wy;simp[l,h]);exact h);have j:0<(iE d2 r).length:=(by omega);exact J.fieldAddr (by first|exact ov rfl Wy|rfl) ((E.eu (v:=a) (xs:=(iE d2 r)) en).sY j) eG) (ds (eb:=.int .u64 ((((iE d2 r).getD 0 sZ).iO:Nat):Int)) c rfl rfl (λWb w E=>by have em:0<r.length:=(by rcases Nat.eq_zero_or_pos r.length with h|h;(exfalso;revert Wb;simp[l,h]);exact h);have j:0<(iE d2 r).length:=(by omega);exact ag (by first|exact ov rfl Wb|rfl) ((show s1 _ _ _ (rs (oX a 0 (O.eo aH)) 0) (.int .u64 ((((iE d2 r).getD 0 sZ).iO:Nat):Int))from by rw[Ek j];exact ud ((E.eu (v:=a) (xs:=(iE d2 r)) en).sm j) 0 (Aw _))) eG) (ds c rfl rfl (λew6 w E=>o9 rfl eG) (ds (eb:=.int .u64 ((R.tv:Nat):Int)) c rfl rfl (λz w E=>ag (by first|exact ov rfl z|rfl) (E.a6 (b:=t6) (cs:=O.enc R) en (Gr R)) eG) (ds c rfl rfl (λDF w E=>J.lss (by first|exact ov rfl DF|rfl) (by first|exact ov rfl DF|rfl) eG) (ss c rfl (λw E=>fe rfl rfl (by first|rfl) eG) (e2.nil (s6 1 E<|na 0 0 (λn a8 w E=>?_) (λn a8 w E=>?_)))))))))))))
       .
         have nE:cF R.tv r (iE d2 r)=false:=by
          unfold cF;simp only[Bool.or_eq_true,decide_eq_true_eq,Bool.not_eq_true']at n;rcases n with((h|h)|h)|h
          .have em:r=[]:=List.length_eq_zero_iff.1 (by omega);rw[em];rfl
          .rw[h];rfl
          .rw[h,Bool.and_false,Bool.false_and]
          rw[decide_eq_false (p:=R.tv<=((iE d2 r).getD 0 sZ).iO) (by omega),Bool.and_false]
         refine eA 2 E λw E=>?_;refine et (yo (v:=eF) rfl (et (iP rfl (ey 5 E λw E=>?_))));rw[<-H];exact⟨d2,s,F,.inl ⟨nE,rfl,E.sub aS⟩⟩
       .
         have m:cF R.tv r (iE d2 r)=true:=by
          unfold cF;simp only[Bool.or_eq_false_iff,decide_eq_false_iff_not,Bool.not_eq_false']at n;obtain⟨⟨⟨G,Y⟩,ej⟩,e8⟩:=n;rw[Y,decide_eq_true (p:=((iE d2 r).getD 0 sZ).dG=hJ) (by simpa using ej),decide_eq_true (p:=R.tv<=((iE d2 r).getD 0 sZ).iO) (by omega)];rfl
         have em:0<r.length:=by
          rcases Nat.eq_zero_or_pos r.length with h|h
          .rw[List.length_eq_zero_iff.1 h,eaR]at m;cases m
          exact h
         have j:0<(iE d2 r).length:=by omega
         have nq:R.tv<=((iE d2 r).getD 0 sZ).iO:=by
          unfold cF at m;simp only[Bool.and_eq_true,decide_eq_true_eq]at m;exact m.2
         have A:((iE d2 r).getD 0 sZ).iO<18446744073709551616:=by
          rw[Ek j,eaN j em,s];exact(Sp _).1
         refine eA 3 E ?_;refine aC 0 9 (eX [0,1,2,3,4,5,6,7,8] (.one 9 .nil)) [] λw E=>?_;refine tl rfl (λw E=>oI (v:=a) rfl eG) ?_;refine tl rfl (λw E=>nX rfl ((E.eu (v:=a) (xs:=(iE d2 r)) en)) rfl (by omega) eG) ?_;refine tl rfl (λw E=>J.fieldAddr rfl ((E.eu (v:=a) (xs:=(iE d2 r)) en).sY j) eG) ?_;refine tl rfl (λw E=>ag rfl ((show s1 _ _ _ (rs (oX a 0 (O.eo aH)) 0) (.int .u64 ((((iE d2 r).getD 0 sZ).iO:Nat):Int))from by rw[Ek j];exact ud ((E.eu (v:=a) (xs:=(iE d2 r)) en).sm j) 0 (Aw _))) eG) ?_;refine tl rfl (λw E=>o9 rfl eG) ?_;refine tl rfl (λw E=>ag rfl (E.a6 (b:=t6) (cs:=O.enc R) en (Gr R)) eG) ?_;refine mR 0 E (p6 (yb nq A)) λw E=>?_;refine tl rfl (λw E=>nX rfl ((E.eu (v:=a) (xs:=(iE d2 r)) en)) rfl (by omega) eG) ?_;refine tl rfl (λw E=>J.fieldAddr rfl ((E.eu (v:=a) (xs:=(iE d2 r)) en).sY j) eG) ?_;refine nH rfl (pd (v:=a) (u:=.int .u64 ((((iE d2 r).getD 0 sZ).iO-R.tv:Nat):Int)) (eo:=1) (xs:=(iE d2 r)) (i:=0) (off:=0) (l9:={((iE d2 r).getD 0 sZ)with iO:=((iE d2 r).getD 0 sZ).iO-R.tv}) E en j rfl rfl rfl (by decide) (oZ _ _) (by rw[Ek j];exact P6 (iE d2 r)[0] ((iE d2 r)[0].iO-R.tv)) (tH en λw E=>?_));refine t7 1 E λw E=>?_;replace E:=(show U ea (V a 62 (gr R.tv (iE d2 r))::hR p d2::B t6 (O.enc R) 53::S) _ from E);refine s6 4 E λw E=>?_;refine et (J.call (Wa (E.eu (v:=a) (xs:=(gr R.tv (iE d2 r))) en)) rfl ?_);rintro C w ⟨D,t⟩;replace E:=E.es t;replace E:=E.bS (v:=a) (T:=62) (xs:=(gr R.tv (iE d2 r))) en;rw[<-D]at E;obtain⟨o,rfl⟩:=(E.eu (v:=C) (xs:=(gr R.tv (iE d2 r))) en).mI;refine ey 6 E λw E=>?_;rw[<-H];exact⟨d2,s,F,.inr ⟨m,o,rfl,E.sub aS⟩⟩
variable{eb K i eZ ar hn:Nat}{tp:List eH}{a b t v z:Value}{cu l y:List aH}{sS ox:List UInt8}{c:Instr}{cs:Array Value}{e:eH}{f:te}{eQ:Option (Nat×Bool)}{ad:List Instr}{n:Int}{o:tr}{s eu:ec}{x:sT}{xs:List tX}{zs:List (Array Value)}
theorem eoy(x:aZ):(O.enc x)[39]? =some x.tQ.m.instrs.v:=vq (i:=38) (Ab x) (Ga x.tQ) (by decide)
theorem eob{eb:TypeId}(c:ErrLaid w)(E:U ea S w)(d:tP (B ar (O.enc o) eb) S):
 nr prog 290 #[.iface 34 (.int .i64 n),.iface 505 (N ar)] w (λu w'=>u= .bool true/\∀tp,iH (B ar (O.enc o) eb) (B ar (O.enc ({o with fail:=n}:tr)) eb) S tp->U ea tp w'):=by
 have hb:=E.dF d;have i:(O.enc o).size=6:=O.ez o;unfold nr;refine Calls.mono (eow n ar (O.enc o) eb w c hb (by omega)) ?_;rintro e w' ⟨rfl,rfl⟩;refine⟨_,rfl,rfl,λtp f=>?_⟩;have ni:=eV.alloc w (.cells #[N ar] 505);have ao:=eV.alloc (DW ar w) (.cells #[.pointer (some ⟨8,505,none⟩),.pointer (some ⟨w.heap.size,0,none⟩),.int .u64 150] 562);have t6:=eV.alloc (A0 ar w) (.cells #[.pointer (some ⟨8,505,none⟩),.pointer (some ⟨w.heap.size,0,none⟩),.int .u64 150] 562);have aW:=eV.alloc (SI ar w) (.cells #[.int .i64 n] 34);have b:=((ni.trans ao).trans t6).trans aW;have g:(SN n ar w).heap[ar]? =some (.cells (O.enc o) eb (0,0)):=b.get hb;have h:((O.enc o).toList.take 0++(Value.int .i64 n).cells.toList++(O.enc o).toList.drop (0+(Value.int .i64 n).cells.toList.length)).toArray=O.enc ({o with fail:=n}:tr):=by
  rw[<-ZM o n];unfold iI;apply Array.ext';simp[Value.cells];rw[List.take_of_length_le (by simp)]
 rw[h];refine lv ?_ ?_ ?_ (E.es b) f
 .unfold B;exact⟨rfl,rfl,rfl,by simp[World.setRow],λk _ a=>setRow_other _ ar k _ a⟩
 .unfold B;exact setRow_heap _ ar _ _ eb _ g
 unfold B;intro k a;exact .inl a
theorem eov:nr prog 290 #[.nilIface,t] w (λu w'=>u= .bool false/\eV w w'):=by
 unfold nr;refine Calls.mono (ea2 t w) ?_;rintro e w' ⟨rfl,rfl⟩;exact⟨_,rfl,rfl,eV.refl _⟩
theorem eok(x:sT):(O.enc x)[42]? =some (ef x.r.rN.tJ):=vq (i:=42) (eaG x) (ZL x.r) (by decide)
theorem eox(h:qn k=some v):v=g2∨v=g3:=by
 unfold qn at h;split at h
 .cases h;exact .inl rfl
 split at h
 .cases h;exact .inr rfl
 cases h
theorem eoj{tn tx:Type}[DecidableEq tn][oi tn]{P:Program}{R:Value->World->Prop}{d:Option Tmp}{T:TypeId}{pos:String}{eO:Array Edge}{t r:Nat}{z0 u:tx}{x ix:Operand}{k:tn}{e7:tx->Value}{eI:List (tn×tx)}{b:Bool}[e5:rH P t K eb][g:u2 P K tn](a:oB P eb (e7 z0))(c:hV w r e7 eI)(Z:eD f x=tA r)(ew:eD f ix=oi.iu k)(e:(tL k eI).getD z0=u)(hb:(tL k eI).isSome=b)(h:R (.tuple #[e7 u,.bool b]) w):J P f ⟨d,.lookup t x ix true,T,pos,eO,eQ⟩ w R:=by
 subst hb;exact zn a c Z ew e h
theorem eoq(tG:v=g2∨v=g3)(E:U ea (B p (O.enc x) 502::V x.l.v 62 l::S) w)(hr:ex ea x.r.rI.v r)(ep:ex ea c.cS.v sS)(hd:ex ea c.data.v ox)(d:l.length<=100000)(a:∀y∈l,cC y):
 mN prog v [N p,.agg (O.enc c)] w (λu w'=>∃(e:Int)(b:ec)(m:List aH)(n:Nat),u=EE e/\uT l m/\n<=x.tq+1048576/\U ea (B p (O.enc ({x with l:=b,tq:=n}:sT)) 502::V b.v 62 m::S) w'):=by
 rcases tG with rfl|rfl
 .refine⟨_,[],[],rfl,inferInstance,(eaX).mono ?_⟩;rintro u w' ⟨rfl,f⟩;exact⟨0,x.l,l,x.tq,rfl,⟨rfl,a⟩,by omega,E.es f⟩
 exact⟨_,[],[],rfl,inferInstance,eaQ E hr ep hd d a⟩
theorem eoz(eC:U ea (B p (O.enc (⟨R,s,hn,eZ⟩:sT)) 502::V s.v 62 l::S) w0)(hr:ex ea R.rI.v r)(H:ex ea c.cS.v sS)(I:ex ea c.data.v ox)(x:c.program.toNat<r.length)(K:R.rN.tJ<18446744073709551616)(L:l.length<=100000)(f:∀y∈l,cC y):eJ 289 #[N p,i6 i,.agg (O.enc c)] w0 (λu w'=>∃(e:Int)(g:ec)(m:List aH)(z A:Nat),u=EE e/\uT l m/\z<=R.rN.tJ/\A<=eZ+1048576/\U ea (B p (O.enc (⟨R,g,z,A⟩:sT)) 502::V g.v 62 m::S) w'):=by
 refine eN 8 eC func289 ntmps289 results289 rfl λiD=>?_;refine aC 12 25 (eX [0,1,2,3,4,5,6,7,8,9,10,11,12,13,14,15,16,17,18,19,20,21,22,23,24] .nil) [] λw E=>?_;refine ue rfl rfl (λjK w E=>oI (v:=N p) rfl eG) (ue rfl rfl (λM w E=>sk (by first|exact ov rfl M|rfl) eG) (ue rfl rfl (λP w E=>o9 (by first|exact ov rfl P|rfl) eG) (ue rfl rfl (λQ w E=>o9 (by first|exact ov rfl Q|rfl) eG) (ue rfl rfl (λT w E=>o9 (by first|exact ov rfl T|rfl) eG) (ue (eb:=.int .u64 ((R.rN.tJ:Nat):Int)) rfl rfl (λW w E=>ag (by first|exact ov rfl W|rfl) (E.a6 (b:=p) (cs:=O.enc (⟨R,s,hn,eZ⟩:sT)) en (eok (⟨R,s,hn,eZ⟩:sT))) eG) (ue rfl rfl (λDV w E=>oI (v:=N p) rfl eG) (ue rfl rfl (λX w E=>sk (by first|exact ov rfl X|rfl) eG) (ue rfl rfl (λY w E=>o9 (by first|exact ov rfl Y|rfl) eG) (ue (eb:=.int .u64 ((hn:Nat):Int)) rfl rfl (λZ w E=>ag (by first|exact ov rfl Z|rfl) (E.a6 (b:=p) (cs:=O.enc (⟨R,s,hn,eZ⟩:sT)) en (eaW (⟨R,s,hn,eZ⟩:sT))) eG) (ue (eb:=.int .u64 ((R.rN.tJ-hn:Nat):Int)) rfl rfl (λq w E=>J.sub (by first|exact ov rfl q|rfl) (by first|exact ov rfl q|rfl) (yb (by simp only[beq_iff_eq,decide_eq_false_iff_not]at q;omega) K) eG) (ue rfl rfl (λEq w E=>J.lss (by first|exact ov rfl Eq|rfl) rfl eG) (tl rfl (λw E=>fe rfl rfl (by first|rfl) eG) (t7 2 E<|om 16 0 (λtz w E=>?_) (λtz w E=>?_))))))))))))))
 .
   exact et (gh rfl (ey 6 E λw E=>(⟨20,s,l,R.rN.tJ,eZ,rfl,⟨rfl,f⟩,by omega,by omega,((E.pick (e:=V s.v 62 l) en).pick (e:=B p (O.enc (⟨R,s,R.rN.tJ,eZ⟩:sT)) 502) en).sub aS⟩)))
 .
   have eyh:¬(R.rN.tJ<hn∨R.rN.tJ-hn<150):=by omega
   refine eA 9 E λw E=>?_;refine af 17 E (fF ((show IntKind.u64.wrap ((hn:Int)+150)=((hn+150:Nat):Int)from zp (b:=150) (by omega))))<|om 2 3 (λah w E=>?_) (λah w E=>?_)
   .
     exact et (gh rfl (ey 6 E λw E=>(⟨21,s,l,hn+150,eZ,rfl,⟨rfl,f⟩,by omega,by omega,((E.pick (e:=V s.v 62 l) en).pick (e:=B p (O.enc (⟨R,s,hn+150,eZ⟩:sT)) 502) en).sub aS⟩)))
   .
     refine gC 17 (eX [1,2,3,4,5,6,7,8,9,10] (oA [0,11] (eX [12,13,14,15,16] .nil))) (by kernel_rfl) (λ_ _ _ h=>h) (λaB iN=>?_);replace E:=E.es iN;have a:=E;have d:=eY aB;obtain⟨j,t⟩:∃o,qn r[c.program.toNat].key=o:=⟨_,rfl⟩;obtain⟨C,D⟩:∃u,j.getD aJ=u:=⟨_,rfl⟩;refine ht 7 a ?_;refine ss a rfl (λw E=>nX rfl ((hr.es E.ee)) rfl (by omega) eG) (ss a rfl (λw E=>J.fieldAddr rfl ((hr.es E.ee).sY x) eG) (ss a rfl (λw E=>ag rfl (s1.wl ((hr.es E.ee).sm x) 0 (Ay _) (by rw[O.ez];decide)) eG) (ol rfl (J.call (ea1) rfl ?_))));rintro _ w ⟨eI,F,⟨eyl,rfl,uJ,DL⟩,eh⟩;replace d:=d.HW eh DL uJ;refine⟨d.ee,?_⟩;have E:=iq a d;refine ol rfl (eoj (b:=j.isSome) (u:=C) (tn:=ak) (tx:=Value) (k:=r[c.program.toNat].key) (e7:=l1) (eI:=eI) (z0:=aJ) (inferInstanceAs (oB prog _ .nilFunc)) (E.map en) rfl rfl (by rw[F,t];exact D) (by rw[F,t]) ?_);refine⟨d.ee,?_⟩;have E:=iq a d;refine ht 5 a ?_;refine e2.nil (s6 8 E<|na 2 0 (λ_ a8 w E=>?_) (λnw a8 w E=>?_))
     .
       exact et (gh rfl (ey 6 E λw E=>(⟨19,s,l,hn+150,eZ,rfl,⟨rfl,f⟩,by omega,by omega,((E.pick (e:=V s.v 62 l) en).pick (e:=B p (O.enc (⟨R,s,hn+150,eZ⟩:sT)) 502) en).sub aS⟩)))
     .
       obtain⟨y,G⟩:∃y,j=some y:=by cases j with|none=>cases nw|some y=>exact⟨y,rfl⟩
       obtain rfl:C=y:=by rw[<-D,G];rfl
       refine eA 7 E λw E=>?_;refine et (bf rfl (eoq (eox (t.trans G)) ((E.pick (e:=V s.v 62 l) en).pick (e:=B p (O.enc (⟨R,s,hn+150,eZ⟩:sT)) 502) en) hr H I L f) rfl ?_);rintro _ w ⟨e,g,m,n,rfl,e5,tm,E⟩;refine ey 5 E λw E=>?_;exact⟨e,g,m,hn+150,n,rfl,e5,by omega,tm,E.sub aS⟩
def nV:tr:=⟨0,0,0,0,0,ed⟩
theorem WO{T:TypeId}(E:U w0 S w)(a:tP (V z T y) S)(h:(v=z/\cu=y)∨ex w0 v cu):ex w v cu:=by
 rcases h with⟨rfl,rfl⟩|h
 .exact E.eu a
 exact h.es E.ee
theorem WI(Z:ex w0 v xs):tS 120 #[v] w0 (nz v 0 xs.length xs.length (O.eo (tX))):=by
 have:=aL Z;refine eN 12 (eY _) func120 ntmps120 results120 rfl λw E=>?_;exact et (hj (Z.es E.ee) ⟨⟨_,rfl⟩,Z.cap⟩ ⟨⟨_,rfl⟩,Nat.le_refl _⟩ ⟨rfl,Nat.zero_le _⟩ (ey 5 E λw E=>(⟨rfl,E.ee⟩)))
theorem WN(eB:2<=zs.length)(em:a.cells.size=(zs.getD 0 #[]).size)(G:b.cells.size=(zs.getD 1 #[]).size):pr zs [(0,a),(1,b)]:=by
 refine⟨by omega,em,by rw[List.length_set];omega,?_,trivial⟩;rw[G];simp[List.getD_eq_getElem?_getD]
theorem iH.same(h:iH e e S tp):tp=S:=by
 have Y:∀{o1:eH}{S tp:List eH},iH e o1 S tp->e=o1->tp=S:=by
  intro o1 S tp h;induction h with
  |nW=>intro a;rw[a]
  |ei _ b=>intro a;rw[b a]
 exact Y h rfl
theorem an.eoE{b o:Nat}(c:an w (N b) cs)(d:cs[o]? =some v):an w (.pointer (some ⟨b,o,none⟩)) #[v]:=by
 obtain⟨e,g,f,h⟩:=c;cases f;refine⟨b,o,rfl,λj u a=>?_⟩;rcases j with _|j
 .simp at a;subst a;have:=h o v d;simpa using this
 simp at a
theorem eoA{eb:TypeId}{e:Int}(e1:o.fail=0)(c:ErrLaid w)(E:U ea S w)(d:tP (B ar (O.enc o) eb) S):
 eJ 290 #[EE e,.iface 505 (N ar)] w (λu w'=>u= .bool (decide (e≠0))/\∀tp,iH (B ar (O.enc o) eb) (B ar (O.enc ({o with fail:=e}:tr)) eb) S tp->U ea tp w'):=by
 by_cases h:e=0
 .subst h;rw[eaJ];refine(eov).mono ?_;rintro u w' ⟨rfl,a⟩;refine⟨rfl,λtp b=>?_⟩;rw[show({o with fail:=0}:tr)=o from by cases o;cases e1;rfl]at b;rw[b.same];exact E.es a
 rw[Wk h];refine(eob c E d).mono ?_;rintro u w' ⟨rfl,a⟩;exact⟨by rw[decide_eq_true h],a⟩
theorem WS:(eK [#[i6 0],#[i6 0],#[.int .u64 0],#[.int .u64 0],#[.int .u64 0],#[eF]])=O.enc (nV:tr):=by
 simp only[jV,tr.parts,iW,nV];rfl
instance:wS (eK [#[i6 0],#[i6 0],#[.int .u64 0],#[.int .u64 0],#[.int .u64 0],#[eF]]) (O.enc (nV:tr)):=⟨WS⟩
theorem eoO(tF:ErrLaid w0)(eB:ex w0 eu.v l)(hr:ex w0 R.rI.v r)(ew:ex w0 R.tQ.m.instrs.v ad)(hin:∀k(h:k<ad.length),∃sS ox:List UInt8,ex w0 ad[k].cS.v sS/\ex w0 ad[k].data.v ox)(WR:∀c∈ad,c.program.toNat<r.length)(hlen:l.length=r.length)(A1:R.rN.tJ<18446744073709551616)(K:l.length<=100000)(dh:∀y∈l,cC y):eJ 209 #[.agg (O.enc R),eu.v] w0 (λu w'=>∃(o:tr)(ch:List tX),u= .tuple #[.agg (O.enc o),i6 0]/\sH w0 w' o.ha.v 64 ch/\eV w0 w'/\o.tJ<=R.rN.tJ/\o.tq<=1048576*ad.length/\ch.length<=r.length/\o.tv=R.tv):=by
 refine eN 5 (eY _) func209 ntmps209 results209 rfl λao aW w E=>?_
 try rw[WS]at E
 have:=aL eB;have:=aL hr;refine ey 18 E λw E=>?_;refine ts.eQ _ 21 _ rfl rfl rfl rfl (λxx=>o9 rfl ⟨rfl,eV.refl _⟩) (λw n=>?_);replace E:=E.es n;refine ts.eQ _ 21 _ rfl rfl rfl rfl (λbI=>o9 (by first|exact ov rfl bI|rfl) ⟨rfl,eV.refl _⟩) (λw n=>?_);replace E:=E.es n;refine ts.eQ _ 21 _ rfl rfl rfl rfl (λwC=>o9 (by first|exact ov rfl wC|rfl) ⟨rfl,eV.refl _⟩) (λw n=>?_);replace E:=E.es n;refine ts.eQ _ 21 R.tQ.m.instrs.v rfl rfl rfl rfl (λjX=>?_) (λw n=>?_)
 .exact ag (by first|exact ov rfl jX|rfl) (E.a6 (b:=ao) (cs:=O.enc R) en (eoy R)) ⟨rfl,eV.refl _⟩
 replace E:=E.es n;refine ts.eQ _ 21 _ rfl rfl rfl rfl (λAx=>oI (v:=(.func (.func 287) #[] #[N ao])) rfl ⟨rfl,eV.refl _⟩) (λw n=>?_);replace E:=E.es n;refine ts.eQ _ 21 (.bool (ad.any λc=>decide ((r.length:Int)<=(c.program.toNat:Int)))) rfl rfl rfl rfl (λDV=>?_) (λw n=>?_)
 .refine J.call (eaV (λc=>decide ((r.length:Int)<=(c.program.toNat:Int))) (ew.es E.ee) (λw' h c _=>⟨_,[],[N ao],rfl,inferInstance,eaK (((E.tb (b:=ao) (cs:=O.enc R) en).es h).eoE (Gn R)) (hr.es (E.ee.trans h))⟩)) (HV (by first|exact ov rfl DV|rfl) (by first|exact ov rfl DV|rfl)) ?_;rintro v w ⟨rfl,n⟩;replace E:=E.es n;exact⟨rfl,‹_›⟩
 replace E:=E.es n;refine et (fe rfl rfl (by first|rfl) (ey 2 E<|na 2 0 (λie tz w E=>?_) (λ_ tz w E=>?_)))
 .
   refine af 7 E (p5 (nV:tr)) λw E=>?_;exfalso;have G:(ad.any λc=>decide ((r.length:Int)<=(c.program.toNat:Int)))=false:=List.any_eq_false.2 λc e0=>by have:=WR c e0;simp only[decide_eq_true_eq];omega
   rw[G]at ie;simp at ie;omega
 .
   have L:=ew.le;have M:=hr.le;simp only[maxLen]at L M;refine eA 2 E λw E=>?_;refine lB (λf w=>∃(i j:Nat)(ay:ec),oV [(1,eu.v),(2,N ao),(4,N aW),(7,N i),(8,N j)] f/\U w0 [B j (O.enc (⟨0,-1,0,R.tv,0,ed⟩:tr)) 189,B i (O.enc (⟨R,ay,0,0⟩:sT)) 502,V ay.v 62 l,B ao (O.enc R) 53,B aW (O.enc nV) 189] w) ?_ ?_
   .
     refine gC 10 (eX [0,1,5,6,7] (.iZ 2 8 (.look 3 (.iZ 4 8 (.one 8 (.look 9 (.one 10 .nil))) (.one 4 (.look 9 (.one 10 .nil))))) (.one 2 (.look 3 (.one 4 (.look 9 (.one 10 .nil))))))) (by kernel_rfl) (λ_ _ _ h=>h) (λaB iN=>?_);replace E:=E.es iN;have q:=E;have d:=eY aB;refine ht 4 q ?_;refine ss q rfl (λw E=>sV (r:=((⟨0,-1,0,R.tv,0,ed⟩:tr):tr)) (ps:=tr.parts ((⟨0,-1,0,R.tv,0,ed⟩:tr):tr)) (jV _) (by first|rfl|(simp only[hJ,sZ,dw,sg,iW,jV,tr.parts];rfl)) (by(repeat' (first|exact trivial|refine And.intro ?_ ?_))<;>first|rfl|exact O.ez _|(simp;done)) eG) ?_;refine e2.iZ rfl rfl rfl rfl ?_ ?_
     .refine J.call (DR (eB.es E.ee) K) rfl ?_;rintro DQ w ⟨C,n⟩;replace d:=d.pB n C.1 C.2;obtain⟨ay,rfl⟩:=(C.1.eu).mI;refine⟨d.ee,?_⟩;have E:=iq q d;refine ss q rfl (λw E=>sV (r:=(⟨R,ay,0,0⟩:sT)) (ps:=sT.parts (⟨R,ay,0,0⟩:sT)) (Wv _) (by show uQ _ [(0,.agg (O.enc R)),(1,ay.v)]=_;rfl) (by exact WN (a:=.agg (O.enc R)) (b:=ay.v) (by decide) (O.ez R) rfl) eG) ?_;refine e2.iZ rfl rfl rfl rfl ?_ ?_
      .refine ba d rfl ?_;intro i w n d;refine⟨d.ee,?_⟩;have E:=iq q d;refine ol rfl (sI d ?_);intro j w n d;refine⟨d.ee,?_⟩;have E:=iq q d;refine ht 1 q ?_;exact nH rfl (iJ E rfl rfl en (by first|rfl|exact O.ez _) (tH en λw E=>(e2.nil (s6 1 E λw E=>(⟨i,j,ay,⟨rfl,rfl,rfl,rfl,rfl,trivial⟩,(((((E.pick (e:=B aW (O.enc nV) 189) en).pick (e:=B ao (O.enc R) 53) en).pick (e:=V ay.v 62 l) en).pick (e:=B i (O.enc (⟨R,ay,0,0⟩:sT)) 502) en).pick (e:=B j (O.enc (⟨0,-1,0,R.tv,0,ed⟩:tr)) 189) en).sub aS⟩)))))
      refine sI d ?_;intro j w n d;refine⟨d.ee,?_⟩;have E:=iq q d;refine ol rfl (ba d rfl ?_);intro i w n d;refine⟨d.ee,?_⟩;have E:=iq q d;refine ht 1 q ?_;exact nH rfl (iJ E rfl rfl en (by first|rfl|exact O.ez _) (tH en λw E=>(e2.nil (s6 1 E λw E=>(⟨i,j,ay,⟨rfl,rfl,rfl,rfl,rfl,trivial⟩,(((((E.pick (e:=B aW (O.enc nV) 189) en).pick (e:=B ao (O.enc R) 53) en).pick (e:=V ay.v 62 l) en).pick (e:=B i (O.enc (⟨R,ay,0,0⟩:sT)) 502) en).pick (e:=B j (O.enc (⟨0,-1,0,R.tv,0,ed⟩:tr)) 189) en).sub aS⟩)))))
     refine sI d ?_;intro j w n d;refine⟨d.ee,?_⟩;have E:=iq q d;refine ol rfl (J.call (DR (eB.es E.ee) K) rfl ?_);rintro DQ w ⟨C,n⟩;replace d:=d.pB n C.1 C.2;obtain⟨ay,rfl⟩:=(C.1.eu).mI;refine⟨d.ee,?_⟩;have E:=iq q d;refine ss q rfl (λw E=>sV (r:=(⟨R,ay,0,0⟩:sT)) (ps:=sT.parts (⟨R,ay,0,0⟩:sT)) (Wv _) (by show uQ _ [(0,.agg (O.enc R)),(1,ay.v)]=_;rfl) (by exact WN (a:=.agg (O.enc R)) (b:=ay.v) (by decide) (O.ez R) rfl) eG) (ol rfl (ba d rfl ?_));intro i w n d;refine⟨d.ee,?_⟩;have E:=iq q d;refine ht 1 q ?_;exact nH rfl (iJ E rfl rfl en (by first|rfl|exact O.ez _) (tH en λw E=>(e2.nil (s6 1 E λw E=>(⟨i,j,ay,⟨rfl,rfl,rfl,rfl,rfl,trivial⟩,(((((E.pick (e:=B aW (O.enc nV) 189) en).pick (e:=B ao (O.enc R) 53) en).pick (e:=V ay.v 62 l) en).pick (e:=B i (O.enc (⟨R,ay,0,0⟩:sT)) 502) en).pick (e:=B j (O.enc (⟨0,-1,0,R.tv,0,ed⟩:tr)) 189) en).sub aS⟩)))))
   .
     rintro f w ⟨i,j,ay,t,E⟩;refine il _ t (λg=>?_);clear t;refine lB (λf w=>oV [(2,N ao),(4,N aW),(7,N i),(8,N j)] f/\∃(iv:ec)(lc:Value)(x cu:List aH)(tf A:Int)(hn eZ:Nat),hn<=R.rN.tJ/\eZ<=1048576*ad.length/\((iv.v=lc/\cu=x)∨ex w0 iv.v cu)/\cu.length=l.length/\U w0 [B j (O.enc (⟨tf,A,0,R.tv,0,ed⟩:tr)) 189,B i (O.enc (⟨R,iv,hn,eZ⟩:sT)) 502,V lc 62 x,B ao (O.enc R) 53,B aW (O.enc nV) 189] w) ?_ ?_
     .
       have:=aL ew;refine eA 11 E λw E=>?_;refine ek.loop (λm f w=>∃(k:Nat)(s:ec)(hn eZ:Nat)(y:List aH),oV [(1,eu.v),(2,N ao),(4,N aW),(7,N i),(8,N j),(41,R.tQ.m.instrs.v),(42,i6 ad.length),(43,i6 k)] f/\U w0 [B j (O.enc (⟨0,-1,0,R.tv,0,ed⟩:tr)) 189,B i (O.enc (⟨R,s,hn,eZ⟩:sT)) 502,V s.v 62 y,B ao (O.enc R) 53,B aW (O.enc nV) 189] w/\uT l y/\hn<=R.rN.tJ/\eZ<=1048576*k/\k<=ad.length/\m=ad.length-k) (ad.length) ?_ ?_
       .
         exact⟨0,ay,0,0,l,⟨rfl,rfl,rfl,rfl,rfl,rfl,rfl,rfl,trivial⟩,(((((E.pick (e:=B aW (O.enc nV) 189) en).pick (e:=B ao (O.enc R) 53) en).pick (e:=V ay.v 62 l) en).pick (e:=B i (O.enc (⟨R,ay,0,0⟩:sT)) 502) en).pick (e:=B j (O.enc (⟨0,-1,0,R.tv,0,ed⟩:tr)) 189) en).sub aS,⟨rfl,dh⟩,Nat.zero_le _,Nat.zero_le _,Nat.zero_le _,rfl⟩
       .
         rintro m f w ⟨k,s,hn,eZ,y,t,E,H,P,pX,rP,e5⟩;refine il _ t (λg=>?_);clear t;refine eA 6 E<|om 0 5 (λah w E=>?_) (λah w E=>?_)
         .
           have Q:k<ad.length:=by omega
           obtain⟨sS,ox,ka,wT⟩:=hin k Q;refine eA 8 E ⟨⟨by omega⟩,λ_ w E=>?_⟩;have:=lq Q;refine ey 3 E λrQ w E=>?_;refine oE (iJ E rfl rfl en (by first|rfl|exact O.ez _) (tH en λw E=>?_));refine ey 7 E λw E=>?_;refine ev 8 E (eoz ((E.pick (e:=V s.v 62 y) en).pick (e:=B i (O.enc (⟨R,s,hn,eZ⟩:sT)) 502) en) hr ka wT (WR _ (List.getElem_mem Q)) A1 (by rw[H.1];exact K) H.2) λS F n4 D I WH Sg eyd w E=>?_;refine et (J.call (eoA (o:=(⟨0,-1,0,R.tv,0,ed⟩:tr)) rfl (tF.es E.ee) E en) rfl ?_);rintro _ w ⟨rfl,E⟩;replace E:=E _ en;refine ey 2 E<|om 11 0 (λa8 w E=>?_) (λa8 w E=>?_)
           .
             refine oE (iU (b:=i) (o:=50) (v:=.int .u64 ((0:Nat):Int)) (eo:=1) (cs:=O.enc (⟨R,eu,D,I⟩:sT)) (iA:=O.enc (⟨R,eu,D,0⟩:sT)) E rfl rfl en rfl (by rw[O.ez];decide) (oZ _ _) (eaY (⟨R,eu,D,I⟩:sT) 0) (tH en λw E=>?_));refine ey 10 E λw E=>?_;exact⟨⟨rfl,rfl,rfl,rfl,trivial⟩,eu,F.v,n4,l,S,(k:Int),D,0,Sg,Nat.zero_le _,.inr eB,rfl,(((((E.pick (e:=B aW (O.enc nV) 189) en).pick (e:=B ao (O.enc R) 53) en).pick (e:=V F.v 62 n4) en).pick (e:=B i (O.enc (⟨R,eu,D,0⟩:sT)) 502) en).pick (e:=B j (O.enc (⟨S,(k:Int),0,R.tv,0,ed⟩:tr)) 189) en).sub aS⟩
           .
             have al:S=0:=by simpa using a8
             rw[al]at E;refine eA 8 E ⟨ib,λw E=>?_⟩;exact⟨ad.length-(k+1),by omega,k+1,F,D,I,n4,⟨rfl,rfl,rfl,rfl,rfl,rfl,rfl,congrArg (Value.int .i64) (by omega),trivial⟩,(((((E.pick (e:=B aW (O.enc nV) 189) en).pick (e:=B ao (O.enc R) 53) en).pick (e:=V F.v 62 n4) en).pick (e:=B i (O.enc (⟨R,F,D,I⟩:sT)) 502) en).pick (e:=B j (O.enc (⟨0,-1,0,R.tv,0,ed⟩:tr)) 189) en).sub aS,⟨WH.1.trans H.1,WH.2⟩,Sg,by omega,by omega,rfl⟩
         .
           exact⟨⟨rfl,rfl,rfl,rfl,trivial⟩,s,s.v,y,y,0,-1,hn,eZ,P,by omega,.inl ⟨rfl,rfl⟩,H.1,E.sub aS⟩
     .
       rintro f w ⟨t,iv,lc,x,cu,tf,A,hn,eZ,P,pX,WL,eyc,E⟩;refine il _ t (λg=>?_);clear t;refine eA 1 E ?_;refine aC 14 8 (eX [0,1,2,3,4,5,6,7] (oA [8,9,10,11] .nil)) [] λw E=>?_;refine lB (λf w=>∃(ch:ec)(p:List tX),oV [(4,N aW),(8,N j)] f/\U w0 [B j (O.enc (⟨tf,A,hn,R.tv,eZ,ch⟩:tr)) 189,V ch.v 64 p,B i (O.enc (⟨R,iv,hn,eZ⟩:sT)) 502,V lc 62 x,B ao (O.enc R) 53,B aW (O.enc nV) 189] w/\p.length<=r.length) ?_ ?_
       .
         refine eA 9 E λw E=>?_;refine ek.loop (λm f w=>∃(k:Nat)(ch:ec)(p:List tX),oV [(4,N aW),(7,N i),(8,N j),(77,R.rI.v),(78,i6 r.length),(79,i6 k)] f/\U w0 [B j (O.enc (⟨tf,A,hn,R.tv,eZ,ch⟩:tr)) 189,V ch.v 64 p,B i (O.enc (⟨R,iv,hn,eZ⟩:sT)) 502,V lc 62 x,B ao (O.enc R) 53,B aW (O.enc nV) 189] w/\p.length<=k/\k<=r.length/\m=r.length-k) (r.length) ?_ ?_
         .
           exact⟨0,ed,[],⟨rfl,rfl,rfl,rfl,rfl,rfl,trivial⟩,(show U w0 [B j (O.enc (⟨tf,A,hn,R.tv,eZ,ed⟩:tr)) 189,V ed.v 64 ([]:List tX),B i (O.enc (⟨R,iv,hn,eZ⟩:sT)) 502,V lc 62 x,B ao (O.enc R) 53,B aW (O.enc nV) 189] w from((E.lR (α:=tX) 64).pick (e:=B j (O.enc (⟨tf,A,hn,R.tv,eZ,ed⟩:tr)) 189) en)),Nat.le_refl _,Nat.zero_le _,rfl⟩
         .
           rintro m f w ⟨k,ch,p,t,E,r7,rP,e5⟩;refine il _ t (λg=>?_);clear t;refine eA 6 E<|om 0 5 (λnD w E=>?_) (λnD w E=>?_)
           .
             have v2:k<r.length:=by omega
             have zo:k<cu.length:=by omega
             refine eA 8 E ⟨⟨by omega⟩,λ_ w E=>?_⟩;have:=lq v2;refine ey 3 E λn9 w E=>?_;refine oE (iJ E rfl rfl en (by first|rfl|exact O.ez _) (tH en λw E=>?_));refine ey 8 E<|om 0 8 (λh1 w E=>?_) (λh1=>⟨ib,λw E=>?_⟩)
             .
               obtain⟨W,X⟩:∃y,(⟨r[k].key,cu[k]⟩:tX)=y:=⟨_,rfl⟩;refine nC 9 13 (eX [0,1,2,3,4,5,6,7,8,9,10,11] (oA [12,13,14,15] .nil)) [] E λw E=>?_;refine tl rfl (λw E=>nX rfl ((WO (z:=lc) (y:=x) E en WL)) rfl (by omega) eG) (mR 0 E (hA λw E=>((WO (z:=lc) (y:=x) E en WL).sm zo).n5 (O.ez cu[k])) λw E=>(tl rfl (λw E=>sV (r:=((⟨r[k].key,cu[k]⟩:tX):tX)) (ps:=tX.parts ((⟨r[k].key,cu[k]⟩:tX):tX)) (bO _) (by first|(simp only[hJ,sZ,dw,sg,iW,bO,tX.parts,pg,aH.parts];rfl)|rfl) (by(repeat' (first|exact trivial|refine And.intro ?_ ?_))<;>first|rfl|exact O.ez _|(simp;done)) eG) ?_));refine ol rfl (n7 E (([⟨r[k].key,cu[k]⟩]:List tX)) [.agg (O.enc (⟨r[k].key,cu[k]⟩:tX))] rfl rfl rfl rfl (by decide) ?_);intro Y w n E;refine⟨pp E,?_⟩;refine hO rfl (dj (α:=tX) (xs:=p) (ys:=[⟨r[k].key,cu[k]⟩]) rfl E rfl en (E.eu (v:=ta Y 1 1) (xs:=([⟨r[k].key,cu[k]⟩]:List tX)) en) (by simp only[List.length_cons,List.length_nil];omega) (by simp only[maxLen,List.length_cons,List.length_nil];omega) ?_);intro Z w E;replace E:=E _ en;rw[X]at E;obtain⟨DZ,rfl⟩:=(E.eu (v:=Z) (xs:=p++[W]) en).mI;refine t7 10 E ⟨ib,λw E=>?_⟩;exact⟨r.length-(k+1),by omega,k+1,DZ,p++[W],⟨rfl,rfl,rfl,rfl,rfl,congrArg (Value.int .i64) (by omega),trivial⟩,((((((E.pick (e:=B aW (O.enc nV) 189) en).pick (e:=B ao (O.enc R) 53) en).pick (e:=V lc 62 x) en).pick (e:=B i (O.enc (⟨R,iv,hn,eZ⟩:sT)) 502) en).pick (e:=V DZ.v 64 (p++[W])) en).pick (e:=B j (O.enc (⟨tf,A,hn,R.tv,eZ,DZ⟩:tr)) 189) en).sub aS,by simp only[List.length_append,List.length_cons,List.length_nil];omega,by omega,rfl⟩
             .
               exact⟨r.length-(k+1),by omega,k+1,ch,p,⟨rfl,rfl,rfl,rfl,rfl,congrArg (Value.int .i64) (by omega),trivial⟩,((((((E.pick (e:=B aW (O.enc nV) 189) en).pick (e:=B ao (O.enc R) 53) en).pick (e:=V lc 62 x) en).pick (e:=B i (O.enc (⟨R,iv,hn,eZ⟩:sT)) 502) en).pick (e:=V ch.v 64 p) en).pick (e:=B j (O.enc (⟨tf,A,hn,R.tv,eZ,ch⟩:tr)) 189) en).sub aS,by omega,by omega,rfl⟩
           .
             exact⟨ch,p,⟨rfl,rfl,trivial⟩,E,by omega⟩
       .
         rintro f w ⟨ch,p,t,E,r7⟩;refine il _ t (λg=>?_);clear t;refine eA 4 E λw E=>?_;refine et (J.call (WI (E.eu (v:=ch.v) (xs:=p) en)) rfl ?_);rintro eoL w ⟨eoD,n⟩;replace E:=E.es n;replace E:=E.bS (v:=ch.v) (T:=64) (xs:=p) en;rw[<-eoD]at E;obtain⟨eyu,rfl⟩:=(E.eu (v:=eoL) (xs:=p) en).mI;refine ey 13 E λw E=>?_;exact⟨_,p,rfl,E.cZ en,E.ee,P,pX,r7,rfl⟩
end
section
open Go.Proofs Tryz
variable{D d:iL}{S:List eH}{a:aH}{ch:List tX}{is:List Instr}{k p:Nat}{l:List aH}{o:tr}{r:aZ}{eu:ec}{v:Value}{w w0 ea:World}{xs:List UInt8}{y:nT}
def f3(d:iL)(ch:List tX):iL:=ch.foldl (λd h=>d.put h.key h.cr) d
theorem es4(h:k<ch.length):f3 d (ch.take (k+1))=(f3 d (ch.take k)).put ch[k].key ch[k].cr:=by
 unfold f3;rw[List.take_succ_eq_append_getElem h,List.foldl_append];rfl
theorem YU{d:iL}(h:cM d):∀(ch:List tX),cM (f3 d ch)
 |[]=>h
 |x::ch=>by
  have:=YU (h.put x.key x.cr) ch;exact this
theorem YM(a:cM d)(eC:U ea (hR p d::S) w0):eJ 151 #[N p] w0 (λu w'=>u=i6 0/\U ea (hR p d::S) w'):=by
 refine eN 7 eC func151 ntmps151 results151 rfl λw E=>?_;refine ev 5 E (bG) λt6=>?_;refine aC 4 5 (eX [0,1,2,3] (oA [4,5,6] .nil)) [] λw E=>?_;refine o0 0 E (DU (E.DD en)) λw E=>?_;refine c8 0 E (SE (E.pick (e:=hR p d) en)) λw E=>?_;rw[Wu a]at E;refine t7 5 E λw E=>?_;exact⟨rfl,E.sub aS⟩
theorem es5(h:cM d)(a:∀w,U ea S w->ex w o.ha.v ch)(i:ch.length<=100000)(eC:U ea (hR p d::S) w0):eJ 300 #[N p,.agg (O.enc o)] w0 (λu w'=>u=i6 0/\U ea (hR p (f3 d ch)::S) w'):=by
 refine eN 10 eC func300 ntmps300 results300 rfl λt6 w E=>?_;refine ev 9 E (YM h (E.pick (e:=hR p d) en))<|na 0 7 (λj l w E=>?_) (λ_ l w E=>?_)
 .
   cases j
 .
   refine et (J.hD rfl ((a _ (E.sub aS))) (ey 4 E λw E=>?_));refine ek.loop (λq f w=>∃k:Nat,oV [(0,N p),(14,o.ha.v),(15,i6 ch.length),(16,i6 k)] f/\U ea (hR p (f3 d (ch.take k))::B t6 (O.enc o) 189::S) w/\k<=ch.length/\q=ch.length-k) (ch.length) ?_ ?_
   .
     exact⟨0,⟨rfl,rfl,rfl,rfl,trivial⟩,(show U ea (hR p d::B t6 (O.enc o) 189::S) w from(E.pick (e:=B t6 (O.enc o) 189) en).pick (e:=hR p d) en|>.sub aS),Nat.zero_le _,rfl⟩
   .
     rintro q f w ⟨k,b,E,r,e5⟩;refine il _ b (λg=>?_);clear b;refine eA 6 E<|om 0 0 (λm w E=>?_) (λm w E=>?_)
     .
       have c:k<ch.length:=by omega
       refine eA 6 E λw E=>?_;refine et (nX rfl ((a _ (E.sub aS))) rfl (by omega) (af 1 E (hA λw E=>((a _ (E.sub aS)).sm c).n5 (O.ez ch[k])) λs w E=>?_));refine oE (iJ E rfl rfl en (by first|rfl|exact O.ez _) (tH en λw E=>?_));refine ey 8 E λw E=>?_;refine ev 8 E (SE (E.pick (e:=hR p (f3 d (ch.take k))) en)) ⟨ib,λw E=>?_⟩;rw[<-es4 c]at E;exact⟨ch.length-(k+1),by omega,k+1,⟨rfl,rfl,rfl,congrArg (Value.int .i64) (by omega),trivial⟩,((E.pick (e:=B t6 (O.enc o) 189) en).pick (e:=hR p (f3 d (ch.take (k+1)))) en).sub aS,by omega,rfl⟩
     .
       have n:ch.take k=ch:=List.take_of_length_le (by omega);rw[n]at E;refine eA 12 E λw E=>?_;exact⟨rfl,E.sub aS⟩
@[irreducible] def iC (p:Nat) (D:iL):eH:=hC [nn (cM D),hR p D]
theorem U.EB(h:U w0 (iC p D::S) w):(cM D)/\U w0 (hR p D::S) w:=by
 unfold iC at h;have h:=h.de;have G:=h.get (e:=nn (cM D)) .em;rw[md]at G;exact⟨G,h.sub (List.sublist_cons_self _ _)⟩
theorem qv(e1:cM D)(h:U w0 (hR p D::S) w):U w0 (iC p D::S) w:=by
 unfold iC;exact U.closed (l:=[nn (cM D),hR p D]) (h.pure e1)
theorem es6(e1:cM d)(h:∀k,d.get k=sZ):d.eI=[]:=by
 cases c:d.eI with
 |nil=>rfl
 |cons x l=>
  exfalso;have G:=h x.1;unfold iL.get at G;rw[c]at G;have Y:tL x.1 (x::l)=some x.2:=by obtain⟨a,b⟩:=x;simp[tL]
  rw[Y]at G;exact e1.Sq x (by rw[c];exact List.mem_cons_self) G
theorem YF:eJ 22 #[] w0 (λu w'=>∃(p r:Nat),u=N p/\U w0 [iC p ⟨r,[]⟩] w'):=by
 refine(eaA).mono ?_;rintro u w' ⟨p,⟨r,eI⟩,rfl,b,a,c,hb⟩;obtain rfl:eI=[]:=es6 a b;exact⟨p,r,rfl,qv a ((eY w0).TW hb c)⟩
theorem es7{k:ak}(eC:U ea (iC p D::S) w0):eJ 24 #[N p,.agg (O.enc k),.agg (O.enc a)] w0 (λu w'=>u=i6 0/\U ea (iC p (D.put k a)::S) w'):=by
 obtain⟨e1,E⟩:=eC.EB;exact(SE E).mono λu w' h=>⟨h.1,qv (e1.put k a) h.2⟩
structure xY(r:aZ)(y:nT)(o:tr)(ch:List tX):Prop where
 tJ:o.tJ<=1400000
 tq:o.tq<=1048576*y.m.ad.length
 len:ch.length<=64
 tv:o.tv=r.tv
theorem es8(h:yP y)(a:k<y.m.ad.length):(y.m.ad[k]).1.toNat<y.m.td.length:=by
 have G:=List.any_eq_false.1 h.ix y.m.ad[k] (List.getElem_mem a);unfold SR at G;simp only[Bool.or_eq_true,decide_eq_true_eq,not_or]at G;omega
theorem es9(eB:ex w0 eu.v l)(h:l.length=(ai y).length)(j:∀a∈l,cC a)(n:ErrLaid w0)(b:U ea S w0)(d:tP (ax r is xs y) S):eJ 209 #[.agg (O.enc r),eu.v] w0 (λu w'=>∃(o:tr)(ch:List tX),u= .tuple #[.agg (O.enc o),i6 0]/\U w0 [nn (xY r y o ch),V o.ha.v 64 ch] w'):=by
 obtain⟨e1,_,hr,e,B⟩:=b.g6 d;have q:=yP.of e1.Cw;obtain⟨_,C,D,_,_,hin,_,_,_⟩:=fZ b d;have s:=(Cd (y:=y)).2;have t:r.rN.tJ<=1400000:=by rw[e1.Yg];exact s
 have f:=e.2.wU;refine(eoO n eB hr e.2.i ?_ ?_ h (by omega) (by omega) j).mono ?_
 .intro k G;obtain⟨_,w,a3⟩:=f.2 k G (by omega);exact⟨_,_,w,a3⟩
 .intro c x;obtain⟨k,z,rfl⟩:=List.getElem_of_mem x;have Y:k<y.m.ad.length:=by omega
  have ej:=es8 q Y;have e8:=(f.2 k z Y).1;rw[e8];omega
 rintro u w' ⟨o,ch,rfl,g,A,G,Y,ej,e8⟩;exact⟨o,ch,rfl,((eY w0).pB A g.1 g.2).pure (p:=xY r y _ _) ⟨by omega,by rw[hin];exact Y,by omega,e8⟩⟩
theorem ere(a:fK D)(b:cF r.tv (ai y) (iE D (ai y))=false)(eC:U ea (iC p D::ax r is xs y::S) w0):eJ 286 #[N p,.agg (O.enc r)] w0 (λu w'=>u= .tuple #[eF,i6 22]/\U ea (iC p D::ax r is xs y::S) w'):=by
 obtain⟨e1,E⟩:=eC.EB;have d:=(fZ E .G).2.2.1;have e:=(fZ E .G).2.1;refine(Wm e1 a (λw h=>(h.g6 .em).2.2.1) (by omega) E).mono ?_;rintro u w' ⟨d',rfl,c,(⟨_,rfl,E⟩|⟨h,_⟩)⟩
 .exact⟨rfl,qv c E⟩
 rw[b]at h;cases h
theorem ert(a:fK D)(b:cF r.tv (ai y) (iE D (ai y))=true)(eC:U ea (iC p D::ax r is xs y::S) w0):eJ 286 #[N p,.agg (O.enc r)] w0 (λu w'=>∃s:ec,u= .tuple #[s.v,i6 0]/\U ea (iC p D::ax r is xs y::V s.v 62 (gr r.tv (iE D (ai y)))::S) w'):=by
 obtain⟨e1,E⟩:=eC.EB;have d:=(fZ E .G).2.2.1;have e:=(fZ E .G).2.1;refine(Wm e1 a (λw h=>(h.g6 .em).2.2.1) (by omega) E).mono ?_;rintro u w' ⟨d',rfl,c,(⟨h,_⟩|⟨_,s,rfl,E⟩)⟩
 .rw[b]at h;cases h
 exact⟨s,rfl,(qv (S:=V s.v 62 _::ax r is xs y::S) c (E.pick .G)).hK (.cons _ (.swap _ _ _))⟩
theorem era{tv:Nat}(h:∀a∈l,cC a):∀a∈gr tv l,cC a:=by
 intro a ep;unfold gr at ep;rcases List.mem_or_eq_of_mem_set ep with G|G
 .exact h a G
 subst G;have Y:cC (l.getD 0 sZ):=by
  cases l with
  |nil=>exact⟨by decide,by decide⟩
  |cons x l=>exact h x List.mem_cons_self
 exact⟨by show(l.getD 0 sZ).iO-tv<_;have:=Y.1;omega,Y.2⟩
theorem ero(h:fK D){r:List o6}:∀a∈iE D r,cC a:=by
 intro a ep;unfold iE at ep;obtain⟨x,_,rfl⟩:=List.mem_map.1 ep;exact h _
theorem eri(tv:Nat)(l:List aH):(gr tv l).length=l.length:=by unfold gr;rw[List.length_set]
theorem ern(a:ch.length<=64)(eC:U ea (iC p D::V o.ha.v 64 ch::S) w0):eJ 300 #[N p,.agg (O.enc o)] w0 (λu w'=>u=i6 0/\U ea (iC p (f3 D ch)::V o.ha.v 64 ch::S) w'):=by
 obtain⟨e1,E⟩:=eC.EB;exact(es5 e1 (λw h=>h.eu .em) (by omega) E).mono λu w' h=>⟨h.1,qv (YU e1 ch) h.2⟩
end
section
open Go.Proofs Tryz
variable{D:iL}{L xs:List tX}{S:List eH}{b g i id oM n e9 p r:Nat}{f:te}{is:List Nat}{eI:List (ak×aH)}{s:ec}{u:Value}{v:Vector UInt8 32}{w w0 ea:World}{x y:tX}{ys:List UInt8}
def VF:Go.Shelf.Ren:=⟨λ|6=>117|15=>190|14=>189|28=>257|29=>258|20=>249|21=>250|22=>251|23=>252|24=>253|25=>254|26=>255|27=>256|46=>308|47=>309|48=>310|49=>311|50=>312|57=>360|n=>n,λ|22=>29|24=>64|25=>268|3=>3|39=>385|0=>0|53=>459|55=>23|4=>4|46=>453|45=>452|50=>146|5=>5|9=>9|66=>531|70=>534|76=>593|77=>594|n=>n,λ|n=>n⟩
theorem VP:Proofs.SlLaysF0.n6 prog VF where
 mixed:=by kernel_rfl
 f6:=⟨f117.name,by decide,func117.trans (congrArg some (by kernel_rfl))⟩
 f14:=⟨f189.name,by decide,func189.trans (congrArg some (by kernel_rfl))⟩
 f15:=func190.trans (congrArg some (by kernel_rfl))
 f20:=⟨f249.name,by decide,func249.trans (congrArg some (by kernel_rfl))⟩
 f21:=⟨f250.name,by decide,func250.trans (congrArg some (by kernel_rfl))⟩
 f22:=⟨f251.name,by decide,func251.trans (congrArg some (by kernel_rfl))⟩
 f23:=⟨f252.name,by decide,func252.trans (congrArg some (by kernel_rfl))⟩
 f24:=⟨f253.name,by decide,func253.trans (congrArg some (by kernel_rfl))⟩
 f25:=⟨f254.name,by decide,func254.trans (congrArg some (by kernel_rfl))⟩
 f26:=⟨f255.name,by decide,func255.trans (congrArg some (by kernel_rfl))⟩
 f27:=⟨f256.name,by decide,func256.trans (congrArg some (by kernel_rfl))⟩
 f28:=func257.trans (congrArg some (by kernel_rfl))
 f29:=func258.trans (congrArg some (by kernel_rfl))
 f46:=⟨f308.name,by decide,func308.trans (congrArg some (by kernel_rfl))⟩
 f47:=func309.trans (congrArg some (by kernel_rfl))
 f48:=func310.trans (congrArg some (by kernel_rfl))
 f49:=⟨f311.name,by decide,func311.trans (congrArg some (by kernel_rfl))⟩
 f50:=⟨f312.name,by decide,func312.trans (congrArg some (by kernel_rfl))⟩
 f57:=⟨f360.name,by decide,func360.trans (congrArg some (by kernel_rfl))⟩
 t0:=underlying0
 a0:=isAgg0
 z0:=sizeOf0
 v0:=zeroValue0
 t3:=underlying3
 a3:=isAgg3
 z3:=sizeOf3
 v3:=zeroValue3
 t4:=underlying4
 a4:=isAgg4
 z4:=sizeOf4
 v4:=zeroValue4
 t5:=underlying5
 a5:=isAgg5
 z5:=sizeOf5
 v5:=zeroValue5
 t9:=underlying9
 a9:=isAgg9
 z9:=sizeOf9
 v9:=zeroValue9
 t22:=underlying29
 a22:=isAgg29
 z22:=sizeOf29
 v22:=zeroValue29
 t25:=underlying268
 a25:=isAgg268
 z25:=sizeOf268
 v25:=zeroValue268
 t39:=underlying385
 a39:=isAgg385
 z39:=sizeOf385
 v39:=zeroValue385
 t45:=underlying452
 a45:=isAgg452
 z45:=sizeOf452
 v45:=zeroValue452
 t46:=underlying453
 a46:=isAgg453
 z46:=sizeOf453
 v46:=zeroValue453
 t50:=underlying146
 a50:=isAgg146
 z50:=sizeOf146
 v50:=zeroValue146
 t53:=underlying459
 a53:=isAgg459
 z53:=sizeOf459
 v53:=zeroValue459
 t55:=underlying23
 a55:=isAgg23
 z55:=sizeOf23
 v55:=zeroValue23
 t66:=underlying531
 a66:=isAgg531
 z66:=sizeOf531
 v66:=zeroValue531
 t70:=underlying534
 a70:=isAgg534
 z70:=sizeOf534
 v70:=zeroValue534
 t76:=underlying593
 a76:=isAgg593
 z76:=sizeOf593
 v76:=zeroValue593
 t77:=underlying594
 a77:=isAgg594
 z77:=sizeOf594
 v77:=zeroValue594
open Proofs in
instance:Inhabited tX:=⟨⟨aO 32,sZ⟩⟩
theorem ems{v:Value}{xs:List UInt8}(h:ex w0 v xs)(k:ex w0 u ys):nr prog 119 #[v,u] w0 (λr w'=>r=i6 (Lib.compareBytes xs ys)/\uF w0 w'):=by
 refine nr.enter (args:=[v,u]) func119 rfl ntmps119 results119 rfl ?_;refine ek.seq (λc a=>(ek.region (et (iP rfl ?_))));refine ts.nil ?_;refine aE (a _ _ (ek.seq (λd b=>(ek.region (et (oI (v:=v) rfl (et (oI (v:=u) rfl (et (TY (vs:=[v,u]) (v:=i6 (Lib.compareBytes xs ys)) ?_ rfl ?_))))))))))
 .rw[run_callFunc_extern func191 (by kernel_rfl) (by kernel_rfl) (by kernel_rfl) (e:=Extern.BytealgCompare.compare) (by kernel_rfl)];show(Sem.run prog (Extern.BytealgCompare.compare #[v,u]) w0).andThen _=_;rw[eu6 h k];rfl
 refine et (iP rfl ?_);refine ts.nil ?_;refine aE (b _ _ ?_);refine ek.ret ?_;refine cJ (.hB rfl .nil) ?_;exact⟨rfl,uF.refl _⟩
theorem emr[e5:vx prog]{Q:Exit->te->World->Prop}{l:List Oper}(r:sF)(b:(Region.noSelect l.toArray&&bn l.toArray e9&&dg l.toArray e9 (Array.replicate l.toArray.size false) r&&decide (lK r=l.length))=true)
 (d:∀(c:List PanicEntry) f w,¬Q (.panic c) f w) (I:World->Prop) (e:I {w with drawn:=w.drawn+1}) (h:e2 prog n l.toArray e9 I Q r f {w with drawn:=w.drawn+1}):ek prog n (.region id l.toArray true) Q f w:=by
 simp only[Bool.and_eq_true,decide_eq_true_eq]at b;obtain⟨⟨⟨g,i⟩,b⟩,hlen⟩:=b;unfold ek;unfold e2 at h;intro a ep;refine wp_region_any e5.out ?_;have:=Ip _ _ _ _ (h _ a g b (.inl ⟨HT i,e⟩) ep (λc f _ w h=>absurd h (d c f w)));rw[hlen]at this;simpa using this
theorem VG(h:an w (N b) (O.enc v)):ex w (ta b 32 32) v.toList:=by
 obtain⟨a,g,c,d⟩:=h;cases c;refine⟨some ⟨b,0,none⟩,32,by simp,by simp,by decide,by simp,λi e _=>?_⟩;cases e;refine⟨rfl,λj u f=>d j u ?_⟩;rw[<-Array.getElem?_toList,II];exact f
theorem VW{T:TypeId}(h:w.heap[b]? =some (.cells (O.enc x) T (0,0))):an w (N b) (O.enc x.key):=by
 refine⟨b,0,rfl,λj u d=>?_⟩;rw[Tf h,Nat.zero_add];have f:j<32:=by have Y:=(Array.getElem?_eq_some_iff.1 d).1;rw[O.ez]at Y;exact Y
 have e:=ZC x;have a:=congrArg (λc=>c[j]?) e;simp only[Array.getElem?_extract]at a;rw[d]at a;split at a
 .rwa[Nat.zero_add]at a
 cases a
def UG(x y:tX):Int:=Lib.compareBytes x.key.toList y.key.toList
theorem emh:nr prog 118 #[.agg (O.enc x),.agg (O.enc y)] w0 (λr w'=>r=i6 (UG x y)/\uF w0 w'):=by
 refine nr.enter (args:=[.agg (O.enc x),.agg (O.enc y)]) func118 rfl ntmps118 results118 rfl ?_;refine ek.seq (λl j=>(ek.region ?_));obtain⟨a,d⟩:∃o,o=Obj.cells (O.enc x) 64 (0,0):=⟨_,rfl⟩;obtain⟨di,i⟩:∃o,o=Obj.cells (O.enc y) 64 (0,0):=⟨_,rfl⟩;refine et (iz (v:=.pointer (some ⟨w0.heap.size,0,none⟩)) (w':=w0.alloc a) (by rw[d];rfl) (et (iz (v:=.pointer (some ⟨(w0.alloc a).heap.size,0,none⟩)) (w':=(w0.alloc a).alloc di) (by rw[i];rfl) (et (iP rfl ?_)))));refine ts.nil ?_;refine aE (j _ _ ?_);have c:uF w0 ((w0.alloc a).alloc di):=((uF.refl w0).alloc a).alloc di;have Z:((w0.alloc a).alloc di).heap[w0.heap.size]? =some (.cells (O.enc x) 64 (0,0)):=by
  have G:(w0.alloc a).heap[w0.heap.size]? =some a:=by rw[d];exact heap_alloc_new w0 _
  exact((eV.alloc (w0.alloc a) di).get G).trans (by rw[d])
 have e:((w0.alloc a).alloc di).heap[(w0.alloc a).heap.size]? =some (.cells (O.enc y) 64 (0,0)):=by rw[i];exact heap_alloc_new (w0.alloc a) _
 generalize(w0.alloc a).alloc di=pl at c Z e⊢;generalize w0.heap.size=ni at Z⊢;generalize(w0.alloc a).heap.size=ao at e⊢;refine ek.seq (λm k=>?_);refine emr (e9:=6) (eX [0,1,2,3] (.one 4 (.look 5 .nil))) (by kernel_rfl) (λ_ _ _ h=>h) (λw=>uF w0 w/\eV pl w) ⟨c.drawn,eV.drawn pl _⟩ ?_;refine e2.look rfl rfl rfl (λw E=>o9 rfl ⟨rfl,rfl⟩) ?_;refine e2.look rfl rfl rfl (λw E=>Pb (b:=ni) (o:=0) rfl ⟨rfl,rfl⟩) ?_;refine e2.look rfl rfl rfl (λw E=>o9 rfl ⟨rfl,rfl⟩) ?_;refine e2.look rfl rfl rfl (λw E=>Pb (b:=ao) (o:=0) rfl ⟨rfl,rfl⟩) ?_;have f:eV pl {pl with drawn:=pl.drawn+1}:=eV.drawn pl _;refine ol rfl (J.call (ems (VG (VW (f.get Z))) (VG (VW (f.get e)))) rfl ?_);rintro _ w ⟨rfl,g⟩;refine⟨⟨c.drawn.trans g,f.trans g.es⟩,?_⟩;refine e2.look rfl rfl rfl (λw E=>iP rfl ⟨rfl,rfl⟩) ?_;refine e2.nil (aE (k _ _ ?_));refine ek.ret ?_;refine cJ (.hB rfl .nil) ?_;exact⟨rfl,c.drawn.trans g⟩
theorem eml:Proofs.CmpLays prog 118 #[] (ul (α:=tX)) (O.eo tX) UG g 0 n w:=by
 intro m os b hd x y;have h:=emh (w0:=(Proofs.sortWorldK ul (O.eo tX) w g 0 m b os)) (x:=x) (y:=y);unfold nr at h;rw[VD,VD];refine Calls.mono h ?_;rintro e w' ⟨v,rfl,rfl,q,a,c⟩;exact⟨rfl,q,a,c⟩
theorem emc(d:L.length<=100000)(eC:U ea (V s.v 64 L::S) w0):nr prog 117 #[s.v,.func (.func 118) #[] #[]] w0 (λu w'=>∃(L2:List tX),u= .tuple #[]/\U ea (nn (L2.Perm L)::V s.v 64 L2::S) w'):=by
 rcases eC.cQ .nW with⟨tG,f⟩|⟨g,cap,ne,tG,a,G,Y,ej,e8⟩
 .have h:=Proofs.AnyF.slices_SortFunc_none (ρ:=VF) {VP with} none 0 (.func (.func 118) #[] #[]) w0;rw[tG];unfold nr;refine Calls.mono h ?_;rintro e w' ⟨rfl,rfl⟩;refine⟨_,rfl,L,rfl,?_⟩;rw[<-tG];exact eC.pure (List.Perm.refl _)
 have hlt:=(Array.getElem?_eq_some_iff.1 a).1;have h:=Proofs.AnyQ.slices_SortFunc VP (O.eo tX) (λw=>Tm (T:=64) mj.out w) (λw=>m5 (T:=64) inferInstance w) ul VL eu7 UG (eu5 λx:tX=>x.key.toList) 118 #[] g 0 cap L.toArray w0 (λargs w=>gI inferInstance args w) (eml) (eu8 (cap:=cap) a e8) hlt (by simp;omega);rw[tG];unfold nr;refine Calls.mono h ?_;rintro e w' ⟨rfl,d',n,os,b,_,c⟩;have hd:d'.size=L.length:=by have:=b.1;simpa using this
 refine⟨_,rfl,d'.toList,rfl,?_⟩;rw[<-tG];refine(eC.ema tG hd c).pure ?_;have au:=b.2.2;simp[hd]at au;rwa[List.take_of_length_le (by simp[hd])]at au
def kx(eI:List (ak×aH))(i:Nat):tX:=match eI[i]? with|some x=>⟨x.1,x.2⟩|none=>⟨aO 32,sZ⟩
theorem emu(h:i<eI.length):is.map (kx eI)++[(⟨(eI[i]).1,(eI[i]).2⟩:tX)]=(is++[i]).map (kx eI):=by
 rw[List.map_append];simp[kx,h]
theorem emm(h:jy w oM r mU eI is)(a:∀i,i<eI.length->i∈is):(is.map (kx eI)).Perm (eI.map λx=>(⟨x.1,x.2⟩:tX)):=by
 obtain⟨_,d,c,_,_,b,hlt,_⟩:=h;have G:is.Perm (List.range eI.length):=(List.perm_ext_iff_of_nodup b List.nodup_range).2 λi=>⟨λew=>List.mem_range.2 (hlt i ew),λew=>a i (List.mem_range.1 ew)⟩;refine(G.map (kx eI)).trans (.of_eq ?_);apply List.ext_getElem
 .simp
 intro i Y ej;simp at Y;simp[kx,Y]
def fx(D:iL)(L:List tX):Prop:=L.Perm (D.eI.map λx=>(⟨x.1,x.2⟩:tX))
theorem emf{v:Value}(Z:ex w0 v xs):nr prog 120 #[v] w0 (λu w'=>u=nz v 0 xs.length xs.length (O.eo (tX))/\eV w0 w'):=by
 have:=aL Z;refine eN 12 (eY _) func120 ntmps120 results120 rfl λw E=>?_;exact et (hj (Z.es E.ee) ⟨⟨_,rfl⟩,Z.cap⟩ ⟨⟨_,rfl⟩,Nat.le_refl _⟩ ⟨rfl,Nat.zero_le _⟩ (ey 5 E λw E=>(⟨rfl,E.ee⟩)))
theorem UY{v:ec}(Z:ex w0 v.v xs):nr prog 120 #[v.v] w0 (λu w'=>u=(v.cut 0 xs.length xs.length (O.eo tX)).v/\eV w0 w'):=emf Z
theorem emp(n:eI.length<=100000)(eC:U ea (B p (O.enc (⟨some r⟩:cU)) 205::tM r mU eI::S) w0):nr prog 49 #[N p] w0 (λu w'=>∃(eE:(List tX))(tt:ec)(tC:(List tX)),u=(tt.cut 0 tC.length tC.length (O.eo tX)).v/\U ea (nn (tC.Perm eE)::V tt.v 64 tC::nn (eE.Perm (eI.map λx=>(⟨x.1,x.2⟩:tX)))::tM r mU eI::B p (O.enc (⟨some r⟩:cU)) 205::S) w'):=by
 refine eN 9 eC func49 ntmps49 results49 rfl λw E=>?_;refine ev 13 E (DC (E.tb .em)) λw E=>?_;refine et (J.range (tn:=(Vector UInt8 32)) E .G rfl ?_);intro k w E;replace E:=E _ .G;refine ey 3 E λw E=>?_;refine ek.loop (λdy f w=>∃(is:List Nat)(cT:ec),oV [(2,cT.v),(12,N k)] f/\U ea (V cT.v 64 ((is).map (kx eI))::ld k r mU eI is::B p (O.enc (⟨some r⟩:cU)) 205::S) w/\is.length<=eI.length/\dy=eI.length-is.length) (eI.length) ?_ ?_
 .
   exact⟨[],ed,⟨sJ,rfl,trivial⟩,((E.lR (α:=tX) 64).pick .Y).pick .G,Nat.zero_le _,rfl⟩
 .
   rintro dy f w ⟨is,cT,l,E,o,F⟩;refine il _ l (λg=>?_);clear l;refine eA 2 E λw E=>?_;refine et (jb E .G rfl ?_);intro H q s w a b c E;replace E:=E _ .G;refine et (J.extract rfl a (ey 3 E<|na 0 0 (λd t w E=>?_) (λd t w E=>?_)))
   .
     obtain⟨i13,m,y,z,rfl⟩:=c d;refine eA 5 E λw E=>?_;refine et (jv (E.wx .G) m rfl (ey 4 E λt6 aW w E=>(oE (iJ (r:=(eI[i13]).1) E rfl rfl .G (O.ez _) (tH .G λw E=>?_)))));refine oE (iJ (r:=(eI[i13]).2) E rfl rfl .em (O.ez _) (tH .em λw E=>?_));refine ey 6 E λw E=>?_;refine et (sV (r:=(⟨((eI[i13]).1),((eI[i13]).2)⟩:tX)) (ps:=tX.parts (⟨((eI[i13]).1),((eI[i13]).2)⟩:tX)) (bO _) (by first|rfl|(simp only[bO,tX.parts,pg,aH.parts,sg,iW];rfl)) (by exact hT ⟨by decide,O.ez ((eI[i13]).1),by decide,O.ez ((eI[i13]).2),trivial⟩) ?_);refine rF 0 E (nB [(⟨((eI[i13]).1),((eI[i13]).2)⟩:tX)]) λI w E=>?_;refine et (fr (α:=tX) (zs:=((is).map (kx eI)++[(⟨((eI[i13]).1),((eI[i13]).2)⟩:tX)])) rfl E rfl .ej (E.eu .em) rfl aj (by simp[maxLen];try omega) ?_);intro A w E;replace E:=E _ .ej;refine ey 4 E λw E=>?_;rw[emu m]at E;exact⟨eI.length-(is++[i13]).length,by simp;omega,is++[i13],A,⟨sJ,rfl,trivial⟩,E.sub aS,by simp;omega,rfl⟩
   .
     obtain⟨e,h⟩:=b d;rw[e]at E;have i:=emm (E.wx .G) h;obtain⟨L,C⟩:∃L,is.map (kx eI)=L:=⟨_,rfl⟩;rw[C]at E i;have D:L.length<=100000:=by rw[i.length_eq,List.length_map];exact n
     replace E:=(E.Nr .G).pure i;refine eA 8 E λw E=>?_;refine ev 5 E (emc (by first|omega|simp) (E.pick .G)) λj w E=>?_;refine ev 5 E (UY (E.eu .G)) λw E=>?_;exact⟨L,cT,j,rfl,E⟩
theorem OF(a:D.eI.length<=100000)(eC:U ea (iC p D::S) w0):nr prog 49 #[N p] w0 (λu w'=>∃(s:ec)(L:List tX),u=s.v/\U ea (nn (fx D L)::V s.v 64 L::iC p D::S) w'):=by
 obtain⟨e1,E⟩:=eC.EB;refine(emp a E.Wh).mono ?_;rintro u w' ⟨L,s,L2,rfl,E⟩;have G:L2.Perm L:=by have h:=E.get .em;rwa[md]at h
 have Y:L.Perm (D.eI.map λx=>(⟨x.1,x.2⟩:tX)):=by have h:=E.get .Y;rwa[md]at h
 replace E:=(tN [0,2] E).xd;exact⟨_,L2,rfl,((qv e1 (U.Sz D (Pi [1,2] E))).pick .G).pure (G.trans Y)⟩
end
end Go.Fer
