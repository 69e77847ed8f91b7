import Derived.Test.YtncdhadaifhleaaGreatDoorF10
import Derived.Test.YtncdhadaifhleaaGreatDoorF12
set_option linter.all false
set_option synthInstance.maxSize 100000
set_option synthInstance.maxHeartbeats 400000
set_option maxHeartbeats 8000000
set_option maxRecDepth 100000
namespace Go.Fer
open Go Go.RowKit
section
open Go.Proofs Tryz
variable{R:aX}{S:List eL}{a:aB}{k uI:av}{p:Nat}{r:List o1}{v oL:Option Nat}{w w' w0 en:World}
structure cK where
 of:Option Nat
variable{x:cK}
def cK.parts(x:cK):List (Array Value):=[#[.map x.of]]
theorem eaH(x:cK):x.parts.map Array.size=[1]:=by
 simp only[cK.parts,List.map,O.eT];rfl
instance:O cK where
 enc x:=eK x.parts
 eo:=1
 pos:=by omega
 eT x:=by rw[iw,eaH];rfl
 one x:=rY (all_cons (q9 _) rB)
instance(priority:=2000):nt (⟨oL⟩:cK) [#[.map oL]]:=⟨rfl⟩
theorem WH:(eK [#[.int .u64 0],(Array.replicate 32 (.int .u8 0)),#[.int .u64 0]])=O.enc (sI:aB):=by
 simp only[jV,aB.parts,nn,sI];rfl
instance:gK (eK [#[.int .u64 0],(Array.replicate 32 (.int .u8 0)),#[.int .u64 0]]) (O.enc (sI:aB)):=⟨WH⟩
theorem eaL:u3 [#[.int .u64 0],Array.replicate 32 (.int .u8 0),#[.int .u64 0]] []=aB.parts sI:=by
 simp only[sI,aB.parts,u3,nn];rfl
structure im where
 r:Nat
 eS:List (av×aB)
variable{d d':im}
def mM(a:aB):Value:=.agg (O.enc a)
def im.get(d:im)(k:av):aB:=(tR k d.eS).getD sI
def im.put(d:im)(k:av)(a:aB):im:={d with eS:=if a=sI then rc k d.eS else oH k a d.eS}
structure df(d:im):Prop where
 sq:(d.eS.map Prod.fst).Nodup
 SZ:∀x∈d.eS,x.2≠sI
theorem WL{tl tx:Type}[DecidableEq tl]{k:tl}{v:tx}:∀{l:List (tl×tx)}{x:tl×tx},x∈oH k v l->x=(k,v)∨x∈l
 |[],x,h=>by simp[oH]at h;exact .inl h
 |(y,u)::l,x,h=>by
  by_cases a:k=y
  .simp[oH,a]at h;rcases h with rfl|h
   .exact .inl (by rw[a])
   exact .inr (List.mem_cons_of_mem _ h)
  simp[oH,a]at h;rcases h with rfl|h
  .exact .inr List.mem_cons_self
  rcases WL h with h|h
  .exact .inl h
  exact .inr (List.mem_cons_of_mem _ h)
theorem df.put(h:df d)(k:av)(a:aB):df (d.put k a):=by
 unfold im.put;split
 .exact⟨h.sq.sublist ((Le k d.eS).map _),λx b=>h.SZ x ((Le k d.eS).subset b)⟩
 next ep=>
 refine⟨F8 k a h.sq,λx b=>?_⟩;rcases WL b with rfl|b
 .exact ep
 exact h.SZ x b
theorem eaD(h:df d)(k uI:av)(a:aB):(d.put k a).get uI=if uI=k then a else d.get uI:=by
 unfold im.put im.get;split
 .next ep=>
  rw[F9 k uI h.sq];split
  .rw[ep];rfl
  rfl
 rw[mI];split<;>rfl
@[irreducible] def hS (p:Nat) (d:im):eL:=hD [V p (O.enc (cK.mk (some d.r))) 205,tW d.r mM d.eS]
theorem U.WD(h:U w0 (hS p d::S) w):U w0 (V p (O.enc (cK.mk (some d.r))) 205::tW d.r mM d.eS::S) w:=by
 unfold hS at h;exact h.dr
theorem U.S0(d:im)(h:U w0 (V p (O.enc (cK.mk (some d.r))) 205::tW d.r mM d.eS::S) w):U w0 (hS p d::S) w:=by
 unfold hS;exact U.closed (l:=[V p (O.enc (cK.mk (some d.r))) 205,tW d.r mM d.eS]) h
def WC(w:World)(p:Nat)(d:im):Prop:=ar w (N p) (O.enc (cK.mk (some d.r)))/\hV w d.r mM d.eS
theorem U.Co(h:U w0 S w)(a:tX (hS p d) S):WC w p d:=by
 have G:=h.get a;unfold hS at G;rw[pK]at G;refine⟨?_,?_⟩
 .have:=G.2 (V p (O.enc (cK.mk (some d.r))) 205) (by simp);unfold V at this;exact ar.dV this
 have:=G.2 (tW d.r mM d.eS) (by simp);rw[mN]at this;exact this
theorem eaC:oG prog 62 (mM sI):=by
 have h:oG prog 62 _:=inferInstance;unfold mM;rw[show O.enc sI=_ from WH.symm];exact h
theorem Ci{r:Nat}(a:ar w0 (N p) (O.enc (cK.mk (some r)))):tN 78 #[N p] w0 (.bool true):=by
 have:=iu a;refine eH 21 (eG _) func78 ntmps78 results78 rfl λw E=>?_;exact⟨rfl,E.J⟩
theorem eaU:eJ 22 #[] w0 (λu w'=>∃p d,u=N p/\(∀k,d.get k=sI)/\df d/\jv w0 w' (hS p d)/\eB w0 w'):=by
 refine eH 7 (eG _) func22 ntmps22 results22 rfl λw E=>?_;refine ea (Z.makeMap av mM E ?_);intro tD w _ E;refine ag 6 E (p0 ((cK.mk (some tD)):cK)) λtZ w E=>?_;exact⟨tZ,⟨tD,[]⟩,rfl,λk=>rfl,⟨List.nodup_nil,λx a=>by cases a⟩,(E.S0 (S:=[]) ⟨tD,[]⟩).zn .nU,E.J⟩
theorem Cn(ep:WC w0 p d):tN 222 #[N p,.agg (O.enc k)] w0 (.agg (O.enc (d.get k))):=by
 refine eH 10 (eG _) func222 ntmps222 results222 rfl λtZ aF w E=>?_;refine ej 3 E (Ci (ep.1.ei E.J))<|na 0 3 (λa b w E=>?_) (λ_ b w E=>?_)
 .
   cases a
 .
   have:=iu ep.1;refine nV 5 6 (e5 [0,1,2,3,4,5] (.one 6 .nil)) [] E λw E=>?_;refine tw rfl (λw E=>vI (tl:=av) (tx:=aB) (k:=k) (ti:=mM) (eS:=d.eS) (z0:=sI) eaC (ep.2.ei E.J) rfl rfl (rfl:_=d.get k) eY) ?_;refine nP rfl (iV E rfl rfl es (by first|rfl|exact O.eT _) (tA es λw E=>?_));refine ao 4 E λw E=>?_;exact⟨rfl,E.J⟩
theorem S1(f:U en (hS p d::S) w0):eJ 24 #[N p,.agg (O.enc k),.agg (O.enc a)] w0 (λu w'=>u=i6 0/\U en (hS p (d.put k a)::S) w'):=by
 refine eH 11 f.WD func24 ntmps24 results24 rfl λaF j w E=>?_;refine ej 3 E (Ci (E.tU (b:=p) (cs:=O.enc (cK.mk (some d.r))) es))<|na 0 6 (λg h w E=>?_) (λ_ h w E=>?_)
 .
   cases g
 .
   refine ea (rV (r:=sI) (ps:=aB.parts sI) (jV _) (by exact eaL) (by exact trivial) (ea (vT rfl rfl (ew 2 E<|na 1 3 (λc i w E=>?_) (λc i w E=>?_)))))
   .
     refine nV 5 5 (e5 [0,1,2,3,4] (.one 5 .nil)) [] E λw E=>?_;refine nP rfl (Z.delete (t:=203) (tl:=av) (tx:=aB) (k:=k) (ti:=mM) (eS:=d.eS) rfl E es rfl rfl (tA es λw E=>(ao 10 E λw E=>?_)));have ep:a=sI:=of_decide_eq_true c;have hd:d.put k a=⟨d.r,rc k d.eS⟩:=by unfold im.put;rw[if_pos ep]
     rw[hd];exact⟨rfl,U.S0 ⟨d.r,rc k d.eS⟩ (((E.pick (e:=tW d.r mM (rc k d.eS)) es).pick (e:=V p (O.enc (cK.mk (some d.r))) 205) es).sub aI)⟩
   .
     refine nV 6 6 (e5 [0,1,2,3,4,5] (.one 6 .nil)) [] E λw E=>?_;refine nP rfl (Z.mapUpdate (tl:=av) (tx:=aB) (k:=k) (v:=a) (ti:=mM) (eS:=d.eS) E es rfl rfl rfl (tA es λw E=>(ao 9 E λw E=>?_)));have ep:a≠sI:=of_decide_eq_false c;have hd:d.put k a=⟨d.r,oH k a d.eS⟩:=by unfold im.put;rw[if_neg ep]
     rw[hd];exact⟨rfl,U.S0 ⟨d.r,oH k a d.eS⟩ (((E.pick (e:=tW d.r mM (oH k a d.eS)) es).pick (e:=V p (O.enc (cK.mk (some d.r))) 205) es).sub aI)⟩
theorem WU{tl tx:Type}[DecidableEq tl]{k:tl}{v:tx}:∀{l:List (tl×tx)},tR k l=some v->oH k v l=l
 |[],h=>by cases h
 |(y,u)::l,h=>by
  by_cases a:k=y
  .subst a;simp[tR]at h;subst h;simp[oH]
  simp only[tR,oH,if_neg a]at h⊢;rw[WU h]
theorem Cs{tl tx:Type}[DecidableEq tl]{k:tl}{v:tx}:∀{l:List (tl×tx)},tR k l=some v->(k,v)∈l
 |[],h=>by cases h
 |(y,u)::l,h=>by
  by_cases a:k=y
  .subst a;simp[tR]at h;subst h;exact List.mem_cons_self
  simp only[tR,if_neg a]at h;exact List.mem_cons_of_mem _ (Cs h)
theorem WM(h:df d)(k:av):d.put k (d.get k)=d:=by
 unfold im.put im.get;cases b:tR k d.eS with
 |none=>simp only[Option.getD_none,if_pos];rw[Na b]
 |some a=>
  simp only[Option.getD_some];rw[if_neg (h.SZ _ (Cs b)),WU b]
theorem eaM(a:df d)(b:U en (hS p d::S) w0):eJ 330 #[N p] w0 (λu w'=>u= .bool true/\∃d',d'=d/\df d'/\U en (hS p d'::S) w'):=by
 refine eH 7 b func330 ntmps330 results330 rfl λw E=>?_;refine ej 5 E (bY) λtZ=>?_;refine ow 4 5 (e5 [0,1,2,3] (oJ [4,5,6,7] .nil)) [] λw E=>?_;refine iK 0 E (Cn (E.Co es)) λw E=>?_;refine fh 6 E (S1 (E.pick (e:=hS p d) es)) λw E=>?_;exact⟨rfl,d.put hZ (d.get hZ),WM a hZ,a.put _ _,E.sub aI⟩
def ir(d:im)(r:List o1):List aB:=r.map λx=>d.get x.key
def Om:o1:=⟨oc 32,false,false⟩
def dz(tc:Nat)(r:List o1)(l:List aB):Bool:=(r.getD 0 Om).iO&&decide ((l.getD 0 sI).hJ=hZ)&&decide (tc<=(l.getD 0 sI).o6)
def p8(tc:Nat)(l:List aB):List aB:=l.set 0 {l.getD 0 sI with o6:=(l.getD 0 sI).o6-tc}
theorem Cr(d:im)(r:List o1):(ir d r).length=r.length:=by unfold ir;rw[List.length_map]
theorem eaF{k:Nat}(h:k<r.length):ir d (r.take (k+1))=ir d (r.take k)++[d.get r[k].key]:=by
 unfold ir;rw[List.take_succ_eq_append_getElem h,List.map_append];rfl
theorem eaP{k:Nat}(h:k<(ir d r).length)(Y:k<r.length):(ir d r)[k]=d.get r[k].key:=by simp[ir]
theorem eaG(h:∀k,d'.get k=d.get k):ir d' r=ir d r:=by
 unfold ir;exact List.map_congr_left λx _=>h x.key
def f4(d:im):Prop:=∀k,dq (d.get k)
theorem eaW(tc:Nat)(l:List aB):dz tc [] l=false:=rfl
theorem WF(aO:df d)(SG:f4 d)(m:∀w,U en S w->ev w R.s5.v r)(ewM:r.length<=100000)(eW:U en (hS p d::S) w0):eJ 286 #[N p,.agg (O.enc R)] w0 (λu w'=>∃d',d'=d/\df d'/\((dz R.tc r (ir d r)=false/\u= .tuple #[eF,i6 22]/\U en (hS p d'::S) w')∨(dz R.tc r (ir d r)=true/\∃s:eu,u= .tuple #[s.v,i6 0]/\U en (B s.v 62 (p8 R.tc (ir d r))::hS p d'::S) w'))):=by
 refine eH 11 eW func286 ntmps286 results286 rfl λtZ w E=>?_;refine ea (Z.call (eaM aO (E.pick (e:=hS p d) es)) rfl ?_);rintro _ w ⟨rfl,d2,t,H,E⟩;refine ew 3 E<|na 0 0 (λia tj w E=>?_) (λ_ tj w E=>?_)
 .
   cases ia
 .
   have I:=eaG (d:=d) (d':=d2) (λk=>by rw[t]) (r:=r);refine eI 12 E λw E=>?_;refine ea (Z.hL rfl ((m _ (E.sub aI))) (ew 4 E λw E=>?_));refine ex.loop (λq f w=>∃(k:Nat)(a:Value),oW [(0,N p),(3,N tZ),(6,a),(13,R.s5.v),(14,i6 r.length),(15,i6 k)] f/\U en (B a 62 (ir d2 (r.take k))::hS p d2::V tZ (O.enc R) 53::S) w/\k<=r.length/\q=r.length-k) (r.length) ?_ ?_
   .
     exact⟨0,eF,⟨rfl,rfl,rfl,rfl,rfl,rfl,trivial⟩,(show U en (B (eF) 62 ([]:List aB)::hS p d2::V tZ (O.enc R) 53::S) w from(((E.pick (e:=V tZ (O.enc R) 53) es).pick (e:=hS p d2) es).lD 62).sub aI),Nat.zero_le _,rfl⟩
   .
     rintro q f w ⟨k,a,K,E,rU,th⟩;refine io _ K (λg=>?_);clear K;refine eI 6 E<|om 0 0 (λal w E=>?_) (λal w E=>?_)
     .
       have L:k<r.length:=by omega
       have l:=Cr d2 (r.take k);rw[List.length_take]at l;refine eI 6 E λw E=>?_;refine ea (nL rfl ((m _ (E.sub aI))) rfl (by omega) (ag 1 E (hT λw E=>((m _ (E.sub aI)).se L).nZ (O.eT r[k])) λnX w E=>(oA (iV E rfl rfl es (by first|rfl|exact O.eT _) (tA es λw E=>?_)))));refine ew 7 E λw E=>?_;refine ej 0 E (Cn (E.Co es)) λw E=>?_;refine ea (n4 E (([d2.get r[k].key]:List aB)) [.agg (O.enc (d2.get r[k].key))] rfl rfl rfl rfl (by decide) ?_);intro dP w x E;refine ea (dS (α:=aB) (xs:=ir d2 (r.take k)) (ys:=[d2.get r[k].key]) rfl E rfl es (E.ef (v:=e4 dP 1 1) (xs:=([d2.get r[k].key]:List aB)) es) (by simp only[List.length_cons,List.length_nil];omega) (by simp only[maxLen,List.length_cons,List.length_nil];omega) ?_);intro v25 w E;replace E:=E _ es;refine ew 9 E ⟨iA,λw E=>?_⟩;rw[<-eaF L]at E;exact⟨r.length-(k+1),by omega,k+1,v25,⟨rfl,rfl,rfl,rfl,rfl,congrArg (Value.int .i64) (by omega),trivial⟩,(((E.pick (e:=V tZ (O.enc R) 53) es).pick (e:=hS p d2) es).pick (e:=B v25 62 (ir d2 (r.take (k+1)))) es).sub aI,by omega,rfl⟩
     .
       have dj:r.take k=r:=List.take_of_length_le (by omega);rw[dj]at E;have l:=Cr d2 r;refine eI 7 E λw E=>?_;refine gU 28 (e5 [0,1,2,3,4,5,6,7,8,9,10,11,12,13,14,15] (.one 16 (e5 [17,18,19,20,21,22,23,24,25,26,27] .nil))) (by kernel_rfl) (λ_ _ _ h=>h) (λaM iS=>?_);replace E:=E.ei iS;have c:=E;have y:=eG aM;refine hi 3 c ?_;refine si c rfl (λw E=>di rfl eY) ?_;refine du c rfl rfl (λOg w E=>o9 rfl eY) ?_;refine du (ek:=R.s5.v) c rfl rfl (λM w E=>by have em:0<r.length:=(by rcases Nat.eq_zero_or_pos r.length with h|h;(exfalso;revert M;simp[l,h]);exact h);have j:0<(ir d2 r).length:=(by omega);exact ap (by first|exact a7 rfl M|rfl) (E.aV (b:=tZ) (cs:=O.enc R) es (Sh R)) eY) (du (ek:=(oK R.s5.v 0 (O.eo o1))) c rfl rfl (λP w E=>by have em:0<r.length:=(by rcases Nat.eq_zero_or_pos r.length with h|h;(exfalso;revert P;simp[l,h]);exact h);have j:0<(ir d2 r).length:=(by omega);exact nL (by first|exact a7 rfl P|rfl) ((m _ (E.sub aI))) rfl (by omega) eY) (du (ek:=(rd (oK R.s5.v 0 (O.eo o1)) 33)) c rfl rfl (λQ w E=>by have em:0<r.length:=(by rcases Nat.eq_zero_or_pos r.length with h|h;(exfalso;revert Q;simp[l,h]);exact h);have j:0<(ir d2 r).length:=(by omega);exact Z.fieldAddr (by first|exact a7 rfl Q|rfl) ((m _ (E.sub aI)).sv em) eY) (du (ek:=.bool (r.getD 0 Om).iO) c rfl rfl (λW w E=>by have em:0<r.length:=(by rcases Nat.eq_zero_or_pos r.length with h|h;(exfalso;revert W;simp[l,h]);exact h);have j:0<(ir d2 r).length:=(by omega);exact ap (by first|exact a7 rfl W|rfl) ((show s0 _ _ _ (rd (oK R.s5.v 0 (O.eo o1)) 33) (.bool (r.getD 0 Om).iO)from by rw[Ex em];exact dK ((m _ (E.sub aI)).se em) 33 (Dd _))) eY) (du c rfl rfl (λz w E=>Z.not (by first|exact a7 rfl z|rfl) eY) (si c rfl (λw E=>m8 rfl rfl (by first|rfl) eY) (si c rfl (λw E=>di rfl eY) (du (ek:=a) c rfl rfl (λeag w E=>oM (v:=a) rfl eY) (du (ek:=(oK a 0 (O.eo aB))) c rfl rfl (λX w E=>by have em:0<r.length:=(by rcases Nat.eq_zero_or_pos r.length with h|h;(exfalso;revert X;simp[l,h]);exact h);have j:0<(ir d2 r).length:=(by omega);exact nL (by first|exact a7 rfl X|rfl) ((E.ef (v:=a) (xs:=(ir d2 r)) es)) rfl (by omega) eY) (du (ek:=(rd (oK a 0 (O.eo aB)) 1)) c rfl rfl (λSX w E=>by have em:0<r.length:=(by rcases Nat.eq_zero_or_pos r.length with h|h;(exfalso;revert SX;simp[l,h]);exact h);have j:0<(ir d2 r).length:=(by omega);exact Z.fieldAddr (by first|exact a7 rfl SX|rfl) ((E.ef (v:=a) (xs:=(ir d2 r)) es).sv j) eY) (du (ek:=.agg (O.enc ((ir d2 r).getD 0 sI).hJ)) c rfl rfl (λSJ w E=>by have em:0<r.length:=(by rcases Nat.eq_zero_or_pos r.length with h|h;(exfalso;revert SJ;simp[l,h]);exact h);have j:0<(ir d2 r).length:=(by omega);exact ap (by first|exact a7 rfl SJ|rfl) ((show s0 _ _ _ (rd (oK a 0 (O.eo aB)) 1) (.agg (O.enc ((ir d2 r).getD 0 sI).hJ))from by rw[Ex j];exact s0.wc ((E.ef (v:=a) (xs:=(ir d2 r)) es).se j) 1 (Dn _) (by rw[O.eT];decide))) eY) ?_))))))))));refine HV (.agg (O.enc hZ)) _ 38 y.J rfl rfl rfl rfl rfl rfl (λeaw=>Z.call (bY) rfl (λ_ _ h=>h)) (λw x=>?_);replace y:=y.ei x;have E:=ik c y;refine du c rfl rfl (λSQ w E=>T6 (by first|exact a7 rfl SQ|rfl) (by first|exact a7 rfl SQ|rfl) eY) (si c rfl (λw E=>m8 rfl rfl (by first|rfl) eY) (si c rfl (λw E=>di rfl eY) (du (ek:=a) c rfl rfl (λewF w E=>oM (v:=a) rfl eY) (du (ek:=(oK a 0 (O.eo aB))) c rfl rfl (λWY w E=>by have em:0<r.length:=(by rcases Nat.eq_zero_or_pos r.length with h|h;(exfalso;revert WY;simp[l,h]);exact h);have j:0<(ir d2 r).length:=(by omega);exact nL (by first|exact a7 rfl WY|rfl) ((E.ef (v:=a) (xs:=(ir d2 r)) es)) rfl (by omega) eY) (du (ek:=(rd (oK a 0 (O.eo aB)) 0)) c rfl rfl (λWB w E=>by have em:0<r.length:=(by rcases Nat.eq_zero_or_pos r.length with h|h;(exfalso;revert WB;simp[l,h]);exact h);have j:0<(ir d2 r).length:=(by omega);exact Z.fieldAddr (by first|exact a7 rfl WB|rfl) ((E.ef (v:=a) (xs:=(ir d2 r)) es).sv j) eY) (du (ek:=.int .u64 ((((ir d2 r).getD 0 sI).o6:Nat):Int)) c rfl rfl (λWV w E=>by have em:0<r.length:=(by rcases Nat.eq_zero_or_pos r.length with h|h;(exfalso;revert WV;simp[l,h]);exact h);have j:0<(ir d2 r).length:=(by omega);exact ap (by first|exact a7 rfl WV|rfl) ((show s0 _ _ _ (rd (oK a 0 (O.eo aB)) 0) (.int .u64 ((((ir d2 r).getD 0 sI).o6:Nat):Int))from by rw[Ex j];exact dK ((E.ef (v:=a) (xs:=(ir d2 r)) es).se j) 0 (AF _))) eY) (du c rfl rfl (λewP w E=>o9 rfl eY) (du (ek:=.int .u64 ((R.tc:Nat):Int)) c rfl rfl (λA w E=>ap (by first|exact a7 rfl A|rfl) (E.aV (b:=tZ) (cs:=O.enc R) es (Dm R)) eY) (du c rfl rfl (λCh w E=>Z.lss (by first|exact a7 rfl Ch|rfl) (by first|exact a7 rfl Ch|rfl) eY) (si c rfl (λw E=>m8 rfl rfl (by first|rfl) eY) (e3.nil (s4 1 E<|na 0 0 (λo aJ w E=>?_) (λo aJ w E=>?_)))))))))))))
       .
         have nA:dz R.tc r (ir d2 r)=false:=by
          unfold dz;simp only[Bool.or_eq_true,decide_eq_true_eq,Bool.not_eq_true']at o;rcases o with((h|h)|h)|h
          .have em:r=[]:=List.length_eq_zero_iff.1 (by omega);rw[em];rfl
          .rw[h];rfl
          .rw[h,Bool.and_false,Bool.false_and]
          rw[decide_eq_false (p:=R.tc<=((ir d2 r).getD 0 sI).o6) (by omega),Bool.and_false]
         refine eI 2 E λw E=>?_;refine ea (wy (v:=eF) rfl (ea (iM rfl (ew 5 E λw E=>?_))));rw[<-I];exact⟨d2,t,H,.inl ⟨nA,rfl,E.sub aI⟩⟩
       .
         have n:dz R.tc r (ir d2 r)=true:=by
          unfold dz;simp only[Bool.or_eq_false_iff,decide_eq_false_iff_not,Bool.not_eq_false']at o;obtain⟨⟨⟨G,Y⟩,ez⟩,e6⟩:=o;rw[Y,decide_eq_true (p:=((ir d2 r).getD 0 sI).hJ=hZ) (by simpa using ez),decide_eq_true (p:=R.tc<=((ir d2 r).getD 0 sI).o6) (by omega)];rfl
         have em:0<r.length:=by
          rcases Nat.eq_zero_or_pos r.length with h|h
          .rw[List.length_eq_zero_iff.1 h,eaW]at n;cases n
          exact h
         have j:0<(ir d2 r).length:=by omega
         have nI:R.tc<=((ir d2 r).getD 0 sI).o6:=by
          unfold dz at n;simp only[Bool.and_eq_true,decide_eq_true_eq]at n;exact n.2
         have C:((ir d2 r).getD 0 sI).o6<18446744073709551616:=by
          rw[Ex j,eaP j em,t];exact(SG _).1
         refine eI 3 E ?_;refine ow 0 9 (e5 [0,1,2,3,4,5,6,7,8] (.one 9 .nil)) [] λw E=>?_;refine tw rfl (λw E=>oM (v:=a) rfl eY) ?_;refine tw rfl (λw E=>nL rfl ((E.ef (v:=a) (xs:=(ir d2 r)) es)) rfl (by omega) eY) ?_;refine tw rfl (λw E=>Z.fieldAddr rfl ((E.ef (v:=a) (xs:=(ir d2 r)) es).sv j) eY) ?_;refine tw rfl (λw E=>ap rfl ((show s0 _ _ _ (rd (oK a 0 (O.eo aB)) 0) (.int .u64 ((((ir d2 r).getD 0 sI).o6:Nat):Int))from by rw[Ex j];exact dK ((E.ef (v:=a) (xs:=(ir d2 r)) es).se j) 0 (AF _))) eY) ?_;refine tw rfl (λw E=>o9 rfl eY) ?_;refine tw rfl (λw E=>ap rfl (E.aV (b:=tZ) (cs:=O.enc R) es (Dm R)) eY) ?_;refine fY 0 E (p1 (yk nI C)) λw E=>?_;refine tw rfl (λw E=>nL rfl ((E.ef (v:=a) (xs:=(ir d2 r)) es)) rfl (by omega) eY) ?_;refine tw rfl (λw E=>Z.fieldAddr rfl ((E.ef (v:=a) (xs:=(ir d2 r)) es).sv j) eY) ?_;refine nP rfl (pr (v:=a) (u:=.int .u64 ((((ir d2 r).getD 0 sI).o6-R.tc:Nat):Int)) (eo:=1) (xs:=(ir d2 r)) (i:=0) (off:=0) (ds:={((ir d2 r).getD 0 sI)with o6:=((ir d2 r).getD 0 sI).o6-R.tc}) E es j rfl rfl rfl (by decide) (o0 _ _) (by rw[Ex j];exact GE (ir d2 r)[0] ((ir d2 r)[0].o6-R.tc)) (tA es λw E=>?_));refine ao 1 E λw E=>?_;replace E:=(show U en (B a 62 (p8 R.tc (ir d2 r))::hS p d2::V tZ (O.enc R) 53::S) _ from E);refine s4 4 E λw E=>?_;refine ea (Z.call (WI (E.ef (v:=a) (xs:=(p8 R.tc (ir d2 r))) es)) rfl ?_);rintro D w ⟨F,x⟩;replace E:=E.ei x;replace E:=E.bL (v:=a) (T:=62) (xs:=(p8 R.tc (ir d2 r))) es;rw[<-F]at E;obtain⟨s,rfl⟩:=(E.ef (v:=D) (xs:=(p8 R.tc (ir d2 r))) es).u9;refine ew 6 E λw E=>?_;rw[<-I];exact⟨d2,t,H,.inr ⟨n,s,rfl,E.sub aI⟩⟩
variable{ek K i e7 aH hr:Nat}{tg:List eL}{a b t v z:Value}{cj l y:List aB}{sO oE:List UInt8}{c:Instr}{cs:Array Value}{e:eL}{f:tr}{eV:Option (Nat×Bool)}{au:List Instr}{n:Int}{o:ta}{s ef:eu}{x:sz}{xs:List tf}{zs:List (Array Value)}
theorem eoA(x:aX):(O.enc x)[39]? =some x.tQ.m.instrs.v:=vE (i:=38) (AG x) (GR x.tQ) (by decide)
theorem eoO{ek:TypeId}(d:ErrLaid w)(E:U en S w)(f:tX (V aH (O.enc o) ek) S):
 nk prog 290 #[.iface 34 (.int .i64 n),.iface 505 (N aH)] w (λu w'=>u= .bool true/\∀tg,iD (V aH (O.enc o) ek) (V aH (O.enc ({o with fail:=n}:ta)) ek) S tg->U en tg w'):=by
 have c:=E.dV f;have j:(O.enc o).size=6:=O.eT o;unfold nk;refine Calls.mono (eoT n aH (O.enc o) ek w d c (by omega)) ?_;rintro e w' ⟨rfl,rfl⟩;refine⟨_,rfl,rfl,λtg g=>?_⟩;have iZ:=eB.alloc w (.cells #[N aH] 505);have aa:=eB.alloc (Cc aH w) (.cells #[.pointer (some ⟨8,505,none⟩),.pointer (some ⟨w.heap.size,0,none⟩),.int .u64 150] 562);have tZ:=eB.alloc (Ov aH w) (.cells #[.pointer (some ⟨8,505,none⟩),.pointer (some ⟨w.heap.size,0,none⟩),.int .u64 150] 562);have aF:=eB.alloc (S4 aH w) (.cells #[.int .i64 n] 34);have b:=((iZ.trans aa).trans tZ).trans aF;have h:(S5 n aH w).heap[aH]? =some (.cells (O.enc o) ek (0,0)):=b.get c;have i:((O.enc o).toList.take 0++(Value.int .i64 n).cells.toList++(O.enc o).toList.drop (0+(Value.int .i64 n).cells.toList.length)).toArray=O.enc ({o with fail:=n}:ta):=by
  rw[<-ZJ o n];unfold iH;apply Array.ext';simp[Value.cells];rw[List.take_of_length_le (by simp)]
 rw[i];refine lk ?_ ?_ ?_ (E.ei b) g
 .unfold V;exact⟨rfl,rfl,rfl,by simp[World.setRow],λk _ a=>setRow_other _ aH k _ a⟩
 .unfold V;exact setRow_heap _ aH _ _ ek _ h
 unfold V;intro k a;exact .inl a
theorem eoI:nk prog 290 #[.nilIface,t] w (λu w'=>u= .bool false/\eB w w'):=by
 unfold nk;refine Calls.mono (eoa t w) ?_;rintro e w' ⟨rfl,rfl⟩;exact⟨_,rfl,rfl,eB.refl _⟩
theorem eoN(x:sz):(O.enc x)[42]? =some (eb x.r.rD.tK):=vE (i:=42) (ea0 x) (ZY x.r) (by decide)
theorem eoS(h:qs k=some v):v=g4∨v=g5:=by
 unfold qs at h;split at h
 .cases h;exact .inl rfl
 split at h
 .cases h;exact .inr rfl
 cases h
theorem eoR{tl tx:Type}[DecidableEq tl][oi tl]{P:Program}{R:Value->World->Prop}{d:Option Tmp}{T:TypeId}{pos:String}{eO:Array Edge}{t r:Nat}{z0 u:tx}{x ix:Operand}{k:tl}{ti:tx->Value}{eS:List (tl×tx)}{b:Bool}[th:rP P t K ek][j:u6 P K tl](a:oG P ek (ti z0))(c:hV w r ti eS)(e:eC f x=tz r)(ey:eC f ix=oi.ih k)(g:(tR k eS).getD z0=u)(i:(tR k eS).isSome=b)(h:R (.tuple #[ti u,.bool b]) w):Z P f ⟨d,.lookup t x ix true,T,pos,eO,eV⟩ w R:=by
 subst i;exact zr a c e ey g h
theorem eoH(tC:v=g4∨v=g5)(E:U en (V p (O.enc x) 502::B x.l.v 62 l::S) w)(d:ev en x.r.s5.v r)(ep:ev en c.cG.v sO)(hd:ev en c.data.v oE)(f:l.length<=100000)(a:∀y∈l,dq y):
 mH prog v [N p,.agg (O.enc c)] w (λu w'=>∃(e:Int)(b:eu)(m:List aB)(n:Nat),u=ET e/\uU l m/\n<=x.tv+1048576/\U en (V p (O.enc ({x with l:=b,tv:=n}:sz)) 502::B b.v 62 m::S) w'):=by
 rcases tC with rfl|rfl
 .refine⟨_,[],[],rfl,inferInstance,(ea6).mono ?_⟩;rintro u w' ⟨rfl,g⟩;exact⟨0,x.l,l,x.tv,rfl,⟨rfl,a⟩,by omega,E.ei g⟩
 exact⟨_,[],[],rfl,inferInstance,ea8 E d ep hd f a⟩
theorem eoL(I:U en (V p (O.enc (⟨R,s,hr,e7⟩:sz)) 502::B s.v 62 l::S) w0)(f:ev en R.s5.v r)(K:ev en c.cG.v sO)(L:ev en c.data.v oE)(z:c.program.toNat<r.length)(M:R.rD.tK<18446744073709551616)(P:l.length<=100000)(g:∀y∈l,dq y):eJ 289 #[N p,i6 i,.agg (O.enc c)] w0 (λu w'=>∃(e:Int)(j:eu)(m:List aB)(A C:Nat),u=ET e/\uU l m/\A<=R.rD.tK/\C<=e7+1048576/\U en (V p (O.enc (⟨R,j,A,C⟩:sz)) 502::B j.v 62 m::S) w'):=by
 refine eH 8 I func289 ntmps289 results289 rfl λiX=>?_;refine ow 12 25 (e5 [0,1,2,3,4,5,6,7,8,9,10,11,12,13,14,15,16,17,18,19,20,21,22,23,24] .nil) [] λw E=>?_;refine uc rfl rfl (λjX w E=>oM (v:=N p) rfl eY) (uc rfl rfl (λQ w E=>sS (by first|exact a7 rfl Q|rfl) eY) (uc rfl rfl (λT w E=>o9 (by first|exact a7 rfl T|rfl) eY) (uc rfl rfl (λW w E=>o9 (by first|exact a7 rfl W|rfl) eY) (uc rfl rfl (λX w E=>o9 (by first|exact a7 rfl X|rfl) eY) (uc (ek:=.int .u64 ((R.rD.tK:Nat):Int)) rfl rfl (λY w E=>ap (by first|exact a7 rfl Y|rfl) (E.aV (b:=p) (cs:=O.enc (⟨R,s,hr,e7⟩:sz)) es (eoN (⟨R,s,hr,e7⟩:sz))) eY) (uc rfl rfl (λCf w E=>oM (v:=N p) rfl eY) (uc rfl rfl (λW6 w E=>sS (by first|exact a7 rfl W6|rfl) eY) (uc rfl rfl (λCp w E=>o9 (by first|exact a7 rfl Cp|rfl) eY) (uc (ek:=.int .u64 ((hr:Nat):Int)) rfl rfl (λCg w E=>ap (by first|exact a7 rfl Cg|rfl) (E.aV (b:=p) (cs:=O.enc (⟨R,s,hr,e7⟩:sz)) es (ea1 (⟨R,s,hr,e7⟩:sz))) eY) (uc (ek:=.int .u64 ((R.rD.tK-hr:Nat):Int)) rfl rfl (λt w E=>Z.sub (by first|exact a7 rfl t|rfl) (by first|exact a7 rfl t|rfl) (yk (by simp only[beq_iff_eq,decide_eq_false_iff_not]at t;omega) M) eY) (uc rfl rfl (λEz w E=>Z.lss (by first|exact a7 rfl Ez|rfl) rfl eY) (tw rfl (λw E=>m8 rfl rfl (by first|rfl) eY) (ao 2 E<|om 16 0 (λtj w E=>?_) (λtj w E=>?_))))))))))))))
 .
   exact ea (p9 rfl (ew 6 E λw E=>(⟨20,s,l,R.rD.tK,e7,rfl,⟨rfl,g⟩,by omega,by omega,((E.pick (e:=B s.v 62 l) es).pick (e:=V p (O.enc (⟨R,s,R.rD.tK,e7⟩:sz)) 502) es).sub aI⟩)))
 .
   have ew1:¬(R.rD.tK<hr∨R.rD.tK-hr<150):=by omega
   refine eI 9 E λw E=>?_;refine ag 17 E (fB ((show IntKind.u64.wrap ((hr:Int)+150)=((hr+150:Nat):Int)from zp (b:=150) (by omega))))<|om 2 3 (λal w E=>?_) (λal w E=>?_)
   .
     exact ea (p9 rfl (ew 6 E λw E=>(⟨21,s,l,hr+150,e7,rfl,⟨rfl,g⟩,by omega,by omega,((E.pick (e:=B s.v 62 l) es).pick (e:=V p (O.enc (⟨R,s,hr+150,e7⟩:sz)) 502) es).sub aI⟩)))
   .
     refine gU 17 (e5 [1,2,3,4,5,6,7,8,9,10] (oJ [0,11] (e5 [12,13,14,15,16] .nil))) (by kernel_rfl) (λ_ _ _ h=>h) (λaM iS=>?_);replace E:=E.ei iS;have a:=E;have d:=eG aM;obtain⟨q,x⟩:∃o,qs r[c.program.toNat].key=o:=⟨_,rfl⟩;obtain⟨D,F⟩:∃u,q.getD oQ=u:=⟨_,rfl⟩;refine hi 7 a ?_;refine si a rfl (λw E=>nL rfl ((f.ei E.J)) rfl (by omega) eY) (si a rfl (λw E=>Z.fieldAddr rfl ((f.ei E.J).sv z) eY) (si a rfl (λw E=>ap rfl (s0.wc ((f.ei E.J).se z) 0 (AP _) (by rw[O.eT];decide)) eY) (ol rfl (Z.call (eot) rfl ?_))));rintro _ w ⟨eS,G,⟨ew2,rfl,kD,Ca⟩,ed⟩;replace d:=d.Ln ed Ca kD;refine⟨d.J,?_⟩;have E:=ik a d;refine ol rfl (eoR (b:=q.isSome) (u:=D) (tl:=av) (tx:=Value) (k:=r[c.program.toNat].key) (ti:=l3) (eS:=eS) (z0:=oQ) (inferInstanceAs (oG prog _ .nilFunc)) (E.map es) rfl rfl (by rw[G,x];exact F) (by rw[G,x]) ?_);refine⟨d.J,?_⟩;have E:=ik a d;refine hi 5 a ?_;refine e3.nil (s4 8 E<|na 2 0 (λ_ aJ w E=>?_) (λnv aJ w E=>?_))
     .
       exact ea (p9 rfl (ew 6 E λw E=>(⟨19,s,l,hr+150,e7,rfl,⟨rfl,g⟩,by omega,by omega,((E.pick (e:=B s.v 62 l) es).pick (e:=V p (O.enc (⟨R,s,hr+150,e7⟩:sz)) 502) es).sub aI⟩)))
     .
       obtain⟨y,H⟩:∃y,q=some y:=by cases q with|none=>cases nv|some y=>exact⟨y,rfl⟩
       obtain rfl:D=y:=by rw[<-F,H];rfl
       refine eI 7 E λw E=>?_;refine ea (bw rfl (eoH (eoS (x.trans H)) ((E.pick (e:=B s.v 62 l) es).pick (e:=V p (O.enc (⟨R,s,hr+150,e7⟩:sz)) 502) es) f K L P g) rfl ?_);rintro _ w ⟨e,j,m,n,rfl,th,tp,E⟩;refine ew 5 E λw E=>?_;exact⟨e,j,m,hr+150,n,rfl,th,by omega,tp,E.sub aI⟩
def nW:ta:=⟨0,0,0,0,0,ec⟩
theorem W7{T:TypeId}(E:U w0 S w)(a:tX (B z T y) S)(h:(v=z/\cj=y)∨ev w0 v cj):ev w v cj:=by
 rcases h with⟨rfl,rfl⟩|h
 .exact E.ef a
 exact h.ei E.J
theorem W8(a:ev w0 v xs):tN 120 #[v] w0 (nT v 0 xs.length xs.length (O.eo (tf))):=by
 have:=aS a;refine eH 12 (eG _) func120 ntmps120 results120 rfl λw E=>?_;exact ea (hq (a.ei E.J) ⟨⟨_,rfl⟩,a.cap⟩ ⟨⟨_,rfl⟩,Nat.le_refl _⟩ ⟨rfl,Nat.zero_le _⟩ (ew 5 E λw E=>(⟨rfl,E.J⟩)))
theorem W9(eM:2<=zs.length)(em:a.cells.size=(zs.getD 0 #[]).size)(G:b.cells.size=(zs.getD 1 #[]).size):po zs [(0,a),(1,b)]:=by
 refine⟨by omega,em,by rw[List.length_set];omega,?_,trivial⟩;rw[G];simp[List.getD_eq_getElem?_getD]
theorem iD.same(h:iD e e S tg):tg=S:=by
 have Y:∀{oZ:eL}{S tg:List eL},iD e oZ S tg->e=oZ->tg=S:=by
  intro oZ S tg h;induction h with
  |nU=>intro a;rw[a]
  |ee _ b=>intro a;rw[b a]
 exact Y h rfl
theorem ar.eoD{b o:Nat}(c:ar w (N b) cs)(d:cs[o]? =some v):ar w (.pointer (some ⟨b,o,none⟩)) #[v]:=by
 obtain⟨e,g,f,h⟩:=c;cases f;refine⟨b,o,rfl,λj u a=>?_⟩;rcases j with _|j
 .simp at a;subst a;have:=h o v d;simpa using this
 simp at a
theorem eoU{ek:TypeId}{e:Int}(e1:o.fail=0)(c:ErrLaid w)(E:U en S w)(d:tX (V aH (O.enc o) ek) S):
 eJ 290 #[ET e,.iface 505 (N aH)] w (λu w'=>u= .bool (decide (e≠0))/\∀tg,iD (V aH (O.enc o) ek) (V aH (O.enc ({o with fail:=e}:ta)) ek) S tg->U en tg w'):=by
 by_cases h:e=0
 .subst h;rw[ea7];refine(eoI).mono ?_;rintro u w' ⟨rfl,a⟩;refine⟨rfl,λtg b=>?_⟩;rw[show({o with fail:=0}:ta)=o from by cases o;cases e1;rfl]at b;rw[b.same];exact E.ei a
 rw[WX h];refine(eoO c E d).mono ?_;rintro u w' ⟨rfl,a⟩;exact⟨by rw[decide_eq_true h],a⟩
theorem Ye:(eK [#[i6 0],#[i6 0],#[.int .u64 0],#[.int .u64 0],#[.int .u64 0],#[eF]])=O.enc (nW:ta):=by
 simp only[jK,ta.parts,nn,nW];rfl
instance:gK (eK [#[i6 0],#[i6 0],#[.int .u64 0],#[.int .u64 0],#[.int .u64 0],#[eF]]) (O.enc (nW:ta)):=⟨Ye⟩
theorem eoM(tP:ErrLaid w0)(eM:ev w0 ef.v l)(H:ev w0 R.s5.v r)(ey:ev w0 R.tQ.m.instrs.v au)(nH:∀k(h:k<au.length),∃sO oE:List UInt8,ev w0 au[k].cG.v sO/\ev w0 au[k].data.v oE)(Yt:∀c∈au,c.program.toNat<r.length)(hlen:l.length=r.length)(Ok:R.rD.tK<18446744073709551616)(L:l.length<=100000)(lP:∀y∈l,dq y):eJ 209 #[.agg (O.enc R),ef.v] w0 (λu w'=>∃(o:ta)(ch:List tf),u= .tuple #[.agg (O.enc o),i6 0]/\sN w0 w' o.rp.v 64 ch/\eB w0 w'/\o.tK<=R.rD.tK/\o.tv<=1048576*au.length/\ch.length<=r.length/\o.tc=R.tc):=by
 refine eH 5 (eG _) func209 ntmps209 results209 rfl λaa aF w E=>?_
 try rw[Ye]at E
 have:=aS eM;have:=aS H;refine ew 18 E λw E=>?_;refine tn.eV _ 21 _ rfl rfl rfl rfl (λxq=>o9 rfl ⟨rfl,eB.refl _⟩) (λw n=>?_);replace E:=E.ei n;refine tn.eV _ 21 _ rfl rfl rfl rfl (λbR=>o9 (by first|exact a7 rfl bR|rfl) ⟨rfl,eB.refl _⟩) (λw n=>?_);replace E:=E.ei n;refine tn.eV _ 21 _ rfl rfl rfl rfl (λwM=>o9 (by first|exact a7 rfl wM|rfl) ⟨rfl,eB.refl _⟩) (λw n=>?_);replace E:=E.ei n;refine tn.eV _ 21 R.tQ.m.instrs.v rfl rfl rfl rfl (λjJ=>?_) (λw n=>?_)
 .exact ap (by first|exact a7 rfl jJ|rfl) (E.aV (b:=aa) (cs:=O.enc R) es (eoA R)) ⟨rfl,eB.refl _⟩
 replace E:=E.ei n;refine tn.eV _ 21 _ rfl rfl rfl rfl (λAV=>oM (v:=(.func (.func 287) #[] #[N aa])) rfl ⟨rfl,eB.refl _⟩) (λw n=>?_);replace E:=E.ei n;refine tn.eV _ 21 (.bool (au.any λc=>decide ((r.length:Int)<=(c.program.toNat:Int)))) rfl rfl rfl rfl (λCf=>?_) (λw n=>?_)
 .refine Z.call (ea4 (λc=>decide ((r.length:Int)<=(c.program.toNat:Int))) (ey.ei E.J) (λw' h c _=>⟨_,[],[N aa],rfl,inferInstance,ea5 (((E.tU (b:=aa) (cs:=O.enc R) es).ei h).eoD (Sh R)) (H.ei (E.J.trans h))⟩)) (Lh (by first|exact a7 rfl Cf|rfl) (by first|exact a7 rfl Cf|rfl)) ?_;rintro v w ⟨rfl,n⟩;replace E:=E.ei n;exact⟨rfl,‹_›⟩
 replace E:=E.ei n;refine ea (m8 rfl rfl (by first|rfl) (ew 2 E<|na 2 0 (λia tj w E=>?_) (λ_ tj w E=>?_)))
 .
   refine ag 7 E (p0 (nW:ta)) λw E=>?_;exfalso;have G:(au.any λc=>decide ((r.length:Int)<=(c.program.toNat:Int)))=false:=List.any_eq_false.2 λc eX=>by have:=Yt c eX;simp only[decide_eq_true_eq];omega
   rw[G]at ia;simp at ia;omega
 .
   have M:=ey.le;have P:=H.le;simp only[maxLen]at M P;refine eI 2 E λw E=>?_;refine lK (λf w=>∃(i j:Nat)(aR:eu),oW [(1,ef.v),(2,N aa),(4,N aF),(7,N i),(8,N j)] f/\U w0 [V j (O.enc (⟨0,-1,0,R.tc,0,ec⟩:ta)) 189,V i (O.enc (⟨R,aR,0,0⟩:sz)) 502,B aR.v 62 l,V aa (O.enc R) 53,V aF (O.enc nW) 189] w) ?_ ?_
   .
     refine gU 10 (e5 [0,1,5,6,7] (.nc 2 8 (.look 3 (.nc 4 8 (.one 8 (.look 9 (.one 10 .nil))) (.one 4 (.look 9 (.one 10 .nil))))) (.one 2 (.look 3 (.one 4 (.look 9 (.one 10 .nil))))))) (by kernel_rfl) (λ_ _ _ h=>h) (λaM iS=>?_);replace E:=E.ei iS;have q:=E;have d:=eG aM;refine hi 4 q ?_;refine si q rfl (λw E=>rV (r:=((⟨0,-1,0,R.tc,0,ec⟩:ta):ta)) (ps:=ta.parts ((⟨0,-1,0,R.tc,0,ec⟩:ta):ta)) (jK _) (by first|rfl|(simp only[hZ,sI,dx,sM,nn,jK,ta.parts];rfl)) (by(repeat' (first|exact trivial|refine And.intro ?_ ?_))<;>first|rfl|exact O.eT _|(simp;done)) eY) ?_;refine e3.nc rfl rfl rfl rfl ?_ ?_
     .refine Z.call (Ce (eM.ei E.J) L) rfl ?_;rintro Cy w ⟨C,n⟩;replace d:=d.pD n C.1 C.2;obtain⟨aR,rfl⟩:=(C.1.ef).u9;refine⟨d.J,?_⟩;have E:=ik q d;refine si q rfl (λw E=>rV (r:=(⟨R,aR,0,0⟩:sz)) (ps:=sz.parts (⟨R,aR,0,0⟩:sz)) (WK _) (by show u3 _ [(0,.agg (O.enc R)),(1,aR.v)]=_;rfl) (by exact W9 (a:=.agg (O.enc R)) (b:=aR.v) (by decide) (O.eT R) rfl) eY) ?_;refine e3.nc rfl rfl rfl rfl ?_ ?_
      .refine br d rfl ?_;intro i w n d;refine⟨d.J,?_⟩;have E:=ik q d;refine ol rfl (sV d ?_);intro j w n d;refine⟨d.J,?_⟩;have E:=ik q d;refine hi 1 q ?_;exact nP rfl (iV E rfl rfl es (by first|rfl|exact O.eT _) (tA es λw E=>(e3.nil (s4 1 E λw E=>(⟨i,j,aR,⟨rfl,rfl,rfl,rfl,rfl,trivial⟩,(((((E.pick (e:=V aF (O.enc nW) 189) es).pick (e:=V aa (O.enc R) 53) es).pick (e:=B aR.v 62 l) es).pick (e:=V i (O.enc (⟨R,aR,0,0⟩:sz)) 502) es).pick (e:=V j (O.enc (⟨0,-1,0,R.tc,0,ec⟩:ta)) 189) es).sub aI⟩)))))
      refine sV d ?_;intro j w n d;refine⟨d.J,?_⟩;have E:=ik q d;refine ol rfl (br d rfl ?_);intro i w n d;refine⟨d.J,?_⟩;have E:=ik q d;refine hi 1 q ?_;exact nP rfl (iV E rfl rfl es (by first|rfl|exact O.eT _) (tA es λw E=>(e3.nil (s4 1 E λw E=>(⟨i,j,aR,⟨rfl,rfl,rfl,rfl,rfl,trivial⟩,(((((E.pick (e:=V aF (O.enc nW) 189) es).pick (e:=V aa (O.enc R) 53) es).pick (e:=B aR.v 62 l) es).pick (e:=V i (O.enc (⟨R,aR,0,0⟩:sz)) 502) es).pick (e:=V j (O.enc (⟨0,-1,0,R.tc,0,ec⟩:ta)) 189) es).sub aI⟩)))))
     refine sV d ?_;intro j w n d;refine⟨d.J,?_⟩;have E:=ik q d;refine ol rfl (Z.call (Ce (eM.ei E.J) L) rfl ?_);rintro Cy w ⟨C,n⟩;replace d:=d.pD n C.1 C.2;obtain⟨aR,rfl⟩:=(C.1.ef).u9;refine⟨d.J,?_⟩;have E:=ik q d;refine si q rfl (λw E=>rV (r:=(⟨R,aR,0,0⟩:sz)) (ps:=sz.parts (⟨R,aR,0,0⟩:sz)) (WK _) (by show u3 _ [(0,.agg (O.enc R)),(1,aR.v)]=_;rfl) (by exact W9 (a:=.agg (O.enc R)) (b:=aR.v) (by decide) (O.eT R) rfl) eY) (ol rfl (br d rfl ?_));intro i w n d;refine⟨d.J,?_⟩;have E:=ik q d;refine hi 1 q ?_;exact nP rfl (iV E rfl rfl es (by first|rfl|exact O.eT _) (tA es λw E=>(e3.nil (s4 1 E λw E=>(⟨i,j,aR,⟨rfl,rfl,rfl,rfl,rfl,trivial⟩,(((((E.pick (e:=V aF (O.enc nW) 189) es).pick (e:=V aa (O.enc R) 53) es).pick (e:=B aR.v 62 l) es).pick (e:=V i (O.enc (⟨R,aR,0,0⟩:sz)) 502) es).pick (e:=V j (O.enc (⟨0,-1,0,R.tc,0,ec⟩:ta)) 189) es).sub aI⟩)))))
   .
     rintro f w ⟨i,j,aR,t,E⟩;refine io _ t (λg=>?_);clear t;refine lK (λf w=>oW [(2,N aa),(4,N aF),(7,N i),(8,N j)] f/\∃(iq:eu)(lf:Value)(x cj:List aB)(tT A:Int)(hr e7:Nat),hr<=R.rD.tK/\e7<=1048576*au.length/\((iq.v=lf/\cj=x)∨ev w0 iq.v cj)/\cj.length=l.length/\U w0 [V j (O.enc (⟨tT,A,0,R.tc,0,ec⟩:ta)) 189,V i (O.enc (⟨R,iq,hr,e7⟩:sz)) 502,B lf 62 x,V aa (O.enc R) 53,V aF (O.enc nW) 189] w) ?_ ?_
     .
       have:=aS ey;refine eI 11 E λw E=>?_;refine ex.loop (λm f w=>∃(k:Nat)(s:eu)(hr e7:Nat)(y:List aB),oW [(1,ef.v),(2,N aa),(4,N aF),(7,N i),(8,N j),(41,R.tQ.m.instrs.v),(42,i6 au.length),(43,i6 k)] f/\U w0 [V j (O.enc (⟨0,-1,0,R.tc,0,ec⟩:ta)) 189,V i (O.enc (⟨R,s,hr,e7⟩:sz)) 502,B s.v 62 y,V aa (O.enc R) 53,V aF (O.enc nW) 189] w/\uU l y/\hr<=R.rD.tK/\e7<=1048576*k/\k<=au.length/\m=au.length-k) (au.length) ?_ ?_
       .
         exact⟨0,aR,0,0,l,⟨rfl,rfl,rfl,rfl,rfl,rfl,rfl,rfl,trivial⟩,(((((E.pick (e:=V aF (O.enc nW) 189) es).pick (e:=V aa (O.enc R) 53) es).pick (e:=B aR.v 62 l) es).pick (e:=V i (O.enc (⟨R,aR,0,0⟩:sz)) 502) es).pick (e:=V j (O.enc (⟨0,-1,0,R.tc,0,ec⟩:ta)) 189) es).sub aI,⟨rfl,lP⟩,Nat.zero_le _,Nat.zero_le _,Nat.zero_le _,rfl⟩
       .
         rintro m f w ⟨k,s,hr,e7,y,t,E,I,Q,pM,rU,th⟩;refine io _ t (λg=>?_);clear t;refine eI 6 E<|om 0 5 (λal w E=>?_) (λal w E=>?_)
         .
           have S:k<au.length:=by omega
           obtain⟨sO,oE,kt,wI⟩:=nH k S;refine eI 8 E ⟨⟨by omega⟩,λ_ w E=>?_⟩;have:=lC S;refine ew 3 E λsJ w E=>?_;refine oA (iV E rfl rfl es (by first|rfl|exact O.eT _) (tA es λw E=>?_));refine ew 7 E λw E=>?_;refine ej 8 E (eoL ((E.pick (e:=B s.v 62 y) es).pick (e:=V i (O.enc (⟨R,s,hr,e7⟩:sz)) 502) es) H kt wI (Yt _ (List.getElem_mem S)) Ok (by rw[I.1];exact L) I.2) λW F n1 D K Ya SW ew3 w E=>?_;refine ea (Z.call (eoU (o:=(⟨0,-1,0,R.tc,0,ec⟩:ta)) rfl (tP.ei E.J) E es) rfl ?_);rintro _ w ⟨rfl,E⟩;replace E:=E _ es;refine ew 2 E<|om 11 0 (λaJ w E=>?_) (λaJ w E=>?_)
           .
             refine oA (iU (b:=i) (o:=50) (v:=.int .u64 ((0:Nat):Int)) (eo:=1) (cs:=O.enc (⟨R,ef,D,K⟩:sz)) (iR:=O.enc (⟨R,ef,D,0⟩:sz)) E rfl rfl es rfl (by rw[O.eT];decide) (o0 _ _) (ea2 (⟨R,ef,D,K⟩:sz) 0) (tA es λw E=>?_));refine ew 10 E λw E=>?_;exact⟨⟨rfl,rfl,rfl,rfl,trivial⟩,ef,F.v,n1,l,W,(k:Int),D,0,SW,Nat.zero_le _,.inr eM,rfl,(((((E.pick (e:=V aF (O.enc nW) 189) es).pick (e:=V aa (O.enc R) 53) es).pick (e:=B F.v 62 n1) es).pick (e:=V i (O.enc (⟨R,ef,D,0⟩:sz)) 502) es).pick (e:=V j (O.enc (⟨W,(k:Int),0,R.tc,0,ec⟩:ta)) 189) es).sub aI⟩
           .
             have am:W=0:=by simpa using aJ
             rw[am]at E;refine eI 8 E ⟨iA,λw E=>?_⟩;exact⟨au.length-(k+1),by omega,k+1,F,D,K,n1,⟨rfl,rfl,rfl,rfl,rfl,rfl,rfl,congrArg (Value.int .i64) (by omega),trivial⟩,(((((E.pick (e:=V aF (O.enc nW) 189) es).pick (e:=V aa (O.enc R) 53) es).pick (e:=B F.v 62 n1) es).pick (e:=V i (O.enc (⟨R,F,D,K⟩:sz)) 502) es).pick (e:=V j (O.enc (⟨0,-1,0,R.tc,0,ec⟩:ta)) 189) es).sub aI,⟨Ya.1.trans I.1,Ya.2⟩,SW,by omega,by omega,rfl⟩
         .
           exact⟨⟨rfl,rfl,rfl,rfl,trivial⟩,s,s.v,y,y,0,-1,hr,e7,Q,by omega,.inl ⟨rfl,rfl⟩,I.1,E.sub aI⟩
     .
       rintro f w ⟨t,iq,lf,x,cj,tT,A,hr,e7,Q,pM,Yo,ew4,E⟩;refine io _ t (λg=>?_);clear t;refine eI 1 E ?_;refine ow 14 8 (e5 [0,1,2,3,4,5,6,7] (oJ [8,9,10,11] .nil)) [] λw E=>?_;refine lK (λf w=>∃(ch:eu)(p:List tf),oW [(4,N aF),(8,N j)] f/\U w0 [V j (O.enc (⟨tT,A,hr,R.tc,e7,ch⟩:ta)) 189,B ch.v 64 p,V i (O.enc (⟨R,iq,hr,e7⟩:sz)) 502,B lf 62 x,V aa (O.enc R) 53,V aF (O.enc nW) 189] w/\p.length<=r.length) ?_ ?_
       .
         refine eI 9 E λw E=>?_;refine ex.loop (λm f w=>∃(k:Nat)(ch:eu)(p:List tf),oW [(4,N aF),(7,N i),(8,N j),(77,R.s5.v),(78,i6 r.length),(79,i6 k)] f/\U w0 [V j (O.enc (⟨tT,A,hr,R.tc,e7,ch⟩:ta)) 189,B ch.v 64 p,V i (O.enc (⟨R,iq,hr,e7⟩:sz)) 502,B lf 62 x,V aa (O.enc R) 53,V aF (O.enc nW) 189] w/\p.length<=k/\k<=r.length/\m=r.length-k) (r.length) ?_ ?_
         .
           exact⟨0,ec,[],⟨rfl,rfl,rfl,rfl,rfl,rfl,trivial⟩,(show U w0 [V j (O.enc (⟨tT,A,hr,R.tc,e7,ec⟩:ta)) 189,B ec.v 64 ([]:List tf),V i (O.enc (⟨R,iq,hr,e7⟩:sz)) 502,B lf 62 x,V aa (O.enc R) 53,V aF (O.enc nW) 189] w from((E.lD (α:=tf) 64).pick (e:=V j (O.enc (⟨tT,A,hr,R.tc,e7,ec⟩:ta)) 189) es)),Nat.le_refl _,Nat.zero_le _,rfl⟩
         .
           rintro m f w ⟨k,ch,p,t,E,rN,rU,th⟩;refine io _ t (λg=>?_);clear t;refine eI 6 E<|om 0 5 (λnl w E=>?_) (λnl w E=>?_)
           .
             have v6:k<r.length:=by omega
             have zi:k<cj.length:=by omega
             refine eI 8 E ⟨⟨by omega⟩,λ_ w E=>?_⟩;have:=lC v6;refine ew 3 E λn7 w E=>?_;refine oA (iV E rfl rfl es (by first|rfl|exact O.eT _) (tA es λw E=>?_));refine ew 8 E<|om 0 8 (λcp w E=>?_) (λcp=>⟨iA,λw E=>?_⟩)
             .
               obtain⟨X,Y⟩:∃y,(⟨r[k].key,cj[k]⟩:tf)=y:=⟨_,rfl⟩;refine nV 9 13 (e5 [0,1,2,3,4,5,6,7,8,9,10,11] (oJ [12,13,14,15] .nil)) [] E λw E=>?_;refine tw rfl (λw E=>nL rfl ((W7 (z:=lf) (y:=x) E es Yo)) rfl (by omega) eY) (fY 0 E (hT λw E=>((W7 (z:=lf) (y:=x) E es Yo).se zi).nZ (O.eT cj[k])) λw E=>(tw rfl (λw E=>rV (r:=((⟨r[k].key,cj[k]⟩:tf):tf)) (ps:=tf.parts ((⟨r[k].key,cj[k]⟩:tf):tf)) (AY _) (by first|(simp only[hZ,sI,dx,sM,nn,AY,tf.parts,jV,aB.parts];rfl)|rfl) (by(repeat' (first|exact trivial|refine And.intro ?_ ?_))<;>first|rfl|exact O.eT _|(simp;done)) eY) ?_));refine ol rfl (n4 E (([⟨r[k].key,cj[k]⟩]:List tf)) [.agg (O.enc (⟨r[k].key,cj[k]⟩:tf))] rfl rfl rfl rfl (by decide) ?_);intro eoW w n E;refine⟨pm E,?_⟩;refine hA rfl (dS (α:=tf) (xs:=p) (ys:=[⟨r[k].key,cj[k]⟩]) rfl E rfl es (E.ef (v:=e4 eoW 1 1) (xs:=([⟨r[k].key,cj[k]⟩]:List tf)) es) (by simp only[List.length_cons,List.length_nil];omega) (by simp only[maxLen,List.length_cons,List.length_nil];omega) ?_);intro eoY w E;replace E:=E _ es;rw[Y]at E;obtain⟨Cb,rfl⟩:=(E.ef (v:=eoY) (xs:=p++[X]) es).u9;refine ao 10 E ⟨iA,λw E=>?_⟩;exact⟨r.length-(k+1),by omega,k+1,Cb,p++[X],⟨rfl,rfl,rfl,rfl,rfl,congrArg (Value.int .i64) (by omega),trivial⟩,((((((E.pick (e:=V aF (O.enc nW) 189) es).pick (e:=V aa (O.enc R) 53) es).pick (e:=B lf 62 x) es).pick (e:=V i (O.enc (⟨R,iq,hr,e7⟩:sz)) 502) es).pick (e:=B Cb.v 64 (p++[X])) es).pick (e:=V j (O.enc (⟨tT,A,hr,R.tc,e7,Cb⟩:ta)) 189) es).sub aI,by simp only[List.length_append,List.length_cons,List.length_nil];omega,by omega,rfl⟩
             .
               exact⟨r.length-(k+1),by omega,k+1,ch,p,⟨rfl,rfl,rfl,rfl,rfl,congrArg (Value.int .i64) (by omega),trivial⟩,((((((E.pick (e:=V aF (O.enc nW) 189) es).pick (e:=V aa (O.enc R) 53) es).pick (e:=B lf 62 x) es).pick (e:=V i (O.enc (⟨R,iq,hr,e7⟩:sz)) 502) es).pick (e:=B ch.v 64 p) es).pick (e:=V j (O.enc (⟨tT,A,hr,R.tc,e7,ch⟩:ta)) 189) es).sub aI,by omega,by omega,rfl⟩
           .
             exact⟨ch,p,⟨rfl,rfl,trivial⟩,E,by omega⟩
       .
         rintro f w ⟨ch,p,t,E,rN⟩;refine io _ t (λg=>?_);clear t;refine eI 4 E λw E=>?_;refine ea (Z.call (W8 (E.ef (v:=ch.v) (xs:=p) es)) rfl ?_);rintro eoB w ⟨eoV,n⟩;replace E:=E.ei n;replace E:=E.bL (v:=ch.v) (T:=64) (xs:=p) es;rw[<-eoV]at E;obtain⟨ew5,rfl⟩:=(E.ef (v:=eoB) (xs:=p) es).u9;refine ew 13 E λw E=>?_;exact⟨_,p,rfl,E.ut es,E.J,Q,pM,rN,rfl⟩
end
section
open Go.Proofs Tryz
variable{D d:im}{S:List eL}{a:aB}{ch:List tf}{is:List Instr}{k p:Nat}{l:List aB}{o:ta}{r:aX}{ef:eu}{v:Value}{w w0 en:World}{xs:List UInt8}{y:nD}
def fg(d:im)(ch:List tf):im:=ch.foldl (λd h=>d.put h.key h.rJ) d
theorem era(h:k<ch.length):fg d (ch.take (k+1))=(fg d (ch.take k)).put ch[k].key ch[k].rJ:=by
 unfold fg;rw[List.take_succ_eq_append_getElem h,List.foldl_append];rfl
theorem Bs{d:im}(h:df d):∀(ch:List tf),df (fg d ch)
 |[]=>h
 |x::ch=>by
  have:=Bs (h.put x.key x.rJ) ch;exact this
theorem Br(a:df d)(b:U en (hS p d::S) w0):eJ 151 #[N p] w0 (λu w'=>u=i6 0/\U en (hS p d::S) w'):=by
 refine eH 7 b func151 ntmps151 results151 rfl λw E=>?_;refine ej 5 E (bY) λtZ=>?_;refine ow 4 5 (e5 [0,1,2,3] (oJ [4,5,6] .nil)) [] λw E=>?_;refine iK 0 E (Cn (E.Co es)) λw E=>?_;refine fh 0 E (S1 (E.pick (e:=hS p d) es)) λw E=>?_;rw[WM a]at E;refine ao 5 E λw E=>?_;exact⟨rfl,E.sub aI⟩
theorem ero(h:df d)(a:∀w,U en S w->ev w o.rp.v ch)(i:ch.length<=100000)(j:U en (hS p d::S) w0):eJ 300 #[N p,.agg (O.enc o)] w0 (λu w'=>u=i6 0/\U en (hS p (fg d ch)::S) w'):=by
 refine eH 10 j func300 ntmps300 results300 rfl λtZ w E=>?_;refine ej 9 E (Br h (E.pick (e:=hS p d) es))<|na 0 7 (λl m w E=>?_) (λ_ m w E=>?_)
 .
   cases l
 .
   refine ea (Z.hL rfl ((a _ (E.sub aI))) (ew 4 E λw E=>?_));refine ex.loop (λq f w=>∃k:Nat,oW [(0,N p),(14,o.rp.v),(15,i6 ch.length),(16,i6 k)] f/\U en (hS p (fg d (ch.take k))::V tZ (O.enc o) 189::S) w/\k<=ch.length/\q=ch.length-k) (ch.length) ?_ ?_
   .
     exact⟨0,⟨rfl,rfl,rfl,rfl,trivial⟩,(show U en (hS p d::V tZ (O.enc o) 189::S) w from(E.pick (e:=V tZ (O.enc o) 189) es).pick (e:=hS p d) es|>.sub aI),Nat.zero_le _,rfl⟩
   .
     rintro q f w ⟨k,b,E,s,th⟩;refine io _ b (λg=>?_);clear b;refine eI 6 E<|om 0 0 (λn w E=>?_) (λn w E=>?_)
     .
       have c:k<ch.length:=by omega
       refine eI 6 E λw E=>?_;refine ea (nL rfl ((a _ (E.sub aI))) rfl (by omega) (ag 1 E (hT λw E=>((a _ (E.sub aI)).se c).nZ (O.eT ch[k])) λt w E=>?_));refine oA (iV E rfl rfl es (by first|rfl|exact O.eT _) (tA es λw E=>?_));refine ew 8 E λw E=>?_;refine ej 8 E (S1 (E.pick (e:=hS p (fg d (ch.take k))) es)) ⟨iA,λw E=>?_⟩;rw[<-era c]at E;exact⟨ch.length-(k+1),by omega,k+1,⟨rfl,rfl,rfl,congrArg (Value.int .i64) (by omega),trivial⟩,((E.pick (e:=V tZ (O.enc o) 189) es).pick (e:=hS p (fg d (ch.take (k+1)))) es).sub aI,by omega,rfl⟩
     .
       have r:ch.take k=ch:=List.take_of_length_le (by omega);rw[r]at E;refine eI 12 E λw E=>?_;exact⟨rfl,E.sub aI⟩
@[irreducible] def iC (p:Nat) (D:im):eL:=hD [no (df D),hS p D]
theorem U.EX(h:U w0 (iC p D::S) w):(df D)/\U w0 (hS p D::S) w:=by
 unfold iC at h;have h:=h.dr;have G:=h.get (e:=no (df D)) .em;rw[mf]at G;exact⟨G,h.sub (List.sublist_cons_self _ _)⟩
theorem qk(e1:df D)(h:U w0 (hS p D::S) w):U w0 (iC p D::S) w:=by
 unfold iC;exact U.closed (l:=[no (df D),hS p D]) (h.pure e1)
theorem eri(e1:df d)(h:∀k,d.get k=sI):d.eS=[]:=by
 cases c:d.eS with
 |nil=>rfl
 |cons x l=>
  exfalso;have G:=h x.1;unfold im.get at G;rw[c]at G;have Y:tR x.1 (x::l)=some x.2:=by obtain⟨a,b⟩:=x;simp[tR]
  rw[Y]at G;exact e1.SZ x (by rw[c];exact List.mem_cons_self) G
theorem Bh:eJ 22 #[] w0 (λu w'=>∃(p r:Nat),u=N p/\U w0 [iC p ⟨r,[]⟩] w'):=by
 refine(eaU).mono ?_;rintro u w' ⟨p,⟨r,eS⟩,rfl,b,a,c,d⟩;obtain rfl:eS=[]:=eri a b;exact⟨p,r,rfl,qk a ((eG w0).An d c)⟩
theorem ern{k:av}(b:U en (iC p D::S) w0):eJ 24 #[N p,.agg (O.enc k),.agg (O.enc a)] w0 (λu w'=>u=i6 0/\U en (iC p (D.put k a)::S) w'):=by
 obtain⟨e1,E⟩:=b.EX;exact(S1 E).mono λu w' h=>⟨h.1,qk (e1.put k a) h.2⟩
structure xY(r:aX)(y:nD)(o:ta)(ch:List tf):Prop where
 tK:o.tK<=1400000
 tv:o.tv<=1048576*y.m.au.length
 len:ch.length<=64
 tc:o.tc=r.tc
theorem ers(h:kn y)(a:k<y.m.au.length):(y.m.au[k]).1.toNat<y.m.tu.length:=by
 have G:=List.any_eq_false.1 h.ix y.m.au[k] (List.getElem_mem a);unfold S7 at G;simp only[Bool.or_eq_true,decide_eq_true_eq,not_or]at G;omega
theorem err(eM:ev w0 ef.v l)(h:l.length=(ad y).length)(j:∀a∈l,dq a)(n:ErrLaid w0)(b:U en S w0)(d:tX (az r is xs y) S):eJ 209 #[.agg (O.enc r),ef.v] w0 (λu w'=>∃(o:ta)(ch:List tf),u= .tuple #[.agg (O.enc o),i6 0]/\U w0 [no (xY r y o ch),B o.rp.v 64 ch] w'):=by
 obtain⟨e1,_,q,e,E⟩:=b.g9 d;have s:=kn.of e1.CQ;obtain⟨_,F,H,_,_,t,_,_,_⟩:=pe b d;have w:=(CY (y:=y)).2;have x:r.rD.tK<=1400000:=by rw[e1.YB];exact w
 have f:=e.2.wF;refine(eoM n eM q e.2.i ?_ ?_ h (by omega) (by omega) j).mono ?_
 .intro k G;obtain⟨_,z,a3⟩:=f.2 k G (by omega);exact⟨_,_,z,a3⟩
 .intro c A;obtain⟨k,C,rfl⟩:=List.getElem_of_mem A;have Y:k<y.m.au.length:=by omega
  have ez:=ers s Y;have e6:=(f.2 k C Y).1;rw[e6];omega
 rintro u w' ⟨o,ch,rfl,g,D,G,Y,ez,e6⟩;exact⟨o,ch,rfl,((eG w0).pD D g.1 g.2).pure (p:=xY r y _ _) ⟨by omega,by rw[t];exact Y,by omega,e6⟩⟩
theorem erh(a:f4 D)(b:dz r.tc (ad y) (ir D (ad y))=false)(c:U en (iC p D::az r is xs y::S) w0):eJ 286 #[N p,.agg (O.enc r)] w0 (λu w'=>u= .tuple #[eF,i6 22]/\U en (iC p D::az r is xs y::S) w'):=by
 obtain⟨e1,E⟩:=c.EX;have e:=(pe E .G).2.2.1;have f:=(pe E .G).2.1;refine(WF e1 a (λw h=>(h.g9 .em).2.2.1) (by omega) E).mono ?_;rintro u w' ⟨d',rfl,d,(⟨_,rfl,E⟩|⟨h,_⟩)⟩
 .exact⟨rfl,qk d E⟩
 rw[b]at h;cases h
theorem erl(a:f4 D)(b:dz r.tc (ad y) (ir D (ad y))=true)(c:U en (iC p D::az r is xs y::S) w0):eJ 286 #[N p,.agg (O.enc r)] w0 (λu w'=>∃s:eu,u= .tuple #[s.v,i6 0]/\U en (iC p D::az r is xs y::B s.v 62 (p8 r.tc (ir D (ad y)))::S) w'):=by
 obtain⟨e1,E⟩:=c.EX;have e:=(pe E .G).2.2.1;have f:=(pe E .G).2.1;refine(WF e1 a (λw h=>(h.g9 .em).2.2.1) (by omega) E).mono ?_;rintro u w' ⟨d',rfl,d,(⟨h,_⟩|⟨_,s,rfl,E⟩)⟩
 .rw[b]at h;cases h
 exact⟨s,rfl,(qk (S:=B s.v 62 _::az r is xs y::S) d (E.pick .G)).hK (.cons _ (.swap _ _ _))⟩
theorem erd{tc:Nat}(h:∀a∈l,dq a):∀a∈p8 tc l,dq a:=by
 intro a ep;unfold p8 at ep;rcases List.mem_or_eq_of_mem_set ep with G|G
 .exact h a G
 subst G;have Y:dq (l.getD 0 sI):=by
  cases l with
  |nil=>exact⟨by decide,by decide⟩
  |cons x l=>exact h x List.mem_cons_self
 exact⟨by show(l.getD 0 sI).o6-tc<_;have:=Y.1;omega,Y.2⟩
theorem erc(h:f4 D){r:List o1}:∀a∈ir D r,dq a:=by
 intro a ep;unfold ir at ep;obtain⟨x,_,rfl⟩:=List.mem_map.1 ep;exact h _
theorem eru(tc:Nat)(l:List aB):(p8 tc l).length=l.length:=by unfold p8;rw[List.length_set]
theorem erm(b:ch.length<=64)(a:U en (iC p D::B o.rp.v 64 ch::S) w0):eJ 300 #[N p,.agg (O.enc o)] w0 (λu w'=>u=i6 0/\U en (iC p (fg D ch)::B o.rp.v 64 ch::S) w'):=by
 obtain⟨e1,E⟩:=a.EX;exact(ero e1 (λw h=>h.ef .em) (by omega) E).mono λu w' h=>⟨h.1,qk (Bs e1 ch) h.2⟩
end
section
open Go.Proofs Tryz
variable{D:im}{L xs:List tf}{S:List eL}{b g i id oC n tt p r:Nat}{f:tr}{is:List Nat}{eS:List (av×aB)}{s:eu}{u:Value}{v:Vector UInt8 32}{w w0 en:World}{x y:tf}{ys:List UInt8}
def Kd:Go.Shelf.Ren:=⟨λ|6=>117|15=>190|14=>189|28=>257|29=>258|20=>249|21=>250|22=>251|23=>252|24=>253|25=>254|26=>255|27=>256|46=>308|47=>309|48=>310|49=>311|50=>312|57=>360|n=>n,λ|22=>29|24=>64|25=>268|3=>3|39=>385|0=>0|53=>459|55=>23|4=>4|46=>453|45=>452|50=>146|5=>5|9=>9|66=>531|70=>534|76=>593|77=>594|n=>n,λ|n=>n⟩
theorem Kc:Proofs.SlLaysF0.n6 prog Kd where
 mixed:=by kernel_rfl
 f6:=⟨f117.name,by decide,func117.trans (congrArg some (by kernel_rfl))⟩
 f14:=⟨f189.name,by decide,func189.trans (congrArg some (by kernel_rfl))⟩
 f15:=func190.trans (congrArg some (by kernel_rfl))
 f20:=⟨f249.name,by decide,func249.trans (congrArg some (by kernel_rfl))⟩
 f21:=⟨f250.name,by decide,func250.trans (congrArg some (by kernel_rfl))⟩
 f22:=⟨f251.name,by decide,func251.trans (congrArg some (by kernel_rfl))⟩
 f23:=⟨f252.name,by decide,func252.trans (congrArg some (by kernel_rfl))⟩
 f24:=⟨f253.name,by decide,func253.trans (congrArg some (by kernel_rfl))⟩
 f25:=⟨f254.name,by decide,func254.trans (congrArg some (by kernel_rfl))⟩
 f26:=⟨f255.name,by decide,func255.trans (congrArg some (by kernel_rfl))⟩
 f27:=⟨f256.name,by decide,func256.trans (congrArg some (by kernel_rfl))⟩
 f28:=func257.trans (congrArg some (by kernel_rfl))
 f29:=func258.trans (congrArg some (by kernel_rfl))
 f46:=⟨f308.name,by decide,func308.trans (congrArg some (by kernel_rfl))⟩
 f47:=func309.trans (congrArg some (by kernel_rfl))
 f48:=func310.trans (congrArg some (by kernel_rfl))
 f49:=⟨f311.name,by decide,func311.trans (congrArg some (by kernel_rfl))⟩
 f50:=⟨f312.name,by decide,func312.trans (congrArg some (by kernel_rfl))⟩
 f57:=⟨f360.name,by decide,func360.trans (congrArg some (by kernel_rfl))⟩
 t0:=underlying0
 a0:=isAgg0
 z0:=sizeOf0
 v0:=zeroValue0
 t3:=underlying3
 a3:=isAgg3
 z3:=sizeOf3
 v3:=zeroValue3
 t4:=underlying4
 a4:=isAgg4
 z4:=sizeOf4
 v4:=zeroValue4
 t5:=underlying5
 a5:=isAgg5
 z5:=sizeOf5
 v5:=zeroValue5
 t9:=underlying9
 a9:=isAgg9
 z9:=sizeOf9
 v9:=zeroValue9
 t22:=underlying29
 a22:=isAgg29
 z22:=sizeOf29
 v22:=zeroValue29
 t25:=underlying268
 a25:=isAgg268
 z25:=sizeOf268
 v25:=zeroValue268
 t39:=underlying385
 a39:=isAgg385
 z39:=sizeOf385
 v39:=zeroValue385
 t45:=underlying452
 a45:=isAgg452
 z45:=sizeOf452
 v45:=zeroValue452
 t46:=underlying453
 a46:=isAgg453
 z46:=sizeOf453
 v46:=zeroValue453
 t50:=underlying146
 a50:=isAgg146
 z50:=sizeOf146
 v50:=zeroValue146
 t53:=underlying459
 a53:=isAgg459
 z53:=sizeOf459
 v53:=zeroValue459
 t55:=underlying23
 a55:=isAgg23
 z55:=sizeOf23
 v55:=zeroValue23
 t66:=underlying531
 a66:=isAgg531
 z66:=sizeOf531
 v66:=zeroValue531
 t70:=underlying534
 a70:=isAgg534
 z70:=sizeOf534
 v70:=zeroValue534
 t76:=underlying593
 a76:=isAgg593
 z76:=sizeOf593
 v76:=zeroValue593
 t77:=underlying594
 a77:=isAgg594
 z77:=sizeOf594
 v77:=zeroValue594
open Proofs in
instance:Inhabited tf:=⟨⟨oc 32,sI⟩⟩
theorem emc{v:Value}{xs:List UInt8}(h:ev w0 v xs)(k:ev w0 u ys):nk prog 119 #[v,u] w0 (λr w'=>r=i6 (Lib.compareBytes xs ys)/\uX w0 w'):=by
 refine nk.enter (args:=[v,u]) func119 rfl ntmps119 results119 rfl ?_;refine ex.seq (λc a=>(ex.region (ea (iM rfl ?_))));refine tn.nil ?_;refine aE (a _ _ (ex.seq (λd b=>(ex.region (ea (oM (v:=v) rfl (ea (oM (v:=u) rfl (ea (As (vs:=[v,u]) (v:=i6 (Lib.compareBytes xs ys)) ?_ rfl ?_))))))))))
 .rw[run_callFunc_extern func191 (by kernel_rfl) (by kernel_rfl) (by kernel_rfl) (e:=Extern.BytealgCompare.compare) (by kernel_rfl)];show(Sem.run prog (Extern.BytealgCompare.compare #[v,u]) w0).andThen _=_;rw[emt h k];rfl
 refine ea (iM rfl ?_);refine tn.nil ?_;refine aE (b _ _ ?_);refine ex.ret ?_;refine cI (.hB rfl .nil) ?_;exact⟨rfl,uX.refl _⟩
theorem emu[th:vq prog]{Q:Exit->tr->World->Prop}{l:List Oper}(r:sU)(b:(Region.noSelect l.toArray&&bd l.toArray tt&&dk l.toArray tt (Array.replicate l.toArray.size false) r&&decide (lX r=l.length))=true)
 (d:∀(c:List PanicEntry) f w,¬Q (.panic c) f w) (I:World->Prop) (e:I {w with drawn:=w.drawn+1}) (h:e3 prog n l.toArray tt I Q r f {w with drawn:=w.drawn+1}):ex prog n (.region id l.toArray true) Q f w:=by
 simp only[Bool.and_eq_true,decide_eq_true_eq]at b;obtain⟨⟨⟨g,i⟩,b⟩,hlen⟩:=b;unfold ex;unfold e3 at h;intro a ep;refine wp_region_any th.out ?_;have:=IY _ _ _ _ (h _ a g b (.inl ⟨H1 i,e⟩) ep (λc f _ w h=>absurd h (d c f w)));rw[hlen]at this;simpa using this
theorem Ku(h:ar w (N b) (O.enc v)):ev w (e4 b 32 32) v.toList:=by
 obtain⟨a,g,c,d⟩:=h;cases c;refine⟨some ⟨b,0,none⟩,32,by simp,by simp,by decide,by simp,λi e _=>?_⟩;cases e;refine⟨rfl,λj u f=>d j u ?_⟩;rw[<-Array.getElem?_toList,I6];exact f
theorem Km{T:TypeId}(h:w.heap[b]? =some (.cells (O.enc x) T (0,0))):ar w (N b) (O.enc x.key):=by
 refine⟨b,0,rfl,λj u d=>?_⟩;rw[TC h,Nat.zero_add];have f:j<32:=by have Y:=(Array.getElem?_eq_some_iff.1 d).1;rw[O.eT]at Y;exact Y
 have e:=ZV x;have a:=congrArg (λc=>c[j]?) e;simp only[Array.getElem?_extract]at a;rw[d]at a;split at a
 .rwa[Nat.zero_add]at a
 cases a
def Mh(x y:tf):Int:=Lib.compareBytes x.key.toList y.key.toList
theorem emm:nk prog 118 #[.agg (O.enc x),.agg (O.enc y)] w0 (λr w'=>r=i6 (Mh x y)/\uX w0 w'):=by
 refine nk.enter (args:=[.agg (O.enc x),.agg (O.enc y)]) func118 rfl ntmps118 results118 rfl ?_;refine ex.seq (λm k=>(ex.region ?_));obtain⟨a,d⟩:∃o,o=Obj.cells (O.enc x) 64 (0,0):=⟨_,rfl⟩;obtain⟨dl,j⟩:∃o,o=Obj.cells (O.enc y) 64 (0,0):=⟨_,rfl⟩;refine ea (iv (v:=.pointer (some ⟨w0.heap.size,0,none⟩)) (w':=w0.alloc a) (by rw[d];rfl) (ea (iv (v:=.pointer (some ⟨(w0.alloc a).heap.size,0,none⟩)) (w':=(w0.alloc a).alloc dl) (by rw[j];rfl) (ea (iM rfl ?_)))));refine tn.nil ?_;refine aE (k _ _ ?_);have c:uX w0 ((w0.alloc a).alloc dl):=((uX.refl w0).alloc a).alloc dl;have e:((w0.alloc a).alloc dl).heap[w0.heap.size]? =some (.cells (O.enc x) 64 (0,0)):=by
  have G:(w0.alloc a).heap[w0.heap.size]? =some a:=by rw[d];exact heap_alloc_new w0 _
  exact((eB.alloc (w0.alloc a) dl).get G).trans (by rw[d])
 have f:((w0.alloc a).alloc dl).heap[(w0.alloc a).heap.size]? =some (.cells (O.enc y) 64 (0,0)):=by rw[j];exact heap_alloc_new (w0.alloc a) _
 generalize(w0.alloc a).alloc dl=pn at c e f⊢;generalize w0.heap.size=iZ at e⊢;generalize(w0.alloc a).heap.size=aa at f⊢;refine ex.seq (λn l=>?_);refine emu (tt:=6) (e5 [0,1,2,3] (.one 4 (.look 5 .nil))) (by kernel_rfl) (λ_ _ _ h=>h) (λw=>uX w0 w/\eB pn w) ⟨c.drawn,eB.drawn pn _⟩ ?_;refine e3.look rfl rfl rfl (λw E=>o9 rfl ⟨rfl,rfl⟩) ?_;refine e3.look rfl rfl rfl (λw E=>PK (b:=iZ) (o:=0) rfl ⟨rfl,rfl⟩) ?_;refine e3.look rfl rfl rfl (λw E=>o9 rfl ⟨rfl,rfl⟩) ?_;refine e3.look rfl rfl rfl (λw E=>PK (b:=aa) (o:=0) rfl ⟨rfl,rfl⟩) ?_;have g:eB pn {pn with drawn:=pn.drawn+1}:=eB.drawn pn _;refine ol rfl (Z.call (emc (Ku (Km (g.get e))) (Ku (Km (g.get f)))) rfl ?_);rintro _ w ⟨rfl,i⟩;refine⟨⟨c.drawn.trans i,g.trans i.ei⟩,?_⟩;refine e3.look rfl rfl rfl (λw E=>iM rfl ⟨rfl,rfl⟩) ?_;refine e3.nil (aE (l _ _ ?_));refine ex.ret ?_;refine cI (.hB rfl .nil) ?_;exact⟨rfl,c.drawn.trans i⟩
theorem emf:Proofs.CmpLays prog 118 #[] (ub (α:=tf)) (O.eo tf) Mh g 0 n w:=by
 intro m os b hd x y;have h:=emm (w0:=(Proofs.sortWorldK ub (O.eo tf) w g 0 m b os)) (x:=x) (y:=y);unfold nk at h;rw[Ks,Ks];refine Calls.mono h ?_;rintro e w' ⟨v,rfl,rfl,q,a,c⟩;exact⟨rfl,q,a,c⟩
theorem emg(i:L.length<=100000)(a:U en (B s.v 64 L::S) w0):nk prog 117 #[s.v,.func (.func 118) #[] #[]] w0 (λu w'=>∃(L2:List tf),u= .tuple #[]/\U en (no (L2.Perm L)::B s.v 64 L2::S) w'):=by
 rcases a.ue .nU with⟨tC,j⟩|⟨g,cap,i9,tC,b,G,Y,ez,e6⟩
 .have h:=Proofs.AnyF.slices_SortFunc_none (ρ:=Kd) {Kc with} none 0 (.func (.func 118) #[] #[]) w0;rw[tC];unfold nk;refine Calls.mono h ?_;rintro e w' ⟨rfl,rfl⟩;refine⟨_,rfl,L,rfl,?_⟩;rw[<-tC];exact a.pure (List.Perm.refl _)
 have d:=(Array.getElem?_eq_some_iff.1 b).1;have h:=Proofs.AnyQ.slices_SortFunc Kc (O.eo tf) (λw=>TD (T:=64) mE.out w) (λw=>m3 (T:=64) inferInstance w) ub Kn ema Mh (eme λx:tf=>x.key.toList) 118 #[] g 0 cap L.toArray w0 (λargs w=>gI inferInstance args w) (emf) (emo (cap:=cap) b e6) d (by simp;omega);rw[tC];unfold nk;refine Calls.mono h ?_;rintro e w' ⟨rfl,d',n,os,c,_,f⟩;have hd:d'.size=L.length:=by have:=c.1;simpa using this
 refine⟨_,rfl,d'.toList,rfl,?_⟩;rw[<-tC];refine(a.emr tC hd f).pure ?_;have ac:=c.2.2;simp[hd]at ac;rwa[List.take_of_length_le (by simp[hd])]at ac
def kx(eS:List (av×aB))(i:Nat):tf:=match eS[i]? with|some x=>⟨x.1,x.2⟩|none=>⟨oc 32,sI⟩
theorem emw(h:i<eS.length):is.map (kx eS)++[(⟨(eS[i]).1,(eS[i]).2⟩:tf)]=(is++[i]).map (kx eS):=by
 rw[List.map_append];simp[kx,h]
theorem emy(h:jw w oC r mM eS is)(a:∀i,i<eS.length->i∈is):(is.map (kx eS)).Perm (eS.map λx=>(⟨x.1,x.2⟩:tf)):=by
 obtain⟨_,e,c,_,_,b,d,_⟩:=h;have G:is.Perm (List.range eS.length):=(List.perm_ext_iff_of_nodup b List.nodup_range).2 λi=>⟨λey=>List.mem_range.2 (d i ey),λey=>a i (List.mem_range.1 ey)⟩;refine(G.map (kx eS)).trans (.of_eq ?_);apply List.ext_getElem
 .simp
 intro i Y ez;simp at Y;simp[kx,Y]
def l7(D:im)(L:List tf):Prop:=L.Perm (D.eS.map λx=>(⟨x.1,x.2⟩:tf))
theorem emb{v:Value}(a:ev w0 v xs):nk prog 120 #[v] w0 (λu w'=>u=nT v 0 xs.length xs.length (O.eo (tf))/\eB w0 w'):=by
 have:=aS a;refine eH 12 (eG _) func120 ntmps120 results120 rfl λw E=>?_;exact ea (hq (a.ei E.J) ⟨⟨_,rfl⟩,a.cap⟩ ⟨⟨_,rfl⟩,Nat.le_refl _⟩ ⟨rfl,Nat.zero_le _⟩ (ew 5 E λw E=>(⟨rfl,E.J⟩)))
theorem Td{v:eu}(a:ev w0 v.v xs):nk prog 120 #[v.v] w0 (λu w'=>u=(v.cut 0 xs.length xs.length (O.eo tf)).v/\eB w0 w'):=emb a
theorem emv(n:eS.length<=100000)(o:U en (V p (O.enc (⟨some r⟩:cK)) 205::tW r mM eS::S) w0):nk prog 49 #[N p] w0 (λu w'=>∃(eE:(List tf))(te:eu)(tO:(List tf)),u=(te.cut 0 tO.length tO.length (O.eo tf)).v/\U en (no (tO.Perm eE)::B te.v 64 tO::no (eE.Perm (eS.map λx=>(⟨x.1,x.2⟩:tf)))::tW r mM eS::V p (O.enc (⟨some r⟩:cK)) 205::S) w'):=by
 refine eH 9 o func49 ntmps49 results49 rfl λw E=>?_;refine ej 13 E (Ci (E.tU .em)) λw E=>?_;refine ea (Z.range (tl:=(Vector UInt8 32)) E .G rfl ?_);intro k w E;replace E:=E _ .G;refine ew 3 E λw E=>?_;refine ex.loop (λlW f w=>∃(is:List Nat)(cD:eu),oW [(2,cD.v),(12,N k)] f/\U en (B cD.v 64 ((is).map (kx eS))::lm k r mM eS is::V p (O.enc (⟨some r⟩:cK)) 205::S) w/\is.length<=eS.length/\lW=eS.length-is.length) (eS.length) ?_ ?_
 .
   exact⟨[],ec,⟨sF,rfl,trivial⟩,((E.lD (α:=tf) 64).pick .Y).pick .G,Nat.zero_le _,rfl⟩
 .
   rintro lW f w ⟨is,cD,l,E,q,H⟩;refine io _ l (λg=>?_);clear l;refine eI 2 E λw E=>?_;refine ea (jy E .G rfl ?_);intro I s t w a b c E;replace E:=E _ .G;refine ea (Z.extract rfl a (ew 3 E<|na 0 0 (λd y w E=>?_) (λd y w E=>?_)))
   .
     obtain⟨i13,m,z,A,rfl⟩:=c d;refine eI 5 E λw E=>?_;refine ea (jb (E.wz .G) m rfl (ew 4 E λtZ aF w E=>(oA (iV (r:=(eS[i13]).1) E rfl rfl .G (O.eT _) (tA .G λw E=>?_)))));refine oA (iV (r:=(eS[i13]).2) E rfl rfl .em (O.eT _) (tA .em λw E=>?_));refine ew 6 E λw E=>?_;refine ea (rV (r:=(⟨((eS[i13]).1),((eS[i13]).2)⟩:tf)) (ps:=tf.parts (⟨((eS[i13]).1),((eS[i13]).2)⟩:tf)) (AY _) (by first|rfl|(simp only[AY,tf.parts,jV,aB.parts,sM,nn];rfl)) (by exact lE ⟨by decide,O.eT ((eS[i13]).1),by decide,O.eT ((eS[i13]).2),trivial⟩) ?_);refine ho 0 E (sL [(⟨((eS[i13]).1),((eS[i13]).2)⟩:tf)]) λJ w E=>?_;refine ea (pQ (α:=tf) (zs:=((is).map (kx eS)++[(⟨((eS[i13]).1),((eS[i13]).2)⟩:tf)])) rfl E rfl .ez (E.ef .em) rfl ay (by simp[maxLen];try omega) ?_);intro C w E;replace E:=E _ .ez;refine ew 4 E λw E=>?_;rw[emw m]at E;exact⟨eS.length-(is++[i13]).length,by simp;omega,is++[i13],C,⟨sF,rfl,trivial⟩,E.sub aI,by simp;omega,rfl⟩
   .
     obtain⟨e,h⟩:=b d;rw[e]at E;have i:=emy (E.wz .G) h;obtain⟨L,D⟩:∃L,is.map (kx eS)=L:=⟨_,rfl⟩;rw[D]at E i;have F:L.length<=100000:=by rw[i.length_eq,List.length_map];exact n
     replace E:=(E.NR .G).pure i;refine eI 8 E λw E=>?_;refine ej 5 E (emg (by first|omega|simp) (E.pick .G)) λj w E=>?_;refine ej 5 E (Td (E.ef .G)) λw E=>?_;exact⟨L,cD,j,rfl,E⟩
theorem Tc(a:D.eS.length<=100000)(b:U en (iC p D::S) w0):nk prog 49 #[N p] w0 (λu w'=>∃(s:eu)(L:List tf),u=s.v/\U en (no (l7 D L)::B s.v 64 L::iC p D::S) w'):=by
 obtain⟨e1,E⟩:=b.EX;refine(emv a E.WD).mono ?_;rintro u w' ⟨L,s,L2,rfl,E⟩;have G:L2.Perm L:=by have h:=E.get .em;rwa[mf]at h
 have Y:L.Perm (D.eS.map λx=>(⟨x.1,x.2⟩:tf)):=by have h:=E.get .Y;rwa[mf]at h
 replace E:=(tF [0,2] E).xd;exact⟨_,L2,rfl,((qk e1 (U.S0 D (Pi [1,2] E))).pick .G).pure (G.trans Y)⟩
end
end Go.Fer
