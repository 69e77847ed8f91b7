import Derived.Test.YtncdhadaifhleaaGreatDoorF12
import Derived.Test.YtncdhadaifhleaaGreatDoorF14
set_option linter.all false
set_option synthInstance.maxSize 100000
set_option synthInstance.maxHeartbeats 400000
set_option maxHeartbeats 8000000
set_option maxRecDepth 100000
namespace Go.Fer
open Go Go.RowKit
section
open Go.Proofs Tryz
variable{S:List eL}{cs:List eu}{f i k n eo:Nat}{ae b7:Value}{s v oL z:eu}{w0 en:World}{xs:List eU}{o3 n1:Int}
structure Ring where
 l:eu
 b8:Int
 sp:Int
variable{aw:List Ring}{x:Ring}
def Ring.parts(x:Ring):List (Array Value):=[#[x.l.v],#[.int .i64 x.b8],#[.int .i64 x.sp]]
theorem ehG(x:Ring):x.parts.map Array.size=[1,1,1]:=by
 simp only[Ring.parts,List.map,O.eT];rfl
instance:O Ring where
 enc x:=eK x.parts
 eo:=3
 pos:=by omega
 eT x:=by rw[iw,ehG];rfl
 one x:=rY (all_cons (O.one (α:=eu) _) (all_cons (o0 _ _) (all_cons (o0 _ _) rB)))
theorem ehW(x:Ring):(O.enc x)[0]? =some (x.l.v):=hp [] [#[.int .i64 x.b8],#[.int .i64 x.sp]] _ sH
theorem ehY(x:Ring):(O.enc x)[1]? =some (.int .i64 x.b8):=hp [#[x.l.v]] [#[.int .i64 x.sp]] _ sH
theorem BP(x:Ring):(O.enc x)[2]? =some (.int .i64 x.sp):=hp [#[x.l.v],#[.int .i64 x.b8]] [] _ sH
theorem ehB(x:Ring)(v:Int):iH (O.enc x) 1 #[.int .i64 v]=O.enc {x with b8:=v}:=by
 have h:=rG [#[x.l.v]] [#[.int .i64 x.sp]] (#[.int .i64 x.b8]) (#[.int .i64 v]) (by first|(rw[O.eT,O.eT];done)|rfl);rw[show(eK [#[x.l.v]]).size=1 from sH]at h;exact h
theorem BG(x:Ring)(v:Int):iH (O.enc x) 2 #[.int .i64 v]=O.enc {x with sp:=v}:=by
 have h:=rG [#[x.l.v],#[.int .i64 x.b8]] [] (#[.int .i64 x.sp]) (#[.int .i64 v]) (by first|(rw[O.eT,O.eT];done)|rfl);rw[show(eK [#[x.l.v],#[.int .i64 x.b8]]).size=2 from sH]at h;exact h
instance:nt x [#[x.l.v],#[.int .i64 x.b8],#[.int .i64 x.sp]]:=⟨rfl⟩
instance(priority:=2000):nt (⟨oL,o3,n1⟩:Ring) [#[oL.v],#[.int .i64 o3],#[.int .i64 n1]]:=⟨rfl⟩
instance:st (O.enc x) 0 #[v.v] (O.enc {x with l:=v}):=rq
instance{v:Int}:st (O.enc x) 1 #[.int .i64 v] (O.enc {x with b8:=v}):=rq
structure r0 where
 RN:eu
 count:eu
def r0.parts(x:r0):List (Array Value):=[#[x.RN.v],#[x.count.v]]
theorem ehV(x:r0):x.parts.map Array.size=[1,1]:=by
 simp only[r0.parts,List.map,O.eT];rfl
instance:O r0 where
 enc x:=eK x.parts
 eo:=2
 pos:=by omega
 eT x:=by rw[iw,ehV];rfl
 one x:=rY (all_cons (O.one (α:=eu) _) (all_cons (O.one (α:=eu) _) rB))
theorem RS(x:r0):O.enc x=eK x.parts:=rfl
theorem ehK(x:r0):(O.enc x)[0]? =some (x.RN.v):=hp [] [#[x.count.v]] _ sH
theorem BW(x:r0):(O.enc x)[1]? =some (x.count.v):=hp [#[x.RN.v]] [] _ sH
instance(priority:=2000){o3:eu}:nt (⟨oL,o3⟩:r0) [#[oL.v],#[o3.v]]:=⟨rfl⟩
abbrev gu:=eu×List eU
variable{b:gu}{q:List gu}
structure nm where
 l:eu
 f:Nat
 cs:List eu
 q:List gu
variable{L:nm}
def nm.r(L:nm):Ring:=⟨L.l,(L.f:Int),(L.q.length:Int)⟩
instance:nt L.r [#[L.l.v],#[i6 L.f],#[i6 L.q.length]]:=⟨rfl⟩
def gm(L:nm):Prop:=L.q.length<=L.cs.length/\L.cs.length<=4001/\(L.f<L.cs.length∨(L.f=0/\L.cs=[]))/\∀i(h:i<L.q.length),L.cs[(L.f+i)%L.cs.length]? =some (L.q[i]'h).1
def gf(q:List gu):List eL:=q.map λb=>B b.1.v 3 b.2
def uP(L:nm):List eL:=B L.l.v 134 L.cs::gf L.q
theorem ehX{α:Type}(cs:List α)(a:f<=cs.length)(ey:i<cs.length):(cs.drop f++cs.take f)[i]? =cs[(f+i)%cs.length]? :=by
 by_cases h:f+i<cs.length
 .rw[List.getElem?_append_left (by rw[List.length_drop];omega),List.getElem?_drop,Nat.mod_eq_of_lt h]
 rw[List.getElem?_append_right (by rw[List.length_drop];omega),List.length_drop,List.getElem?_take_of_lt (by omega)];congr 1;rw[Nat.mod_eq_sub_mod (by omega),Nat.mod_eq_of_lt (by omega)];omega
def kf(cs:List eu)(f:Nat):List eu:=cs.drop f++cs.take f++List.replicate (cs.length+1) ec
theorem OV(cs:List eu)(f:Nat):(kf cs f).length=2*cs.length+1:=by simp[kf];omega
theorem ehJ(h:gm L)(b:L.q.length=L.cs.length)(c:L.cs.length<=2000):gm ⟨s,0,kf L.cs L.f,L.q⟩:=by
 obtain⟨G,Y,ez,e6⟩:=h;refine⟨by rw[OV];simp only;omega,by rw[OV];omega,.inl (by show 0<(kf L.cs L.f).length;rw[OV];omega),λi ey=>?_⟩;have ey:i<L.q.length:=ey;have a:L.f<=L.cs.length:=by rcases ez with h|⟨h,_⟩<;>omega
 rw[OV,Nat.zero_add,Nat.mod_eq_of_lt (by omega)];unfold kf;rw[List.getElem?_append_left (by simp;omega),ehX _ a (by omega)];exact e6 i ey
theorem ehQ(h:gm L)(a:L.q.length<L.cs.length):gm ⟨L.l,L.f,L.cs.set ((L.f+L.q.length)%L.cs.length) b.1,L.q++[b]⟩:=by
 obtain⟨G,Y,ez,e6⟩:=h;have d:L.f<L.cs.length:=by rcases ez with h|⟨_,h⟩;exact h;rw[h]at a;simp at a
 refine⟨by simp;omega,by simpa using Y,.inl (by simpa using d),λi ey=>?_⟩;simp only[List.length_set];simp only[List.length_append,List.length_cons,List.length_nil]at ey;rw[List.getElem?_set];by_cases e:i=L.q.length
 .subst e;rw[if_pos rfl,if_pos (Nat.mod_lt _ (by omega))];simp
 have c:i<L.q.length:=by omega
 have g:¬(L.f+L.q.length)%L.cs.length=(L.f+i)%L.cs.length:=by
  intro th;have j:(L.f+L.q.length)%L.cs.length=if L.f+L.q.length<L.cs.length then L.f+L.q.length else L.f+L.q.length-L.cs.length:=by
   split
   .exact Nat.mod_eq_of_lt (by assumption)
   rw[Nat.mod_eq_sub_mod (by omega),Nat.mod_eq_of_lt (by omega)]
  have k:(L.f+i)%L.cs.length=if L.f+i<L.cs.length then L.f+i else L.f+i-L.cs.length:=by
   split
   .exact Nat.mod_eq_of_lt (by assumption)
   rw[Nat.mod_eq_sub_mod (by omega),Nat.mod_eq_of_lt (by omega)]
  rw[j,k]at th;split at th<;>split at th<;>omega
 rw[if_neg g,e6 i c];simp[List.getElem_append_left c]
theorem ehZ(h:gm L)(a:L.q=b::q):gm ⟨L.l,(L.f+1)%L.cs.length,L.cs.set L.f ec,q⟩/\L.f<L.cs.length/\L.cs[L.f]? =some b.1:=by
 obtain⟨G,Y,ez,e6⟩:=h;rw[a]at G;simp only[List.length_cons]at G;have c:L.f<L.cs.length:=by rcases ez with h|⟨_,h⟩;exact h;rw[h]at G;simp at G
 refine⟨⟨by simp;omega,by simpa using Y,.inl (by simpa using Nat.mod_lt _ (by omega)),λi ey=>?_⟩,c,?_⟩
 .have ey:i<q.length:=ey;simp only[List.length_set];have d:i+1<L.q.length:=by rw[a];simp;omega
  have e:((L.f+1)%L.cs.length+i)%L.cs.length=(L.f+(i+1))%L.cs.length:=by
   rw[Nat.mod_add_mod];congr 1;omega
  have g:¬L.f=(L.f+(i+1))%L.cs.length:=by
   intro th;by_cases j:L.f+(i+1)<L.cs.length
   .rw[Nat.mod_eq_of_lt j]at th;omega
   rw[Nat.mod_eq_sub_mod (by omega),Nat.mod_eq_of_lt (by omega)]at th;omega
  rw[e,List.getElem?_set,if_neg g,e6 (i+1) d];simp[a]
 have:=e6 0 (by rw[a];simp);rw[Nat.add_zero,Nat.mod_eq_of_lt c]at this;simpa[a]using this
theorem BB(L:nm):(O.enc L.r)[0]? =some L.l.v:=ehW L.r
theorem eh0(L:nm):(O.enc L.r)[1]? =some (i6 L.f):=ehY L.r
theorem BV(L:nm):(O.enc L.r)[2]? =some (i6 L.q.length):=BP L.r
theorem eh1{v:Value}(h:zd v n):v=nT v 0 n (s1 v) eo:=(h.JB eo).symm
theorem BK(a:ar w0 b7 (O.enc L.r))(b:ev w0 L.l.v L.cs)(em:0<L.cs.length)(c:L.cs.length<=4001)(d:L.f<=4001)(ey:i<=4001):tN 327 #[b7,i6 i] w0 (.int .i64 (((L.f+i)%L.cs.length:Nat):Int)):=by
 refine eH 6 (eG _) func327 ntmps327 results327 rfl ?_;have:=iu a;refine ow 3 13 (e5 [0,1,2,3,4,5,6,7,8,9,10,11,12] .nil) [] λw E=>?_;refine fY 5 E (hT λw E=>dK (a.ei E.J) 1 (eh0 L)) ⟨iA,λw E=>?_⟩;have:=aS b;refine fY 1 E (hT λw E=>dK (a.ei E.J) 0 (BB L)) λw E=>?_;exact tw rfl (λw E=>Z.rem rfl rfl (by omega) (Pc (L.f+i) L.cs.length) eY) (ao 5 E λw E=>(⟨rfl,E.J⟩))
theorem eh2:(List.replicate (2*cs.length+1) z).take 0++cs.drop f++(List.replicate (2*cs.length+1) z).drop (0+(cs.drop f).length)=cs.drop f++List.replicate (2*cs.length+1-(cs.drop f).length) z:=by
 rw[List.take_zero,List.nil_append,List.drop_replicate,Nat.zero_add]
theorem RR:(cs.drop f++List.replicate (2*cs.length+1-(cs.drop f).length) z).length=2*cs.length+1:=by
 rw[List.length_append,List.length_replicate,List.length_drop];omega
theorem eh3(a:f<=cs.length):(cs.drop f++List.replicate (2*cs.length+1-(cs.drop f).length) ec).take (cs.drop f).length++cs.take f++(cs.drop f++List.replicate (2*cs.length+1-(cs.drop f).length) ec).drop ((cs.drop f).length+(cs.take f).length)=kf cs f:=by
 rw[List.take_left,<-List.drop_drop,List.drop_left,List.drop_replicate];unfold kf;congr 2;rw[List.length_drop,List.length_take];omega
theorem eh4(j:k<aw.length)(D:aw[k]=L.r)(o:gm L){b:eu}(T:L.q.length<=1000)(H:U en (B ae 493 aw::B L.l.v 134 L.cs::S) w0):eJ 282 #[(oK ae k (O.eo Ring)),b.v] w0 (λu w'=>∃L',L'.q=L.q++[(b,xs)]/\gm L'/\U en (B ae 493 (aw.set k L'.r)::B L'.l.v 134 L'.cs::S) w'):=by
 have V:=o.2.1;have I:=o.1;refine eH 0 H func282 ntmps282 results282 rfl λw E=>?_;refine lK (λf w=>∃(L1:nm)(t:List Ring),oW [(0,(oK ae k (O.eo Ring))),(1,b.v)] f/\U en (B ae 493 t::B L1.l.v 134 L1.cs::S) w/\gm L1/\L1.q=L.q/\L1.q.length<L1.cs.length/\t=aw.set k L1.r) ?_ ?_
 .
   refine eI 1 E λw E=>?_;have:=lC j;have:=Gx j D;refine nV 12 10 (e5 [0,1,2,3,4,5,6,7,8,9] .nil) [] E<|om 0 2 (λJ w E=>?_) (λJ w E=>?_)
   .
     have K:L.q.length=L.cs.length:=by omega
     refine eI 9 E ⟨iA,⟨iA,λw E=>?_⟩⟩;refine ea (lj (α:=eu) (n:=2*L.cs.length+1) ec rfl E rfl rfl (by omega) (by simp only[maxLen];omega) ?_);intro c w _ E;refine ea (wy (v:=(e4 c (2*L.cs.length+1) (2*L.cs.length+1))) rfl (ew 3 E ?_));refine ow 0 10 (e5 [0,1,2,3,4,5,6,7,8,9] (oJ [10,11] .nil)) [] λw E=>?_;have p:L.f<=L.cs.length:=by rcases o.2.2.1 with h|⟨h,_⟩<;>omega
     refine tw rfl (λw E=>oM (v:=(e4 c (2*L.cs.length+1) (2*L.cs.length+1))) rfl eY) ?_;refine ao 8 E λw E=>?_;refine tw rfl (λw E=>hq (l:=L.f) (h':=L.cs.length) (m:=s1 L.l.v) (E.ef (v:=L.l.v) (xs:=L.cs) es) ⟨rfl,Nat.le_refl _⟩ ⟨⟨rfl,rfl⟩,(E.ef (v:=L.l.v) (xs:=L.cs) es).cap⟩ ⟨⟨_,rfl⟩,p⟩ eY) ?_;refine hA rfl (PX (α:=eu) (v:=(e4 c (2*L.cs.length+1) (2*L.cs.length+1))) (xs:=(List.replicate (2*L.cs.length+1) ec)) (ys:=L.cs.drop L.f) (n:=0) (m:=2*L.cs.length+1) E es (by rw[List.length_replicate];exact eh1 (.inr ⟨c,_,rfl,Nat.le_refl _,by simp only[maxLen];omega⟩)) (by have n9:=(E.ef (v:=L.l.v) (xs:=L.cs) es).cut (l:=L.f) (h:=L.cs.length) (m:=s1 L.l.v) p (Nat.le_refl _) (E.ef (v:=L.l.v) (xs:=L.cs) es).cap (Nat.le_refl _);rw[List.take_length]at n9;exact n9) (by rw[List.length_replicate,List.length_drop];omega) (by rw[List.length_replicate];exact Nat.le_refl _) (by exact Nat.le_refl _) (tA es λw E=>?_));rw[eh2]at E;refine hA rfl (iM rfl ?_);refine ao 3 E ?_;refine ow 0 12 (e5 [0,1,2,3,4,5,6,7,8,9,10,11] (.one 12 .nil)) [] λw E=>?_;refine tw rfl (λw E=>oM (v:=(e4 c (2*L.cs.length+1) (2*L.cs.length+1))) rfl eY) ?_;refine ao 1 E λw E=>?_;refine tw rfl (λw E=>hq (l:=(L.cs.drop L.f).length) (h':=2*L.cs.length+1) (m:=2*L.cs.length+1) (E.ef (v:=(e4 c (2*L.cs.length+1) (2*L.cs.length+1))) (xs:=(L.cs.drop L.f++List.replicate (2*L.cs.length+1-(L.cs.drop L.f).length) ec)) es) ⟨rfl,Nat.le_refl _⟩ ⟨⟨by rw[RR],rfl⟩,Nat.le_refl _⟩ ⟨⟨_,rfl⟩,by rw[List.length_drop];omega⟩ eY) ?_;refine ao 8 E λw E=>?_;refine tw rfl (λw E=>hq (l:=0) (h':=L.f) (m:=s1 L.l.v) (E.ef (v:=L.l.v) (xs:=L.cs) es) ⟨rfl,Nat.le_refl _⟩ ⟨⟨_,rfl⟩,Nat.le_trans p (E.ef (v:=L.l.v) (xs:=L.cs) es).cap⟩ ⟨rfl,Nat.zero_le _⟩ eY) ?_;refine hA rfl (PX (α:=eu) (v:=(e4 c (2*L.cs.length+1) (2*L.cs.length+1))) (xs:=(L.cs.drop L.f++List.replicate (2*L.cs.length+1-(L.cs.drop L.f).length) ec)) (ys:=L.cs.take L.f) (n:=(L.cs.drop L.f).length) (m:=2*L.cs.length+1) E es (by rw[RR];rfl) ((E.ef (v:=L.l.v) (xs:=L.cs) es).F2 p (Nat.le_trans p (E.ef (v:=L.l.v) (xs:=L.cs) es).cap) (Nat.le_refl _)) (by rw[RR,List.length_drop,List.length_take];omega) (by rw[RR];exact Nat.le_refl _) (by exact Nat.le_refl _) (tA es λw E=>?_));rw[eh3 p]at E;refine ao 1 E λw E=>?_;obtain⟨eZ,M⟩:∃eZ:eu,(e4 c (2*L.cs.length+1) (2*L.cs.length+1))=eZ.v:=⟨⟨some ⟨c,0,none⟩,2*L.cs.length+1,2*L.cs.length+1⟩,rfl⟩;rw[M]at E⊢;refine s4 2 E λw E=>?_;refine ea (oM (v:=(oK ae k (O.eo Ring))) rfl ?_);refine ea (oM (v:=(oK ae k (O.eo Ring))) rfl ?_);refine ew 4 E λw E=>?_;have a:k<(aw.set k ⟨eZ,(L.f:Int),(L.q.length:Int)⟩).length:=by rw[List.length_set];exact j
     have s:(aw.set k ⟨eZ,(L.f:Int),(L.q.length:Int)⟩)[k]=⟨eZ,(L.f:Int),(L.q.length:Int)⟩:=List.getElem_set_self a;refine ea (Z.nilCheck rfl ((E.ef (v:=ae) (xs:=(aw.set k ⟨eZ,(L.f:Int),(L.q.length:Int)⟩)) es).sv a) (ea (Z.fieldAddr rfl ((E.ef (v:=ae) (xs:=(aw.set k ⟨eZ,(L.f:Int),(L.q.length:Int)⟩)) es).sv a) (oA (pr (v:=ae) (u:=i6 0) (eo:=1) (xs:=(aw.set k ⟨eZ,(L.f:Int),(L.q.length:Int)⟩)) (i:=k) (off:=1) (ds:=⟨eZ,0,(L.q.length:Int)⟩) E es a rfl rfl rfl (by decide) (o0 _ _) (by rw[s];exact ehB (⟨eZ,(L.f:Int),(L.q.length:Int)⟩:Ring) 0) (tA es λw E=>?_))))));rw[List.set_set]at E;refine ew 2 E λw E=>?_;exact⟨⟨eZ,0,kf L.cs L.f,L.q⟩,_,⟨rfl,rfl,trivial⟩,((E.pick (e:=B eZ.v 134 (kf L.cs L.f)) es).pick (e:=B ae 493 _) es).sub (.cons₂ _ (.cons₂ _ (.cons _ (List.Sublist.refl _)))),ehJ o K (by omega),rfl,by rw[OV];show L.q.length<_;omega,rfl⟩
   .
     exact⟨L,aw,⟨rfl,rfl,trivial⟩,E,o,rfl,by have:=o.1;omega,(by rw[<-D];exact(List.set_getElem_self j).symm)⟩
 .
   rintro f w ⟨L1,t,F,E,x,G,W,y⟩;refine io _ F (λg=>?_);clear F;refine eI 2 E λw E=>?_;subst y;have a:k<(aw.set k L1.r).length:=by rw[List.length_set];exact j
   have s:(aw.set k L1.r)[k]=L1.r:=List.getElem_set_self a;have d:k<(aw.set k (⟨L1.l,L1.f,L1.cs,L1.q++[(b,xs)]⟩:nm).r).length:=by rw[List.length_set];exact j
   have z:(aw.set k (⟨L1.l,L1.f,L1.cs,L1.q++[(b,xs)]⟩:nm).r)[k]=(⟨L1.l,L1.f,L1.cs,L1.q++[(b,xs)]⟩:nm).r:=List.getElem_set_self d;have N:=x.2.1;have X:L1.f<L1.cs.length:=by have:=x.2.2.1;omega
   have P:L1.q.length=L.q.length:=by rw[G]
   refine ea (oM (v:=(oK ae k (O.eo Ring))) rfl (ea (Z.nilCheck rfl ((E.ef (v:=ae) (xs:=(aw.set k L1.r)) es).sv a) (ea (Z.fieldAddr rfl ((E.ef (v:=ae) (xs:=(aw.set k L1.r)) es).sv a) (ea (ap rfl (dK (show ar _ (oK ae k (O.eo Ring)) (O.enc L1.r)from(congrArg O.enc s)▸(E.ef (v:=ae) (xs:=(aw.set k L1.r)) es).se a) 2 (BV L1)) (ea (Z.add rfl rfl ((wrap_i64 (by omega)).trans (by simp:_=((L1.q++[(b,xs)]).length:Int))) (ea (Z.nilCheck rfl ((E.ef (v:=ae) (xs:=(aw.set k L1.r)) es).sv a) (ea (Z.fieldAddr rfl ((E.ef (v:=ae) (xs:=(aw.set k L1.r)) es).sv a) (oA (pr (v:=ae) (u:=.int .i64 ((L1.q++[(b,xs)]).length:Int)) (eo:=1) (xs:=(aw.set k L1.r)) (i:=k) (off:=2) (ds:=(⟨L1.l,L1.f,L1.cs,L1.q++[(b,xs)]⟩:nm).r) E es a rfl rfl rfl (by decide) (o0 _ _) (by rw[s];exact BG L1.r _) (tA es λw E=>?_))))))))))))))));rw[List.set_set]at E;refine ew 2 E ?_;refine ow 0 12 (e5 [0,1,2,3,4,5,6,7,8,9,11] (oJ [10,12,13] .nil)) [] λw E=>?_;have Q:((L1.f+L1.q.length)%L1.cs.length)<L1.cs.length:=Nat.mod_lt _ (by omega);refine tw rfl (λw E=>oM (v:=(oK ae k (O.eo Ring))) rfl eY) ?_;refine tw rfl (λw E=>Z.nilCheck rfl ((E.ef (v:=ae) (xs:=(aw.set k (⟨L1.l,L1.f,L1.cs,L1.q++[(b,xs)]⟩:nm).r)) es).sv d) eY) ?_;refine tw rfl (λw E=>Z.fieldAddr rfl ((E.ef (v:=ae) (xs:=(aw.set k (⟨L1.l,L1.f,L1.cs,L1.q++[(b,xs)]⟩:nm).r)) es).sv d) eY) ?_;refine tw rfl (λw E=>ap rfl (dK (show ar _ (oK ae k (O.eo Ring)) (O.enc (⟨L1.l,L1.f,L1.cs,L1.q++[(b,xs)]⟩:nm).r)from(congrArg O.enc z)▸(E.ef (v:=ae) (xs:=(aw.set k (⟨L1.l,L1.f,L1.cs,L1.q++[(b,xs)]⟩:nm).r)) es).se d) 0 (BB (⟨L1.l,L1.f,L1.cs,L1.q++[(b,xs)]⟩:nm))) eY) ?_;refine ao 2 E λw E=>?_;refine tw rfl (λw E=>Z.nilCheck rfl ((E.ef (v:=ae) (xs:=(aw.set k (⟨L1.l,L1.f,L1.cs,L1.q++[(b,xs)]⟩:nm).r)) es).sv d) eY) ?_;refine tw rfl (λw E=>Z.fieldAddr rfl ((E.ef (v:=ae) (xs:=(aw.set k (⟨L1.l,L1.f,L1.cs,L1.q++[(b,xs)]⟩:nm).r)) es).sv d) eY) ?_;refine tw rfl (λw E=>ap rfl (dK (show ar _ (oK ae k (O.eo Ring)) (O.enc (⟨L1.l,L1.f,L1.cs,L1.q++[(b,xs)]⟩:nm).r)from(congrArg O.enc z)▸(E.ef (v:=ae) (xs:=(aw.set k (⟨L1.l,L1.f,L1.cs,L1.q++[(b,xs)]⟩:nm).r)) es).se d) 2 (BV (⟨L1.l,L1.f,L1.cs,L1.q++[(b,xs)]⟩:nm))) eY) ?_;refine tw rfl (λw E=>Z.sub rfl rfl ((wrap_i64 (by simp;omega)).trans (by simp:_=(L1.q.length:Int))) eY) ?_;refine ao 1 E λw E=>?_;refine ol rfl (Z.call (BK (show ar _ (oK ae k (O.eo Ring)) (O.enc (⟨L1.l,L1.f,L1.cs,L1.q++[(b,xs)]⟩:nm).r)from(congrArg O.enc z)▸(E.ef (v:=ae) (xs:=(aw.set k (⟨L1.l,L1.f,L1.cs,L1.q++[(b,xs)]⟩:nm).r)) es).se d) (E.ef (v:=L1.l.v) (xs:=L1.cs) es) (by show 0<L1.cs.length;omega) N (by show L1.f<=4001;omega) (by omega)) rfl ?_);rintro A w ⟨C,R⟩;replace E:=E.ei R;replace C:A= .int .i64 (((L1.f+L1.q.length)%L1.cs.length:Nat):Int):=C;subst C;refine⟨pm E,?_⟩;refine hA rfl (nL rfl (E.ef (v:=L1.l.v) (xs:=L1.cs) es) rfl (by omega) ?_);refine nP rfl (pr (v:=L1.l.v) (u:=b.v) (eo:=1) (xs:=L1.cs) (i:=((L1.f+L1.q.length)%L1.cs.length)) (off:=0) (ds:=b) E es Q (yI L1.l.v ((L1.f+L1.q.length)%L1.cs.length) (O.eo eu)).symm rfl (by rfl) (by decide) (O.one (α:=eu) b) (mT (by rfl)) (tA es λw E=>?_));refine ao 2 E λw E=>?_;exact⟨⟨L1.l,L1.f,L1.cs.set ((L1.f+L1.q.length)%L1.cs.length) b,L1.q++[(b,xs)]⟩,by rw[G],ehQ x (by omega),E⟩
theorem eh8(c:k<aw.length)(g:aw[k]=L.r)(d:gm L)(t:U en (B ae 493 aw::B L.l.v 134 L.cs::S) w0):eJ 328 #[(oK ae k (O.eo Ring))] w0 (λu w'=>∃L',L'.q=L.q.tail/\gm L'/\u= .tuple #[(L.q.headD (ec,[])).1.v,.bool (!L.q.isEmpty)]/\U en (B ae 493 (aw.set k L'.r)::B L'.l.v 134 L'.cs::S) w'):=by
 have x:=d.2.1;have y:=d.1;have:=lC c;have:=Gx c g;refine eH 16 t func328 ntmps328 results328 rfl<|na 10 0 (λ_ z w E=>?_) (λn z w E=>?_)
 .
   have em:L.q=[]:=List.length_eq_zero_iff.1 (by omega);rw[em];exact⟨L,by rw[em];rfl,d,rfl,by rw[<-g,List.set_getElem_self];exact E⟩
 .
   obtain⟨b,q,h⟩:∃b q,L.q=b::q:=by
    cases A:L.q with
    |nil=>rw[A]at n;simp at n
    |cons b q=>exact⟨b,q,rfl⟩
   obtain⟨C,o,p⟩:=ehZ d h;have j:L.cs[L.f]=b.1:=by rw[List.getElem?_eq_getElem o]at p;exact Option.some.inj p
   refine eI 3 E ?_;refine ow 16 21 (e5 [0,1,2,3,4,5,6,7,8,9,10,11,12,13,14,15,16,17,18,19,20] (.one 21 .nil)) [] λw E=>?_;refine tw rfl (λw E=>nL rfl (E.ef (v:=L.l.v) (xs:=L.cs) es) rfl (by omega) eY) (tw rfl (λw E=>ap rfl ((show s0 _ _ _ _ (b.1.v)from j▸((E.ef (v:=L.l.v) (xs:=L.cs) es).se o).ax rfl)) eY) ?_);refine tw rfl (λw E=>oM (v:=eF) rfl eY) ?_;refine ao 2 E ⟨⟨by omega⟩,λ_=>xk 7 λw E=>?_⟩;refine ea (Z.call (BK (b7:=(oK ae k (O.eo Ring))) (L:=(⟨L.l,L.f,(L.cs.set L.f ec),L.q⟩:nm)) (i:=1) (show ar _ (oK ae k (O.eo Ring)) (O.enc (⟨L.l,L.f,(L.cs.set L.f ec),L.q⟩:nm).r)from(congrArg O.enc (g:aw[k]=L.r))▸(E.ef (v:=ae) (xs:=aw) es).se c) (E.ef (v:=L.l.v) (xs:=(L.cs.set L.f ec)) es) (by show 0<(L.cs.set L.f ec).length;rw[List.length_set];omega) (by show(L.cs.set L.f ec).length<=4001;rw[List.length_set];exact x) (by show L.f<=4001;omega) (by omega)) rfl ?_);rintro D w ⟨m,F⟩;replace E:=E.ei F;replace m:D= .int .i64 (((L.f+1)%L.cs.length:Nat):Int):=(by rw[m];show Value.int .i64 (((L.f+1)%(L.cs.set L.f ec).length:Nat):Int)=_;rw[List.length_set]);subst m;refine ew 3 E λw E=>?_;have a:k<(aw.set k (⟨L.l,(((L.f+1)%L.cs.length):Nat),(L.q.length:Int)⟩:Ring)).length:=by rw[List.length_set];exact c
   have s:(aw.set k (⟨L.l,(((L.f+1)%L.cs.length):Nat),(L.q.length:Int)⟩:Ring))[k]=(⟨L.l,(((L.f+1)%L.cs.length):Nat),(L.q.length:Int)⟩:Ring):=List.getElem_set_self a;have:=lC a;refine ew 6 E λw E=>?_;refine ea (Z.fieldAddr rfl ((E.ef (v:=ae) (xs:=(aw.set k (⟨L.l,(((L.f+1)%L.cs.length):Nat),(L.q.length:Int)⟩:Ring))) es).sv a) ?_);refine ea (ap rfl (dK (show ar _ (oK ae k (O.eo Ring)) (O.enc (⟨L.l,(((L.f+1)%L.cs.length):Nat),(L.q.length:Int)⟩:Ring))from(congrArg O.enc s)▸(E.ef (v:=ae) (xs:=(aw.set k (⟨L.l,(((L.f+1)%L.cs.length):Nat),(L.q.length:Int)⟩:Ring))) es).se a) 2 (show(O.enc (⟨L.l,(((L.f+1)%L.cs.length):Nat),(L.q.length:Int)⟩:Ring))[2]? =some (i6 L.q.length)from BP (⟨L.l,(((L.f+1)%L.cs.length):Nat),(L.q.length:Int)⟩:Ring))) (ea (Z.sub rfl rfl ((wrap_i64 (by omega)).trans (by rw[h];simp:_=(q.length:Int))) (ea (Z.nilCheck rfl ((E.ef (v:=ae) (xs:=(aw.set k (⟨L.l,(((L.f+1)%L.cs.length):Nat),(L.q.length:Int)⟩:Ring))) es).sv a) (ea (Z.fieldAddr rfl ((E.ef (v:=ae) (xs:=(aw.set k (⟨L.l,(((L.f+1)%L.cs.length):Nat),(L.q.length:Int)⟩:Ring))) es).sv a) (oA (pr (v:=ae) (u:=i6 q.length) (eo:=1) (xs:=(aw.set k (⟨L.l,(((L.f+1)%L.cs.length):Nat),(L.q.length:Int)⟩:Ring))) (i:=k) (off:=2) (ds:=(⟨L.l,(L.f+1)%L.cs.length,L.cs.set L.f ec,q⟩:nm).r) E es a rfl rfl rfl (by decide) (o0 _ _) (by rw[s];exact BG (⟨L.l,(((L.f+1)%L.cs.length):Nat),(L.q.length:Int)⟩:Ring) _) (tA es λw E=>?_))))))))));rw[List.set_set]at E;refine ew 4 E λw E=>?_;refine ea (oM (v:=b.1.v) rfl (ea (wy (v:=b.1.v) rfl (ea (ww rfl (ew 4 E λw E=>?_))))));rw[h];exact⟨(⟨L.l,(L.f+1)%L.cs.length,L.cs.set L.f ec,q⟩:nm),rfl,C,rfl,(E.pick (e:=B ae 493 _) es)⟩
end
section
open Go.Proofs Tryz
variable{L:nm}{M sr k n p:Nat}{S:List eL}{b:gu}{ob ae s t:eu}{i:Int}{o:Option Nat}{q:List gu}{aw:List Ring}{v:Value}{w w0 en:World}{xs:List eU}
structure ni where
 ae:eu
 ob:eu
 D:List nm
variable{d:ni}
def ct(q:List gu):Nat:=(q.map λb=>b.2.length).sum
def rT(L:nm):eU:=⟨(ct L.q:Int)⟩
def RH(p:Nat)(d:ni):List eL:=[V p (O.enc (r0.mk d.ae d.ob)) 329,B d.ae.v 493 (d.D.map nm.r),B d.ob.v 3 (d.D.map rT)]
def mb(p:Nat)(d:ni):eL:=hD (RH p d++d.D.flatMap uP)
def xV(D:List nm)(k:Nat):List eL:=(D.take k++D.drop (k+1)).flatMap uP
structure uG(sr:Nat)(d:ni):Prop where
 n:d.D.length<=64
 all:∀L∈d.D,gm L/\L.q.length<=sr/\ct L.q<=64*sr
theorem uG.at(h:uG sr d)(a:k<d.D.length):gm d.D[k]/\d.D[k].q.length<=sr/\ct d.D[k].q<=64*sr:=h.all _ (List.getElem_mem a)
theorem uG.set(h:uG sr d)(e:sr<=M)(G:gm L)(Y:L.q.length<=M)(ez:ct L.q<=64*M):uG M ⟨ae,ob,d.D.set k L⟩:=by
 refine⟨by simpa using h.n,λL' f=>?_⟩;rcases List.mem_or_eq_of_mem_set f with e6|rfl
 .obtain⟨a,b,c⟩:=h.all _ e6;exact⟨a,by omega,by omega⟩
 exact⟨G,Y,ez⟩
theorem uG.pv(h:uG sr d)(e:sr<=M):uG M d:=⟨h.n,λL f=>by obtain⟨a,b,c⟩:=h.all _ f;exact⟨a,by omega,by omega⟩⟩
section
variable{w0 w:World}{S:List eL}{p:Nat}{d:ni}
theorem U.BJ(E:U w0 (mb p d::S) w):U w0 (V p (O.enc (r0.mk d.ae d.ob)) 329::B d.ae.v 493 (d.D.map nm.r)::B d.ob.v 3 (d.D.map rT)::(d.D.flatMap uP++S)) w:=by
 have:=E.dr;rw[List.append_assoc]at this;exact this
theorem U.OK(E:U w0 (V p (O.enc (r0.mk d.ae d.ob)) 329::B d.ae.v 493 (d.D.map nm.r)::B d.ob.v 3 (d.D.map rT)::(d.D.flatMap uP++S)) w):U w0 (mb p d::S) w:=
 U.closed (by rw[List.append_assoc];exact E)
structure OX(w:World)(p:Nat)(d:ni):Prop where
 b:ar w (N p) (O.enc (r0.mk d.ae d.ob))
 l:ev w d.ae.v (d.D.map nm.r)
 c:ev w d.ob.v (d.D.map rT)
 q:∀L∈d.D,ev w L.l.v L.cs/\∀b∈L.q,ev w b.1.v b.2
theorem OX.ei{w':World}(h:OX w p d)(a:eB w w'):OX w' p d:=⟨h.b.ei a,h.l.ei a,h.c.ei a,λL e=>⟨(h.q L e).1.ei a,λb f=>((h.q L e).2 b f).ei a⟩⟩
theorem U.BQ(h:U w0 S w)(c:tX (mb p d) S):OX w p d:=by
 have G:=h.get c;unfold mb at G;rw[pK]at G;refine⟨?_,?_,?_,λL a=>⟨?_,λb e=>?_⟩⟩
 .have:=G.2 (V p (O.enc (r0.mk d.ae d.ob)) 329) (by simp[RH]);unfold V at this;exact ar.dV this
 .have:=G.2 (B d.ae.v 493 (d.D.map nm.r)) (by simp[RH]);rw[dv]at this;exact this.ef
 .have:=G.2 (B d.ob.v 3 (d.D.map rT)) (by simp[RH]);rw[dv]at this;exact this.ef
 .have:=G.2 (B L.l.v 134 L.cs) (List.mem_append_right _ (List.mem_flatMap.2 ⟨L,a,List.mem_cons_self⟩));rw[dv]at this;exact this.ef
 have:=G.2 (B b.1.v 3 b.2) (List.mem_append_right _ (List.mem_flatMap.2 ⟨L,a,List.mem_cons_of_mem _ (List.mem_map.2 ⟨b,e,rfl⟩)⟩));rw[dv]at this;exact this.ef
theorem U.elt{α:Type}[O α]{v:Value}{ek:TypeId}{xs:List α}{tg:List eL}(E:U w0 S w)(a:iD (B v ek xs) (B (nT v 0 xs.length xs.length (O.eo α)) ek xs) S tg):U w0 tg w:=
 E.Px (k:=xs.length) (m:=xs.length) (Nat.le_refl _) (Nat.le_refl _) (E.ef a.kR).cap (show iD _ (B _ ek (xs.take xs.length)) S tg from(by rw[List.take_length];exact a))
theorem ela{D:List nm}{k:Nat}(b:k<D.length):(D.flatMap uP).Perm (uP D[k]++xV D k):=by
 have e:D.take k++D[k]::D.drop (k+1)=D:=by rw[<-List.drop_eq_getElem_cons b,List.take_append_drop]
 have h:=(List.perm_middle (l₁:=D.take k) (l₂:=D.drop (k+1)) (a:=D[k])).flatMap_right uP;rwa[e,List.flatMap_cons]at h
theorem elo{D:List nm}{k:Nat}(b:k<D.length)(L:nm):((D.set k L).flatMap uP).Perm (uP L++xV D k):=by
 have h:=(List.perm_middle (l₁:=D.take k) (l₂:=D.drop (k+1)) (a:=L)).flatMap_right uP;rw[List.set_eq_take_append_cons_drop,if_pos b];rwa[List.flatMap_cons]at h
theorem U.BZ(A:List eL){D:List nm}{k:Nat}(E:U w0 (A++(D.flatMap uP++S)) w)(a:k<D.length):U w0 (A++(uP D[k]++(xV D k++S))) w:=by
 refine E.hK (List.Perm.append_left _ ?_);rw[<-List.append_assoc];exact(ela a).append_right S
theorem eli(A:List eL){D:List nm}{k:Nat}(a:k<D.length){L:nm}(E:U w0 (A++(uP L++(xV D k++S))) w):U w0 (A++((D.set k L).flatMap uP++S)) w:=by
 refine E.hK (List.Perm.append_left _ ?_);rw[<-List.append_assoc];exact((elo a L).append_right S).symm
end
abbrev wQ:=List (List (List eU))
def c0(i:Int)(n:Nat):Bool:=decide (0<=i)&&decide (i<(n:Int))
def pt(C:wQ)(i:Int):List (List eU):=if c0 i C.length then C.getD i.toNat []else[]
def E6(C:wQ)(i:Int):wQ:=if c0 i C.length then C.set i.toNat (pt C i).tail else C
def kp(C:wQ)(i:Int)(xs:List eU):Bool:=c0 i C.length&&(decide (1<=xs.length)&&decide (xs.length<=64))
def RL(C:wQ)(i:Int)(xs:List eU):wQ:=if kp C i xs then C.set i.toNat (pt C i++[xs])else C
def E7(C:wQ)(i:Int):Nat:=((pt C i).map List.length).sum
def ni.C(d:ni):wQ:=d.D.map λL=>L.q.map Prod.snd
theorem ni.qj(d:ni):d.C.length=d.D.length:=List.length_map _
theorem E8(h:k<n):c0 (k:Int) n=true:=by simp[c0,h]
theorem Ux(h:c0 i n=true):∃k:Nat,i=(k:Int)/\k<n:=by
 simp only[c0,Bool.and_eq_true,decide_eq_true_eq]at h;exact⟨i.toNat,by omega,by omega⟩
theorem laneC_at{C:wQ}(h:k<C.length):pt C (k:Int)=C[k]:=by
 unfold pt;rw[E8 h,if_pos rfl,Int.toNat_natCast,List.getD_eq_getElem?_getD,List.getElem?_eq_getElem h];rfl
theorem B0{C:wQ}(h:c0 i C.length=false):pt C i=[]:=by unfold pt;rw[h];rfl
theorem ni.laneC_at(d:ni)(h:k<d.D.length):pt d.C (k:Int)=d.D[k].q.map Prod.snd:=by
 rw[Go.Fer.laneC_at (by rw[d.qj];exact h)];simp[ni.C]
theorem ni.B1(d:ni):ni.C ⟨ae,ob,d.D.set k L⟩=d.C.set k (L.q.map Prod.snd):=by simp[ni.C,List.map_set]
theorem eln(q:List gu):ct q=((q.map Prod.snd).map List.length).sum:=by simp[ct,List.map_map,Function.comp_def]
theorem els(h:k<d.D.length):E7 d.C (k:Int)=ct d.D[k].q:=by rw[E7,d.laneC_at h,eln]
def xK:gu:=(ec,[])
theorem U.elr(A:List eL)(E:U w0 (A++(gf q++S)) w):U w0 (B (q.headD xK).1.v 3 (q.headD xK).2::(A++(gf q.tail++S))) w:=by
 cases q with
 |nil=>exact E.lD _
 |cons b q=>exact E.hK (List.perm_middle (l₁:=A) (l₂:=gf q++S) (a:=B b.1.v 3 b.2))
theorem elh(q:List gu)(b:gu):gf (q++[b])=gf q++[B b.1.v 3 b.2]:=by simp[gf]
theorem ell:ct (q++[b])=ct q+b.2.length:=by simp[ct]
section
variable{w0 w:World}{S:List eL}{p:Nat}{d:ni}
theorem U.B2{e:eL}{k:Nat}{L:nm}(b:k<d.D.length)(E:U w0 (e::B d.ae.v 493 ((d.D.map nm.r).set k L.r)::B L.l.v 134 L.cs::V p (O.enc (r0.mk d.ae d.ob)) 329::B d.ob.v 3 ((d.D.map rT).set k (rT L))::(gf L.q++(xV d.D k++S))) w):U w0 (e::mb p ⟨d.ae,d.ob,d.D.set k L⟩::S) w:=by
 have G:=(((E.pick (e:=B d.ob.v 3 ((d.D.map rT).set k (rT L))) .e6).pick (e:=B d.ae.v 493 ((d.D.map nm.r).set k L.r)) .Y).pick (e:=V p (O.enc (r0.mk d.ae d.ob)) 329) .e6).pick (e:=e) .ez;have Y:=eli [e,V p (O.enc (r0.mk d.ae d.ob)) 329,B d.ae.v 493 ((d.D.map nm.r).set k L.r),B d.ob.v 3 ((d.D.map rT).set k (rT L))] b (L:=L) G;rw[<-List.map_set,<-List.map_set]at Y;have ez:=Y.hK (List.perm_middle (l₁:=V p (O.enc (r0.mk d.ae d.ob)) 329::B d.ae.v 493 ((d.D.set k L).map nm.r)::B d.ob.v 3 ((d.D.set k L).map rT)::((d.D.set k L).flatMap uP)) (l₂:=S) (a:=e)).symm;exact(ez.OK (d:=⟨d.ae,d.ob,d.D.set k L⟩)).swap
theorem U.eld{k:Nat}{L:nm}(a:k<d.D.length)(E:U w0 (B d.ae.v 493 ((d.D.map nm.r).set k L.r)::B L.l.v 134 L.cs::V p (O.enc (r0.mk d.ae d.ob)) 329::B d.ob.v 3 ((d.D.map rT).set k (rT L))::(gf L.q++(xV d.D k++S))) w):U w0 (mb p ⟨d.ae,d.ob,d.D.set k L⟩::S) w:=
 ((E.lD (α:=eU) 3).B2 a).nF
theorem elc(A:List eL){q:List gu}{b:gu}(E:U w0 (B b.1.v 3 b.2::(A++(gf q++S))) w):U w0 (A++(gf (q++[b])++S)) w:=by
 rw[elh,List.append_assoc,<-List.append_assoc];refine U.hK ?_ (List.perm_middle (l₁:=A++gf q) (l₂:=S) (a:=B b.1.v 3 b.2)).symm;rw[List.append_assoc];exact E
end
theorem elu:ct q=(q.headD xK).2.length+ct q.tail:=by cases q<;>simp[ct,xK]
theorem elm:(q.map Prod.snd).headD []=(q.headD xK).2:=by cases q<;>rfl
theorem elf(b:ev w0 v xs)(eM:xs.length<=100000):eJ 283 #[v] w0 (λu w'=>sN w0 w' u 3 xs/\eB w0 w'):=by
 obtain⟨a,c,rfl⟩:=b.eq;refine eH 9 (eG _) func283 ntmps283 results283 rfl λw E=>?_;refine ea (fS rfl rfl (ew 2 E<|om 8 4 (λd w E=>?_) (λd w E=>?_)))
 .
   cases a with
   |none=>
    obtain⟨rfl,_,_⟩:=b.wb;exact⟨sN.nil _ _ _,E.J⟩
   |some a=>cases d
 .
   refine ho 1 E (sL ([]:List eU)) λe w E=>?_;refine ea (dS rfl E rfl es ((b.ei E.J)) (by(try simp only[List.length_append,List.length_cons,List.length_nil,List.length_map]);omega) (by simp only[maxLen];(try simp only[List.length_append,List.length_cons,List.length_nil,List.length_map]);omega) ?_);intro f w E;replace E:=E _ es;refine ew 5 E λw E=>?_;have G:=E.ut es;simp only[List.nil_append]at G;exact⟨G,E.J⟩
theorem Uj{s:r0}(c:ar w0 (N p) (O.enc s))(d:ev w0 s.RN.v aw):tN 281 #[N p,.int .i64 i] w0 (.bool (c0 i aw.length)):=by
 refine eH 10 (eG _) func281 ntmps281 results281 rfl λw E=>?_;refine tn.eV _ 7 _ rfl rfl rfl rfl (λk=>oD rfl ⟨rfl,eB.refl _⟩) (λw a=>?_);replace E:=E.ei a;refine tn.eV _ 7 _ rfl rfl rfl rfl (λe=>Z.geq (by first|exact a7 rfl e|rfl) rfl ⟨rfl,eB.refl _⟩) (λw a=>?_);replace E:=E.ei a;refine ea (fN rfl (by first|rfl) rfl (ew 1 E λw E=>(tn.eV _ 11 _ rfl rfl rfl rfl (λl=>oD rfl ⟨rfl,eB.refl _⟩) (λw a=>?_))));replace E:=E.ei a;refine tn.eV _ 11 _ rfl rfl rfl rfl (λm=>oM (v:=N p) rfl ⟨rfl,eB.refl _⟩) (λw a=>?_);replace E:=E.ei a;refine tn.eV _ 11 _ rfl rfl rfl rfl (λf=>sS (by first|exact a7 rfl f|rfl) ⟨rfl,eB.refl _⟩) (λw a=>?_);replace E:=E.ei a;refine tn.eV _ 11 _ rfl rfl rfl rfl (λg=>o9 (by first|exact a7 rfl g|rfl) ⟨rfl,eB.refl _⟩) (λw a=>?_);replace E:=E.ei a;refine tn.eV _ 11 _ rfl rfl rfl rfl (λh=>ap (by first|exact a7 rfl h|rfl) ((c.ei E.J).vS (ehK _)) ⟨rfl,eB.refl _⟩) (λw a=>?_);replace E:=E.ei a;refine tn.eV _ 11 _ rfl rfl rfl rfl (λj=>Z.hL (by first|exact a7 rfl j|rfl) ((d.ei E.J)) ⟨rfl,eB.refl _⟩) (λw a=>?_);replace E:=E.ei a;refine tn.eV _ 11 _ rfl rfl rfl rfl (λb=>Z.lss (by first|exact a7 rfl b|rfl) (by first|exact a7 rfl b|rfl) ⟨rfl,eB.refl _⟩) (λw a=>?_);replace E:=E.ei a;exact ea (fN rfl (by first|rfl) rfl (ew 5 E λw E=>(⟨congrArg Value.bool (by simp[c0,Bool.and_comm]),E.J⟩)))
def uW(s t:eu)(n:Nat):ni:=⟨s,t,List.replicate n ⟨ec,0,[],[]⟩⟩
theorem B3:(List.replicate n (⟨ec,0,[],[]⟩:nm)).flatMap uP=List.replicate n (B (eu.v ec) 134 ([]:List eu)):=by
 induction n with
 |zero=>rfl
 |succ n a=>rw[List.replicate_succ,List.flatMap_cons,a,List.replicate_succ];rfl
theorem U.B4(n:Nat)(E:U w0 S w):U w0 (List.replicate n (B (eu.v ec) 134 ([]:List eu))++S) w:=by
 induction n with
 |zero=>exact E
 |succ n a=>rw[List.replicate_succ];exact a.lD _
theorem B5(h:n<=64):uG 0 (uW s t n):=by
 refine⟨by simpa[uW]using h,λL a=>?_⟩;obtain rfl:=List.eq_of_mem_replicate a;exact⟨⟨Nat.le_refl _,by simp,.inr ⟨rfl,rfl⟩,λi h=>absurd h (by simp)⟩,Nat.le_refl _,Nat.le_refl _⟩
theorem B6:(uW s t n).C=List.replicate n []:=by simp[uW,ni.C]
theorem elp:eJ 77 #[.int .i64 i] w0 (λu w'=>(c0 (i-1) 64=false/\u= .tuple #[.pointer none,i6 1]/\eB w0 w')∨(c0 (i-1) 64=true/\∃p d,u= .tuple #[N p,i6 0]/\uG 0 d/\d.C=List.replicate i.toNat []/\d.ae.a.isNone=false/\jv w0 w' (mb p d)/\eB w0 w')):=by
 refine eH 12 (eG _) func77 ntmps77 results77 rfl λw E=>?_;refine tn.eV _ 6 _ rfl rfl rfl rfl (λt=>oD rfl ⟨rfl,eB.refl _⟩) (λw g=>?_);replace E:=E.ei g;refine tn.eV _ 6 _ rfl rfl rfl rfl (λo=>Z.gtr (by first|exact a7 rfl o|rfl) rfl ⟨rfl,eB.refl _⟩) (λw g=>?_);replace E:=E.ei g;refine ea (m8 rfl rfl (by first|rfl) (ew 2 E<|na 9 0 (λk q w E=>?_) (λk q w E=>?_)))
 .
   exact .inl ⟨by simp at k;simp[c0];omega,rfl,E.J⟩
 .
   have x:1<=i/\i<=64:=by simp at k;omega
   obtain⟨n,rfl⟩:∃n:Nat,i=(n:Int):=⟨i.toNat,by omega⟩;refine eI 3 E λw E=>?_;refine gU 8 (e5 [0,2] (.nc 1 3 (.one 3 (.look 4 (.one 5 (e5 [6,7] .nil)))) (.one 1 (.look 4 (.one 5 (e5 [6,7] .nil)))))) (by kernel_rfl) (λ_ _ _ h=>h) (λaM s=>?_);replace E:=E.ei s;have f:=E;have e:=eG aM;refine hi 2 f ?_;refine e3.nc rfl rfl rfl rfl ?_ ?_
   .refine lj (α:=Ring) (n:=n) (⟨ec,0,0⟩:Ring) rfl e rfl rfl (by omega) (by simp only[maxLen];omega) ?_;intro b w g e;refine⟨e.J,?_⟩;have E:=ik f e;refine ol rfl (lj (α:=eU) (n:=n) ⟨0⟩ rfl e rfl rfl (by omega) (by simp only[maxLen];omega) ?_);intro c w g e;refine⟨e.J,?_⟩;have E:=ik f e;refine si f rfl (λw E=>rV (r:=((r0.mk (ts b n n) (ts c n n)):r0)) (ps:=r0.parts ((r0.mk (ts b n n) (ts c n n)):r0)) (RS _) (by first|rfl|(simp only[hZ,dx,sM,nn,RS,r0.parts];rfl)) (by(repeat' (first|exact trivial|refine And.intro ?_ ?_))<;>first|rfl|exact O.eT _|(simp;done)) eY) ?_;refine ol rfl (br e rfl ?_);intro j w g e;refine⟨e.J,?_⟩;have E:=ik f e;refine hi 2 f ?_;refine e3.nil (s4 3 E λw E=>?_);refine .inr ⟨by simp[c0];omega,j,uW (ts b n n) (ts c n n) n,rfl,B5 (by omega),B6,rfl,?_,E.J⟩;have G:U w0 (V j (O.enc (r0.mk (ts b n n) (ts c n n))) 329::B (eu.v (ts b n n)) 493 (List.replicate n (⟨ec,0,0⟩:Ring))::B (eu.v (ts c n n)) 3 (List.replicate n (⟨0⟩:eU))::[]) w:=
     E.hK (by first|exact List.Perm.refl _|exact .cons _ (List.Perm.swap _ _ _))
    have Y:=(G.B4 n).hK (List.perm_append_comm);have ez:U w0 (V j (O.enc (r0.mk (ts b n n) (ts c n n))) 329::B (eu.v (ts b n n)) 493 ((uW (ts b n n) (ts c n n) n).D.map nm.r)::B (eu.v (ts c n n)) 3 ((uW (ts b n n) (ts c n n) n).D.map rT)::((uW (ts b n n) (ts c n n) n).D.flatMap uP++[])) w:=by
     have l:(uW (ts b n n) (ts c n n) n).D.map nm.r=List.replicate n (⟨ec,0,0⟩:Ring):=List.map_replicate;have m:(uW (ts b n n) (ts c n n) n).D.map rT=List.replicate n (⟨0⟩:eU):=List.map_replicate;rw[l,m,show(uW (ts b n n) (ts c n n) n).D.flatMap uP=_ from B3,List.append_nil];exact Y
    exact(ez.OK (d:=uW (ts b n n) (ts c n n) n)).zn .nU
   refine lj (α:=eU) (n:=n) ⟨0⟩ rfl e rfl rfl (by omega) (by simp only[maxLen];omega) ?_;intro c w g e;refine⟨e.J,?_⟩;have E:=ik f e;refine ol rfl (lj (α:=Ring) (n:=n) (⟨ec,0,0⟩:Ring) rfl e rfl rfl (by omega) (by simp only[maxLen];omega) ?_);intro b w g e;refine⟨e.J,?_⟩;have E:=ik f e;refine si f rfl (λw E=>rV (r:=((r0.mk (ts b n n) (ts c n n)):r0)) (ps:=r0.parts ((r0.mk (ts b n n) (ts c n n)):r0)) (RS _) (by first|rfl|(simp only[hZ,dx,sM,nn,RS,r0.parts];rfl)) (by(repeat' (first|exact trivial|refine And.intro ?_ ?_))<;>first|rfl|exact O.eT _|(simp;done)) eY) ?_;refine ol rfl (br e rfl ?_);intro j w g e;refine⟨e.J,?_⟩;have E:=ik f e;refine hi 2 f ?_;refine e3.nil (s4 3 E λw E=>?_);refine .inr ⟨by simp[c0];omega,j,uW (ts b n n) (ts c n n) n,rfl,B5 (by omega),B6,rfl,?_,E.J⟩;have G:U w0 (V j (O.enc (r0.mk (ts b n n) (ts c n n))) 329::B (eu.v (ts b n n)) 493 (List.replicate n (⟨ec,0,0⟩:Ring))::B (eu.v (ts c n n)) 3 (List.replicate n (⟨0⟩:eU))::[]) w:=
    E.hK (by first|exact List.Perm.refl _|exact .cons _ (List.Perm.swap _ _ _))
   have Y:=(G.B4 n).hK (List.perm_append_comm);have ez:U w0 (V j (O.enc (r0.mk (ts b n n) (ts c n n))) 329::B (eu.v (ts b n n)) 493 ((uW (ts b n n) (ts c n n) n).D.map nm.r)::B (eu.v (ts c n n)) 3 ((uW (ts b n n) (ts c n n) n).D.map rT)::((uW (ts b n n) (ts c n n) n).D.flatMap uP++[])) w:=by
    have l:(uW (ts b n n) (ts c n n) n).D.map nm.r=List.replicate n (⟨ec,0,0⟩:Ring):=List.map_replicate;have m:(uW (ts b n n) (ts c n n) n).D.map rT=List.replicate n (⟨0⟩:eU):=List.map_replicate;rw[l,m,show(uW (ts b n n) (ts c n n) n).D.flatMap uP=_ from B3,List.append_nil];exact Y
   exact(ez.OK (d:=uW (ts b n n) (ts c n n) n)).zn .nU
theorem B7(ep:OX w0 p d):tN 212 #[N p,.int .i64 i] w0 (i6 (E7 d.C i:Nat)):=by
 refine eH 10 (eG _) func212 ntmps212 results212 rfl λw E=>?_;refine ea (Z.call (Uj (ep.ei E.J).b (ep.ei E.J).l) rfl ?_);rintro _ w ⟨rfl,f⟩;replace E:=E.ei f;rw[List.length_map];refine ew 3 E<|na 8 0 (λa g w E=>?_) (λa g w E=>?_)
 .
   have ey:c0 i d.D.length=false:=by simpa using a
   rw[E7,B0 (by rw[d.qj];exact ey)];exact⟨rfl,E.J⟩
 .
   have ey:c0 i d.D.length=true:=by simpa using a
   obtain⟨k,rfl,e⟩:=Ux ey;have h:k<(d.D.map rT).length:=by rw[List.length_map];exact e
   have j:(d.D.map rT)[k]=rT d.D[k]:=List.getElem_map ..;have:=iu ep.b;refine eI 9 E λw E=>?_;refine ea (nL rfl ((ep.ei E.J).c) rfl (by omega) (ea (ap rfl (II ((ep.ei E.J).c.se h) (by rw[j];rfl:(O.enc ((d.D.map rT)[k]))[0]? =some (i6 (ct d.D[k].q:Int)))) (ea (iM rfl (ew 4 E λw E=>?_))))));rw[els e];exact⟨rfl,E.J⟩
theorem Uq(s:U en (mb p d::S) w0)(g:uG sr d)(M:sr<=1000):eJ 284 #[N p,.int .i64 i] w0 (λu w'=>∃(b:gu)(d':ni),u= .tuple #[b.1.v,.bool (!(pt d.C i).isEmpty)]/\b.2=(pt d.C i).headD []/\d'.C=E6 d.C i/\d'.ae=d.ae/\uG sr d'/\U en (B b.1.v 3 b.2::mb p d'::S) w'):=by
 refine eH 11 s.BJ func284 ntmps284 results284 rfl λw E=>?_;refine ea (Z.call (Uj (E.tU es) (E.ef (v:=d.ae.v) (xs:=(d.D.map nm.r)) es)) rfl ?_);rintro _ w ⟨rfl,t⟩;replace E:=E.ei t;rw[List.length_map];refine ew 3 E<|na 9 0 (λh x w E=>?_) (λh x w E=>?_)
 .
   have ey:c0 i d.C.length=false:=by rw[d.qj];simpa using h
   rw[B0 ey];exact⟨xK,d,rfl,rfl,by rw[E6,ey];rfl,rfl,g,E.OK.lD 3⟩
 .
   have ey:c0 i d.D.length=true:=by simpa using h
   obtain⟨k,rfl,a⟩:=Ux ey;obtain⟨L,c⟩:∃L,d.D[k]=L:=⟨_,rfl⟩;have m:=g.at a;rw[c]at m;obtain⟨y,z,A⟩:=m;have F:k<(d.D.map nm.r).length:=by rw[List.length_map];exact a
   have G:(d.D.map nm.r)[k]=L.r:=by rw[List.getElem_map,c]
   have n:k<(d.D.map rT).length:=by rw[List.length_map];exact a
   have H:(d.D.map rT)[k]=rT L:=by rw[List.getElem_map,c]
   have o:pt d.C (k:Int)=L.q.map Prod.snd:=by rw[d.laneC_at a,c]
   replace E:U en (V p (O.enc (r0.mk d.ae d.ob)) 329::B d.ae.v 493 (d.D.map nm.r)::B d.ob.v 3 (d.D.map rT)::B d.D[k].l.v 134 d.D[k].cs::(gf d.D[k].q++(xV d.D k++S))) _:=E.BZ [_,_,_] a;rw[c]at E;refine eI 10 E ⟨⟨by omega⟩,λ_ w E=>?_⟩;refine ea (Z.call (eh8 F G y ((E.pick (e:=B L.l.v 134 L.cs) es).pick (e:=B d.ae.v 493 (d.D.map nm.r)) es)) rfl ?_);rintro I w ⟨L',f,J,j,E⟩;replace j:I= .tuple #[(L.q.headD xK).1.v,.bool (!L.q.isEmpty)]:=j;subst j;refine ew 9 E λw E=>?_;replace E:=E.elr [_,_,_,_];rw[<-f]at E;have K:=elu (q:=L.q);rw[<-f]at K;refine ew 3 E λw E=>?_;refine ag 1 E (hT λw E=>E.aV es (BW (r0.mk d.ae d.ob))) λw E=>?_;refine ea (nL rfl (E.ef (v:=d.ob.v) (xs:=(d.D.map rT)) es) rfl (by omega) ?_);refine ag 2 E (hT λw E=>II ((E.ef (v:=d.ob.v) (xs:=(d.D.map rT)) es).se n) (by rw[H];rfl:(O.enc ((d.D.map rT)[k]))[0]? =some (i6 (ct L.q:Int)))) λw E=>?_;refine ea (Z.sub rfl rfl ((wrap_i64 (by omega)).trans (by omega:_=(ct L'.q:Int))) ?_);refine ea (nL rfl (E.ef (v:=d.ob.v) (xs:=(d.D.map rT)) es) rfl (by omega) ?_);refine oA (pr (v:=d.ob.v) (u:=i6 (ct L'.q:Int)) (eo:=1) (xs:=(d.D.map rT)) (i:=k) (off:=0) (ds:=rT L') E es n (yI d.ob.v k (O.eo eU)).symm rfl (by rfl) (by decide) (o0 _ _) (mT (by rfl)) (tA es λw E=>?_));refine ew 12 E λw E=>?_;rw[o];refine⟨(L.q.headD xK),⟨d.ae,d.ob,d.D.set k L'⟩,by cases L.q<;>rfl,(elm).symm,?_,rfl,g.set (Nat.le_refl _) J (by rw[f,List.length_tail];omega) (by omega),E.B2 a⟩;rw[d.B1,E6,E8 (by rw[d.qj];exact a),if_pos rfl,o,Int.toNat_natCast,f,List.map_tail]
theorem ely(P:U en (mb p d::S) w0)(x:uG sr d)(ne:sr<=900)(Q:d.ae.a.isNone=false)(eM:∀w,U en S w->ev w v xs):eJ 203 #[N p,.int .i64 i,v] w0 (λu w'=>∃d':ni,u=i6 (if kp d.C i xs then 0 else 1)/\d'.C=RL d.C i xs/\d'.ae=d.ae/\uG (sr+1) d'/\U en (mb p d'::S) w'):=by
 refine eH 16 P.BJ func203 ntmps203 results203 rfl λw E=>?_;refine sk 10 rfl rfl rfl (ea (fS rfl rfl (ew 4 E<|na 0 4 (λG R w E=>?_) (λ_ R w E=>?_))))
 .
   rw[Q]at G;cases G
 .
   refine ea (Z.call (Uj (E.tU es) (E.ef (v:=d.ae.v) (xs:=(d.D.map nm.r)) es)) rfl ?_);rintro _ w ⟨rfl,c⟩;replace E:=E.ei c;rw[List.length_map];refine ew 2 E λw E=>?_;refine tn.eV _ 22 _ rfl rfl rfl rfl (λbR=>oM (v:=v) rfl ⟨rfl,eB.refl _⟩) (λw c=>?_);replace E:=E.ei c;refine tn.eV _ 22 _ rfl rfl rfl rfl (λT=>Z.hL (by first|exact a7 rfl T|rfl) ((eM _ (E.nF.nF.nF.sub (List.sublist_append_right _ _)))) ⟨rfl,eB.refl _⟩) (λw c=>?_);replace E:=E.ei c;refine tn.eV _ 22 _ rfl rfl rfl rfl (λW=>Z.lss (by first|exact a7 rfl W|rfl) rfl ⟨rfl,eB.refl _⟩) (λw c=>?_);replace E:=E.ei c;refine ea (m8 rfl rfl (by first|rfl) (ew 1 E λw E=>(tn.eV _ 27 _ rfl rfl rfl rfl (λW6=>oM (v:=v) rfl ⟨rfl,eB.refl _⟩) (λw c=>?_))));replace E:=E.ei c;refine tn.eV _ 27 _ rfl rfl rfl rfl (λX=>Z.hL (by first|exact a7 rfl X|rfl) ((eM _ (E.nF.nF.nF.sub (List.sublist_append_right _ _)))) ⟨rfl,eB.refl _⟩) (λw c=>?_);replace E:=E.ei c;refine tn.eV _ 27 _ rfl rfl rfl rfl (λY=>Z.gtr (by first|exact a7 rfl Y|rfl) rfl ⟨rfl,eB.refl _⟩) (λw c=>?_);replace E:=E.ei c;refine ea (m8 rfl rfl (by first|rfl) (ew 3 E<|na 9 0 (λn al w E=>?_) (λn al w E=>?_)))
   .
     have o:kp d.C i xs=false:=by
      cases y:c0 i d.D.length
      .simp[kp,d.qj,y]
      simp[y]at n;simp[kp,d.qj,y];omega
     rw[o,RL,o];exact⟨d,rfl,rfl,rfl,x.pv (Nat.le_succ _),E.OK⟩
   .
     have o:c0 i d.D.length=true/\1<=xs.length/\xs.length<=64:=by
      simp at n;refine⟨?_,by omega,by omega⟩;exact n.1.1
     obtain⟨ey,kQ,pB⟩:=o;have H:kp d.C i xs=true:=by simp[kp,d.qj,ey,kQ,pB]
     obtain⟨k,rfl,g⟩:=Ux ey;obtain⟨L,j⟩:∃L,d.D[k]=L:=⟨_,rfl⟩;have I:=x.at g;rw[j]at I;obtain⟨Uz,elg,elw⟩:=I;have v6:k<(d.D.map nm.r).length:=by rw[List.length_map];exact g
     have Oe:(d.D.map nm.r)[k]=L.r:=by rw[List.getElem_map,j]
     have K:k<(d.D.map rT).length:=by rw[List.length_map];exact g
     have OJ:(d.D.map rT)[k]=rT L:=by rw[List.getElem_map,j]
     have xX:pt d.C (k:Int)=L.q.map Prod.snd:=by rw[d.laneC_at g,j]
     replace E:U en (V p (O.enc (r0.mk d.ae d.ob)) 329::B d.ae.v 493 (d.D.map nm.r)::B d.ob.v 3 (d.D.map rT)::B d.D[k].l.v 134 d.D[k].cs::(gf d.D[k].q++(xV d.D k++S))) _:=E.BZ [_,_,_] g;rw[j]at E;refine eI 4 E λw E=>?_;refine gU 9 (e5 [0,1,2,3,4,5,6] (oJ [7,8,9] .nil)) (by kernel_rfl) (λ_ _ _ h=>h) (λaM iS=>?_);replace E:=E.ei iS;have m:=E;have f:=eG aM;refine hi 5 m ?_;refine si m rfl (λw E=>nL rfl (E.ef (v:=d.ae.v) (xs:=(d.D.map nm.r)) es) rfl (by omega) eY) (hi 1 m (ol rfl (Z.call (elf (eM _ (E.nF.nF.nF.nF.sub ((List.sublist_append_right _ _).trans (List.sublist_append_right _ _)))) (by omega)) rfl ?_)));rintro v39 w ⟨M,c⟩;replace f:=f.pD c M.1 M.2;refine⟨f.J,?_⟩;have E:=ik m f;refine ol rfl (Z.call (Bi (E.ef (v:=v39) (xs:=xs) es)) rfl ?_);rintro z w ⟨A,c⟩;replace f:=f.ei c;replace f:=f.elt (v:=v39) (xs:=xs) es;rw[<-A]at f;obtain⟨s,rfl⟩:=(f.ef (v:=z) (xs:=xs) es).u9;refine⟨f.J,?_⟩;have E:=ik m f;refine hA rfl (Z.call (eh4 (en:=en) (ae:=d.ae.v) (aw:=(d.D.map nm.r)) (k:=k) (L:=L) v6 Oe Uz (b:=s) (xs:=xs) (by omega) ((E.pick (e:=B L.l.v 134 L.cs) es).pick (e:=B d.ae.v 493 (d.D.map nm.r)) es)) rfl ?_);rintro Dz w ⟨L',t,UE,E⟩;refine e3.nil (s4 3 E λw E=>?_);replace E:=elc [_,_,_,_] (b:=(s,xs)) (E.pick (e:=B s.v 3 xs) es);rw[<-t]at E;have F:=ell (q:=L.q) (b:=(s,xs));rw[<-t]at F;have W5:L'.q.length=L.q.length+1:=by rw[t];simp
     refine ew 3 E λw E=>?_;refine ag 1 E (hT λw E=>E.aV es (BW (r0.mk d.ae d.ob))) λw E=>?_;refine ea (nL rfl (E.ef (v:=d.ob.v) (xs:=(d.D.map rT)) es) rfl (by omega) ?_);refine ag 1 E (hT λw E=>II ((E.ef (v:=d.ob.v) (xs:=(d.D.map rT)) es).se K) (by rw[OJ];rfl:(O.enc ((d.D.map rT)[k]))[0]? =some (i6 (ct L.q:Int)))) λw E=>?_;refine ea (Z.hL rfl ((eM _ (E.nF.nF.nF.nF.sub ((List.sublist_append_right _ _).trans (List.sublist_append_right _ _))))) ?_);refine ea (Z.add rfl rfl ((wrap_i64 (by omega)).trans (by simp only at F;omega:_=(ct L'.q:Int))) ?_);refine ea (nL rfl (E.ef (v:=d.ob.v) (xs:=(d.D.map rT)) es) rfl (by omega) ?_);refine oA (pr (v:=d.ob.v) (u:=i6 (ct L'.q:Int)) (eo:=1) (xs:=(d.D.map rT)) (i:=k) (off:=0) (ds:=rT L') E es K (yI d.ob.v k (O.eo eU)).symm rfl (by rfl) (by decide) (o0 _ _) (mT (by rfl)) (tA es λw E=>?_));refine ew 9 E λw E=>?_;rw[H,if_pos rfl];refine⟨⟨d.ae,d.ob,d.D.set k L'⟩,rfl,?_,rfl,x.set (Nat.le_succ _) UE (by omega) (by simp only at F;omega),E.eld g⟩;rw[d.B1,RL,H,if_pos rfl,xX,Int.toNat_natCast,t,List.map_append];rfl
def uY(n:Nat)(o:Option Nat):wQ:=match o with|none=>List.replicate n []|some w=>(List.replicate n []).set w [[⟨0⟩]]
theorem OQ(n:Nat)(o:Option Nat):(uY n o).length=n:=by cases o<;>simp[uY]
theorem ve(h:k<n)(o:Option Nat):pt (uY n o) (k:Int)=if o=some k then[[⟨0⟩]]else[]:=by
 rw[laneC_at (by rw[OQ];exact h)];cases o with
 |none=>simp[uY]
 |some w=>
  simp only[uY,List.getElem_set,Option.some.injEq];split<;>simp
theorem UA{C:wQ}(h:k<C.length)(e:C[k]=[]):C.set k []=C:=by
 rw[<-e];exact List.set_getElem_self h
structure OZ(n:Nat)(o:Option Nat)(d:ni):Prop where
 ok:uG (if o.isSome then 1 else 0) d
 C:d.C=uY n o
 ae:d.ae.a.isNone=false
@[irreducible] def sl (p:Nat) (d:ni) (n:Nat) (o:Option Nat):eL:=hD [no (OZ n o d),mb p d]
theorem U.RC(h:U w0 (sl p d n o::S) w):(OZ n o d)/\U w0 (mb p d::S) w:=by
 unfold sl at h;have h:=h.dr;have G:=h.get (e:=no (OZ n o d)) .em;rw[mf]at G;exact⟨G,h.sub (List.sublist_cons_self _ _)⟩
theorem UO(e1:OZ n o d)(h:U w0 (mb p d::S) w):U w0 (sl p d n o::S) w:=by
 unfold sl;exact U.closed (l:=[no (OZ n o d),mb p d]) (h.pure e1)
@[irreducible] def rA (p:Nat) (d:ni) (n:Nat):eL:=hD [no (uG 1 d/\d.C=uY n none/\d.ae.a.isNone=false),mb p d]
theorem U.B9(h:U w0 (rA p d n::S) w):(uG 1 d/\d.C=uY n none/\d.ae.a.isNone=false)/\U w0 (mb p d::S) w:=by
 unfold rA at h;have h:=h.dr;have G:=h.get (e:=no (uG 1 d/\d.C=uY n none/\d.ae.a.isNone=false)) .em;rw[mf]at G;exact⟨G,h.sub (List.sublist_cons_self _ _)⟩
theorem Ve(e1:uG 1 d/\d.C=uY n none/\d.ae.a.isNone=false)(h:U w0 (mb p d::S) w):U w0 (rA p d n::S) w:=by
 unfold rA;exact U.closed (l:=[no (uG 1 d/\d.C=uY n none/\d.ae.a.isNone=false),mb p d]) (h.pure e1)
theorem elk(G:1<=n)(Y:n<=64):eJ 77 #[i6 n] w0 (λu w'=>∃(p:Nat)(d:ni),u= .tuple #[N p,i6 0]/\U w0 [sl p d n none] w'):=by
 refine(elp).mono ?_;rintro u w' (⟨h,_⟩|⟨_,p,d,rfl,ez,e6,ac,a,b⟩)
 .exfalso;simp[c0]at h;omega
 exact⟨p,d,rfl,UO ⟨ez,by rw[e6];simp[uY],ac⟩ ((eG w0).An b a)⟩
theorem elx(a:k<n)(b:U en S w0)(c:tX (sl p d n none) S):tN 212 #[N p,i6 k] w0 (i6 0):=by
 obtain⟨e1,h⟩:=(b.mem c).RC;have e:=B7 (w0:=w0) (p:=p) (d:=d) (i:=(k:Int)) (h.BQ .em);rw[e1.C,E7,ve a,if_neg (by simp)]at e;exact e
theorem elj(a:k<n)(c:o≠some k)(j:U en (sl p d n o::S) w0):eJ 284 #[N p,i6 k] w0 (λu w'=>∃(s:eu)(d:ni),u= .tuple #[s.v,.bool false]/\U en (B s.v 3 ([]:List eU)::sl p d n o::S) w'):=by
 obtain⟨e1,E⟩:=j.RC;refine(Uq E e1.ok (by split<;>omega)).mono ?_;rintro u w' ⟨b,d',g,h,l,eM,m,q⟩;have e:pt d.C (k:Int)=[]:=by rw[e1.C,ve a,if_neg c]
 rw[e]at g h;obtain⟨s,xs⟩:=b;obtain rfl:xs=[]:=h;have r:d'.C=uY n o:=by
  rw[l,e1.C,E6];have f:k<(uY n o).length:=by rw[OQ];exact a
  rw[E8 f,if_pos rfl,ve a,if_neg c,Int.toNat_natCast];have i:=laneC_at f;rw[ve a,if_neg c]at i;exact UA f i.symm
 refine⟨s,d',g,?_⟩;exact(UO (S:=B s.v 3 ([]:List eU)::S) ⟨m,r,by rw[eM];exact e1.ae⟩ (q.pick .G)).pick .G
theorem elq(a:k<n)(g:U en (sl p d n (some k)::S) w0):eJ 284 #[N p,i6 k] w0 (λu w'=>∃(s:eu)(d:ni),u= .tuple #[s.v,.bool true]/\U en (B s.v 3 ([⟨0⟩]:List eU)::rA p d n::S) w'):=by
 obtain⟨e1,E⟩:=g.RC;refine(Uq E e1.ok (by split<;>omega)).mono ?_;rintro u w' ⟨b,d',c,f,h,eM,i,j⟩;have e:pt d.C (k:Int)=[[⟨0⟩]]:=by rw[e1.C,ve a,if_pos rfl]
 rw[e]at c f;obtain⟨s,xs⟩:=b;obtain rfl:xs=[⟨0⟩]:=f;have l:d'.C=uY n none:=by
  rw[h,e1.C,E6];have m:k<(uY n (some k)).length:=by rw[OQ];exact a
  rw[E8 m,if_pos rfl,ve a,if_pos rfl,Int.toNat_natCast];simp only[uY,List.set_set,List.tail_cons];exact UA (by simpa using a) (by simp)
 refine⟨s,d',c,?_⟩;exact(Ve (S:=B s.v 3 ([⟨0⟩]:List eU)::S) ⟨i,l,by rw[eM];exact e1.ae⟩ (j.pick .G)).pick .G
theorem elz(a:k<n)(h:U en (rA p d n::S) w0):eJ 284 #[N p,i6 k] w0 (λu w'=>∃(s:eu)(d:ni),u= .tuple #[s.v,.bool false]/\U en (B s.v 3 ([]:List eU)::rA p d n::S) w'):=by
 obtain⟨⟨G,Y,ez⟩,E⟩:=h.B9;refine(Uq E G (by omega)).mono ?_;rintro u w' ⟨b,d',c,f,i,eM,j,l⟩;have e:pt d.C (k:Int)=[]:=by rw[Y,ve a,if_neg (by simp)]
 rw[e]at c f;obtain⟨s,xs⟩:=b;obtain rfl:xs=[]:=f;have m:d'.C=uY n none:=by
  rw[i,Y,E6];have g:k<(uY n none).length:=by rw[OQ];exact a
  rw[E8 g,if_pos rfl,ve a,if_neg (by simp),Int.toNat_natCast];exact UA g (by simp[uY])
 refine⟨s,d',c,?_⟩;exact(Ve (S:=B s.v 3 ([]:List eU)::S) ⟨j,m,by rw[eM];exact ez⟩ (l.pick .G)).pick .G
theorem elE(a:k<n)(b:U en S w0)(c:tX (rA p d n) S):tN 212 #[N p,i6 k] w0 (i6 0):=by
 obtain⟨⟨_,Y,_⟩,h⟩:=(b.mem c).B9;have e:=B7 (w0:=w0) (p:=p) (d:=d) (i:=(k:Int)) (h.BQ .em);rw[Y,E7,ve a,if_neg (by simp)]at e;exact e
theorem elT{v:eu}(a:k<n)(e:U en (sl p d n none::B v.v 3 ([⟨0⟩]:List eU)::S) w0):eJ 203 #[N p,i6 k,v.v] w0 (λu w'=>∃(d:ni),u=i6 0/\U en (sl p d n (some k)::B v.v 3 ([⟨0⟩]:List eU)::S) w'):=by
 obtain⟨e1,E⟩:=e.RC;have b:kp d.C (k:Int) [⟨0⟩]=true:=by rw[e1.C];unfold kp;rw[OQ,E8 a];rfl
 refine(ely E e1.ok (by decide) e1.ae (λw h=>h.ef .em)).mono ?_;rintro u w' ⟨d',c,f,eM,g,i⟩;rw[b]at c;refine⟨d',c,UO ⟨g,?_,by rw[eM];exact e1.ae⟩ i⟩;rw[f,RL,b,if_pos rfl,e1.C,ve a,if_neg (by simp),Int.toNat_natCast];rfl
end
end Go.Fer
