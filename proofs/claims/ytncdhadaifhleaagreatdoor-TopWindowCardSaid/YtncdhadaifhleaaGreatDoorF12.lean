import Derived.Test.YtncdhadaifhleaaGreatDoorF7
set_option linter.all false
set_option synthInstance.maxSize 100000
set_option synthInstance.maxHeartbeats 400000
set_option maxHeartbeats 8000000
set_option maxRecDepth 100000
namespace Go.Fer
open Go Go.RowKit
section
open Go.Proofs Tryz
variable{S:List eH}{k n p:Nat}{m v o5 n4 lo:Int}{w w0:World}
structure wB where
 l:List (Vector UInt8 32)
 eB:l.length=150
variable{r oU:wB}
instance:O wB where
 enc r:=(ij r.l).toArray
 eo:=4800
 pos:=by decide
 ez r:=by rw[List.size_toArray,uc,r.eB];rfl
 one r:=by rw[List.toList_toArray];exact Ia r.l
theorem CI(r:wB):O.enc r=(ij r.l).toArray:=rfl
theorem CN:O.eo (Vector UInt8 32)=32:=rfl
theorem YG(a:k<r.l.length):(O.enc r).extract (k*32) (k*32+32)=O.enc (r.l[k]):=by
 rw[CI];apply Array.ext';rw[Array.toList_extract,List.toList_toArray];have G:r.l.drop k=r.l[k]::r.l.drop (k+1):=List.drop_eq_getElem_cons a;have Y:=In r.l k;rw[CN,G,yt]at Y;show List.take (k*32+32-k*32) (List.drop (k*32) (ij r.l))=_;rw[show k*32+32-k*32=32 by omega,<-Y,List.take_append_of_le_length (by rw[Array.length_toList,O.ez];exact Nat.le_refl _),List.take_of_length_le (by rw[Array.length_toList,O.ez];exact Nat.le_refl _)]
def wB.set(r:wB)(k:Nat)(h:Vector UInt8 32):wB:=⟨r.l.set k h,by rw[List.length_set];exact r.eB⟩
theorem ers(a:k<r.l.length){h:Vector UInt8 32}:iI (O.enc r) (k*32) (O.enc h)=O.enc (r.set k h):=by
 have hb:(O.enc r).size=4800:=O.ez r;have b:(O.enc h).size=32:=O.ez h;have hr:=r.eB;unfold iI;rw[hb,b];apply Array.ext';simp only[Array.toList_append,Array.toList_extract,CI,List.toList_toArray,List.drop_zero,Nat.sub_zero,wB.set];have e:r.l.set k h=r.l.take k++h::r.l.drop (k+1):=List.set_eq_take_append_cons_drop.trans (if_pos a);rw[e,vp,yt,Ii,In,CN,List.append_assoc];congr 2;rw[show(k+1)*32=k*32+32 by omega];exact List.take_of_length_le (by rw[List.length_drop,uc,hr,CN];omega)
def EV:wB:=⟨List.replicate 150 (aO 32),by rw[List.length_replicate]⟩
structure nl where
 ring:wB
 next:Int
 sc:Int
 g7:Int
variable{q x:nl}
def nl.parts(x:nl):List (Array Value):=[O.enc x.ring,#[.int .i64 x.next],#[.int .i64 x.sc],#[.int .i64 x.g7]]
theorem err(x:nl):x.parts.map Array.size=[4800,1,1,1]:=by
 simp only[nl.parts,List.map,O.ez];rfl
instance:O nl where
 enc x:=eK x.parts
 eo:=4803
 pos:=by omega
 ez x:=by rw[iw,err];rfl
 one x:=rD (all_cons (O.one _) (all_cons (oZ _ _) (all_cons (oZ _ _) (all_cons (oZ _ _) rC))))
theorem erh(x:nl):O.enc x=eK x.parts:=rfl
theorem CS:(O.enc x).extract 0 (0+4800)=O.enc x.ring:=p1 [] [#[.int .i64 x.next],#[.int .i64 x.sc],#[.int .i64 x.g7]] _ sU (by rw[O.ez];rfl)
theorem erl(x:nl)(v:wB):iI (O.enc x) 0 (O.enc v)=O.enc {x with ring:=v}:=by
 have h:=rL [] [#[.int .i64 x.next],#[.int .i64 x.sc],#[.int .i64 x.g7]] (O.enc x.ring) (O.enc v) (by first|(rw[O.ez,O.ez];done)|rfl);rw[show(eK []).size=0 from sU]at h;exact h
theorem erd(x:nl)(v:Int):iI (O.enc x) 4800 #[.int .i64 v]=O.enc {x with next:=v}:=by
 have h:=rL [O.enc x.ring] [#[.int .i64 x.sc],#[.int .i64 x.g7]] (#[.int .i64 x.next]) (#[.int .i64 v]) (by first|(rw[O.ez,O.ez];done)|rfl);rw[show(eK [O.enc x.ring]).size=4800 from sU]at h;exact h
theorem erc(x:nl)(v:Int):iI (O.enc x) 4801 #[.int .i64 v]=O.enc {x with sc:=v}:=by
 have h:=rL [O.enc x.ring,#[.int .i64 x.next]] [#[.int .i64 x.g7]] (#[.int .i64 x.sc]) (#[.int .i64 v]) (by first|(rw[O.ez,O.ez];done)|rfl);rw[show(eK [O.enc x.ring,#[.int .i64 x.next]]).size=4801 from sU]at h;exact h
instance:nt x [O.enc x.ring,#[.int .i64 x.next],#[.int .i64 x.sc],#[.int .i64 x.g7]]:=⟨rfl⟩
instance(priority:=2000):nt (⟨oU,o5,n4,lo⟩:nl) [O.enc oU,#[.int .i64 o5],#[.int .i64 n4],#[.int .i64 lo]]:=⟨rfl⟩
instance:st (O.enc x) 4800 #[.int .i64 v] (O.enc {x with next:=v}):=⟨by rw[O.ez];exact Nat.le_of_ble_eq_true rfl,erd x v⟩
instance:st (O.enc x) 4801 #[.int .i64 v] (O.enc {x with sc:=v}):=⟨by rw[O.ez];exact Nat.le_of_ble_eq_true rfl,erc x v⟩
abbrev iM:=Vector UInt8 32
variable{R:List iM}{h:iM}
structure pE(q:nl)(R:List iM):Prop where
 g7:q.g7=1
 sc:q.sc=((min R.length 150:Nat):Int)
 next:q.next=((R.length%150:Nat):Int)
 ot:∀i(h:i<R.length),i<150->q.ring.l[(R.length+149-i)%150]? =some R[i]
@[irreducible] def o3 (p:Nat) (q:nl) (R:List iM):eH:=hC [nn (pE q R),B p (O.enc q) 245]
theorem U.S9(h:U w0 (o3 p q R::S) w):pE q R/\U w0 (B p (O.enc q) 245::S) w:=by
 unfold o3 at h;have h:=h.de;have G:=h.get (e:=nn (pE q R)) .em;rw[md]at G;exact⟨G,h.sub (List.sublist_cons_self _ _)⟩
theorem U.CR(e1:pE q R)(h:U w0 (B p (O.enc q) 245::S) w):U w0 (o3 p q R::S) w:=by
 unfold o3;exact U.closed (l:=[nn (pE q R),B p (O.enc q) 245]) (h.pure e1)
theorem Re(h:U w0 S w)(a:tP (o3 p q R) S):pE q R/\an w (N p) (O.enc q):=
 ⟨(h.mem a).S9.1,(h.mem a).S9.2.tb .em⟩
theorem eru(a:q.next=((n%150:Nat):Int))(b:k<150):(((q.next-1) -(k:Int))+300).tmod 150=(((n+149-k)%150:Nat):Int):=by
 rw[a,Int.tmod_eq_emod_of_nonneg (by omega)];omega
theorem pE.ab(h:pE q R)(b:k<R.length)(G:k<150):(O.enc q).extract (((R.length+149-k)%150)*32) (((R.length+149-k)%150)*32+32)=O.enc R[k]:=by
 have ew:(R.length+149-k)%150<q.ring.l.length:=by rw[q.ring.eB];exact Nat.mod_lt _ (by decide)
 have e:=h.ot k b G;rw[List.getElem?_eq_getElem ew]at e;have a:=PA (o:=0) (e:=0+4800) (i:=((R.length+149-k)%150)*32) (j:=((R.length+149-k)%150)*32+32) (CS) (YG ew) (by have:=q.ring.eB;omega);rw[Option.some.inj e,Nat.zero_add,Nat.zero_add]at a;exact a
theorem YW(a:∀j,j<k->R[j]?≠some h)(b:k<R.length)(c:R[k]≠h):∀j,j<k+1->R[j]?≠some h:=by
 intro j d;rcases Nat.lt_or_ge j k with G|G
 .exact a j G
 obtain rfl:j=k:=by omega
 rw[List.getElem?_eq_getElem b];exactλe=>c (Option.some.inj e)
theorem erm(hin:h∈R.take 150)(a:∀j,j<k->R[j]?≠some h)(e5:m=((min R.length 150:Nat):Int))(c:m<=(k:Int)):False:=by
 obtain⟨j,b,e⟩:=List.getElem_of_mem hin;rw[List.length_take]at b;rw[List.getElem_take]at e;exact a j (by omega) (by rw[List.getElem?_eq_getElem (by omega),e])
theorem erf(a:k<R.length)(G:k<150)(e:R[k]=h):h∈R.take 150:=by
 rw[<-e];exact List.mem_of_getElem (l:=R.take 150) (i:=k) (h:=by rw[List.length_take];omega) (by rw[List.getElem_take])
theorem Rt(a:an w0 (N p) (O.enc q))(e5:q.g7=1):tS 102 #[N p] w0 (.bool true):=by
 have:=ir a;refine eN 14 (eY _) func102 ntmps102 results102 rfl ?_;refine eU true 6 λw E=>?_;exact⟨rfl,E.ee⟩
theorem YY(a:an w0 (N p) (O.enc q))(b:q.next=((n%150:Nat):Int))(c:k<150):tS 114 #[N p,i6 k] w0 (.int .i64 (((n+149-k)%150:Nat):Int)):=by
 have d:(0:Int)<=q.next/\q.next<150:=by omega
 have:=ir a;refine eN 15 (eY _) func114 ntmps114 results114 rfl ⟨ib,⟨ib,⟨ib,λw E=>?_⟩⟩⟩;refine af 5 E (NL (by omega) (eru b c)) λw E=>?_;exact⟨rfl,E.ee⟩
theorem erp(hin:h∈R.take 150)(c:pE q R)(d:an w0 (N p) (O.enc q)):eJ 46 #[N p,.agg (O.enc h)] w0 (λu w'=>∃(eE:Nat),u= .tuple #[i6 eE,.bool true]/\eV w0 w'):=by
 have C:=c.sc;have r:=c.next;have s:=c.g7;refine eN 7 (eY _) func46 ntmps46 results46 rfl λt6 w E=>?_;refine ek.scope ?_;refine eA 4 E λw E=>?_;refine ev 7 E (Rt (d.es E.ee) s) λw E=>?_;refine ek.label ?_;have:=ir d;refine s6 12 E λw E=>?_;refine ek.loop (λm f w=>∃k:Nat,oV [(0,N p),(3,N t6),(4,i6 0),(5,.bool false),(13,.int .i64 q.sc),(14,i6 k)] f/\U w0 [B t6 (O.enc h) 42] w/\(∀j,j<k->R[j]?≠some h)/\(k:Int)<=q.sc/\m=150-k) (150) ?_ ?_
 .
   exact⟨0,⟨rfl,rfl,rfl,rfl,rfl,sJ,trivial⟩,E,λj t=>absurd t (by omega),by omega,rfl⟩
 .
   rintro m f w ⟨k,e,E,l,D,e5⟩;refine il _ e (λg=>?_);clear e;refine eA 6 E<|om 0 0 (λx w E=>?_) (λx w E=>?_)
   .
     have y:k<150:=by omega
     have n:k<R.length:=by omega
     refine eA 12 E ?_;refine aC 6 10 (eX [0,1,2,4,5,8] (.one 3 (eX [6,7,9] .nil))) [] λw E=>?_;refine o0 0 E (YY (d.es E.ee) r (by first|omega|simp)) λw E=>?_;refine tl rfl (λw E=>fi (b:=p) (o:=0) (i:=((((R.length+149-k)%150):Nat):Int)) rfl rfl ⟨by omega,by omega⟩ eG) (mR 0 E (hA (v:=.agg (O.enc R[k])) λw E=>s1.wl (d.es E.ee) (((R.length+149-k)%150)*32) (c.ab n y) (by rw[O.ez];show _<=4803;omega)) λw E=>(tl rfl (λw E=>TH rfl rfl eG) (t7 2 E λw E=>?_)));refine ek.cond _ rfl (λa=>?_) (λa=>?_)
     .
       have z:=a;have A:=a
       try simp only[sX]at a
       refine eA 9 E ⟨ib,λw E=>?_⟩;exact⟨150-(k+1),by omega,k+1,⟨rfl,rfl,rfl,rfl,rfl,sJ,trivial⟩,E,YW l n a,by omega,rfl⟩
     .
       have z:=a;have A:=a
       try simp only[sX]at a
       refine eA 4 E λw E=>?_;refine et (oP rfl ?_);refine et (iP rfl ?_);refine et (gN rfl ?_);refine ey 10 E λw E=>?_;refine et (oP rfl ?_);refine et (u0 rfl ?_);refine et (iP rfl ?_);refine et (gN rfl ?_);refine ey 3 E λw E=>?_;refine I5 ?_;refine s6 1 E λw E=>?_;exact⟨k,rfl,E.ee⟩
   .
     exact(erm hin l c.sc (by omega)).elim
theorem CL(hE:h∉R.take 150)(c:pE q R)(d:an w0 (N p) (O.enc q)):tS 46 #[N p,.agg (O.enc h)] w0 (.tuple #[i6 0,.bool false]):=by
 have A:=c.sc;have r:=c.next;have s:=c.g7;refine eN 7 (eY _) func46 ntmps46 results46 rfl λt6 w E=>?_;refine ek.scope ?_;refine eA 4 E λw E=>?_;refine ev 7 E (Rt (d.es E.ee) s) λw E=>?_;refine ek.label ?_;have:=ir d;refine s6 12 E λw E=>?_;refine ek.loop (λm f w=>∃k:Nat,oV [(0,N p),(3,N t6),(4,i6 0),(5,.bool false),(13,.int .i64 q.sc),(14,i6 k)] f/\U w0 [B t6 (O.enc h) 42] w/\(∀j,j<k->R[j]?≠some h)/\(k:Int)<=q.sc/\m=150-k) (150) ?_ ?_
 .
   exact⟨0,⟨rfl,rfl,rfl,rfl,rfl,sJ,trivial⟩,E,λj t=>absurd t (by omega),by omega,rfl⟩
 .
   rintro m f w ⟨k,l,E,u,C,e5⟩;refine il _ l (λg=>?_);clear l;refine eA 6 E<|om 0 14 (λx w E=>?_) (λx w E=>?_)
   .
     have n:k<150:=by omega
     have e:k<R.length:=by omega
     refine eA 12 E ?_;refine aC 6 10 (eX [0,1,2,4,5,8] (.one 3 (eX [6,7,9] .nil))) [] λw E=>?_;refine o0 0 E (YY (d.es E.ee) r (by first|omega|simp)) λw E=>?_;refine tl rfl (λw E=>fi (b:=p) (o:=0) (i:=((((R.length+149-k)%150):Nat):Int)) rfl rfl ⟨by omega,by omega⟩ eG) (mR 0 E (hA (v:=.agg (O.enc R[k])) λw E=>s1.wl (d.es E.ee) (((R.length+149-k)%150)*32) (c.ab e n) (by rw[O.ez];show _<=4803;omega)) λw E=>(tl rfl (λw E=>TH rfl rfl eG) (t7 2 E λw E=>?_)));refine ek.cond _ rfl (λa=>?_) (λa=>?_)
     .
       have y:=a;have z:=a
       try simp only[sX]at a
       refine eA 9 E ⟨ib,λw E=>?_⟩;exact⟨150-(k+1),by omega,k+1,⟨rfl,rfl,rfl,rfl,rfl,sJ,trivial⟩,E,YW u e a,by omega,rfl⟩
     .
       have y:=a;have z:=a
       try simp only[sX]at a
       exact(hE (erf e n a)).elim
   .
     refine I5 ?_;refine s6 1 E λw E=>?_;exact⟨rfl,E.ee⟩
theorem YB:∀n:Nat,ij (List.replicate n (aO 32))=List.replicate (n*32) (Value.int .u8 0)
 |0=>rfl
 |n+1=>by
  rw[List.replicate_succ,yt,YB n,iW,Array.toList_replicate,List.replicate_append_replicate];congr 1;omega
theorem erg:O.enc EV=Array.replicate 4800 (Value.int .u8 0):=by
 apply Array.ext';rw[CI,List.toList_toArray,EV,YB 150,Array.toList_replicate]
instance:nY prog 245 [Array.replicate 4800 (.int .u8 0),#[i6 0],#[i6 0],#[i6 0]]:=sv underlying245 (by kernel_rfl)
theorem ery:pE ⟨EV,0,0,1⟩ []:=⟨rfl,rfl,rfl,λi h=>absurd h (by simp)⟩
theorem erb:eJ 73 #[] w0 (λu w'=>∃(eE:Nat),u=N eE/\U w0 [B eE (O.enc (⟨EV,0,0,1⟩:nl)) 245] w'):=by
 refine eN 7 (eY _) func73 ntmps73 results73 rfl λw E=>?_;exact et (sV (r:=(⟨EV,0,0,1⟩:nl)) (ps:=nl.parts (⟨EV,0,0,1⟩:nl)) (erh _) (by show[Array.replicate 4800 (Value.int .u8 0),#[i6 0],#[i6 0],#[i6 1]]=_;rw[<-erg];rfl) (by exact hT ⟨by decide,rfl,trivial⟩) (ey 6 E λao w E=>(⟨ao,rfl,E⟩)))
theorem erv:eJ 73 #[] w0 (λu w'=>∃(p:Nat)(q:nl),u=N p/\U w0 [o3 p q []] w'):=
 (erb).mono λ_ _⟨p,a,E⟩=>⟨p,_,a,E.CR ery⟩
variable{a b c:Int}{g:wB}{Al yY lI:Nat}{ea:World}
theorem Ro(hin:h∈R.take 150)(a:U ea S w0)(b:tP (o3 p q R) S):eJ 46 #[N p,.agg (O.enc h)] w0 (λu w'=>∃k:Nat,u= .tuple #[i6 k,.bool true]/\eV w0 w'):=erp (w0:=w0) (p:=p) (q:=q) (R:=R) (h:=h) hin (Re a b).1 (Re a b).2
theorem erk(hE:h∉R.take 150)(a:U ea S w0)(b:tP (o3 p q R) S):eJ 46 #[N p,.agg (O.enc h)] w0 (λu w'=>u= .tuple #[i6 0,.bool false]/\eV w0 w'):=CL hE (Re a b).1 (Re a b).2
theorem YV(h:n<150):((n:Int)+1).tmod 150=(((n+1)%150:Nat):Int):=by
 rw[Int.tmod_eq_emod_of_nonneg (by omega)];omega
theorem YK(d:k<150):iI (O.enc (⟨g,a,b,c⟩:nl)) (0+k*32) (O.enc h)=O.enc (⟨g.set k h,a,b,c⟩:nl):=
 vL (o:=0) (e:=0+4800) (i:=k*32) (CS) (ers (by rw[g.eB];exact d)) (erl (⟨g,a,b,c⟩:nl) (g.set k h)) (O.ez _) (by rw[O.ez];show 32+k*32<=_;omega) (by decide) (by decide)
theorem erx(d:k<g.l.length):(O.enc (⟨g,a,b,c⟩:nl)).extract (0+k*32) (0+k*32+32)=O.enc (g.l[k]):=by
 have f:=PA (o:=0) (e:=0+4800) (i:=k*32) (j:=k*32+32) (CS (x:=(⟨g,a,b,c⟩:nl))) (YG (r:=g) (k:=k) d) (by have:=g.eB;omega);rw[show 0+k*32+32=0+(k*32+32) by omega];exact f
theorem YX(e1:pE ⟨g,(lI:Int),(yY:Int),1⟩ R)(e5:Al=min (R.length+1) 150):pE ⟨g.set lI h,(((lI+1)%150:Nat):Int),(Al:Int),1⟩ (h::R):=by
 have a:lI=R.length%150:=by have:=e1.next;simp only at this;omega
 subst a;refine⟨rfl,by rw[e5];rfl,by simp only[List.length_cons];omega,?_⟩;intro i ew G;simp only[List.length_cons,wB.set]at ew⊢;rw[List.getElem?_set];cases i with
 |zero=>
  rw[if_pos (by omega),if_pos (by rw[g.eB];exact Nat.mod_lt _ (by decide))];rfl
 |succ i=>
  rw[if_neg (by omega),List.getElem_cons_succ,<-e1.ot i (by omega) (by omega)];congr 1;omega
theorem erj(e1:pE (⟨g,(lI:Int),(yY:Int),1⟩:nl) R)(hE:h∉R.take 150)(hlt:R.length<150)(eC:U ea (B p (O.enc (⟨g,(lI:Int),(yY:Int),1⟩:nl)) 245::S) w0):eJ 40 #[N p,.agg (O.enc h)] w0 (λu w'=>u= .tuple #[.agg (O.enc (aO 32)),.bool false,i6 0]/\U ea (B p (O.enc (⟨(g.set lI h),(((lI+1)%150:Nat):Int),((yY:Int)+1),1⟩:nl)) 245::S) w'):=by
 have c:=e1.sc;have d:=e1.next;refine eN 0 eC func40 ntmps40 results40 rfl λw E=>?_;simp only at c d;have a:lI<150:=by omega
 have e:lI<g.l.length:=by rw[g.eB];exact a
 refine eA 12 E λt6 aW w E=>?_;refine ev 11 E (Rt (E.tb .Y) rfl) λw E=>?_;refine ev 22 E (CL hE e1 (E.tb .Y)) ?_;refine eU false 21 ⟨ib,?_⟩;refine aC 8 9 (eX [0,1,2,3,4,5,6,7,8] (.one 9 .nil)) [] λw E=>?_;refine tl rfl (λw E=>fi (b:=p) (o:=0) (i:=(lI:Int)) rfl rfl ⟨by omega,by omega⟩ eG) (nH rfl (iU (eo:=O.eo (Vector UInt8 32)) (v:=.agg (O.enc h)) (cs:=O.enc (⟨g,(lI:Int),((yY:Int)+1),1⟩:nl)) (iA:=O.enc (⟨(g.set lI h),(lI:Int),((yY:Int)+1),1⟩:nl)) E rfl rfl en (by simp only[Value.cells];exact O.ez h) (by rw[O.ez];show 0+lI*32+32<=4803;omega) (by simp only[Value.cells];exact O.one h) (by simp only[Value.cells];exact YK a) (tH en λw E=>?_)));refine t7 10 E ⟨ib,λw E=>?_⟩;refine af 16 E (NL (by omega) (YV a)) λw E=>?_;exact⟨rfl,(tN [0,1] E)⟩
theorem erq(e1:pE (⟨g,(lI:Int),(yY:Int),1⟩:nl) R)(hE:h∉R.take 150)(uJ:150<=R.length)(c:lI<g.l.length)(eC:U ea (B p (O.enc (⟨g,(lI:Int),(yY:Int),1⟩:nl)) 245::S) w0):eJ 40 #[N p,.agg (O.enc h)] w0 (λu w'=>u= .tuple #[.agg (O.enc g.l[lI]),.bool true,i6 0]/\U ea (B p (O.enc (⟨(g.set lI h),(((lI+1)%150:Nat):Int),(yY:Int),1⟩:nl)) 245::S) w'):=by
 have d:=e1.sc;have e:=e1.next;refine eN 0 eC func40 ntmps40 results40 rfl λw E=>?_;simp only at d e;have a:lI<150:=by omega
 refine eA 12 E λt6 aW w E=>?_;refine ev 11 E (Rt (E.tb .Y) rfl) λw E=>?_;refine ev 22 E (CL hE e1 (E.tb .Y)) ?_;refine eU true 9 ?_;refine aC 7 9 (eX [0,1,2,3,4,5,6,7,8] (.one 9 .nil)) [] λw E=>?_;refine tl rfl (λw E=>fi (b:=p) (o:=0) (i:=(lI:Int)) rfl rfl ⟨by omega,by omega⟩ eG) (mR 4 E (hA (v:=.agg (O.enc g.l[lI])) λw E=>E.It (o:=0+lI*32) en (erx c) (by rw[O.ez];show _<=4803;omega)) ?_);refine aC 8 9 (eX [0,1,2,3,4,5,6,7,8] (.one 9 .nil)) [] λw E=>?_;refine tl rfl (λw E=>fi (b:=p) (o:=0) (i:=(lI:Int)) rfl rfl ⟨by omega,by omega⟩ eG) (nH rfl (iU (eo:=O.eo (Vector UInt8 32)) (v:=.agg (O.enc h)) (cs:=O.enc (⟨g,(lI:Int),(yY:Int),1⟩:nl)) (iA:=O.enc (⟨(g.set lI h),(lI:Int),(yY:Int),1⟩:nl)) E rfl rfl en (by simp only[Value.cells];exact O.ez h) (by rw[O.ez];show 0+lI*32+32<=4803;omega) (by simp only[Value.cells];exact O.one h) (by simp only[Value.cells];exact YK a) (tH en λw E=>?_)));refine t7 10 E ⟨ib,λw E=>?_⟩;refine af 16 E (NL (by omega) (YV a)) λw E=>?_;exact⟨rfl,(tN [0,1] E)⟩
theorem Ri(hE:h∉R.take 150)(hlt:R.length<150)(eC:U ea (o3 p q R::S) w0):eJ 40 #[N p,.agg (O.enc h)] w0 (λu w'=>∃d:nl,u= .tuple #[.agg (O.enc (aO 32)),.bool false,i6 0]/\U ea (o3 p d (h::R)::S) w'):=by
 obtain⟨e1,E⟩:=eC.S9;obtain⟨g,a,b,c⟩:=q;obtain rfl:c=1:=e1.g7;obtain rfl:b=((min R.length 150:Nat):Int):=e1.sc;obtain rfl:a=((R.length%150:Nat):Int):=e1.next;exact(erj (ea:=ea) (w0:=w0) (S:=S) (p:=p) (g:=g) (R:=R) (h:=h) e1 hE hlt E).mono λu w'⟨e,E⟩=>⟨_,e,E.CR (YX e1 (h:=h) (Al:=(min R.length 150+1)) (by omega))⟩
theorem Rn(hE:h∉R.take 150)(uJ:150<=R.length)(eC:U ea (o3 p q R::S) w0):eJ 40 #[N p,.agg (O.enc h)] w0 (λu w'=>∃e:nl,u= .tuple #[.agg (O.enc (R.getD 149 (aO 32))),.bool true,i6 0]/\U ea (o3 p e (h::R)::S) w'):=by
 obtain⟨e1,E⟩:=eC.S9;obtain⟨g,a,b,c⟩:=q;obtain rfl:c=1:=e1.g7;obtain rfl:b=((min R.length 150:Nat):Int):=e1.sc;obtain rfl:a=((R.length%150:Nat):Int):=e1.next;have d:R.length%150<g.l.length:=by rw[g.eB];exact Nat.mod_lt _ (by decide)
 have Z:=e1.ot 149 (by omega) (by decide);have f:g.l[R.length%150]=R.getD 149 (aO 32):=by
  rw[show(R.length+149-149)%150=R.length%150 by omega,List.getElem?_eq_getElem d]at Z;rw[List.getD_eq_getElem?_getD,List.getElem?_eq_getElem (show 149<R.length by omega)];exact Option.some.inj Z
 refine(erq e1 hE uJ d E).mono λu w'⟨i,E⟩=>⟨_,?_,E.CR (YX e1 (by omega))⟩;rw[i,f]
variable{L:List (sd×iM)}{g:sd}{tj tZ:Nat}{q r:sd×iM}{v oU o5:Option Nat}{w':World}
structure uh where
 of:Option Nat
 all:Option Nat
variable{x:uh}
def uh.parts(x:uh):List (Array Value):=[#[.map x.of],#[.map x.all]]
theorem erz(x:uh):x.parts.map Array.size=[1,1]:=by
 simp only[uh.parts,List.map,O.ez];rfl
instance:O uh where
 enc x:=eK x.parts
 eo:=2
 pos:=by omega
 ez x:=by rw[iw,erz];rfl
 one x:=rD (all_cons (ze _) (all_cons (ze _) rC))
theorem erE(x:uh):(O.enc x)[1]? =some (.map x.all):=hu [#[.map x.of]] [] _ sU
instance(priority:=2000):nt (⟨oU,o5⟩:uh) [#[.map oU],#[.map o5]]:=⟨rfl⟩
def tG(h:iM):Value:=.agg (O.enc h)
structure nG where
 tj:Nat
 tZ:Nat
 all:List (iM×(Value×List sd))
variable{d:nG}
def Rs(p:Nat)(d:nG)(L:List (sd×iM)):List eH:=
 [B p (O.enc (uh.mk (some d.tj) (some d.tZ))) 249,tM d.tj tG L,tM d.tZ Prod.fst d.all]++fs 251 d.all
@[irreducible] def pT (p:Nat) (d:nG) (L:List (sd×iM)):eH:=hC (Rs p d L)
def yB(L:List (sd×iM))(h:iM):List sd:=(L.filter λq=>decide (q.2=h)).map Prod.fst
def fy:Value×List sd:=(eF,[])
def gg(L:List (sd×iM))(d:nG):Prop:=(L.map Prod.fst).Nodup/\∀h:iM,((tL h d.all).getD fy).2=yB L h
theorem U.YJ(h:U w0 (pT p d L::S) w):
 U w0 (B p (O.enc (uh.mk (some d.tj) (some d.tZ))) 249::tM d.tj tG L::tM d.tZ Prod.fst d.all::(fs 251 d.all++S)) w:=by
 unfold pT at h;exact h.de
theorem U.Rr(d:nG)
 (h:U w0 (B p (O.enc (uh.mk (some d.tj) (some d.tZ))) 249::tM d.tj tG L::tM d.tZ Prod.fst d.all::(fs 251 d.all++S)) w):U w0 (pT p d L::S) w:=by
 unfold pT;exact U.closed (l:=Rs p d L) h
def YQ(w:World)(p:Nat)(d:nG)(L:List (sd×iM)):Prop:=an w (N p) (O.enc (uh.mk (some d.tj) (some d.tZ)))/\hV w d.tj tG L
theorem U.erT(h:U w0 S w)(a:tP (pT p d L) S):YQ w p d L:=by
 have G:=h.get a;unfold pT at G;rw[p2]at G;refine⟨?_,?_⟩
 .have:=G.2 (B p (O.enc (uh.mk (some d.tj) (some d.tZ))) 249) (by simp[Rs]);unfold B at this;exact an.dF this
 have:=G.2 (tM d.tj tG L) (by simp[Rs]);rw[mA]at this;exact this
def EX(L:List (sd×iM))(g:sd)(h:iM):List (sd×iM):=if(tL g L).isSome=true then L else L++[(g,h)]
def xB(L:List (sd×iM))(h:iM):List (sd×iM):=L.filter λq=>decide (q.2≠h)
theorem erA(hd:gg L d)(c:(tL g L).isSome=false){v:Value}:
 gg (EX L g h) {d with all:=oC h (v,((tL h d.all).getD fy).2++[g]) d.all}:=by
 unfold EX;rw[if_neg (by rw[c];decide)];have f:tL g L=none:=by simpa using c
 refine⟨?_,λh'=>?_⟩
 .rw[List.map_append];refine List.nodup_append.2 ⟨hd.1,by simp,λa ep b hb=>?_⟩;simp at hb;subst hb;exactλe=>zt.1 f (e▸ep)
 show((tL h' (oC h _ d.all)).getD fy).2=_;rw[mT];by_cases e:h'=h
 .subst e;rw[if_pos rfl];show((tL h' d.all).getD fy).2++[g]=_;rw[hd.2 h'];simp[yB,List.filter_append]
 rw[if_neg e,hd.2 h'];simp[yB,List.filter_append,Ne.symm e]
theorem erO(hd:gg L d)(b:(d.all.map Prod.fst).Nodup):gg (xB L h) {d with all:=sp h d.all}:=by
 refine⟨(List.Sublist.map _ List.filter_sublist).nodup hd.1,λh'=>?_⟩;show((tL h' (sp h d.all)).getD fy).2=_;rw[HC h h' b];by_cases e:h'=h
 .subst e;rw[if_pos rfl];have:(L.filter λq=>decide (q.2≠h')).filter (λq=>decide (q.2=h'))=[]:=by
   rw[List.filter_eq_nil_iff];intro q a;simp at a;simp[a.2]
  simp only[yB,xB,this];rfl
 rw[if_neg e,hd.2 h'];simp only[yB,xB,List.filter_filter];congr 1;refine List.filter_congr λq _=>?_;by_cases a:q.2=h'<;>simp[a,e]
def qk(L:List (sd×iM))(gs:List sd):List (sd×iM):=L.filter λq=>decide (q.1∉gs)
theorem erI(L:List (sd×iM)):qk L []=L:=by simp[qk]
theorem erN(a:(L.map Prod.fst).Nodup){gs:List sd}(b:k<gs.length):sp gs[k] (qk L (gs.take k))=qk L (gs.take (k+1)):=by
 rw[FQ (by exact(List.Sublist.map _ List.filter_sublist).nodup a)];unfold qk;rw[List.filter_filter,List.take_succ_eq_append_getElem b];refine List.filter_congr λq _=>?_;simp only[List.mem_append,List.mem_singleton,not_or,decide_not];rw[Bool.and_comm,<-decide_not,<-decide_not,Bool.eq_iff_iff];simp
theorem erS(a:(L.map Prod.fst).Nodup)(b:q∈L)(hr:r∈L)(e:q.1=r.1):q=r:=by
 induction L with
 |nil=>cases b
 |cons x L c=>
  simp only[List.map_cons,List.nodup_cons]at a;rcases List.mem_cons.1 b with G|G
  .rcases List.mem_cons.1 hr with Y|Y
   .rw[G,Y]
   exact absurd (List.mem_map_of_mem (f:=Prod.fst) Y) (by rw[<-e,G];exact a.1)
  rcases List.mem_cons.1 hr with Y|Y
  .exact absurd (List.mem_map_of_mem (f:=Prod.fst) G) (by rw[e,Y];exact a.1)
  exact c a.2 G Y
theorem erR(b:(L.map Prod.fst).Nodup)(h:iM):qk L (yB L h)=xB L h:=by
 refine List.filter_congr λq a=>?_;rw[Bool.eq_iff_iff,decide_eq_true_eq,decide_eq_true_eq];constructor
 .intro G Y;exact G (List.mem_map_of_mem (List.mem_filter.2 ⟨a,by simpa using Y⟩))
 intro G Y;obtain⟨r,hr,e⟩:=List.mem_map.1 Y;obtain⟨c,d⟩:=List.mem_filter.1 hr;have:=erS b a c e.symm;subst this;exact G (by simpa using d)
theorem erH:oB prog 42 (tG (aO 32)):=by
 have h:oB prog 42 _:=inferInstance;unfold tG;rw[iW];exact h
theorem CU(a:an w0 (N p) (O.enc (uh.mk (some tj) (some tZ)))):tS 103 #[N p] w0 (.bool true):=by
 have:=ir a;refine eN 21 (eY _) func103 ntmps103 results103 rfl λw E=>?_;exact⟨rfl,E.ee⟩
theorem YZ(ep:YQ w0 p d L):tS 121 #[N p,.agg (O.enc g)] w0 (.bool (tL g L).isSome):=by
 refine eN 10 (eY _) func121 ntmps121 results121 rfl λt6 w E=>?_;refine ev 3 E (CU (ep.1.es E.ee))<|na 0 3 (λa b w E=>?_) (λ_ b w E=>?_)
 .
   exact absurd a (by decide)
 .
   have:=ir ep.1;refine nC 5 12 (eX [0,1,2,3,4,5,6,7,8] (oA [9,10] (.look 11 .nil))) [] E λw E=>?_;refine tl rfl (λw E=>zn (tn:=sd) (e7:=tG) (z0:=aO 32) (u:=(tL g L).getD (aO 32)) erH (ep.2.es E.ee) rfl rfl rfl eG) (t7 3 E λw E=>(ol rfl (sI E ?_)));intro c w e E;refine⟨pp E,?_⟩;refine n8 rfl rfl (iJ E rfl rfl en (by first|rfl|exact O.ez _) (tH en λw E=>?_));refine⟨pp E,?_⟩;refine t7 11 E λw E=>?_;exact⟨rfl,E.ee⟩
variable{b:Bool}
theorem erL(eC:U ea (pT p d L::S) w0)(hd:gg L d)(eB:L.length<=100000):eJ 338 #[N p,.agg (O.enc g),.agg (O.enc h)] w0 (λu w'=>∃d',u= .int .i64 (if(tL g L).isSome=true then 28 else 0)/\gg (EX L g h) d'/\U ea (pT p d' (EX L g h)::S) w'):=by
 refine eN 12 eC.YJ func338 ntmps338 results338 rfl λaW i w E=>?_;refine ev 4 E (CU (E.tb en))<|na 0 4 (λj l w E=>?_) (λ_ l w E=>?_)
 .
   exact absurd j (by decide)
 .
   refine ev 3 E (YZ ⟨E.tb en,E.map en⟩)<|na 9 0 (λb m w E=>?_) (λb m w E=>?_)
   .
     have e5:EX L g h=L:=if_pos b;rw[e5,if_pos b];exact⟨d,rfl,hd,E.nS.nS.Rr⟩
   .
     have n:tL g L=none:=by simpa using b
     refine eA 4 E ?_;refine aC 6 6 (eX [0,1,2,3,4,5] (.one 6 .nil)) [] λw E=>?_;refine nH rfl (J.mapUpdate (tn:=sd) (k:=g) (v:=h) (e7:=tG) E en rfl rfl rfl (tH en λw E=>(t7 1 E λw E=>?_)));rw[TL n]at E;obtain⟨_,_,_,o⟩:=E.map (r:=d.tZ) (e7:=Prod.fst) (eI:=d.all) en;have q:=o.2.2;replace E:=E.FJ [_,_,_,_,_] h;simp only[List.cons_append,List.nil_append]at E;have t:(yB L h).length<=L.length:=by unfold yB;rw[List.length_map];exact List.length_filter_le _ _
     have c:((tL h d.all).getD fy).2.length<=100000:=by rw[hd.2 h];omega
     replace E:U ea (V ((tL h d.all).getD fy).1 251 ((tL h d.all).getD fy).2::B i (O.enc h) 42::B aW (O.enc g) 251::B p (O.enc (uh.mk (some d.tj) (some d.tZ))) 249::tM d.tj tG (L++[(g,h)])::tM d.tZ Prod.fst d.all::(fs 251 (sp h d.all)++S)) w:=E;generalize e:((tL h d.all).getD fy)=X at E c;refine s6 2 E λw E=>?_;refine vj 12 (eX [0,1,2,3,4,5] (oA [6,7] (eX [8,10] (oA [9,11] .nil)))) (by kernel_rfl) (λ_ _ _ h=>h) (λaB s=>?_);replace E:=E.es s;have x:=E;refine⟨λw=>U ea [B i (O.enc h) 42,B aW (O.enc g) 251,B p (O.enc (uh.mk (some d.tj) (some d.tZ))) 249] w,E.sub aS,?_⟩;refine e2.look rfl rfl rfl (λw a=>(by have E:=a;exact oI (v:=N p) rfl ⟨rfl,rfl⟩)) ?_;refine e2.look rfl rfl rfl (λw a=>(by have E:=a;exact sk rfl ⟨rfl,rfl⟩)) ?_;refine e2.look rfl rfl rfl (λw a=>(by have E:=a;exact o9 rfl ⟨rfl,rfl⟩)) ?_;refine e2.look rfl rfl rfl (λw a=>(by have E:=a;exact ag rfl (E.a6 en (erE _)) ⟨rfl,rfl⟩)) ?_;refine e2.look rfl rfl rfl (λw a=>(by have E:=a;exact ag rfl (E.n5 (cs:=O.enc h) en (O.ez _)) ⟨rfl,rfl⟩)) ?_;refine e2.look rfl rfl rfl (λw a=>(by have E:=a;exact ag rfl (E.n5 (cs:=O.enc g) en (O.ez _)) ⟨rfl,rfl⟩)) ?_;refine ol rfl (n7 E (([g]:List sd)) [.agg (O.enc g)] rfl rfl rfl rfl (by decide) ?_);intro y w a E;refine⟨E.sub aS,?_⟩;refine ol rfl (J.mapEntry (tn:=iM) (tx:=Value×List sd) (k:=h) (e7:=Prod.fst) (z0:=fy) inferInstance E en rfl rfl ?_);intro born w E;replace E:=E _ en;rw[e]at E;rw[e];refine⟨E.sub aS,?_⟩;refine e2.look rfl rfl rfl (λw a=>(by have E:=a;exact J.extract rfl rfl ⟨rfl,rfl⟩)) ?_;refine e2.look rfl rfl rfl (λw a=>(by have E:=a;exact J.extract rfl rfl ⟨rfl,rfl⟩)) ?_;refine ol rfl (dj (α:=Vector UInt8 64) rfl E rfl en (E.eu en) (by simp only[List.length_cons,List.length_nil];omega) (by simp only[maxLen];simp only[List.length_cons,List.length_nil];omega) ?_);intro f w E;replace E:=E _ en;refine⟨E.sub aS,?_⟩;refine n8 rfl rfl (J.entryStore (tn:=iM) (tx:=Value×List sd) (k:=h) (v:=(f,X.2++[g])) (e7:=Prod.fst) E en rfl rfl rfl (tH en λw E=>?_));refine⟨E.sub aS,?_⟩;refine e2.nil ?_;rw[IH]at E;replace E:=E.nS.JA [_,_,_,_,_] q;simp only[List.cons_append,List.nil_append]at E;refine s6 8 E λw E=>?_;have e5:EX L g h=L++[(g,h)]:=if_neg (by rw[b];decide);have ew:=erA (h:=h) hd b (v:=f);rw[show((tL h d.all).getD fy).2=X.2 from by rw[e]]at ew;rw[e5]at ew⊢;rw[if_neg (by rw[b];decide)];exact⟨_,rfl,ew,E.nS.nS.Rr {d with all:=oC h (f,X.2++[g]) d.all}⟩
theorem Y0(eC:U ea (pT p d L::S) w0)(hd:gg L d):eJ 41 #[N p,.agg (O.enc h)] w0 (λu w'=>∃d',u= .int .i64 ((yB L h).length:Int)/\gg (xB L h) d'/\U ea (pT p d' (xB L h)::S) w'):=by
 refine eN 10 eC.YJ func41 ntmps41 results41 rfl λt6 w E=>?_;refine ev 1 E (CU (E.tb en)) λw E=>?_;obtain⟨_,_,_,i⟩:=E.map (r:=d.tZ) (e7:=Prod.fst) (eI:=d.all) en;have j:=i.2.2;replace E:=E.FJ [_,_,_,_] h;simp only[List.cons_append,List.nil_append]at E;replace E:U ea (V ((tL h d.all).getD fy).1 251 ((tL h d.all).getD fy).2::B t6 (O.enc h) 42::B p (O.enc (uh.mk (some d.tj) (some d.tZ))) 249::tM d.tj tG L::tM d.tZ Prod.fst d.all::(fs 251 (sp h d.all)++S)) _:=E;have a:((tL h d.all).getD fy).2=yB L h:=hd.2 h;generalize b:((tL h d.all).getD fy)=X at E a;replace E:=E.swap;refine ey 2 E<|na 0 3 (λl m w E=>?_) (λ_ m w E=>?_)
 .
   exact absurd l (by decide)
 .
   refine nC 5 8 (eX [0,1,2,3,4,5,6,7] .nil) [] E λw E=>?_;refine tl rfl (λw E=>ym (tn:=iM) (tx:=Value×List sd) (k:=h) (e7:=Prod.fst) (z0:=fy) (u:=X) inferInstance (E.map en) rfl rfl b eG) (t7 6 E ?_);refine aC 5 8 (eX [0,1,2,3,4,5,6,7] .nil) [] λw E=>?_;refine tl rfl (λw E=>ym (tn:=iM) (tx:=Value×List sd) (k:=h) (e7:=Prod.fst) (z0:=fy) (u:=X) inferInstance (E.map en) rfl rfl b eG) (t7 5 E λw E=>?_);refine ek.loop (λq f w=>∃k:Nat,oV [(0,N p),(3,N t6),(5,i6 X.2.length),(23,X.1),(24,i6 X.2.length),(25,i6 k)] f/\U ea (B t6 (O.enc h) 42::V X.1 251 X.2::B p (O.enc (uh.mk (some d.tj) (some d.tZ))) 249::tM d.tj tG (qk L (X.2.take k))::tM d.tZ Prod.fst d.all::(fs 251 (sp h d.all)++S)) w/\k<=X.2.length/\q=X.2.length-k) (X.2.length) ?_ ?_
   .
     exact⟨0,⟨rfl,rfl,rfl,rfl,rfl,rfl,trivial⟩,by rw[List.take_zero,erI];exact E,Nat.zero_le _,rfl⟩
   .
     rintro q f w ⟨k,c,E,x,e5⟩;refine il _ c (λg=>?_);clear c;refine eA 6 E<|om 0 0 (λo w E=>?_) (λo w E=>?_)
     .
       have e:k<X.2.length:=by omega
       have s:=(E.eu (xs:=X.2) en).le;simp only[maxLen]at s;refine eA 7 E ⟨⟨by omega⟩,λ_ w E=>?_⟩;have:=lq e;refine ey 5 E λy=>?_;refine aC 5 5 (eX [0,1,2,3,4] (.one 5 .nil)) [] λw E=>?_;refine nH rfl (J.delete (t:=246) (tn:=sd) (k:=X.2[k]) (e7:=tG) rfl E en rfl rfl (tH en λw E=>(t7 8 E ⟨ib,λw E=>?_⟩)));rw[erN hd.1 e]at E;exact⟨X.2.length-(k+1),by omega,k+1,⟨rfl,rfl,rfl,rfl,rfl,congrArg (Value.int .i64) (by omega),trivial⟩,E.nS,by omega,rfl⟩
     .
       have v:k=X.2.length:=by omega
       rw[v,List.take_length,a,erR hd.1]at E;refine eA 6 E ?_;refine aC 5 5 (eX [0,1,2,3,4] (.one 5 .nil)) [] λw E=>?_;exact nH rfl (J.delete (t:=247) (tn:=iM) (tx:=Value×List sd) (k:=h) (e7:=Prod.fst) rfl E en rfl rfl (tH en λw E=>(t7 10 E λw E=>(⟨_,congrArg (λn:Nat=>Value.int .i64 (n:Int)) (congrArg List.length a),erO hd j,E.nS.nS.Rr {d with all:=sp h d.all}⟩))))
theorem erC:eJ 74 #[] w0 (λu w'=>∃p d,u=N p/\gg [] d/\jk w0 w' (pT p d [])/\eV w0 w'):=by
 refine eN 7 (eY _) func74 ntmps74 results74 rfl λw E=>?_;refine et (J.makeMap sd tG E ?_);intro tj w _ E;refine et (J.makeMap iM (Prod.fst:Value×List sd->Value) E ?_);intro tZ w _ E;refine af 6 E (p5 ((uh.mk (some tj) (some tZ)):uh)) λaW w E=>?_;refine⟨aW,⟨tj,tZ,[]⟩,rfl,⟨by simp,λh=>rfl⟩,?_,E.ee⟩;replace E:=(E.hK (tp:=[B aW (O.enc (uh.mk (some tj) (some tZ))) 249,tM tj tG [],tM tZ Prod.fst ([]:List (iM×(Value×List sd)))]) (.cons _ (.swap _ _ _))).Rr (S:=[]) ⟨tj,tZ,[]⟩;exact E.zi .nW
@[irreducible] def it (p:Nat) (d:nG) (L:List (sd×iM)):eH:=hC [nn (gg L d),pT p d L]
theorem U.Rh(h:U w0 (it p d L::S) w):(gg L d)/\U w0 (pT p d L::S) w:=by
 unfold it at h;have h:=h.de;have G:=h.get (e:=nn (gg L d)) .em;rw[md]at G;exact⟨G,h.sub (List.sublist_cons_self _ _)⟩
theorem Rl(e1:gg L d)(h:U w0 (pT p d L::S) w):U w0 (it p d L::S) w:=by
 unfold it;exact U.closed (l:=[nn (gg L d),pT p d L]) (h.pure e1)
theorem erU:eJ 74 #[] w0 (λu w'=>∃(p:Nat)(d:nG),u=N p/\U w0 [it p d []] w'):=by
 refine(erC).mono ?_;rintro u w' ⟨p,d,rfl,hd,a,hb⟩;exact⟨p,d,rfl,Rl hd ((eY w0).TW hb a)⟩
theorem Y1(a:(tL g L).isSome=b)(c:U ea S w0)(e:tP (it p d L) S):tS 121 #[N p,.agg (O.enc g)] w0 (.bool b):=by
 subst a;exact YZ ((c.mem e).Rh.2.erT .em)
theorem erM(eC:U ea (it p d []::S) w0):eJ 338 #[N p,.agg (O.enc g),.agg (O.enc h)] w0 (λu w'=>∃d:nG,u=i6 0/\U ea (it p d [(g,h)]::S) w'):=by
 obtain⟨hd,E⟩:=eC.Rh;refine(erL E hd (by simp)).mono ?_;rintro u w' ⟨d',rfl,G,Y⟩;exact⟨d',rfl,Rl G Y⟩
theorem erF(g:sd)(h:iM):xB [(g,h)] h=[]:=by simp[xB]
theorem Y2(eC:U ea (it p d [(g,h)]::S) w0):eJ 41 #[N p,.agg (O.enc h)] w0 (λu w'=>∃d:nG,u=i6 1/\U ea (it p d []::S) w'):=by
 obtain⟨hd,E⟩:=eC.Rh;refine(Y0 E hd).mono ?_;rintro u w' ⟨d',rfl,G,Y⟩;rw[erF]at G Y;exact⟨d',by simp[yB],Rl G Y⟩
theorem Y3(eC:U ea (it p d []::S) w0):eJ 41 #[N p,.agg (O.enc h)] w0 (λu w'=>∃d:nG,u=i6 0/\U ea (it p d []::S) w'):=by
 obtain⟨hd,E⟩:=eC.Rh;refine(Y0 E hd).mono ?_;rintro u w' ⟨d',rfl,G,Y⟩;exact⟨d',rfl,Rl G Y⟩
end
end Go.Fer
