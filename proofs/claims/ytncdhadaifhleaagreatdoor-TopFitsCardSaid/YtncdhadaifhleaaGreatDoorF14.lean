import Derived.Test.YtncdhadaifhleaaGreatDoorF9
set_option linter.all false
set_option synthInstance.maxSize 100000
set_option synthInstance.maxHeartbeats 400000
set_option maxHeartbeats 8000000
set_option maxRecDepth 100000
namespace Go.Fer
open Go Go.RowKit
section
open Go.Proofs Tryz
variable{S:List eL}{k n p:Nat}{m v o3 n1 li:Int}{w w0:World}
structure wK where
 l:List (Vector UInt8 32)
 eM:l.length=150
variable{r oL:wK}
instance:O wK where
 enc r:=(iE r.l).toArray
 eo:=4800
 pos:=by decide
 eT r:=by rw[List.size_toArray,uj,r.eM];rfl
 one r:=by rw[List.toList_toArray];exact IN r.l
theorem Ue(r:wK):O.enc r=(iE r.l).toArray:=rfl
theorem Ut:O.eo (Vector UInt8 32)=32:=rfl
theorem erf(a:k<r.l.length):(O.enc r).extract (k*32) (k*32+32)=O.enc (r.l[k]):=by
 rw[Ue];apply Array.ext';rw[Array.toList_extract,List.toList_toArray];have G:r.l.drop k=r.l[k]::r.l.drop (k+1):=List.drop_eq_getElem_cons a;have Y:=IH r.l k;rw[Ut,G,yr]at Y;show List.take (k*32+32-k*32) (List.drop (k*32) (iE r.l))=_;rw[show k*32+32-k*32=32 by omega,<-Y,List.take_append_of_le_length (by rw[Array.length_toList,O.eT];exact Nat.le_refl _),List.take_of_length_le (by rw[Array.length_toList,O.eT];exact Nat.le_refl _)]
def wK.set(r:wK)(k:Nat)(h:Vector UInt8 32):wK:=⟨r.l.set k h,by rw[List.length_set];exact r.eM⟩
theorem erp(a:k<r.l.length){h:Vector UInt8 32}:iH (O.enc r) (k*32) (O.enc h)=O.enc (r.set k h):=by
 have b:(O.enc r).size=4800:=O.eT r;have c:(O.enc h).size=32:=O.eT h;have d:=r.eM;unfold iH;rw[b,c];apply Array.ext';simp only[Array.toList_append,Array.toList_extract,Ue,List.toList_toArray,List.drop_zero,Nat.sub_zero,wK.set];have e:r.l.set k h=r.l.take k++h::r.l.drop (k+1):=List.set_eq_take_append_cons_drop.trans (if_pos a);rw[e,vy,yr,IR,IH,Ut,List.append_assoc];congr 2;rw[show(k+1)*32=k*32+32 by omega];exact List.take_of_length_le (by rw[List.length_drop,uj,d,Ut];omega)
def EJ:wK:=⟨List.replicate 150 (oc 32),by rw[List.length_replicate]⟩
structure sg where
 ring:wK
 next:Int
 sp:Int
 wX:Int
variable{q x:sg}
def sg.parts(x:sg):List (Array Value):=[O.enc x.ring,#[.int .i64 x.next],#[.int .i64 x.sp],#[.int .i64 x.wX]]
theorem erg(x:sg):x.parts.map Array.size=[4800,1,1,1]:=by
 simp only[sg.parts,List.map,O.eT];rfl
instance:O sg where
 enc x:=eK x.parts
 eo:=4803
 pos:=by omega
 eT x:=by rw[iw,erg];rfl
 one x:=rY (all_cons (O.one _) (all_cons (o0 _ _) (all_cons (o0 _ _) (all_cons (o0 _ _) rB))))
theorem ery(x:sg):O.enc x=eK x.parts:=rfl
theorem Bd:(O.enc x).extract 0 (0+4800)=O.enc x.ring:=pV [] [#[.int .i64 x.next],#[.int .i64 x.sp],#[.int .i64 x.wX]] _ sH (by rw[O.eT];rfl)
theorem erb(x:sg)(v:wK):iH (O.enc x) 0 (O.enc v)=O.enc {x with ring:=v}:=by
 have h:=rG [] [#[.int .i64 x.next],#[.int .i64 x.sp],#[.int .i64 x.wX]] (O.enc x.ring) (O.enc v) (by first|(rw[O.eT,O.eT];done)|rfl);rw[show(eK []).size=0 from sH]at h;exact h
theorem erv(x:sg)(v:Int):iH (O.enc x) 4800 #[.int .i64 v]=O.enc {x with next:=v}:=by
 have h:=rG [O.enc x.ring] [#[.int .i64 x.sp],#[.int .i64 x.wX]] (#[.int .i64 x.next]) (#[.int .i64 v]) (by first|(rw[O.eT,O.eT];done)|rfl);rw[show(eK [O.enc x.ring]).size=4800 from sH]at h;exact h
theorem erk(x:sg)(v:Int):iH (O.enc x) 4801 #[.int .i64 v]=O.enc {x with sp:=v}:=by
 have h:=rG [O.enc x.ring,#[.int .i64 x.next]] [#[.int .i64 x.wX]] (#[.int .i64 x.sp]) (#[.int .i64 v]) (by first|(rw[O.eT,O.eT];done)|rfl);rw[show(eK [O.enc x.ring,#[.int .i64 x.next]]).size=4801 from sH]at h;exact h
instance:nt x [O.enc x.ring,#[.int .i64 x.next],#[.int .i64 x.sp],#[.int .i64 x.wX]]:=⟨rfl⟩
instance(priority:=2000):nt (⟨oL,o3,n1,li⟩:sg) [O.enc oL,#[.int .i64 o3],#[.int .i64 n1],#[.int .i64 li]]:=⟨rfl⟩
instance:st (O.enc x) 4800 #[.int .i64 v] (O.enc {x with next:=v}):=⟨by rw[O.eT];exact Nat.le_of_ble_eq_true rfl,erv x v⟩
instance:st (O.enc x) 4801 #[.int .i64 v] (O.enc {x with sp:=v}):=⟨by rw[O.eT];exact Nat.le_of_ble_eq_true rfl,erk x v⟩
abbrev sW:=Vector UInt8 32
variable{R:List sW}{h:sW}
structure gd(q:sg)(R:List sW):Prop where
 wX:q.wX=1
 sp:q.sp=((min R.length 150:Nat):Int)
 next:q.next=((R.length%150:Nat):Int)
 aQ:∀i(h:i<R.length),i<150->q.ring.l[(R.length+149-i)%150]? =some R[i]
@[irreducible] def iF (p:Nat) (q:sg) (R:List sW):eL:=hD [no (gd q R),V p (O.enc q) 245]
theorem U.Ua(h:U w0 (iF p q R::S) w):gd q R/\U w0 (V p (O.enc q) 245::S) w:=by
 unfold iF at h;have h:=h.dr;have G:=h.get (e:=no (gd q R)) .em;rw[mf]at G;exact⟨G,h.sub (List.sublist_cons_self _ _)⟩
theorem U.Bc(e1:gd q R)(h:U w0 (V p (O.enc q) 245::S) w):U w0 (iF p q R::S) w:=by
 unfold iF;exact U.closed (l:=[no (gd q R),V p (O.enc q) 245]) (h.pure e1)
theorem Bu(h:U w0 S w)(a:tX (iF p q R) S):gd q R/\ar w (N p) (O.enc q):=
 ⟨(h.mem a).Ua.1,(h.mem a).Ua.2.tU .em⟩
theorem erx(a:q.next=((n%150:Nat):Int))(b:k<150):(((q.next-1) -(k:Int))+300).tmod 150=(((n+149-k)%150:Nat):Int):=by
 rw[a,Int.tmod_eq_emod_of_nonneg (by omega)];omega
theorem gd.ax(h:gd q R)(b:k<R.length)(G:k<150):(O.enc q).extract (((R.length+149-k)%150)*32) (((R.length+149-k)%150)*32+32)=O.enc R[k]:=by
 have ey:(R.length+149-k)%150<q.ring.l.length:=by rw[q.ring.eM];exact Nat.mod_lt _ (by decide)
 have e:=h.aQ k b G;rw[List.getElem?_eq_getElem ey]at e;have a:=QH (o:=0) (e:=0+4800) (i:=((R.length+149-k)%150)*32) (j:=((R.length+149-k)%150)*32+32) (Bd) (erf ey) (by have:=q.ring.eM;omega);rw[Option.some.inj e,Nat.zero_add,Nat.zero_add]at a;exact a
theorem Bm(a:∀j,j<k->R[j]?≠some h)(b:k<R.length)(c:R[k]≠h):∀j,j<k+1->R[j]?≠some h:=by
 intro j d;rcases Nat.lt_or_ge j k with G|G
 .exact a j G
 obtain rfl:j=k:=by omega
 rw[List.getElem?_eq_getElem b];exactλe=>c (Option.some.inj e)
theorem erj(a:h∈R.take 150)(b:∀j,j<k->R[j]?≠some h)(th:m=((min R.length 150:Nat):Int))(d:m<=(k:Int)):False:=by
 obtain⟨j,c,e⟩:=List.getElem_of_mem a;rw[List.length_take]at c;rw[List.getElem_take]at e;exact b j (by omega) (by rw[List.getElem?_eq_getElem (by omega),e])
theorem erq(a:k<R.length)(G:k<150)(e:R[k]=h):h∈R.take 150:=by
 rw[<-e];exact List.mem_of_getElem (l:=R.take 150) (i:=k) (h:=by rw[List.length_take];omega) (by rw[List.getElem_take])
theorem Uo(a:ar w0 (N p) (O.enc q))(th:q.wX=1):tN 102 #[N p] w0 (.bool true):=by
 have:=iu a;refine eH 14 (eG _) func102 ntmps102 results102 rfl ?_;refine eP true 6 λw E=>?_;exact⟨rfl,E.J⟩
theorem Bf(a:ar w0 (N p) (O.enc q))(b:q.next=((n%150:Nat):Int))(c:k<150):tN 114 #[N p,i6 k] w0 (.int .i64 (((n+149-k)%150:Nat):Int)):=by
 have d:(0:Int)<=q.next/\q.next<150:=by omega
 have:=iu a;refine eH 15 (eG _) func114 ntmps114 results114 rfl ⟨iA,⟨iA,⟨iA,λw E=>?_⟩⟩⟩;refine ag 5 E (Do (by omega) (erx b c)) λw E=>?_;exact⟨rfl,E.J⟩
theorem erz(r:h∈R.take 150)(c:gd q R)(d:ar w0 (N p) (O.enc q)):eJ 46 #[N p,.agg (O.enc h)] w0 (λu w'=>∃(eE:Nat),u= .tuple #[i6 eE,.bool true]/\eB w0 w'):=by
 have C:=c.sp;have s:=c.next;have t:=c.wX;refine eH 7 (eG _) func46 ntmps46 results46 rfl λtZ w E=>?_;refine ex.scope ?_;refine eI 4 E λw E=>?_;refine ej 7 E (Uo (d.ei E.J) t) λw E=>?_;refine ex.label ?_;have:=iu d;refine s4 12 E λw E=>?_;refine ex.loop (λm f w=>∃k:Nat,oW [(0,N p),(3,N tZ),(4,i6 0),(5,.bool false),(13,.int .i64 q.sp),(14,i6 k)] f/\U w0 [V tZ (O.enc h) 42] w/\(∀j,j<k->R[j]?≠some h)/\(k:Int)<=q.sp/\m=150-k) (150) ?_ ?_
 .
   exact⟨0,⟨rfl,rfl,rfl,rfl,rfl,sF,trivial⟩,E,λj x=>absurd x (by omega),by omega,rfl⟩
 .
   rintro m f w ⟨k,e,E,l,D,th⟩;refine io _ e (λg=>?_);clear e;refine eI 6 E<|om 0 0 (λy w E=>?_) (λy w E=>?_)
   .
     have z:k<150:=by omega
     have n:k<R.length:=by omega
     refine eI 12 E ?_;refine ow 6 10 (e5 [0,1,2,4,5,8] (.one 3 (e5 [6,7,9] .nil))) [] λw E=>?_;refine iK 0 E (Bf (d.ei E.J) s (by first|omega|simp)) λw E=>?_;refine tw rfl (λw E=>ph (b:=p) (o:=0) (i:=((((R.length+149-k)%150):Nat):Int)) rfl rfl ⟨by omega,by omega⟩ eY) (fY 0 E (hT (v:=.agg (O.enc R[k])) λw E=>s0.wc (d.ei E.J) (((R.length+149-k)%150)*32) (c.ax n z) (by rw[O.eT];show _<=4803;omega)) λw E=>(tw rfl (λw E=>T6 rfl rfl eY) (ao 2 E λw E=>?_)));refine ex.cond _ rfl (λa=>?_) (λa=>?_)
     .
       have A:=a;have B:=a
       try simp only[rs]at a
       refine eI 9 E ⟨iA,λw E=>?_⟩;exact⟨150-(k+1),by omega,k+1,⟨rfl,rfl,rfl,rfl,rfl,sF,trivial⟩,E,Bm l n a,by omega,rfl⟩
     .
       have A:=a;have B:=a
       try simp only[rs]at a
       refine eI 4 E λw E=>?_;refine ea (oD rfl ?_);refine ea (iM rfl ?_);refine ea (ww rfl ?_);refine ew 10 E λw E=>?_;refine ea (oD rfl ?_);refine ea (di rfl ?_);refine ea (iM rfl ?_);refine ea (ww rfl ?_);refine ew 3 E λw E=>?_;refine Nx ?_;refine s4 1 E λw E=>?_;exact⟨k,rfl,E.J⟩
   .
     exact(erj r l c.sp (by omega)).elim
theorem erE(r:h∉R.take 150)(c:gd q R)(d:ar w0 (N p) (O.enc q)):tN 46 #[N p,.agg (O.enc h)] w0 (.tuple #[i6 0,.bool false]):=by
 have B:=c.sp;have s:=c.next;have t:=c.wX;refine eH 7 (eG _) func46 ntmps46 results46 rfl λtZ w E=>?_;refine ex.scope ?_;refine eI 4 E λw E=>?_;refine ej 7 E (Uo (d.ei E.J) t) λw E=>?_;refine ex.label ?_;have:=iu d;refine s4 12 E λw E=>?_;refine ex.loop (λm f w=>∃k:Nat,oW [(0,N p),(3,N tZ),(4,i6 0),(5,.bool false),(13,.int .i64 q.sp),(14,i6 k)] f/\U w0 [V tZ (O.enc h) 42] w/\(∀j,j<k->R[j]?≠some h)/\(k:Int)<=q.sp/\m=150-k) (150) ?_ ?_
 .
   exact⟨0,⟨rfl,rfl,rfl,rfl,rfl,sF,trivial⟩,E,λj u=>absurd u (by omega),by omega,rfl⟩
 .
   rintro m f w ⟨k,l,E,x,C,th⟩;refine io _ l (λg=>?_);clear l;refine eI 6 E<|om 0 14 (λy w E=>?_) (λy w E=>?_)
   .
     have n:k<150:=by omega
     have e:k<R.length:=by omega
     refine eI 12 E ?_;refine ow 6 10 (e5 [0,1,2,4,5,8] (.one 3 (e5 [6,7,9] .nil))) [] λw E=>?_;refine iK 0 E (Bf (d.ei E.J) s (by first|omega|simp)) λw E=>?_;refine tw rfl (λw E=>ph (b:=p) (o:=0) (i:=((((R.length+149-k)%150):Nat):Int)) rfl rfl ⟨by omega,by omega⟩ eY) (fY 0 E (hT (v:=.agg (O.enc R[k])) λw E=>s0.wc (d.ei E.J) (((R.length+149-k)%150)*32) (c.ax e n) (by rw[O.eT];show _<=4803;omega)) λw E=>(tw rfl (λw E=>T6 rfl rfl eY) (ao 2 E λw E=>?_)));refine ex.cond _ rfl (λa=>?_) (λa=>?_)
     .
       have z:=a;have A:=a
       try simp only[rs]at a
       refine eI 9 E ⟨iA,λw E=>?_⟩;exact⟨150-(k+1),by omega,k+1,⟨rfl,rfl,rfl,rfl,rfl,sF,trivial⟩,E,Bm x e a,by omega,rfl⟩
     .
       have z:=a;have A:=a
       try simp only[rs]at a
       exact(r (erq e n a)).elim
   .
     refine Nx ?_;refine s4 1 E λw E=>?_;exact⟨rfl,E.J⟩
theorem Bp:∀n:Nat,iE (List.replicate n (oc 32))=List.replicate (n*32) (Value.int .u8 0)
 |0=>rfl
 |n+1=>by
  rw[List.replicate_succ,yr,Bp n,nn,Array.toList_replicate,List.replicate_append_replicate];congr 1;omega
theorem erT:O.enc EJ=Array.replicate 4800 (Value.int .u8 0):=by
 apply Array.ext';rw[Ue,List.toList_toArray,EJ,Bp 150,Array.toList_replicate]
instance:nM prog 245 [Array.replicate 4800 (.int .u8 0),#[i6 0],#[i6 0],#[i6 0]]:=sm underlying245 (by kernel_rfl)
theorem erA:gd ⟨EJ,0,0,1⟩ []:=⟨rfl,rfl,rfl,λi h=>absurd h (by simp)⟩
theorem erO:eJ 73 #[] w0 (λu w'=>∃(eE:Nat),u=N eE/\U w0 [V eE (O.enc (⟨EJ,0,0,1⟩:sg)) 245] w'):=by
 refine eH 7 (eG _) func73 ntmps73 results73 rfl λw E=>?_;exact ea (rV (r:=(⟨EJ,0,0,1⟩:sg)) (ps:=sg.parts (⟨EJ,0,0,1⟩:sg)) (ery _) (by show[Array.replicate 4800 (Value.int .u8 0),#[i6 0],#[i6 0],#[i6 1]]=_;rw[<-erT];rfl) (by exact lE ⟨by decide,rfl,trivial⟩) (ew 6 E λaa w E=>(⟨aa,rfl,E⟩)))
theorem erI:eJ 73 #[] w0 (λu w'=>∃(p:Nat)(q:sg),u=N p/\U w0 [iF p q []] w'):=
 (erO).mono λ_ _⟨p,a,E⟩=>⟨p,_,a,E.Bc erA⟩
variable{a b c:Int}{g:wK}{AR EZ px:Nat}{en:World}
theorem Un(c:h∈R.take 150)(a:U en S w0)(b:tX (iF p q R) S):eJ 46 #[N p,.agg (O.enc h)] w0 (λu w'=>∃k:Nat,u= .tuple #[i6 k,.bool true]/\eB w0 w'):=erz (w0:=w0) (p:=p) (q:=q) (R:=R) (h:=h) c (Bu a b).1 (Bu a b).2
theorem erN(h:n<150):((n:Int)+1).tmod 150=(((n+1)%150:Nat):Int):=by
 rw[Int.tmod_eq_emod_of_nonneg (by omega)];omega
theorem erS(d:k<150):iH (O.enc (⟨g,a,b,c⟩:sg)) (0+k*32) (O.enc h)=O.enc (⟨g.set k h,a,b,c⟩:sg):=
 vU (o:=0) (e:=0+4800) (i:=k*32) (Bd) (erp (by rw[g.eM];exact d)) (erb (⟨g,a,b,c⟩:sg) (g.set k h)) (O.eT _) (by rw[O.eT];show 32+k*32<=_;omega) (by decide) (by decide)
theorem erR(e1:gd ⟨g,(px:Int),(EZ:Int),1⟩ R)(th:AR=min (R.length+1) 150):gd ⟨g.set px h,(((px+1)%150:Nat):Int),(AR:Int),1⟩ (h::R):=by
 have a:px=R.length%150:=by have:=e1.next;simp only at this;omega
 subst a;refine⟨rfl,by rw[th];rfl,by simp only[List.length_cons];omega,?_⟩;intro i ey G;simp only[List.length_cons,wK.set]at ey⊢;rw[List.getElem?_set];cases i with
 |zero=>
  rw[if_pos (by omega),if_pos (by rw[g.eM];exact Nat.mod_lt _ (by decide))];rfl
 |succ i=>
  rw[if_neg (by omega),List.getElem_cons_succ,<-e1.aQ i (by omega) (by omega)];congr 1;omega
theorem erH(e1:gd (⟨g,(px:Int),(EZ:Int),1⟩:sg) R)(d:h∉R.take 150)(j:R.length<150)(e:U en (V p (O.enc (⟨g,(px:Int),(EZ:Int),1⟩:sg)) 245::S) w0):eJ 40 #[N p,.agg (O.enc h)] w0 (λu w'=>u= .tuple #[.agg (O.enc (oc 32)),.bool false,i6 0]/\U en (V p (O.enc (⟨(g.set px h),(((px+1)%150:Nat):Int),((EZ:Int)+1),1⟩:sg)) 245::S) w'):=by
 have f:=e1.sp;have a:=e1.next;refine eH 0 e func40 ntmps40 results40 rfl λw E=>?_;simp only at f a;have c:px<150:=by omega
 have k:px<g.l.length:=by rw[g.eM];exact c
 refine eI 12 E λtZ aF w E=>?_;refine ej 11 E (Uo (E.tU .Y) rfl) λw E=>?_;refine ej 22 E (erE d e1 (E.tU .Y)) ?_;refine eP false 21 ⟨iA,?_⟩;refine ow 8 9 (e5 [0,1,2,3,4,5,6,7,8] (.one 9 .nil)) [] λw E=>?_;refine tw rfl (λw E=>ph (b:=p) (o:=0) (i:=(px:Int)) rfl rfl ⟨by omega,by omega⟩ eY) (nP rfl (iU (eo:=O.eo (Vector UInt8 32)) (v:=.agg (O.enc h)) (cs:=O.enc (⟨g,(px:Int),((EZ:Int)+1),1⟩:sg)) (iR:=O.enc (⟨(g.set px h),(px:Int),((EZ:Int)+1),1⟩:sg)) E rfl rfl es (by simp only[Value.cells];exact O.eT h) (by rw[O.eT];show 0+px*32+32<=4803;omega) (by simp only[Value.cells];exact O.one h) (by simp only[Value.cells];exact erS c) (tA es λw E=>?_)));refine ao 10 E ⟨iA,λw E=>?_⟩;refine ag 16 E (Do (by omega) (erN c)) λw E=>?_;exact⟨rfl,(tF [0,1] E)⟩
theorem Bg(d:h∉R.take 150)(e:R.length<150)(f:U en (iF p q R::S) w0):eJ 40 #[N p,.agg (O.enc h)] w0 (λu w'=>∃i:sg,u= .tuple #[.agg (O.enc (oc 32)),.bool false,i6 0]/\U en (iF p i (h::R)::S) w'):=by
 obtain⟨e1,E⟩:=f.Ua;obtain⟨g,a,b,c⟩:=q;obtain rfl:c=1:=e1.wX;obtain rfl:b=((min R.length 150:Nat):Int):=e1.sp;obtain rfl:a=((R.length%150:Nat):Int):=e1.next;exact(erH (en:=en) (w0:=w0) (S:=S) (p:=p) (g:=g) (R:=R) (h:=h) e1 d e E).mono λu w'⟨j,E⟩=>⟨_,j,E.Bc (erR e1 (h:=h) (AR:=(min R.length 150+1)) (by omega))⟩
end
end Go.Fer
