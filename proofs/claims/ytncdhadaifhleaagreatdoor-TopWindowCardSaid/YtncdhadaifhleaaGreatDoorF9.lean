import Derived.Test.YtncdhadaifhleaaGreatDoorF3
set_option linter.all false
set_option synthInstance.maxSize 100000
set_option synthInstance.maxHeartbeats 400000
set_option maxHeartbeats 8000000
set_option maxRecDepth 100000
namespace Go.Fer
open Go Go.RowKit
section
open Go.Proofs Tryz
variable{S:List eH}{xP si nu:Value}{n p r ay aM:Nat}{hp hg:Int}{s v v0 am:ec}{w w0 ea:World}
instance:zk prog 365 "Len" 445:=⟨⟨293,by kernel_rfl⟩,⟨_,underlying365⟩⟩
instance:zk prog 365 "Pop" 447:=⟨⟨465,by kernel_rfl⟩,⟨_,underlying365⟩⟩
instance:zk prog 365 "Push" 448:=⟨⟨466,by kernel_rfl⟩,⟨_,underlying365⟩⟩
@[irreducible] def uO (p ay aM r:Nat):eH:=hC [B p #[N ay,N aM,tA r] 369,B ay #[i6 0,.func (.func 178) #[] #[],eF] 364,B aM #[i6 1,.func (.func 225) #[] #[],eF] 364,tM r ip ([]:List (eL×(Option Nat)))]
theorem U.enQ(h:U w0 (uO p ay aM r::S) w):U w0 (B p #[N ay,N aM,tA r] 369::B ay #[i6 0,.func (.func 178) #[] #[],eF] 364::B aM #[i6 1,.func (.func 225) #[] #[],eF] 364::tM r ip ([]:List (eL×(Option Nat)))::S) w:=by unfold uO at h;exact h.de
theorem U.enZ(h:U w0 (B p #[N ay,N aM,tA r] 369::B ay #[i6 0,.func (.func 178) #[] #[],eF] 364::B aM #[i6 1,.func (.func 225) #[] #[],eF] 364::tM r ip ([]:List (eL×(Option Nat)))::S) w):U w0 (uO p ay aM r::S) w:=by unfold uO;exact U.closed (l:=[B p #[N ay,N aM,tA r] 369,B ay #[i6 0,.func (.func 178) #[] #[],eF] 364,B aM #[i6 1,.func (.func 225) #[] #[],eF] 364,tM r ip ([]:List (eL×(Option Nat)))]) h
theorem en0(E:U w0 S w)(a:tP (uO p ay aM r) S):an w (N p) #[N ay,N aM,tA r]/\an w (N ay) #[i6 0,.func (.func 178) #[] #[],eF]/\an w (N aM) #[i6 1,.func (.func 225) #[] #[],eF]/\hV w r ip ([]:List (eL×(Option Nat))):=by
 have h:=E.get a;unfold uO at h;rw[p2]at h;exact⟨(by have:=h.2 _ (List.mem_of_getElem? (i:=0) rfl);unfold B at this;exact an.dF this),(by have:=h.2 _ (List.mem_of_getElem? (i:=1) rfl);unfold B at this;exact an.dF this),(by have:=h.2 _ (List.mem_of_getElem? (i:=2) rfl);unfold B at this;exact an.dF this),(by have:=h.2 _ (List.mem_of_getElem? (i:=3) rfl);rw[mA]at this;exact this)⟩
@[irreducible] def mV (p ay aM r n:Nat) (v0 am:ec) (hg hp:Int):eH:=hC [B p #[N ay,N aM,tA r] 369,B ay #[i6 0,.func (.func 178) #[] #[],v0.v] 364,B aM #[i6 1,.func (.func 225) #[] #[],am.v] 364,V v0.v 358 ([⟨some n⟩]:List im),V am.v 358 ([⟨some n⟩]:List im),tM r ip ([(⟨0⟩,(some n))]:List (eL×(Option Nat))),B n #[.int .u64 hg,.int .u64 hp,i6 0,i6 0,i6 0] 372]
theorem U.en1(h:U w0 (mV p ay aM r n v0 am hg hp::S) w):U w0 (B p #[N ay,N aM,tA r] 369::B ay #[i6 0,.func (.func 178) #[] #[],v0.v] 364::B aM #[i6 1,.func (.func 225) #[] #[],am.v] 364::V v0.v 358 ([⟨some n⟩]:List im)::V am.v 358 ([⟨some n⟩]:List im)::tM r ip ([(⟨0⟩,(some n))]:List (eL×(Option Nat)))::B n #[.int .u64 hg,.int .u64 hp,i6 0,i6 0,i6 0] 372::S) w:=by unfold mV at h;exact h.de
theorem U.en2(h:U w0 (B p #[N ay,N aM,tA r] 369::B ay #[i6 0,.func (.func 178) #[] #[],v0.v] 364::B aM #[i6 1,.func (.func 225) #[] #[],am.v] 364::V v0.v 358 ([⟨some n⟩]:List im)::V am.v 358 ([⟨some n⟩]:List im)::tM r ip ([(⟨0⟩,(some n))]:List (eL×(Option Nat)))::B n #[.int .u64 hg,.int .u64 hp,i6 0,i6 0,i6 0] 372::S) w):U w0 (mV p ay aM r n v0 am hg hp::S) w:=by unfold mV;exact U.closed (l:=[B p #[N ay,N aM,tA r] 369,B ay #[i6 0,.func (.func 178) #[] #[],v0.v] 364,B aM #[i6 1,.func (.func 225) #[] #[],am.v] 364,V v0.v 358 ([⟨some n⟩]:List im),V am.v 358 ([⟨some n⟩]:List im),tM r ip ([(⟨0⟩,(some n))]:List (eL×(Option Nat))),B n #[.int .u64 hg,.int .u64 hp,i6 0,i6 0,i6 0] 372]) h
theorem en3(E:U w0 S w)(a:tP (mV p ay aM r n v0 am hg hp) S):an w (N p) #[N ay,N aM,tA r]/\an w (N ay) #[i6 0,.func (.func 178) #[] #[],v0.v]/\an w (N aM) #[i6 1,.func (.func 225) #[] #[],am.v]/\ex w v0.v ([⟨some n⟩]:List im)/\ex w am.v ([⟨some n⟩]:List im)/\hV w r ip ([(⟨0⟩,(some n))]:List (eL×(Option Nat)))/\an w (N n) #[.int .u64 hg,.int .u64 hp,i6 0,i6 0,i6 0]:=by
 have h:=E.get a;unfold mV at h;rw[p2]at h;exact⟨(by have:=h.2 _ (List.mem_of_getElem? (i:=0) rfl);unfold B at this;exact an.dF this),(by have:=h.2 _ (List.mem_of_getElem? (i:=1) rfl);unfold B at this;exact an.dF this),(by have:=h.2 _ (List.mem_of_getElem? (i:=2) rfl);unfold B at this;exact an.dF this),(by have:=h.2 _ (List.mem_of_getElem? (i:=3) rfl);rw[df]at this;exact l6.eu this),(by have:=h.2 _ (List.mem_of_getElem? (i:=4) rfl);rw[df]at this;exact l6.eu this),(by have:=h.2 _ (List.mem_of_getElem? (i:=5) rfl);rw[mA]at this;exact this),(by have:=h.2 _ (List.mem_of_getElem? (i:=6) rfl);unfold B at this;exact an.dF this)⟩
@[irreducible] def rm (p ay aM r n:Nat) (v0 am:ec):eH:=hC [B p #[N ay,N aM,tA r] 369,B ay #[i6 0,.func (.func 178) #[] #[],(v0.cut 0 0 v0.c (O.eo im)).v] 364,B aM #[i6 1,.func (.func 225) #[] #[],(am.cut 0 0 am.c (O.eo im)).v] 364,V v0.v 358 ([⟨some n⟩]:List im),V am.v 358 ([⟨some n⟩]:List im),tM r ip ([]:List (eL×(Option Nat)))]
theorem U.en4(h:U w0 (B p #[N ay,N aM,tA r] 369::B ay #[i6 0,.func (.func 178) #[] #[],(v0.cut 0 0 v0.c (O.eo im)).v] 364::B aM #[i6 1,.func (.func 225) #[] #[],(am.cut 0 0 am.c (O.eo im)).v] 364::V v0.v 358 ([⟨some n⟩]:List im)::V am.v 358 ([⟨some n⟩]:List im)::tM r ip ([]:List (eL×(Option Nat)))::S) w):U w0 (rm p ay aM r n v0 am::S) w:=by unfold rm;exact U.closed (l:=[B p #[N ay,N aM,tA r] 369,B ay #[i6 0,.func (.func 178) #[] #[],(v0.cut 0 0 v0.c (O.eo im)).v] 364,B aM #[i6 1,.func (.func 225) #[] #[],(am.cut 0 0 am.c (O.eo im)).v] 364,V v0.v 358 ([⟨some n⟩]:List im),V am.v 358 ([⟨some n⟩]:List im),tM r ip ([]:List (eL×(Option Nat)))]) h
theorem Yx(E:U w0 S w)(a:tP (rm p ay aM r n v0 am) S):an w (N p) #[N ay,N aM,tA r]/\an w (N ay) #[i6 0,.func (.func 178) #[] #[],(v0.cut 0 0 v0.c (O.eo im)).v]/\an w (N aM) #[i6 1,.func (.func 225) #[] #[],(am.cut 0 0 am.c (O.eo im)).v]/\ex w v0.v ([⟨some n⟩]:List im)/\ex w am.v ([⟨some n⟩]:List im)/\hV w r ip ([]:List (eL×(Option Nat))):=by
 have h:=E.get a;unfold rm at h;rw[p2]at h;exact⟨(by have:=h.2 _ (List.mem_of_getElem? (i:=0) rfl);unfold B at this;exact an.dF this),(by have:=h.2 _ (List.mem_of_getElem? (i:=1) rfl);unfold B at this;exact an.dF this),(by have:=h.2 _ (List.mem_of_getElem? (i:=2) rfl);unfold B at this;exact an.dF this),(by have:=h.2 _ (List.mem_of_getElem? (i:=3) rfl);rw[df]at this;exact l6.eu this),(by have:=h.2 _ (List.mem_of_getElem? (i:=4) rfl);rw[df]at this;exact l6.eu this),(by have:=h.2 _ (List.mem_of_getElem? (i:=5) rfl);rw[mA]at this;exact this)⟩
theorem en5:eJ 157 #[] w0 (λu w'=>∃(eE:Nat)(tt:Nat)(tC:Nat)(ap:Nat),u=N tt/\U w0 [uO tt tC ap eE] w'):=by
 refine eN 7 (eY _) func157 ntmps157 results157 rfl λw E=>?_;refine et (J.makeMap eL ip E ?_);intro tZ w _ E;refine af 7 E (c9 (#[.pointer none,.pointer none,tA tZ])) λaW w E=>?_;refine af 10 E (c9 (#[i6 0,.func (.func 178) #[] #[],eF])) λa w E=>?_;refine af 15 E (c9 (#[i6 1,.func (.func 225) #[] #[],eF])) λb w E=>?_;replace E:=(Pi [3,1,2,3] E).enZ;exact⟨tZ,aW,a,b,rfl,E⟩
theorem EP(a:an w0 (N p) #[N ay,N aM,tA r]):tS 174 #[N p] w0 (.bool true):=by
 have:=ir a;refine eN 21 (eY _) func174 ntmps174 results174 rfl λw E=>?_;exact⟨rfl,E.ee⟩
theorem en6(eC:U ea (B p #[i6 0,.func (.func 178) #[] #[],eF] 364::B n #[xP,si,nu,i6 0,i6 0] 372::S) w0):eJ 448 #[N p,.iface 358 (N n)] w0 (λu w'=>∃(eE:ec),u= .tuple #[]/\U ea (V eE.v 358 ([⟨some n⟩]:List im)::B p #[i6 0,.func (.func 178) #[] #[],eE.v] 364::B n #[xP,si,nu,i6 0,i6 0] 372::S) w'):=by
 refine eN 3 eC func448 ntmps448 results448 rfl λw E=>?_;refine et (PI (v:=N n) rfl (ey 8 E ?_));refine aC 23 13 (eX [0,1,2,3,4,5,6,7,8,9,10,11,12] (.one 13 .nil)) [] λw E=>?_;refine rF 0 E (nB ([⟨some n⟩]:List im)) λb w E=>?_;refine et (h3 (α:=im) rfl E rfl (E.eu .em) aj (by simp[maxLen];try omega) ?_);intro a w _ E;refine ey 5 E λw E=>?_;exact⟨a,rfl,(tN [1] E)⟩
theorem Yj(a:an w0 (N p) #[i6 0,.func (.func 178) #[] #[],s.v])(b:ex w0 s.v ([⟨some n⟩]:List im)):tS 445 #[N p] w0 (i6 1):=by
 have:=ir a;have:=aL b;refine eN 17 (eY _) func445 ntmps445 results445 rfl λw E=>?_;exact⟨rfl,E.ee⟩
theorem en7(eC:U ea (B p #[i6 1,.func (.func 225) #[] #[],eF] 364::B n #[xP,si,nu,i6 0,i6 0] 372::S) w0):eJ 448 #[N p,.iface 358 (N n)] w0 (λu w'=>∃(eE:ec),u= .tuple #[]/\U ea (V eE.v 358 ([⟨some n⟩]:List im)::B p #[i6 1,.func (.func 225) #[] #[],eE.v] 364::B n #[xP,si,nu,i6 0,i6 0] 372::S) w'):=by
 refine eN 3 eC func448 ntmps448 results448 rfl λw E=>?_;refine et (PI (v:=N n) rfl (ey 8 E ?_));refine aC 23 13 (eX [0,1,2,3,4,5,6,7,8,9,10,11,12] (.one 13 .nil)) [] λw E=>?_;refine rF 0 E (nB ([⟨some n⟩]:List im)) λb w E=>?_;refine et (h3 (α:=im) rfl E rfl (E.eu .em) aj (by simp[maxLen];try omega) ?_);intro a w _ E;refine ey 5 E λw E=>?_;exact⟨a,rfl,(tN [1] E)⟩
theorem Yq(a:an w0 (N p) #[i6 1,.func (.func 225) #[] #[],s.v])(b:ex w0 s.v ([⟨some n⟩]:List im)):tS 445 #[N p] w0 (i6 1):=by
 have:=ir a;have:=aL b;refine eN 17 (eY _) func445 ntmps445 results445 rfl λw E=>?_;exact⟨rfl,E.ee⟩
theorem EI(w0:World)(x:Value):tS 260 #[x,i6 0] w0 (.tuple #[]):=by
 refine eN 1 (eY _) func260 ntmps260 results260 rfl λw E=>?_;refine oL 40 (oc.step ?_);refine eA 4 E λw E=>?_;refine af 0 E (p6 (show IntKind.i64.wrap (0-1)=(-1)from by decide)) λw E=>?_;refine af 8 E (Ag (by decide) (show IntKind.i64.wrap (Int.tdiv (-1) 2)=0 from by decide)) ?_;refine eU true 16 λw E=>?_;exact⟨rfl,E.ee⟩
theorem en8(eC:U ea (B p #[i6 0,.func (.func 178) #[] #[],eF] 364::B n #[xP,si,nu,i6 0,i6 0] 372::S) w0):eJ 194 #[.iface 365 (N p),.iface 358 (N n)] w0 (λu w'=>∃(eE:ec),u= .tuple #[]/\U ea (V eE.v 358 ([⟨some n⟩]:List im)::B p #[i6 0,.func (.func 178) #[] #[],eE.v] 364::B n #[xP,si,nu,i6 0,i6 0] 372::S) w'):=by
 refine eN 4 eC func194 ntmps194 results194 rfl λw E=>?_;refine ev 5 E (en6 (Pi [1,1] E)) λa w E=>?_;refine ev 1 E (Yj (E.tb .G) (E.eu .em)) λw E=>?_;refine ev 2 E (EI _ _) λw E=>?_;exact⟨a,rfl,E⟩
theorem en9(eC:U ea (B p #[i6 1,.func (.func 225) #[] #[],eF] 364::B n #[xP,si,nu,i6 0,i6 0] 372::S) w0):eJ 194 #[.iface 365 (N p),.iface 358 (N n)] w0 (λu w'=>∃(eE:ec),u= .tuple #[]/\U ea (V eE.v 358 ([⟨some n⟩]:List im)::B p #[i6 1,.func (.func 225) #[] #[],eE.v] 364::B n #[xP,si,nu,i6 0,i6 0] 372::S) w'):=by
 refine eN 4 eC func194 ntmps194 results194 rfl λw E=>?_;refine ev 5 E (en7 (Pi [1,1] E)) λa w E=>?_;refine ev 1 E (Yq (E.tb .G) (E.eu .em)) λw E=>?_;refine ev 2 E (EI _ _) λw E=>?_;exact⟨a,rfl,E⟩
theorem ese(eC:U ea (uO p ay aM r::S) w0):eJ 127 #[N p,.agg #[.int .u64 hg,.int .u64 hp],i6 0] w0 (λu w'=>∃(eE:Nat)(tt:ec)(tC:ec),u=i6 0/\U ea (mV p ay aM r eE tt tC hg hp::S) w'):=by
 refine eN 0 eC func127 ntmps127 results127 rfl λw E=>?_;replace E:=E.enQ;refine eA 10 E λaW w E=>?_;refine ev 14 E (EP (E.tb .G)) λw E=>?_;refine et (zx (k:=(⟨0⟩:eL)) (z0:=none) (o:=none) inferInstance (E.map .e8) rfl rfl (by simp[tL]) (et (oI (v:=.tuple #[.pointer none,.bool false]) rfl (ey 18 E λw E=>?_))));refine af 12 E (c9 (#[.int .u64 hg,.int .u64 hp,i6 0,i6 0,i6 0])) λa w E=>?_;refine oE (gF (k:=(⟨0⟩:eL)) (v:=(some a)) (hm:=([(⟨0⟩,(some a))]:List (eL×(Option Nat)))) E .au rfl rfl rfl (by simp[oC]) (tH .au λw E=>?_));refine ey 13 E λw E=>?_;refine oL 40 (oc.step ?_);refine eA 2 E ?_;refine eU true 10 λw E=>?_;refine et (I8 (v:=N ay) rfl rfl (by decide) rfl ?_);refine ey 8 E λw E=>?_;refine ev 11 E (en8 (Pi [0,3] E)) λb=>?_;refine eU true 10 λw E=>?_;refine et (I8 (v:=N aM) rfl rfl (by decide) rfl ?_);refine ey 8 E λw E=>?_;refine ev 11 E (en9 (Pi [2,5] E)) λc=>?_;refine eU false 16 λw E=>?_;replace E:=(Pi [2,7,2,4,4,5,7] E).en2;exact⟨a,b,c,rfl,(tN [1] E)⟩
theorem ub(ea w0:World)(S:List eH)(p ay aM r n:Nat)(v0 am:ec)(hg hp:Int)(b:U ea S w0)(c:tP (mV p ay aM r n v0 am hg hp) S):tS 192 #[N p,i6 0] w0 (.tuple #[.agg #[.int .u64 hg,.int .u64 hp],i6 0,.bool true]):=by
 obtain⟨a,d,h,e,i,f,g⟩:=en3 b c;refine eN 11 (eY _) func192 ntmps192 results192 rfl λaW w E=>?_;have:=ir a;refine ev 6 E (EP (a.es E.ee)) λw E=>?_;refine dp 11 rfl rfl rfl (et (I9 (n:=1) (f.es E.ee) rfl rfl ?_));have:=ir d;have:=aL e;refine fc false 23 E ?_;have:=ir g;refine aC 8 11 (eX [0,1,2,3,4,5,6,7] (.one 8 (eX [9,10] .nil))) [0] λw E=>?_;refine n8 rfl rfl (iU (v:=.agg #[.int .u64 hg,.int .u64 hp]) (iA:=#[.int .u64 hg,.int .u64 hp]) E rfl rfl .em rfl (Nat.le_of_ble_eq_true rfl) (h2 rfl) rfl (tH .em λw E=>?_));refine⟨tN [0] E,?_⟩;refine t7 6 E λw E=>?_;exact⟨rfl,E.ee⟩
theorem eso(a:U ea S w0)(b:tP (mV p ay aM r n v0 am hg hp) S):tS 313 #[N p] w0 (.tuple #[.agg #[.int .u64 hg,.int .u64 hp],i6 0,.bool true]):=by
 have:=lC a b;refine eN 10 (eY _) func313 ntmps313 results313 rfl λao w E=>?_;refine ev 3 E (ub _ _ _ _ _ _ _ _ _ _ _ _ (a.es E.ee) b) λw E=>?_;exact oE (iU (v:=.agg #[.int .u64 hg,.int .u64 hp]) (iA:=#[.int .u64 hg,.int .u64 hp]) E rfl rfl .em rfl (Nat.le_of_ble_eq_true rfl) (h2 rfl) rfl (tH .em λw E=>(ey 6 E λw E=>(⟨rfl,E.ee⟩))))
theorem esi(b:U ea S w0)(c:tP (rm p ay aM r n v0 am) S):tS 192 #[N p,i6 0] w0 (.tuple #[.agg #[.int .u64 0,.int .u64 0],i6 0,.bool false]):=by
 obtain⟨a,e,f,g,h,d⟩:=Yx b c;refine eN 11 (eY _) func192 ntmps192 results192 rfl λaW w E=>?_;have:=ir a;refine ev 6 E (EP (a.es E.ee)) λw E=>?_;refine dp 11 rfl rfl rfl (et (I9 (n:=0) (d.es E.ee) rfl rfl ?_));refine fc true 6 E λw E=>?_;refine af 0 E (hA (v:=.agg #[.int .u64 0,.int .u64 0]) λw E=>E.n5 .em rfl) λw E=>?_;refine oE (iU (v:=.agg #[.int .u64 0,.int .u64 0]) (iA:=#[.int .u64 0,.int .u64 0]) E rfl rfl .em rfl (Nat.le_of_ble_eq_true rfl) (h2 rfl) rfl (tH .em λw E=>?_));refine ey 7 E λw E=>?_;exact⟨rfl,E.ee⟩
theorem esn(a:U ea S w0)(b:tP (rm p ay aM r n v0 am) S):tS 313 #[N p] w0 (.tuple #[.agg #[.int .u64 0,.int .u64 0],i6 0,.bool false]):=by
 have:=lC a b;refine eN 10 (eY _) func313 ntmps313 results313 rfl λao w E=>?_;refine ev 3 E (esi (a.es E.ee) b) λw E=>?_;exact oE (iU (v:=.agg #[.int .u64 0,.int .u64 0]) (iA:=#[.int .u64 0,.int .u64 0]) E rfl rfl .em rfl (Nat.le_of_ble_eq_true rfl) (h2 rfl) rfl (tH .em λw E=>(ey 6 E λw E=>(⟨rfl,E.ee⟩))))
theorem ess(eC:U ea (B p #[i6 0,.func (.func 178) #[] #[],v.v] 364::V v.v 358 ([⟨some n⟩]:List im)::S) w0):eJ 447 #[N p] w0 (λu w'=>u= .iface 358 (N n)/\U ea (B p #[i6 0,.func (.func 178) #[] #[],(v.cut 0 0 v.c (O.eo im)).v] 364::V v.v 358 ([⟨some n⟩]:List im)::S) w'):=by
 refine eN 24 eC func447 ntmps447 results447 rfl ⟨⟨aj⟩,λ_=>rO 12 λw E=>?_⟩;exact et (zv (α:=im) (v:=v) (xs:=([⟨some n⟩]:List im)) (h':=0) rfl (E.eu .G) rfl aj (ey 14 E λw E=>(⟨rfl,E⟩)))
theorem esr(eC:U ea (B p #[i6 0,.func (.func 178) #[] #[],v.v] 364::V v.v 358 ([⟨some n⟩]:List im)::S) w0):eJ 193 #[.iface 365 (N p),i6 0] w0 (λu w'=>u= .iface 358 (N n)/\U ea (B p #[i6 0,.func (.func 178) #[] #[],(v.cut 0 0 v.c (O.eo im)).v] 364::V v.v 358 ([⟨some n⟩]:List im)::S) w'):=by
 refine eN 8 eC func193 ntmps193 results193 rfl λw E=>?_;refine ev 9 E (Yj (E.tb .em) (E.eu .G)) ?_;refine eU false 8 λw E=>?_;refine ev 5 E (ess (Pi [1,1] E)) λw E=>?_;exact⟨rfl,E⟩
theorem esh(eC:U ea (B p #[i6 1,.func (.func 225) #[] #[],v.v] 364::V v.v 358 ([⟨some n⟩]:List im)::S) w0):eJ 447 #[N p] w0 (λu w'=>u= .iface 358 (N n)/\U ea (B p #[i6 1,.func (.func 225) #[] #[],(v.cut 0 0 v.c (O.eo im)).v] 364::V v.v 358 ([⟨some n⟩]:List im)::S) w'):=by
 refine eN 24 eC func447 ntmps447 results447 rfl ⟨⟨aj⟩,λ_=>rO 12 λw E=>?_⟩;exact et (zv (α:=im) (v:=v) (xs:=([⟨some n⟩]:List im)) (h':=0) rfl (E.eu .G) rfl aj (ey 14 E λw E=>(⟨rfl,E⟩)))
theorem esl(eC:U ea (B p #[i6 1,.func (.func 225) #[] #[],v.v] 364::V v.v 358 ([⟨some n⟩]:List im)::S) w0):eJ 193 #[.iface 365 (N p),i6 0] w0 (λu w'=>u= .iface 358 (N n)/\U ea (B p #[i6 1,.func (.func 225) #[] #[],(v.cut 0 0 v.c (O.eo im)).v] 364::V v.v 358 ([⟨some n⟩]:List im)::S) w'):=by
 refine eN 8 eC func193 ntmps193 results193 rfl λw E=>?_;refine ev 9 E (Yq (E.tb .em) (E.eu .G)) ?_;refine eU false 8 λw E=>?_;refine ev 5 E (esh (Pi [1,1] E)) λw E=>?_;exact⟨rfl,E⟩
theorem esd(eC:U ea (mV p ay aM r n v0 am hg hp::S) w0):eJ 126 #[N p,i6 0] w0 (λu w'=>u= .tuple #[.agg #[.int .u64 hg,.int .u64 hp],i6 0]/\U ea (rm p ay aM r n v0 am::B n #[.int .u64 hg,.int .u64 hp,i6 0,i6 0,i6 0] 372::S) w'):=by
 refine eN 0 eC func126 ntmps126 results126 rfl λw E=>?_;replace E:=E.en1;refine eA 10 E λaW w E=>?_;refine ev 13 E (EP (E.tb .G)) λw E=>?_;refine et (zx (k:=(⟨0⟩:eL)) (z0:=none) (o:=(some (some n))) inferInstance (E.map .a2) rfl rfl (by simp[tL]) (et (oI (v:=.tuple #[N n,.bool true]) rfl (ey 23 E λw E=>(oE (xh (t:=367) (k:=(⟨0⟩:eL)) (hm:=([]:List (eL×(Option Nat)))) rfl E .a2 rfl rfl (by simp[sp]) (tH .a2 λw E=>(ey 13 E λw E=>?_))))))));refine oL 40 (oc.step ?_);refine eA 2 E ?_;refine eU true 10 λw E=>?_;refine et (I8 (v:=N ay) rfl rfl (by decide) rfl (ey 3 E ?_));refine aC 11 11 (eX [0,1,2,3,4,5,6,7,8,9,10] (.one 11 .nil)) [] λw E=>?_;refine c8 11 E (esr (Pi [4,3] E)) ?_;refine eU true 10 λw E=>?_;refine et (I8 (v:=N aM) rfl rfl (by decide) rfl (ey 3 E ?_));refine aC 11 11 (eX [0,1,2,3,4,5,6,7,8,9,10] (.one 11 .nil)) [] λw E=>?_;refine c8 11 E (esl (Pi [5,5] E)) ?_;refine eU false 15 λw E=>?_;refine oE (iU (v:=.agg #[.int .u64 hg,.int .u64 hp]) (iA:=#[.int .u64 hg,.int .u64 hp]) E rfl rfl .e8 rfl (Nat.le_of_ble_eq_true rfl) (h2 rfl) rfl (tH .e8 λw E=>(ey 5 E λw E=>?_)));replace E:=(Pi [6,2,4,3,4,6] E).en4;exact⟨rfl,(tN [1] E)⟩
end
section
open Go.Proofs Tryz
variable{a c:Int}{f:te}{eQ:Option (Nat×Bool)}{i j m x y z:Nat}{w w' w0:World}
theorem esc{P:Program}{R:Value->World->Prop}{d:Option Tmp}{T:TypeId}{pos:String}{eO:Array Edge}{s:TypeId}{x:Operand}{k:IntKind}(Z:eD f x= .int k a)(b:hL .xor k (if k.signed then-1 else k.max) a=c)(h:R (.int k c) w):J P f ⟨d,.unOp .xor s x,T,pos,eO,eQ⟩ w R:=by
 refine iz (v:=.int k c) (w':=w) ?_ h;subst b;simp[execOp,Z,Op.unary,Op.intBits,hL]
structure Tab(w:World)(oh:Nat->Nat):Prop where
 tb:an w (N 4) ((Array.range 64).map λi=>.int .u8 (oh i:Int))
 t0:oh 0=0
 le:∀i,oh i<=255
theorem Tab.es{oh:Nat->Nat}(h:Tab w oh)(hb:eV w w'):Tab w' oh:=⟨h.tb.es hb,h.t0,h.le⟩
def qw(x:Nat):Nat:=(x&&&(18446744073709551616-x))*285870213051353865%18446744073709551616/288230376151711744
def dJ(oh:Nat->Nat)(x:Nat):Nat:=if x=0 then 64 else oh (qw x)
theorem esu:qw x<64:=by unfold qw;omega
theorem esm{oh:Nat->Nat}(h:Tab w oh):dJ oh 18446744073709551615=0:=by
 unfold dJ;rw[if_neg (by decide),show qw 18446744073709551615=0 from by decide+kernel,h.t0]
theorem esf{oh:Nat->Nat}(h:Tab w oh):dJ oh 1=0:=by
 unfold dJ;rw[if_neg (by decide),show qw 1=0 from by decide+kernel,h.t0]
theorem Tab.cell{oh:Nat->Nat}(h:Tab w oh)(ew:i<64):((Array.range 64).map λi=>Value.int .u8 (oh i:Int))[i]? =some (.int .u8 (oh i:Int)):=by
 simp[ew]
theorem esp(h:m=18446744073709551616-x)(Z:x<18446744073709551616)(em:x≠0):IntKind.u64.wrap (0-(x:Int))=(m:Int):=by rw[Ho];omega
theorem esg(h:y=x&&&m)(Z:x<18446744073709551616)(e5:m=18446744073709551616-x)(em:x≠0):hL .and .u64 (x:Int) (m:Int)=(y:Int):=by rw[h];exact HO x m Z (by omega)
theorem esw(h:z=y*285870213051353865%18446744073709551616):IntKind.u64.wrap ((y:Int)*285870213051353865)=(z:Int):=by rw[Ho];omega
theorem esy(h:j=z/288230376151711744):Int.fdiv (z:Int) (2^(min (Int.toNat 58) IntKind.u64.bits))=(j:Int):=by
 rw[show(2:Int)^(min (Int.toNat 58) IntKind.u64.bits)=((288230376151711744:Nat):Int)from by decide,h];exact(Int.ofNat_fdiv z 288230376151711744).symm
theorem Cj(oh:Nat->Nat)(a:Tab w0 oh)(Z:x<18446744073709551616):tS 180 #[ef x] w0 (i6 (dJ oh x:Int)):=by
 refine eN 12 (eY _) func180 ntmps180 results180 rfl<|om 0 0 (λh w E=>?_) (λh w E=>?_)
 .
   obtain rfl:x=0:=by omega
   refine eA 8 E λw E=>?_;exact⟨rfl,E.ee⟩
 .
   have c:x≠0:=by omega
   obtain⟨m,e5⟩:∃m,m=18446744073709551616-x:=⟨_,rfl⟩;obtain⟨y,d⟩:∃y,y=x&&&m:=⟨_,rfl⟩;obtain⟨z,e⟩:∃z,z=y*285870213051353865%18446744073709551616:=⟨_,rfl⟩;obtain⟨j,f⟩:∃j,j=z/288230376151711744:=⟨_,rfl⟩;have g:qw x=j:=by rw[f,e,d,e5];rfl
   have i:j<64:=g▸esu;refine eA 6 E λw E=>?_;refine et (J.neg rfl (esp e5 Z c) ?_);refine af 0 E (p7 ((esg d Z e5 c))) λw E=>?_;refine af 0 E (fm ((esw e))) λw E=>?_;refine af 0 E (lQ (by omega) ((esy f))) λw E=>?_;refine et (fi (b:=4) (o:=0) (eo:=1) rfl rfl (by omega) ?_);refine af 0 E (hA λw E=>((a.es E.ee).tb.vA (o:=0+j*1) (by rw[Nat.zero_add,Nat.mul_one];exact a.cell i))) λw E=>?_;refine et (J.conv rfl (wrap_i64 (by have:=a.le j;omega)) ?_);refine ey 5 E λw E=>?_;exact⟨(by unfold dJ;rw[if_neg c,g];try rfl),E.ee⟩
end
section
open Go.Proofs Tryz
variable{S:List eH}{p:Nat}{w w' w0 ea:World}{x y:Item}
structure nj where
 tK:ec
 tV:ec
 n:Nat
 oM:Option Item
variable{d:nj}
def nj.sy(d:nj):List Item:=d.oM.getD ux::List.replicate (d.n-1) ux
def nj.nx(d:nj):List aa:=⟨if d.oM.isSome then 1 else 0⟩::List.replicate ((d.n+63)/64-1) ⟨0⟩
def nj.r(d:nj):lZ:=⟨d.tK,d.tV,if d.oM.isSome then 1 else 0⟩
structure pz(d:nj):Prop where
 iV:1<=d.n
 nR:d.n<=4096
 tK:d.tK.a.isNone=false
theorem Of(h:pz d):d.sy.length=d.n:=by
 have:=h.iV;unfold nj.sy;rw[List.length_cons,List.length_replicate];omega
theorem EG(h:pz d):d.nx.length=(d.n+63)/64:=by
 have:=h.iV;unfold nj.nx;rw[List.length_cons,List.length_replicate];omega
@[irreducible] def mK (p:Nat) (d:nj):eH:=hC [B p (O.enc d.r) 376,V d.tK.v 143 d.sy,V d.tV.v 23 d.nx]
theorem U.Cq(h:U w0 (mK p d::S) w):U w0 (B p (O.enc d.r) 376::V d.tK.v 143 d.sy::V d.tV.v 23 d.nx::S) w:=by
 unfold mK at h;exact h.de
theorem S3(h:U w0 (B p (O.enc d.r) 376::V d.tK.v 143 d.sy::V d.tV.v 23 d.nx::S) w):U w0 (mK p d::S) w:=by
 unfold mK;exact U.closed (l:=[B p (O.enc d.r) 376,V d.tK.v 143 d.sy,V d.tV.v 23 d.nx]) h
structure qy(w:World)(p:Nat)(d:nj):Prop where
 tb:an w (N p) (O.enc d.r)
 S4:ex w d.tK.v d.sy
 us:ex w d.tV.v d.nx
theorem qy.es(h:qy w p d)(hb:eV w w'):qy w' p d:=⟨h.tb.es hb,h.S4.es hb,h.us.es hb⟩
theorem U.qb(h:U w0 S w)(a:tP (mK p d) S):qy w p d:=by
 have G:=h.get a;unfold mK at G;rw[p2]at G;refine⟨?_,?_,?_⟩
 .have:=G.2 (B p (O.enc d.r) 376) (by simp);unfold B at this;exact an.dF this
 .have:=G.2 (V d.tK.v 143 d.sy) (by simp);rw[df]at this;exact l6.eu this
 have:=G.2 (V d.tV.v 23 d.nx) (by simp);rw[df]at this;exact l6.eu this
theorem Cz(a:pz d)(b:d.oM=some x)(ep:qy w0 p d):tS 181 #[N p,i6 0] w0 (i6 0):=by
 have i:=a.iV;have j:=Of a;have k:=EG a;have c:0<d.nx.length:=by omega
 have:=ir ep.tb;refine eN 16 (eY _) func181 ntmps181 results181 rfl λw E=>?_;refine dp 8 rfl rfl rfl (et (yi a.tK (fO rfl rfl ⟨rfl,rfl⟩) (ey 4 E<|na 0 3 (λe f w E=>?_) (λ_ f w E=>?_))))
 .
   cases e
 .
   refine fc false 6 E λw E=>?_;refine dp 18 rfl rfl rfl (et (J.hD rfl ((ep.es E.ee).S4) ?_));refine fc false 7 E λw E=>?_;refine af 0 E (Ag (by decide) (show IntKind.i64.wrap (Int.tdiv 0 64)=0 from by decide)) λw E=>?_;refine dp 27 rfl rfl rfl (et (nX rfl ((ep.es E.ee).us) rfl (by omega) ?_));refine af 2 E (hA λw E=>((ep.es E.ee).us.sm c).ab (by rw[zr];simp only[nj.nx,List.getElem_cons_zero,b];rfl)) λw E=>?_;refine af 0 E (lQ (by decide) (show Int.fdiv 1 (2^(min (Int.toNat 0) IntKind.u64.bits))=1 from by decide)) λw E=>?_;refine af 0 E (p7 (show hL .and .u64 1 1=1 from by decide)) ?_;refine eU false 4<|na 0 10 (λg h w E=>?_) (λ_ h w E=>?_)
   .
     cases g
   .
     exact⟨rfl,E.ee⟩
theorem esb(a:pz d)(b:d.oM=some x)(ep:qy w0 p d):tS 111 #[N p,i6 0] w0 (.tuple #[.agg (O.enc x),i6 0]):=by
 have f:=a.iV;have g:=Of a;have h:0<d.sy.length:=by omega
 refine eN 4 (eY _) func111 ntmps111 results111 rfl λaW w E=>?_
 try rw[zK]at E
 refine ey 7 E λw E=>?_;refine ev 6 E (Cz a b (ep.es E.ee)) ?_;refine eU false 2<|have:=ir ep.tb;na 0 9 (λc e w E=>?_) (λ_ e w E=>?_)
 .
   cases c
 .
   exact et (nX rfl ((ep.es E.ee).S4) rfl (by omega) (af 6 E (hA (v:=.agg (O.enc d.sy[0])) λw E=>((ep.es E.ee).S4.sm (show 0<d.sy.length from by omega)).n5 (O.ez d.sy[0])) λw E=>(⟨by simp only[nj.sy,List.getElem_cons_zero,b];rfl,E.ee⟩)))
theorem Yz(ep:qy w0 p d):tS 204 #[N p] w0 (i6 (if d.oM.isSome then 1 else 0:Int)):=by
 refine eN 12 (eY _) func204 ntmps204 results204 rfl<|have:=ir ep.tb;na 0 13 (λa b w E=>?_) (λ_ b w E=>?_)
 .
   cases a
 .
   exact⟨rfl,E.ee⟩
theorem esv(a:pz d)(b:d.oM=some x)(eC:U ea (mK p d::S) w0):eJ 188 #[N p,i6 0,.agg (O.enc y)] w0 (λu w'=>u=i6 0/\U ea (mK p ({d with oM:=some y}:nj)::S) w'):=by
 have k:=a.iV;have l:=Of a;have c:0<d.sy.length:=by omega
 have m:=EG a;have n:0<d.nx.length:=by omega
 refine eN 10 eC func188 ntmps188 results188 rfl λo w E=>?_;refine ev 1 E (Cz a b (E.qb en)) λw E=>?_;replace E:=(E.pick (e:=mK p d) en).Cq;refine ey 6 E ?_;refine eU true 2<|na 0 0 (λ_ f w E=>?_) (λg f w E=>?_)
 .
   refine nC 6 6 (eX [0,1,2,3,4,5] (oA [6,7] .nil)) [] E λw E=>?_;refine hO rfl (nX rfl ((E.eu (v:=d.tK.v) (xs:=d.sy) en)) rfl (by omega) (nH rfl (pd (v:=d.tK.v) (u:=.agg (O.enc y)) (eo:=O.eo Item) (xs:=d.sy) (i:=0) (off:=0) (l9:=y) E en c (yA d.tK.v 0 (O.eo Item)).symm rfl (by simp only[Value.cells];exact O.ez y) (Nat.le_of_eq (Nat.zero_add (O.eo Item))) (by simp only[Value.cells];exact O.one y) (by simp only[Value.cells];exact mq ((O.ez y).trans (O.ez d.sy[0]).symm)) (tH en λw E=>(t7 10 E λw E=>?_)))));have hd:d.r=({d with oM:=some y}:nj).r:=by simp only[nj.r,b];rfl
   have h:d.nx=({d with oM:=some y}:nj).nx:=by simp only[nj.nx,b];rfl
   have j:d.sy.set 0 y=({d with oM:=some y}:nj).sy:=rfl;rw[hd,h,j]at E;replace E:=(show U ea (B p (O.enc ({d with oM:=some y}:nj).r) 376::V d.tK.v 143 ({d with oM:=some y}:nj).sy::V d.tV.v 23 ({d with oM:=some y}:nj).nx::S) _ from((((E.pick (e:=V d.tV.v 23 ({d with oM:=some y}:nj).nx) en).pick (e:=V d.tK.v 143 ({d with oM:=some y}:nj).sy) en).pick (e:=B p (O.enc ({d with oM:=some y}:nj).r) 376) en).sub aS));exact⟨rfl,S3 E⟩
 .
   cases g
theorem esk(oh:Nat->Nat)(s:Tab ea oh)(n:pz d)(a:d.oM=none)(eC:U ea (mK p d::S) w0):eJ 122 #[N p,.agg (O.enc y)] w0 (λu w'=>u= .tuple #[i6 0,i6 0]/\U ea (mK p ({d with oM:=some y}:nj)::S) w'):=by
 refine nr.enter (args:=[N p,.agg (O.enc y)]) func122 rfl ntmps122 results122 rfl ?_;have E:=eY w0;have dX:=n.iV;have Eh:=Of n;have F:0<d.sy.length:=by omega
 have Og:=EG n;have q:0<d.nx.length:=by omega
 replace E:=eC.Cq;have t:d.r.sc=0:=by simp only[nj.r,a];rfl
 refine ek.seq (λfB G=>(ek.region (et (ba E (c:=O.enc y) rfl ?_))));intro t6 w _ E;refine et (iP rfl (et (iP rfl ?_)));refine ts.nil ?_;refine aE (G _ _ ?_);refine ek.scope ?_;refine ek.seq (λfV H=>?_);refine ek.block ?_;refine ek.seq (λyI I=>(ek.region (et (oI (v:=N p) rfl (et (IW rfl rfl (et (u0 rfl (dp 12 rfl rfl rfl (et (oI (v:=N p) rfl (dp 12 rfl rfl rfl (et (sk rfl (dp 12 rfl rfl rfl (et (o9 rfl (dp 12 rfl rfl rfl (et (ag (v:=d.r.sy.v) rfl (E.a6 (b:=p) (cs:=O.enc d.r) en (NV d.r)) (dp 12 rfl rfl rfl (et (yi n.tK (fO rfl rfl ⟨rfl,rfl⟩) (et (kC rfl rfl (et (gN rfl ?_)))))))))))))))))))))))))));refine ts.nil ?_;refine aE (I _ _ ?_);refine ek.cond _ rfl (λh=>?_) (λh=>?_)
 .
   have x:=h
   try simp only[sX]at h
   cases x
 .
   have x:=h
   try simp only[sX]at h
   refine ek.seq (λbL K=>?_);refine nC 0 11 (eX [0,1,2,3,4,5,6,7,8,9,10] .nil) [] E λw E=>?_;refine tl rfl (λw E=>oI (v:=N p) rfl eG) (tl rfl (λw E=>sk rfl eG) (tl rfl (λw E=>o9 rfl eG) (tl rfl (λw E=>ag (v:=i6 0) rfl (E.a6 (b:=p) (cs:=O.enc d.r) en (by rw[<-t];exact LK d.r)) eG) (tl rfl (λw E=>oI (v:=N p) rfl eG) (tl rfl (λw E=>sk rfl eG) (tl rfl (λw E=>o9 rfl eG) (tl rfl (λw E=>ag (v:=d.r.sy.v) rfl (E.a6 (b:=p) (cs:=O.enc d.r) en (NV d.r)) eG) (tl rfl (λw E=>J.hD rfl ((E.eu (v:=d.tK.v) (xs:=d.sy) en)) eG) (tl rfl (λw E=>yi (decide_eq_false (by omega)) (J.eql rfl rfl ⟨rfl,rfl⟩) eG) (tl rfl (λw E=>gN rfl eG) (e2.nil (aE (K _ _ ?_)))))))))))));refine ek.cond _ rfl (λj=>?_) (λj=>?_)
   .
     have z:=j
     try simp only[sX]at j
     cases z
   .
     have z:=j
     try simp only[sX]at j
     refine ek.skip ?_;refine m9 (aE (H _ _ (ek.seq (λbD L=>?_))));refine ek.label ?_;refine aE (L _ _ (ek.seq (λwM M=>(ek.seq (λyN P=>(ek.region (et (oI (v:=N p) rfl (et (sk rfl (et (o9 rfl (et (ag (v:=d.r.nx.v) rfl (E.a6 (b:=p) (cs:=O.enc d.r) en (LV d.r)) (et (J.hD rfl ((E.eu (v:=d.tV.v) (xs:=d.nx) en)) (et (oP rfl ?_))))))))))))))))));refine ts.nil ?_;refine aE (P _ _ ?_);refine ek.block ?_;refine ek.loop (λm f w=>oV [(0,N p),(3,N t6),(4,i6 0),(33,d.r.nx.v),(34,i6 d.nx.length),(35,i6 0)] f/\U ea (B t6 (O.enc y) 143::B p (O.enc d.r) 376::V d.tK.v 143 d.sy::V d.tV.v 23 d.nx::S) w/\m=0) (0) ?_ ?_
     .
       exact⟨⟨rfl,rfl,rfl,rfl,rfl,rfl,trivial⟩,E,rfl⟩
     .
       rintro m f w ⟨A,E,e5⟩;refine il _ A (λg=>?_);clear A;refine ek.seq (λxN Q=>(ek.region (et (ft (decide_eq_true (by omega)) (J.lss rfl rfl ⟨rfl,rfl⟩) ?_))));refine ts.nil ?_;refine aE (Q _ _ (ek.seq (λEl R=>?_)));refine ek.cond _ rfl (λk=>?_) (λk=>?_)
       .
         have C:=k
         try simp only[sX]at k
         refine ek.skip ?_;refine aE (R _ _ (ek.seq (λEd wF=>?_)));refine ek.block ?_;refine ek.seq (λEc T=>(ek.region (et (oP rfl (et (nX rfl ((E.eu (v:=d.tV.v) (xs:=d.nx) en)) rfl (by omega) (et (ag rfl (((E.eu (v:=d.tV.v) (xs:=d.nx) en).sm q).ab (by rw[zr];simp only[nj.nx,List.getElem_cons_zero,a];rfl)) (et (iP rfl (et (iP rfl ?_))))))))))));refine ts.nil ?_;refine aE (T _ _ (ek.seq (λSt W=>(ek.region (et (oP rfl (et (esc rfl (show hL .xor .u64 18446744073709551615 0=18446744073709551615 from by decide) (et (J.call (Cj oh (s.es E.ee) (by decide)) rfl ?_))))))))));rintro _ w ⟨rfl,X⟩;replace E:=E.es X;rw[esm s];refine et (iP rfl ?_);refine ts.nil ?_;refine aE (W _ _ (ek.seq (λSa Y=>(ek.region (et (oP rfl (et (ft (by decide) (J.lss rfl rfl ⟨rfl,rfl⟩) ?_))))))));refine ts.nil ?_;refine aE (Y _ _ ?_);refine ek.cond _ rfl (λl=>?_) (λl=>?_)
         .
           have D:=l
           try simp only[sX]at l
           refine ek.seq (λDr Z=>(ek.region (et (oP rfl (et (J.mul rfl rfl (show IntKind.i64.wrap (0*64)=0 from by decide) (et (oP rfl (et (J.add rfl rfl (show IntKind.i64.wrap (0+0)=0 from by decide) (et (iP rfl ?_))))))))))));refine ts.nil ?_;refine aE (Z _ _ ?_);refine ek.exit ?_;refine Hl rfl ?_;refine uZ ?_;refine uZ ?_;refine ya (aE (M _ _ (ek.seq (λDl j6=>?_))));refine nC 0 12 (eX [0,1,2,3,4,5,6,7,8,9,10,11] (oA [12,13] .nil)) [] E λw E=>?_;refine tl rfl (λw E=>oI (v:=N p) rfl eG) (tl rfl (λw E=>sk rfl eG) (tl rfl (λw E=>o9 rfl eG) (tl rfl (λw E=>ag (v:=d.r.nx.v) rfl (E.a6 (b:=p) (cs:=O.enc d.r) en (LV d.r)) eG) (tl rfl (λw E=>oP rfl eG) (tl rfl (λw E=>J.quo rfl rfl (by decide) (show IntKind.i64.wrap (Int.tdiv 0 64)=0 from by decide) eG) (tl rfl (λw E=>nX rfl ((E.eu (v:=d.tV.v) (xs:=d.nx) en)) rfl (by omega) eG) (tl rfl (λw E=>ag rfl (((E.eu (v:=d.tV.v) (xs:=d.nx) en).sm q).ab (by rw[zr];simp only[nj.nx,List.getElem_cons_zero,a];rfl)) eG) (tl rfl (λw E=>oP rfl eG) (tl rfl (λw E=>J.rem rfl rfl (by decide) (show Int.tmod 0 64=0 from by decide) eG) (tl rfl (λw E=>J.shl rfl rfl (by decide) (show IntKind.u64.wrap (1*2^(min (Int.toNat 0) IntKind.u64.bits))=1 from by decide) eG) (tl rfl (λw E=>J.or rfl rfl (show hL .or .u64 0 1=1 from by decide) eG) (hO rfl (nX rfl ((E.eu (v:=d.tV.v) (xs:=d.nx) en)) rfl (by omega) (nH rfl (pd (v:=d.tV.v) (u:=.int .u64 1) (eo:=1) (xs:=d.nx) (i:=0) (off:=0) (l9:=(⟨1⟩:aa)) E en q (yA d.tV.v 0 (O.eo aa)).symm rfl rfl (by decide) (oZ _ _) (mq (by rw[zr];rfl)) (tH en λw E=>(e2.nil (aE (j6 _ _ (ek.seq (λSi vK=>?_)))))))))))))))))))));refine nC 0 6 (eX [0,1,2,3,4,5] (oA [6,7] .nil)) [] E λw E=>?_;refine tl rfl (λw E=>oI (v:=N p) rfl eG) (tl rfl (λw E=>sk rfl eG) (tl rfl (λw E=>o9 rfl eG) (tl rfl (λw E=>ag (v:=d.r.sy.v) rfl (E.a6 (b:=p) (cs:=O.enc d.r) en (NV d.r)) eG) (tl rfl (λw E=>oP rfl eG) (tl rfl (λw E=>ag (v:=.agg (O.enc y)) rfl (E.n5 (b:=t6) (cs:=O.enc y) en (O.ez y)) eG) (hO rfl (nX rfl ((E.eu (v:=d.tK.v) (xs:=d.sy) en)) rfl (by omega) (nH rfl (pd (v:=d.tK.v) (u:=.agg (O.enc y)) (eo:=O.eo Item) (xs:=d.sy) (i:=0) (off:=0) (l9:=y) E en F (yA d.tK.v 0 (O.eo Item)).symm rfl (by simp only[Value.cells];exact O.ez y) (Nat.le_of_eq (Nat.zero_add (O.eo Item))) (by simp only[Value.cells];exact O.one y) (by simp only[Value.cells];exact mq ((O.ez y).trans (O.ez d.sy[0]).symm)) (tH en λw E=>(e2.nil (aE (vK _ _ (ek.seq (λSn vX=>(ek.region (et (oI (v:=N p) rfl (et (sk rfl (et (o9 rfl (et (ag (v:=i6 0) rfl (E.a6 (b:=p) (cs:=O.enc d.r) en (by rw[<-t];exact LK d.r)) (et (J.add rfl rfl (show IntKind.i64.wrap (0+1)=1 from by decide) (et (sk rfl (et (o9 rfl (oE (iU (b:=p) (o:=2) (v:=i6 1) (eo:=1) (cs:=O.enc d.r) (iA:=O.enc ({d.r with sc:=1}:lZ)) E rfl rfl en rfl (by rw[O.ez];decide) (oZ _ _) (Gh d.r 1) (tH en λw E=>?_)))))))))))))))))))))))))))))))));refine ts.nil ?_;refine aE (vX _ _ (ek.seq (λSs vJ=>(ek.region (et (oP rfl (et (iP rfl (et (iP rfl ?_))))))))));refine ts.nil ?_;refine aE (vJ _ _ ?_);refine ek.ret ?_;refine I5 ?_;refine cJ (.hB rfl (.hB rfl .nil)) ?_;have hd:({d.r with sc:=1}:lZ)=({d with oM:=some y}:nj).r:=by simp only[nj.r,a];rfl
           have tw:d.nx.set 0 ⟨1⟩=({d with oM:=some y}:nj).nx:=by simp only[nj.nx,a];rfl
           have Ow:d.sy.set 0 y=({d with oM:=some y}:nj).sy:=rfl;rw[hd,tw,Ow]at E;replace E:=(show U ea (B p (O.enc ({d with oM:=some y}:nj).r) 376::V d.tK.v 143 ({d with oM:=some y}:nj).sy::V d.tV.v 23 ({d with oM:=some y}:nj).nx::S) _ from((((E.pick (e:=V d.tV.v 23 ({d with oM:=some y}:nj).nx) en).pick (e:=V d.tK.v 143 ({d with oM:=some y}:nj).sy) en).pick (e:=B p (O.enc ({d with oM:=some y}:nj).r) 376) en).sub aS));exact⟨rfl,S3 E⟩
         .
           have D:=l
           try simp only[sX]at l
           cases D
       .
         have C:=k
         try simp only[sX]at k
         cases C
theorem esx(f:pz d)(a:d.oM=some x)(eC:U ea (mK p d::S) w0):eJ 116 #[N p,i6 0] w0 (λu w'=>u=i6 0/\U ea (mK p ({d with oM:=none}:nj)::S) w'):=by
 refine nr.enter (args:=[N p,i6 0]) func116 rfl ntmps116 results116 rfl ?_;have E:=eY w0;have G:=f.iV;have H:=Of f;have j:0<d.sy.length:=by omega
 have I:=EG f;have g:0<d.nx.length:=by omega
 replace E:=eC;have k:d.r.sc=1:=by simp only[nj.r,a];rfl
 refine ek.seq (λK l=>(ek.region (et (iP rfl ?_))));refine ts.nil ?_;refine aE (l _ _ (ek.seq (λL m=>(ek.region (et (oI (v:=N p) rfl (et (oP rfl (et (J.call (Cz f a (E.qb en)) rfl ?_))))))))));rintro _ w ⟨rfl,n⟩;replace E:=E.es n;refine et (iP rfl ?_);replace E:=(E.pick (e:=mK p d) en).Cq;refine ts.nil ?_;refine aE (m _ _ (ek.seq (λM q=>(ek.seq (λP s=>(ek.region (et (oP rfl (et (ft (by decide) (J.eql rfl rfl ⟨rfl,rfl⟩) ?_))))))))));refine ts.nil ?_;refine aE (s _ _ ?_);refine ek.cond _ rfl (λc=>?_) (λc=>?_)
 .
   have h:=c
   try simp only[sX]at c
   refine ek.seq (λQ t=>(ek.region (et (sI E ?_))));intro y w _ E;rw[zK]at E;refine ts.nil ?_;refine aE (t _ _ (ek.seq (λR z=>?_)));refine nC 0 6 (eX [0,1,2,3,4,5] (oA [6,7] .nil)) [] E λw E=>?_;refine tl rfl (λw E=>oI (v:=N p) rfl eG) (tl rfl (λw E=>sk rfl eG) (tl rfl (λw E=>o9 rfl eG) (tl rfl (λw E=>ag (v:=d.r.sy.v) rfl (E.a6 (b:=p) (cs:=O.enc d.r) en (NV d.r)) eG) (tl rfl (λw E=>oP rfl eG) (tl rfl (λw E=>ag rfl (E.n5 (b:=y) (cs:=O.enc ux) en (O.ez ux)) eG) (hO rfl (nX rfl ((E.eu (v:=d.tK.v) (xs:=d.sy) en)) rfl (by omega) (nH rfl (pd (v:=d.tK.v) (u:=.agg (O.enc ux)) (eo:=O.eo Item) (xs:=d.sy) (i:=0) (off:=0) (l9:=ux) E en j (yA d.tK.v 0 (O.eo Item)).symm rfl (by simp only[Value.cells];exact O.ez ux) (Nat.le_of_eq (Nat.zero_add (O.eo Item))) (by simp only[Value.cells];exact O.one ux) (by simp only[Value.cells];exact mq ((O.ez ux).trans (O.ez d.sy[0]).symm)) (tH en λw E=>(e2.nil (aE (z _ _ (ek.seq (λT A=>?_)))))))))))))));refine nC 0 12 (eX [0,1,2,3,4,5,6,7,8,9,10,11] (oA [12,13] .nil)) [] E λw E=>?_;refine tl rfl (λw E=>oI (v:=N p) rfl eG) (tl rfl (λw E=>sk rfl eG) (tl rfl (λw E=>o9 rfl eG) (tl rfl (λw E=>ag (v:=d.r.nx.v) rfl (E.a6 (b:=p) (cs:=O.enc d.r) en (LV d.r)) eG) (tl rfl (λw E=>oP rfl eG) (tl rfl (λw E=>J.quo rfl rfl (by decide) (show IntKind.i64.wrap (Int.tdiv 0 64)=0 from by decide) eG) (tl rfl (λw E=>nX rfl ((E.eu (v:=d.tV.v) (xs:=d.nx) en)) rfl (by omega) eG) (tl rfl (λw E=>ag rfl (((E.eu (v:=d.tV.v) (xs:=d.nx) en).sm g).ab (by rw[zr];simp only[nj.nx,List.getElem_cons_zero,a];rfl)) eG) (tl rfl (λw E=>oP rfl eG) (tl rfl (λw E=>J.rem rfl rfl (by decide) (show Int.tmod 0 64=0 from by decide) eG) (tl rfl (λw E=>J.shl rfl rfl (by decide) (show IntKind.u64.wrap (1*2^(min (Int.toNat 0) IntKind.u64.bits))=1 from by decide) eG) (tl rfl (λw E=>J.andNot rfl rfl (show hL .andNot .u64 1 1=0 from by decide) eG) (hO rfl (nX rfl ((E.eu (v:=d.tV.v) (xs:=d.nx) en)) rfl (by omega) (nH rfl (pd (v:=d.tV.v) (u:=.int .u64 0) (eo:=1) (xs:=d.nx) (i:=0) (off:=0) (l9:=(⟨0⟩:aa)) E en g (yA d.tV.v 0 (O.eo aa)).symm rfl rfl (by decide) (oZ _ _) (mq (by rw[zr];rfl)) (tH en λw E=>(e2.nil (aE (A _ _ (ek.region (et (oI (v:=N p) rfl (et (sk rfl (et (o9 rfl (et (ag (v:=i6 1) rfl (E.a6 (b:=p) (cs:=O.enc d.r) en (by rw[<-k];exact LK d.r)) (et (J.sub rfl rfl (show IntKind.i64.wrap (1-1)=0 from by decide) (et (sk rfl (et (o9 rfl (oE (iU (b:=p) (o:=2) (v:=i6 0) (eo:=1) (cs:=O.enc d.r) (iA:=O.enc ({d.r with sc:=0}:lZ)) E rfl rfl en rfl (by rw[O.ez];decide) (oZ _ _) (Gh d.r 0) (tH en λw E=>?_)))))))))))))))))))))))))))))))))))));refine ts.nil ?_;refine aE (q _ _ (ek.seq (λW C=>(ek.region (et (oP rfl (et (iP rfl ?_))))))));refine ts.nil ?_;refine aE (C _ _ ?_);refine ek.ret ?_;refine cJ (.hB rfl .nil) ?_;have hd:({d.r with sc:=0}:lZ)=({d with oM:=none}:nj).r:=by simp only[nj.r,a];rfl
   have D:d.nx.set 0 ⟨0⟩=({d with oM:=none}:nj).nx:=by simp only[nj.nx,a];rfl
   have F:d.sy.set 0 ux=({d with oM:=none}:nj).sy:=rfl;rw[hd,D,F]at E;replace E:=(show U ea (B p (O.enc ({d with oM:=none}:nj).r) 376::V d.tK.v 143 ({d with oM:=none}:nj).sy::V d.tV.v 23 ({d with oM:=none}:nj).nx::S) _ from((((E.pick (e:=V d.tV.v 23 ({d with oM:=none}:nj).nx) en).pick (e:=V d.tK.v 143 ({d with oM:=none}:nj).sy) en).pick (e:=B p (O.enc ({d with oM:=none}:nj).r) 376) en).sub aS));exact⟨rfl,S3 E⟩
 .
   have h:=c
   try simp only[sX]at c
   cases h
end
end Go.Fer
