import Derived.Test.YtncdhadaifhleaaGreatDoorF4
set_option linter.all false
set_option synthInstance.maxSize 100000
set_option synthInstance.maxHeartbeats 400000
set_option maxHeartbeats 8000000
set_option maxRecDepth 100000
namespace Go.Fer
open Go Go.RowKit
section
open Go.Proofs Tryz
variable{S:List eL}{xG n3 nr:Value}{n p r aR a2:Nat}{hb hv:Int}{s v v0 ab:eu}{w w0 en:World}
instance:zk prog 365 "Len" 445:=⟨⟨293,by kernel_rfl⟩,⟨_,underlying365⟩⟩
instance:zk prog 365 "Pop" 447:=⟨⟨465,by kernel_rfl⟩,⟨_,underlying365⟩⟩
instance:zk prog 365 "Push" 448:=⟨⟨466,by kernel_rfl⟩,⟨_,underlying365⟩⟩
@[irreducible] def cQ (p aR a2 r:Nat):eL:=hD [V p #[N aR,N a2,tz r] 369,V aR #[i6 0,.func (.func 178) #[] #[],eF] 364,V a2 #[i6 1,.func (.func 225) #[] #[],eF] 364,tW r ic ([]:List (eU×(Option Nat)))]
theorem U.en6(h:U w0 (cQ p aR a2 r::S) w):U w0 (V p #[N aR,N a2,tz r] 369::V aR #[i6 0,.func (.func 178) #[] #[],eF] 364::V a2 #[i6 1,.func (.func 225) #[] #[],eF] 364::tW r ic ([]:List (eU×(Option Nat)))::S) w:=by unfold cQ at h;exact h.dr
theorem U.en7(h:U w0 (V p #[N aR,N a2,tz r] 369::V aR #[i6 0,.func (.func 178) #[] #[],eF] 364::V a2 #[i6 1,.func (.func 225) #[] #[],eF] 364::tW r ic ([]:List (eU×(Option Nat)))::S) w):U w0 (cQ p aR a2 r::S) w:=by unfold cQ;exact U.closed (l:=[V p #[N aR,N a2,tz r] 369,V aR #[i6 0,.func (.func 178) #[] #[],eF] 364,V a2 #[i6 1,.func (.func 225) #[] #[],eF] 364,tW r ic ([]:List (eU×(Option Nat)))]) h
theorem en8(E:U w0 S w)(a:tX (cQ p aR a2 r) S):ar w (N p) #[N aR,N a2,tz r]/\ar w (N aR) #[i6 0,.func (.func 178) #[] #[],eF]/\ar w (N a2) #[i6 1,.func (.func 225) #[] #[],eF]/\hV w r ic ([]:List (eU×(Option Nat))):=by
 have h:=E.get a;unfold cQ at h;rw[pK]at h;exact⟨(by have:=h.2 _ (List.mem_of_getElem? (i:=0) rfl);unfold V at this;exact ar.dV this),(by have:=h.2 _ (List.mem_of_getElem? (i:=1) rfl);unfold V at this;exact ar.dV this),(by have:=h.2 _ (List.mem_of_getElem? (i:=2) rfl);unfold V at this;exact ar.dV this),(by have:=h.2 _ (List.mem_of_getElem? (i:=3) rfl);rw[mN]at this;exact this)⟩
@[irreducible] def mV (p aR a2 r n:Nat) (v0 ab:eu) (hv hb:Int):eL:=hD [V p #[N aR,N a2,tz r] 369,V aR #[i6 0,.func (.func 178) #[] #[],v0.v] 364,V a2 #[i6 1,.func (.func 225) #[] #[],ab.v] 364,B v0.v 358 ([⟨some n⟩]:List il),B ab.v 358 ([⟨some n⟩]:List il),tW r ic ([(⟨0⟩,(some n))]:List (eU×(Option Nat))),V n #[.int .u64 hv,.int .u64 hb,i6 0,i6 0,i6 0] 372]
theorem U.en9(h:U w0 (mV p aR a2 r n v0 ab hv hb::S) w):U w0 (V p #[N aR,N a2,tz r] 369::V aR #[i6 0,.func (.func 178) #[] #[],v0.v] 364::V a2 #[i6 1,.func (.func 225) #[] #[],ab.v] 364::B v0.v 358 ([⟨some n⟩]:List il)::B ab.v 358 ([⟨some n⟩]:List il)::tW r ic ([(⟨0⟩,(some n))]:List (eU×(Option Nat)))::V n #[.int .u64 hv,.int .u64 hb,i6 0,i6 0,i6 0] 372::S) w:=by unfold mV at h;exact h.dr
theorem U.ese(h:U w0 (V p #[N aR,N a2,tz r] 369::V aR #[i6 0,.func (.func 178) #[] #[],v0.v] 364::V a2 #[i6 1,.func (.func 225) #[] #[],ab.v] 364::B v0.v 358 ([⟨some n⟩]:List il)::B ab.v 358 ([⟨some n⟩]:List il)::tW r ic ([(⟨0⟩,(some n))]:List (eU×(Option Nat)))::V n #[.int .u64 hv,.int .u64 hb,i6 0,i6 0,i6 0] 372::S) w):U w0 (mV p aR a2 r n v0 ab hv hb::S) w:=by unfold mV;exact U.closed (l:=[V p #[N aR,N a2,tz r] 369,V aR #[i6 0,.func (.func 178) #[] #[],v0.v] 364,V a2 #[i6 1,.func (.func 225) #[] #[],ab.v] 364,B v0.v 358 ([⟨some n⟩]:List il),B ab.v 358 ([⟨some n⟩]:List il),tW r ic ([(⟨0⟩,(some n))]:List (eU×(Option Nat))),V n #[.int .u64 hv,.int .u64 hb,i6 0,i6 0,i6 0] 372]) h
theorem est(E:U w0 S w)(a:tX (mV p aR a2 r n v0 ab hv hb) S):ar w (N p) #[N aR,N a2,tz r]/\ar w (N aR) #[i6 0,.func (.func 178) #[] #[],v0.v]/\ar w (N a2) #[i6 1,.func (.func 225) #[] #[],ab.v]/\ev w v0.v ([⟨some n⟩]:List il)/\ev w ab.v ([⟨some n⟩]:List il)/\hV w r ic ([(⟨0⟩,(some n))]:List (eU×(Option Nat)))/\ar w (N n) #[.int .u64 hv,.int .u64 hb,i6 0,i6 0,i6 0]:=by
 have h:=E.get a;unfold mV at h;rw[pK]at h;exact⟨(by have:=h.2 _ (List.mem_of_getElem? (i:=0) rfl);unfold V at this;exact ar.dV this),(by have:=h.2 _ (List.mem_of_getElem? (i:=1) rfl);unfold V at this;exact ar.dV this),(by have:=h.2 _ (List.mem_of_getElem? (i:=2) rfl);unfold V at this;exact ar.dV this),(by have:=h.2 _ (List.mem_of_getElem? (i:=3) rfl);rw[dv]at this;exact dt.ef this),(by have:=h.2 _ (List.mem_of_getElem? (i:=4) rfl);rw[dv]at this;exact dt.ef this),(by have:=h.2 _ (List.mem_of_getElem? (i:=5) rfl);rw[mN]at this;exact this),(by have:=h.2 _ (List.mem_of_getElem? (i:=6) rfl);unfold V at this;exact ar.dV this)⟩
@[irreducible] def h0 (p aR a2 r n:Nat) (v0 ab:eu):eL:=hD [V p #[N aR,N a2,tz r] 369,V aR #[i6 0,.func (.func 178) #[] #[],(v0.cut 0 0 v0.c (O.eo il)).v] 364,V a2 #[i6 1,.func (.func 225) #[] #[],(ab.cut 0 0 ab.c (O.eo il)).v] 364,B v0.v 358 ([⟨some n⟩]:List il),B ab.v 358 ([⟨some n⟩]:List il),tW r ic ([]:List (eU×(Option Nat)))]
theorem U.esa(h:U w0 (V p #[N aR,N a2,tz r] 369::V aR #[i6 0,.func (.func 178) #[] #[],(v0.cut 0 0 v0.c (O.eo il)).v] 364::V a2 #[i6 1,.func (.func 225) #[] #[],(ab.cut 0 0 ab.c (O.eo il)).v] 364::B v0.v 358 ([⟨some n⟩]:List il)::B ab.v 358 ([⟨some n⟩]:List il)::tW r ic ([]:List (eU×(Option Nat)))::S) w):U w0 (h0 p aR a2 r n v0 ab::S) w:=by unfold h0;exact U.closed (l:=[V p #[N aR,N a2,tz r] 369,V aR #[i6 0,.func (.func 178) #[] #[],(v0.cut 0 0 v0.c (O.eo il)).v] 364,V a2 #[i6 1,.func (.func 225) #[] #[],(ab.cut 0 0 ab.c (O.eo il)).v] 364,B v0.v 358 ([⟨some n⟩]:List il),B ab.v 358 ([⟨some n⟩]:List il),tW r ic ([]:List (eU×(Option Nat)))]) h
theorem YZ(E:U w0 S w)(a:tX (h0 p aR a2 r n v0 ab) S):ar w (N p) #[N aR,N a2,tz r]/\ar w (N aR) #[i6 0,.func (.func 178) #[] #[],(v0.cut 0 0 v0.c (O.eo il)).v]/\ar w (N a2) #[i6 1,.func (.func 225) #[] #[],(ab.cut 0 0 ab.c (O.eo il)).v]/\ev w v0.v ([⟨some n⟩]:List il)/\ev w ab.v ([⟨some n⟩]:List il)/\hV w r ic ([]:List (eU×(Option Nat))):=by
 have h:=E.get a;unfold h0 at h;rw[pK]at h;exact⟨(by have:=h.2 _ (List.mem_of_getElem? (i:=0) rfl);unfold V at this;exact ar.dV this),(by have:=h.2 _ (List.mem_of_getElem? (i:=1) rfl);unfold V at this;exact ar.dV this),(by have:=h.2 _ (List.mem_of_getElem? (i:=2) rfl);unfold V at this;exact ar.dV this),(by have:=h.2 _ (List.mem_of_getElem? (i:=3) rfl);rw[dv]at this;exact dt.ef this),(by have:=h.2 _ (List.mem_of_getElem? (i:=4) rfl);rw[dv]at this;exact dt.ef this),(by have:=h.2 _ (List.mem_of_getElem? (i:=5) rfl);rw[mN]at this;exact this)⟩
theorem eso:eJ 157 #[] w0 (λu w'=>∃(eE:Nat)(te:Nat)(tO:Nat)(af:Nat),u=N te/\U w0 [cQ te tO af eE] w'):=by
 refine eH 7 (eG _) func157 ntmps157 results157 rfl λw E=>?_;refine ea (Z.makeMap eU ic E ?_);intro t6 w _ E;refine ag 7 E (ud (#[.pointer none,.pointer none,tz t6])) λaF w E=>?_;refine ag 10 E (ud (#[i6 0,.func (.func 178) #[] #[],eF])) λa w E=>?_;refine ag 15 E (ud (#[i6 1,.func (.func 225) #[] #[],eF])) λb w E=>?_;replace E:=(Pi [3,1,2,3] E).en7;exact⟨t6,aF,a,b,rfl,E⟩
theorem EY(a:ar w0 (N p) #[N aR,N a2,tz r]):tN 174 #[N p] w0 (.bool true):=by
 have:=iu a;refine eH 21 (eG _) func174 ntmps174 results174 rfl λw E=>?_;exact⟨rfl,E.J⟩
theorem esi(a:U en (V p #[i6 0,.func (.func 178) #[] #[],eF] 364::V n #[xG,n3,nr,i6 0,i6 0] 372::S) w0):eJ 448 #[N p,.iface 358 (N n)] w0 (λu w'=>∃(eE:eu),u= .tuple #[]/\U en (B eE.v 358 ([⟨some n⟩]:List il)::V p #[i6 0,.func (.func 178) #[] #[],eE.v] 364::V n #[xG,n3,nr,i6 0,i6 0] 372::S) w'):=by
 refine eH 3 a func448 ntmps448 results448 rfl λw E=>?_;refine ea (P5 (v:=N n) rfl (ew 8 E ?_));refine ow 23 13 (e5 [0,1,2,3,4,5,6,7,8,9,10,11,12] (.one 13 .nil)) [] λw E=>?_;refine ho 0 E (sL ([⟨some n⟩]:List il)) λc w E=>?_;refine ea (hX (α:=il) rfl E rfl (E.ef .em) ay (by simp[maxLen];try omega) ?_);intro b w _ E;refine ew 5 E λw E=>?_;exact⟨b,rfl,(tF [1] E)⟩
theorem Y0(a:ar w0 (N p) #[i6 0,.func (.func 178) #[] #[],s.v])(b:ev w0 s.v ([⟨some n⟩]:List il)):tN 445 #[N p] w0 (i6 1):=by
 have:=iu a;have:=aS b;refine eH 17 (eG _) func445 ntmps445 results445 rfl λw E=>?_;exact⟨rfl,E.J⟩
theorem esn(a:U en (V p #[i6 1,.func (.func 225) #[] #[],eF] 364::V n #[xG,n3,nr,i6 0,i6 0] 372::S) w0):eJ 448 #[N p,.iface 358 (N n)] w0 (λu w'=>∃(eE:eu),u= .tuple #[]/\U en (B eE.v 358 ([⟨some n⟩]:List il)::V p #[i6 1,.func (.func 225) #[] #[],eE.v] 364::V n #[xG,n3,nr,i6 0,i6 0] 372::S) w'):=by
 refine eH 3 a func448 ntmps448 results448 rfl λw E=>?_;refine ea (P5 (v:=N n) rfl (ew 8 E ?_));refine ow 23 13 (e5 [0,1,2,3,4,5,6,7,8,9,10,11,12] (.one 13 .nil)) [] λw E=>?_;refine ho 0 E (sL ([⟨some n⟩]:List il)) λc w E=>?_;refine ea (hX (α:=il) rfl E rfl (E.ef .em) ay (by simp[maxLen];try omega) ?_);intro b w _ E;refine ew 5 E λw E=>?_;exact⟨b,rfl,(tF [1] E)⟩
theorem Y1(a:ar w0 (N p) #[i6 1,.func (.func 225) #[] #[],s.v])(b:ev w0 s.v ([⟨some n⟩]:List il)):tN 445 #[N p] w0 (i6 1):=by
 have:=iu a;have:=aS b;refine eH 17 (eG _) func445 ntmps445 results445 rfl λw E=>?_;exact⟨rfl,E.J⟩
theorem EN(w0:World)(x:Value):tN 260 #[x,i6 0] w0 (.tuple #[]):=by
 refine eH 1 (eG _) func260 ntmps260 results260 rfl λw E=>?_;refine oU 40 (og.step ?_);refine eI 4 E λw E=>?_;refine ag 0 E (p1 (show IntKind.i64.wrap (0-1)=(-1)from by decide)) λw E=>?_;refine ag 8 E (AM (by decide) (show IntKind.i64.wrap (Int.tdiv (-1) 2)=0 from by decide)) ?_;refine eP true 16 λw E=>?_;exact⟨rfl,E.J⟩
theorem ess(a:U en (V p #[i6 0,.func (.func 178) #[] #[],eF] 364::V n #[xG,n3,nr,i6 0,i6 0] 372::S) w0):eJ 194 #[.iface 365 (N p),.iface 358 (N n)] w0 (λu w'=>∃(eE:eu),u= .tuple #[]/\U en (B eE.v 358 ([⟨some n⟩]:List il)::V p #[i6 0,.func (.func 178) #[] #[],eE.v] 364::V n #[xG,n3,nr,i6 0,i6 0] 372::S) w'):=by
 refine eH 4 a func194 ntmps194 results194 rfl λw E=>?_;refine ej 5 E (esi (Pi [1,1] E)) λb w E=>?_;refine ej 1 E (Y0 (E.tU .G) (E.ef .em)) λw E=>?_;refine ej 2 E (EN _ _) λw E=>?_;exact⟨b,rfl,E⟩
theorem esr(a:U en (V p #[i6 1,.func (.func 225) #[] #[],eF] 364::V n #[xG,n3,nr,i6 0,i6 0] 372::S) w0):eJ 194 #[.iface 365 (N p),.iface 358 (N n)] w0 (λu w'=>∃(eE:eu),u= .tuple #[]/\U en (B eE.v 358 ([⟨some n⟩]:List il)::V p #[i6 1,.func (.func 225) #[] #[],eE.v] 364::V n #[xG,n3,nr,i6 0,i6 0] 372::S) w'):=by
 refine eH 4 a func194 ntmps194 results194 rfl λw E=>?_;refine ej 5 E (esn (Pi [1,1] E)) λb w E=>?_;refine ej 1 E (Y1 (E.tU .G) (E.ef .em)) λw E=>?_;refine ej 2 E (EN _ _) λw E=>?_;exact⟨b,rfl,E⟩
theorem esh(d:U en (cQ p aR a2 r::S) w0):eJ 127 #[N p,.agg #[.int .u64 hv,.int .u64 hb],i6 0] w0 (λu w'=>∃(eE:Nat)(te:eu)(tO:eu),u=i6 0/\U en (mV p aR a2 r eE te tO hv hb::S) w'):=by
 refine eH 0 d func127 ntmps127 results127 rfl λw E=>?_;replace E:=E.en6;refine eI 10 E λaF w E=>?_;refine ej 14 E (EY (E.tU .G)) λw E=>?_;refine ea (zx (k:=(⟨0⟩:eU)) (z0:=none) (o:=none) inferInstance (E.map .e6) rfl rfl (by simp[tR]) (ea (oM (v:=.tuple #[.pointer none,.bool false]) rfl (ew 18 E λw E=>?_))));refine ag 12 E (ud (#[.int .u64 hv,.int .u64 hb,i6 0,i6 0,i6 0])) λa w E=>?_;refine oA (gG (k:=(⟨0⟩:eU)) (v:=(some a)) (hw:=([(⟨0⟩,(some a))]:List (eU×(Option Nat)))) E .ac rfl rfl rfl (by simp[oH]) (tA .ac λw E=>?_));refine ew 13 E λw E=>?_;refine oU 40 (og.step ?_);refine eI 2 E ?_;refine eP true 10 λw E=>?_;refine ea (Nz (v:=N aR) rfl rfl (by decide) rfl ?_);refine ew 8 E λw E=>?_;refine ej 11 E (ess (Pi [0,3] E)) λb=>?_;refine eP true 10 λw E=>?_;refine ea (Nz (v:=N a2) rfl rfl (by decide) rfl ?_);refine ew 8 E λw E=>?_;refine ej 11 E (esr (Pi [2,5] E)) λc=>?_;refine eP false 16 λw E=>?_;replace E:=(Pi [2,7,2,4,4,5,7] E).ese;exact⟨a,b,c,rfl,(tF [1] E)⟩
theorem dX(en w0:World)(S:List eL)(p aR a2 r n:Nat)(v0 ab:eu)(hv hb:Int)(b:U en S w0)(c:tX (mV p aR a2 r n v0 ab hv hb) S):tN 192 #[N p,i6 0] w0 (.tuple #[.agg #[.int .u64 hv,.int .u64 hb],i6 0,.bool true]):=by
 obtain⟨a,d,h,e,i,f,g⟩:=est b c;refine eH 11 (eG _) func192 ntmps192 results192 rfl λaF w E=>?_;have:=iu a;refine ej 6 E (EY (a.ei E.J)) λw E=>?_;refine sk 11 rfl rfl rfl (ea (NE (n:=1) (f.ei E.J) rfl rfl ?_));have:=iu d;have:=aS e;refine mn false 23 E ?_;have:=iu g;refine ow 8 11 (e5 [0,1,2,3,4,5,6,7] (.one 8 (e5 [9,10] .nil))) [0] λw E=>?_;refine n5 rfl rfl (iU (v:=.agg #[.int .u64 hv,.int .u64 hb]) (iR:=#[.int .u64 hv,.int .u64 hb]) E rfl rfl .em rfl (Nat.le_of_ble_eq_true rfl) (h3 rfl) rfl (tA .em λw E=>?_));refine⟨tF [0] E,?_⟩;refine ao 6 E λw E=>?_;exact⟨rfl,E.J⟩
theorem esc(a:U en S w0)(b:tX (mV p aR a2 r n v0 ab hv hb) S):tN 313 #[N p] w0 (.tuple #[.agg #[.int .u64 hv,.int .u64 hb],i6 0,.bool true]):=by
 have:=dU a b;refine eH 10 (eG _) func313 ntmps313 results313 rfl λaa w E=>?_;refine ej 3 E (dX _ _ _ _ _ _ _ _ _ _ _ _ (a.ei E.J) b) λw E=>?_;exact oA (iU (v:=.agg #[.int .u64 hv,.int .u64 hb]) (iR:=#[.int .u64 hv,.int .u64 hb]) E rfl rfl .em rfl (Nat.le_of_ble_eq_true rfl) (h3 rfl) rfl (tA .em λw E=>(ew 6 E λw E=>(⟨rfl,E.J⟩))))
theorem esu(b:U en S w0)(c:tX (h0 p aR a2 r n v0 ab) S):tN 192 #[N p,i6 0] w0 (.tuple #[.agg #[.int .u64 0,.int .u64 0],i6 0,.bool false]):=by
 obtain⟨a,e,f,g,h,d⟩:=YZ b c;refine eH 11 (eG _) func192 ntmps192 results192 rfl λaF w E=>?_;have:=iu a;refine ej 6 E (EY (a.ei E.J)) λw E=>?_;refine sk 11 rfl rfl rfl (ea (NE (n:=0) (d.ei E.J) rfl rfl ?_));refine mn true 6 E λw E=>?_;refine ag 0 E (hT (v:=.agg #[.int .u64 0,.int .u64 0]) λw E=>E.nZ .em rfl) λw E=>?_;refine oA (iU (v:=.agg #[.int .u64 0,.int .u64 0]) (iR:=#[.int .u64 0,.int .u64 0]) E rfl rfl .em rfl (Nat.le_of_ble_eq_true rfl) (h3 rfl) rfl (tA .em λw E=>?_));refine ew 7 E λw E=>?_;exact⟨rfl,E.J⟩
theorem esm(a:U en S w0)(b:tX (h0 p aR a2 r n v0 ab) S):tN 313 #[N p] w0 (.tuple #[.agg #[.int .u64 0,.int .u64 0],i6 0,.bool false]):=by
 have:=dU a b;refine eH 10 (eG _) func313 ntmps313 results313 rfl λaa w E=>?_;refine ej 3 E (esu (a.ei E.J) b) λw E=>?_;exact oA (iU (v:=.agg #[.int .u64 0,.int .u64 0]) (iR:=#[.int .u64 0,.int .u64 0]) E rfl rfl .em rfl (Nat.le_of_ble_eq_true rfl) (h3 rfl) rfl (tA .em λw E=>(ew 6 E λw E=>(⟨rfl,E.J⟩))))
theorem esf(a:U en (V p #[i6 0,.func (.func 178) #[] #[],v.v] 364::B v.v 358 ([⟨some n⟩]:List il)::S) w0):eJ 447 #[N p] w0 (λu w'=>u= .iface 358 (N n)/\U en (V p #[i6 0,.func (.func 178) #[] #[],(v.cut 0 0 v.c (O.eo il)).v] 364::B v.v 358 ([⟨some n⟩]:List il)::S) w'):=by
 refine eH 24 a func447 ntmps447 results447 rfl ⟨⟨ay⟩,λ_=>rL 12 λw E=>?_⟩;exact ea (zv (α:=il) (v:=v) (xs:=([⟨some n⟩]:List il)) (h':=0) rfl (E.ef .G) rfl ay (ew 14 E λw E=>(⟨rfl,E⟩)))
theorem esp(a:U en (V p #[i6 0,.func (.func 178) #[] #[],v.v] 364::B v.v 358 ([⟨some n⟩]:List il)::S) w0):eJ 193 #[.iface 365 (N p),i6 0] w0 (λu w'=>u= .iface 358 (N n)/\U en (V p #[i6 0,.func (.func 178) #[] #[],(v.cut 0 0 v.c (O.eo il)).v] 364::B v.v 358 ([⟨some n⟩]:List il)::S) w'):=by
 refine eH 8 a func193 ntmps193 results193 rfl λw E=>?_;refine ej 9 E (Y0 (E.tU .em) (E.ef .G)) ?_;refine eP false 8 λw E=>?_;refine ej 5 E (esf (Pi [1,1] E)) λw E=>?_;exact⟨rfl,E⟩
theorem esg(a:U en (V p #[i6 1,.func (.func 225) #[] #[],v.v] 364::B v.v 358 ([⟨some n⟩]:List il)::S) w0):eJ 447 #[N p] w0 (λu w'=>u= .iface 358 (N n)/\U en (V p #[i6 1,.func (.func 225) #[] #[],(v.cut 0 0 v.c (O.eo il)).v] 364::B v.v 358 ([⟨some n⟩]:List il)::S) w'):=by
 refine eH 24 a func447 ntmps447 results447 rfl ⟨⟨ay⟩,λ_=>rL 12 λw E=>?_⟩;exact ea (zv (α:=il) (v:=v) (xs:=([⟨some n⟩]:List il)) (h':=0) rfl (E.ef .G) rfl ay (ew 14 E λw E=>(⟨rfl,E⟩)))
theorem esw(a:U en (V p #[i6 1,.func (.func 225) #[] #[],v.v] 364::B v.v 358 ([⟨some n⟩]:List il)::S) w0):eJ 193 #[.iface 365 (N p),i6 0] w0 (λu w'=>u= .iface 358 (N n)/\U en (V p #[i6 1,.func (.func 225) #[] #[],(v.cut 0 0 v.c (O.eo il)).v] 364::B v.v 358 ([⟨some n⟩]:List il)::S) w'):=by
 refine eH 8 a func193 ntmps193 results193 rfl λw E=>?_;refine ej 9 E (Y1 (E.tU .em) (E.ef .G)) ?_;refine eP false 8 λw E=>?_;refine ej 5 E (esg (Pi [1,1] E)) λw E=>?_;exact⟨rfl,E⟩
theorem esy(a:U en (mV p aR a2 r n v0 ab hv hb::S) w0):eJ 126 #[N p,i6 0] w0 (λu w'=>u= .tuple #[.agg #[.int .u64 hv,.int .u64 hb],i6 0]/\U en (h0 p aR a2 r n v0 ab::V n #[.int .u64 hv,.int .u64 hb,i6 0,i6 0,i6 0] 372::S) w'):=by
 refine eH 0 a func126 ntmps126 results126 rfl λw E=>?_;replace E:=E.en9;refine eI 10 E λaF w E=>?_;refine ej 13 E (EY (E.tU .G)) λw E=>?_;refine ea (zx (k:=(⟨0⟩:eU)) (z0:=none) (o:=(some (some n))) inferInstance (E.map .aW) rfl rfl (by simp[tR]) (ea (oM (v:=.tuple #[N n,.bool true]) rfl (ew 23 E λw E=>(oA (xh (t:=367) (k:=(⟨0⟩:eU)) (hw:=([]:List (eU×(Option Nat)))) rfl E .aW rfl rfl (by simp[rc]) (tA .aW λw E=>(ew 13 E λw E=>?_))))))));refine oU 40 (og.step ?_);refine eI 2 E ?_;refine eP true 10 λw E=>?_;refine ea (Nz (v:=N aR) rfl rfl (by decide) rfl (ew 3 E ?_));refine ow 11 11 (e5 [0,1,2,3,4,5,6,7,8,9,10] (.one 11 .nil)) [] λw E=>?_;refine fh 11 E (esp (Pi [4,3] E)) ?_;refine eP true 10 λw E=>?_;refine ea (Nz (v:=N a2) rfl rfl (by decide) rfl (ew 3 E ?_));refine ow 11 11 (e5 [0,1,2,3,4,5,6,7,8,9,10] (.one 11 .nil)) [] λw E=>?_;refine fh 11 E (esw (Pi [5,5] E)) ?_;refine eP false 15 λw E=>?_;refine oA (iU (v:=.agg #[.int .u64 hv,.int .u64 hb]) (iR:=#[.int .u64 hv,.int .u64 hb]) E rfl rfl .e6 rfl (Nat.le_of_ble_eq_true rfl) (h3 rfl) rfl (tA .e6 λw E=>(ew 5 E λw E=>?_)));replace E:=(Pi [6,2,4,3,4,6] E).esa;exact⟨rfl,(tF [1] E)⟩
end
section
open Go.Proofs Tryz
variable{a c:Int}{f:tr}{eV:Option (Nat×Bool)}{i j m x y z:Nat}{w w' w0:World}
theorem esb{P:Program}{R:Value->World->Prop}{d:Option Tmp}{T:TypeId}{pos:String}{eO:Array Edge}{s:TypeId}{x:Operand}{k:IntKind}(b:eC f x= .int k a)(e:hH .xor k (if k.signed then-1 else k.max) a=c)(h:R (.int k c) w):Z P f ⟨d,.unOp .xor s x,T,pos,eO,eV⟩ w R:=by
 refine iv (v:=.int k c) (w':=w) ?_ h;subst e;simp[execOp,b,Op.unary,Op.intBits,hH]
structure Tab(w:World)(oh:Nat->Nat):Prop where
 tU:ar w (N 4) ((Array.range 64).map λi=>.int .u8 (oh i:Int))
 t0:oh 0=0
 le:∀i,oh i<=255
theorem Tab.ei{oh:Nat->Nat}(h:Tab w oh)(a:eB w w'):Tab w' oh:=⟨h.tU.ei a,h.t0,h.le⟩
def qy(x:Nat):Nat:=(x&&&(18446744073709551616-x))*285870213051353865%18446744073709551616/288230376151711744
def ci(oh:Nat->Nat)(x:Nat):Nat:=if x=0 then 64 else oh (qy x)
theorem esv:qy x<64:=by unfold qy;omega
theorem esk{oh:Nat->Nat}(h:Tab w oh):ci oh 18446744073709551615=0:=by
 unfold ci;rw[if_neg (by decide),show qy 18446744073709551615=0 from by decide+kernel,h.t0]
theorem esx{oh:Nat->Nat}(h:Tab w oh):ci oh 1=0:=by
 unfold ci;rw[if_neg (by decide),show qy 1=0 from by decide+kernel,h.t0]
theorem Tab.cell{oh:Nat->Nat}(h:Tab w oh)(ey:i<64):((Array.range 64).map λi=>Value.int .u8 (oh i:Int))[i]? =some (.int .u8 (oh i:Int)):=by
 simp[ey]
theorem esj(h:m=18446744073709551616-x)(a:x<18446744073709551616)(em:x≠0):IntKind.u64.wrap (0-(x:Int))=(m:Int):=by rw[HT];omega
theorem esq(h:y=x&&&m)(a:x<18446744073709551616)(th:m=18446744073709551616-x)(em:x≠0):hH .and .u64 (x:Int) (m:Int)=(y:Int):=by rw[h];exact H4 x m a (by omega)
theorem esz(h:z=y*285870213051353865%18446744073709551616):IntKind.u64.wrap ((y:Int)*285870213051353865)=(z:Int):=by rw[HT];omega
theorem esE(h:j=z/288230376151711744):Int.fdiv (z:Int) (2^(min (Int.toNat 58) IntKind.u64.bits))=(j:Int):=by
 rw[show(2:Int)^(min (Int.toNat 58) IntKind.u64.bits)=((288230376151711744:Nat):Int)from by decide,h];exact(Int.ofNat_fdiv z 288230376151711744).symm
theorem C4(oh:Nat->Nat)(a:Tab w0 oh)(d:x<18446744073709551616):tN 180 #[eb x] w0 (i6 (ci oh x:Int)):=by
 refine eH 12 (eG _) func180 ntmps180 results180 rfl<|om 0 0 (λi w E=>?_) (λi w E=>?_)
 .
   obtain rfl:x=0:=by omega
   refine eI 8 E λw E=>?_;exact⟨rfl,E.J⟩
 .
   have c:x≠0:=by omega
   obtain⟨m,th⟩:∃m,m=18446744073709551616-x:=⟨_,rfl⟩;obtain⟨y,e⟩:∃y,y=x&&&m:=⟨_,rfl⟩;obtain⟨z,f⟩:∃z,z=y*285870213051353865%18446744073709551616:=⟨_,rfl⟩;obtain⟨j,g⟩:∃j,j=z/288230376151711744:=⟨_,rfl⟩;have h:qy x=j:=by rw[g,f,e,th];rfl
   have k:j<64:=h▸esv;refine eI 6 E λw E=>?_;refine ea (Z.neg rfl (esj th d c) ?_);refine ag 0 E (p2 ((esq e d th c))) λw E=>?_;refine ag 0 E (fd ((esz f))) λw E=>?_;refine ag 0 E (lZ (by omega) ((esE g))) λw E=>?_;refine ea (ph (b:=4) (o:=0) (eo:=1) rfl rfl (by omega) ?_);refine ag 0 E (hT λw E=>((a.ei E.J).tU.vS (o:=0+j*1) (by rw[Nat.zero_add,Nat.mul_one];exact a.cell k))) λw E=>?_;refine ea (Z.conv rfl (wrap_i64 (by have:=a.le j;omega)) ?_);refine ew 5 E λw E=>?_;exact⟨(by unfold ci;rw[if_neg c,h];try rfl),E.J⟩
end
section
open Go.Proofs Tryz
variable{S:List eL}{p:Nat}{w w' w0 en:World}{x y:Item}
structure nz where
 ah:eu
 ai:eu
 n:Nat
 oC:Option Item
variable{d:nz}
def nz.sc(d:nz):List Item:=d.oC.getD uR::List.replicate (d.n-1) uR
def nz.nq(d:nz):List t7:=⟨if d.oC.isSome then 1 else 0⟩::List.replicate ((d.n+63)/64-1) ⟨0⟩
def nz.r(d:nz):l0:=⟨d.ah,d.ai,if d.oC.isSome then 1 else 0⟩
structure pk(d:nz):Prop where
 ny:1<=d.n
 sd:d.n<=4096
 ah:d.ah.a.isNone=false
theorem OF(h:pk d):d.sc.length=d.n:=by
 have:=h.ny;unfold nz.sc;rw[List.length_cons,List.length_replicate];omega
theorem EB(h:pk d):d.nq.length=(d.n+63)/64:=by
 have:=h.ny;unfold nz.nq;rw[List.length_cons,List.length_replicate];omega
@[irreducible] def mK (p:Nat) (d:nz):eL:=hD [V p (O.enc d.r) 376,B d.ah.v 143 d.sc,B d.ai.v 23 d.nq]
theorem U.C5(h:U w0 (mK p d::S) w):U w0 (V p (O.enc d.r) 376::B d.ah.v 143 d.sc::B d.ai.v 23 d.nq::S) w:=by
 unfold mK at h;exact h.dr
theorem Rv(h:U w0 (V p (O.enc d.r) 376::B d.ah.v 143 d.sc::B d.ai.v 23 d.nq::S) w):U w0 (mK p d::S) w:=by
 unfold mK;exact U.closed (l:=[V p (O.enc d.r) 376,B d.ah.v 143 d.sc,B d.ai.v 23 d.nq]) h
structure qb(w:World)(p:Nat)(d:nz):Prop where
 tU:ar w (N p) (O.enc d.r)
 Rk:ev w d.ah.v d.sc
 us:ev w d.ai.v d.nq
theorem qb.ei(h:qb w p d)(a:eB w w'):qb w' p d:=⟨h.tU.ei a,h.Rk.ei a,h.us.ei a⟩
theorem U.qv(h:U w0 S w)(a:tX (mK p d) S):qb w p d:=by
 have G:=h.get a;unfold mK at G;rw[pK]at G;refine⟨?_,?_,?_⟩
 .have:=G.2 (V p (O.enc d.r) 376) (by simp);unfold V at this;exact ar.dV this
 .have:=G.2 (B d.ah.v 143 d.sc) (by simp);rw[dv]at this;exact dt.ef this
 have:=G.2 (B d.ai.v 23 d.nq) (by simp);rw[dv]at this;exact dt.ef this
theorem C6(a:pk d)(b:d.oC=some x)(ep:qb w0 p d):tN 181 #[N p,i6 0] w0 (i6 0):=by
 have i:=a.ny;have j:=OF a;have k:=EB a;have c:0<d.nq.length:=by omega
 have:=iu ep.tU;refine eH 16 (eG _) func181 ntmps181 results181 rfl λw E=>?_;refine sk 8 rfl rfl rfl (ea (gS a.ah (fS rfl rfl ⟨rfl,rfl⟩) (ew 4 E<|na 0 3 (λe f w E=>?_) (λ_ f w E=>?_))))
 .
   cases e
 .
   refine mn false 6 E λw E=>?_;refine sk 18 rfl rfl rfl (ea (Z.hL rfl ((ep.ei E.J).Rk) ?_));refine mn false 7 E λw E=>?_;refine ag 0 E (AM (by decide) (show IntKind.i64.wrap (Int.tdiv 0 64)=0 from by decide)) λw E=>?_;refine sk 27 rfl rfl rfl (ea (nL rfl ((ep.ei E.J).us) rfl (by omega) ?_));refine ag 2 E (hT λw E=>((ep.ei E.J).us.se c).ax (by rw[zh];simp only[nz.nq,List.getElem_cons_zero,b];rfl)) λw E=>?_;refine ag 0 E (lZ (by decide) (show Int.fdiv 1 (2^(min (Int.toNat 0) IntKind.u64.bits))=1 from by decide)) λw E=>?_;refine ag 0 E (p2 (show hH .and .u64 1 1=1 from by decide)) ?_;refine eP false 4<|na 0 10 (λg h w E=>?_) (λ_ h w E=>?_)
   .
     cases g
   .
     exact⟨rfl,E.J⟩
theorem esT(a:pk d)(b:d.oC=some x)(ep:qb w0 p d):tN 111 #[N p,i6 0] w0 (.tuple #[.agg (O.enc x),i6 0]):=by
 have f:=a.ny;have g:=OF a;have h:0<d.sc.length:=by omega
 refine eH 4 (eG _) func111 ntmps111 results111 rfl λaF w E=>?_
 try rw[zK]at E
 refine ew 7 E λw E=>?_;refine ej 6 E (C6 a b (ep.ei E.J)) ?_;refine eP false 2<|have:=iu ep.tU;na 0 9 (λc e w E=>?_) (λ_ e w E=>?_)
 .
   cases c
 .
   exact ea (nL rfl ((ep.ei E.J).Rk) rfl (by omega) (ag 6 E (hT (v:=.agg (O.enc d.sc[0])) λw E=>((ep.ei E.J).Rk.se (show 0<d.sc.length from by omega)).nZ (O.eT d.sc[0])) λw E=>(⟨by simp only[nz.sc,List.getElem_cons_zero,b];rfl,E.J⟩)))
theorem Y2(ep:qb w0 p d):tN 204 #[N p] w0 (i6 (if d.oC.isSome then 1 else 0:Int)):=by
 refine eH 12 (eG _) func204 ntmps204 results204 rfl<|have:=iu ep.tU;na 0 13 (λa b w E=>?_) (λ_ b w E=>?_)
 .
   cases a
 .
   exact⟨rfl,E.J⟩
theorem esA(a:pk d)(b:d.oC=some x)(c:U en (mK p d::S) w0):eJ 188 #[N p,i6 0,.agg (O.enc y)] w0 (λu w'=>u=i6 0/\U en (mK p ({d with oC:=some y}:nz)::S) w'):=by
 have l:=a.ny;have m:=OF a;have f:0<d.sc.length:=by omega
 have n:=EB a;have o:0<d.nq.length:=by omega
 refine eH 10 c func188 ntmps188 results188 rfl λq w E=>?_;refine ej 1 E (C6 a b (E.qv es)) λw E=>?_;replace E:=(E.pick (e:=mK p d) es).C5;refine ew 6 E ?_;refine eP true 2<|na 0 0 (λ_ g w E=>?_) (λh g w E=>?_)
 .
   refine nV 6 6 (e5 [0,1,2,3,4,5] (oJ [6,7] .nil)) [] E λw E=>?_;refine hA rfl (nL rfl ((E.ef (v:=d.ah.v) (xs:=d.sc) es)) rfl (by omega) (nP rfl (pr (v:=d.ah.v) (u:=.agg (O.enc y)) (eo:=O.eo Item) (xs:=d.sc) (i:=0) (off:=0) (ds:=y) E es f (yI d.ah.v 0 (O.eo Item)).symm rfl (by simp only[Value.cells];exact O.eT y) (Nat.le_of_eq (Nat.zero_add (O.eo Item))) (by simp only[Value.cells];exact O.one y) (by simp only[Value.cells];exact mT ((O.eT y).trans (O.eT d.sc[0]).symm)) (tA es λw E=>(ao 10 E λw E=>?_)))));have hd:d.r=({d with oC:=some y}:nz).r:=by simp only[nz.r,b];rfl
   have j:d.nq=({d with oC:=some y}:nz).nq:=by simp only[nz.nq,b];rfl
   have k:d.sc.set 0 y=({d with oC:=some y}:nz).sc:=rfl;rw[hd,j,k]at E;replace E:=(show U en (V p (O.enc ({d with oC:=some y}:nz).r) 376::B d.ah.v 143 ({d with oC:=some y}:nz).sc::B d.ai.v 23 ({d with oC:=some y}:nz).nq::S) _ from((((E.pick (e:=B d.ai.v 23 ({d with oC:=some y}:nz).nq) es).pick (e:=B d.ah.v 143 ({d with oC:=some y}:nz).sc) es).pick (e:=V p (O.enc ({d with oC:=some y}:nz).r) 376) es).sub aI));exact⟨rfl,Rv E⟩
 .
   cases h
theorem esO(oh:Nat->Nat)(s:Tab en oh)(n:pk d)(a:d.oC=none)(F:U en (mK p d::S) w0):eJ 122 #[N p,.agg (O.enc y)] w0 (λu w'=>u= .tuple #[i6 0,i6 0]/\U en (mK p ({d with oC:=some y}:nz)::S) w'):=by
 refine nk.enter (args:=[N p,.agg (O.enc y)]) func122 rfl ntmps122 results122 rfl ?_;have E:=eG w0;have dW:=n.ny;have Eh:=OF n;have G:0<d.sc.length:=by omega
 have OG:=EB n;have q:0<d.nq.length:=by omega
 replace E:=F.C5;have t:d.r.sp=0:=by simp only[nz.r,a];rfl
 refine ex.seq (λfQ H=>(ex.region (ea (br E (c:=O.enc y) rfl ?_))));intro tZ w _ E;refine ea (iM rfl (ea (iM rfl ?_)));refine tn.nil ?_;refine aE (H _ _ ?_);refine ex.scope ?_;refine ex.seq (λfZ I=>?_);refine ex.block ?_;refine ex.seq (λyR K=>(ex.region (ea (oM (v:=N p) rfl (ea (Nd rfl rfl (ea (di rfl (sk 12 rfl rfl rfl (ea (oM (v:=N p) rfl (sk 12 rfl rfl rfl (ea (sS rfl (sk 12 rfl rfl rfl (ea (o9 rfl (sk 12 rfl rfl rfl (ea (ap (v:=d.r.sc.v) rfl (E.aV (b:=p) (cs:=O.enc d.r) es (Sc d.r)) (sk 12 rfl rfl rfl (ea (gS n.ah (fS rfl rfl ⟨rfl,rfl⟩) (ea (m9 rfl rfl (ea (ww rfl ?_)))))))))))))))))))))))))));refine tn.nil ?_;refine aE (K _ _ ?_);refine ex.cond _ rfl (λh=>?_) (λh=>?_)
 .
   have x:=h
   try simp only[rs]at h
   cases x
 .
   have x:=h
   try simp only[rs]at h
   refine ex.seq (λbC L=>?_);refine nV 0 11 (e5 [0,1,2,3,4,5,6,7,8,9,10] .nil) [] E λw E=>?_;refine tw rfl (λw E=>oM (v:=N p) rfl eY) (tw rfl (λw E=>sS rfl eY) (tw rfl (λw E=>o9 rfl eY) (tw rfl (λw E=>ap (v:=i6 0) rfl (E.aV (b:=p) (cs:=O.enc d.r) es (by rw[<-t];exact Dg d.r)) eY) (tw rfl (λw E=>oM (v:=N p) rfl eY) (tw rfl (λw E=>sS rfl eY) (tw rfl (λw E=>o9 rfl eY) (tw rfl (λw E=>ap (v:=d.r.sc.v) rfl (E.aV (b:=p) (cs:=O.enc d.r) es (Sc d.r)) eY) (tw rfl (λw E=>Z.hL rfl ((E.ef (v:=d.ah.v) (xs:=d.sc) es)) eY) (tw rfl (λw E=>gS (decide_eq_false (by omega)) (Z.eql rfl rfl ⟨rfl,rfl⟩) eY) (tw rfl (λw E=>ww rfl eY) (e3.nil (aE (L _ _ ?_)))))))))))));refine ex.cond _ rfl (λj=>?_) (λj=>?_)
   .
     have z:=j
     try simp only[rs]at j
     cases z
   .
     have z:=j
     try simp only[rs]at j
     refine ex.skip ?_;refine m7 (aE (I _ _ (ex.seq (λbU M=>?_))));refine ex.label ?_;refine aE (M _ _ (ex.seq (λwP P=>(ex.seq (λyH Q=>(ex.region (ea (oM (v:=N p) rfl (ea (sS rfl (ea (o9 rfl (ea (ap (v:=d.r.nq.v) rfl (E.aV (b:=p) (cs:=O.enc d.r) es (Dp d.r)) (ea (Z.hL rfl ((E.ef (v:=d.ai.v) (xs:=d.nq) es)) (ea (oD rfl ?_))))))))))))))))));refine tn.nil ?_;refine aE (Q _ _ ?_);refine ex.block ?_;refine ex.loop (λm f w=>oW [(0,N p),(3,N tZ),(4,i6 0),(33,d.r.nq.v),(34,i6 d.nq.length),(35,i6 0)] f/\U en (V tZ (O.enc y) 143::V p (O.enc d.r) 376::B d.ah.v 143 d.sc::B d.ai.v 23 d.nq::S) w/\m=0) (0) ?_ ?_
     .
       exact⟨⟨rfl,rfl,rfl,rfl,rfl,rfl,trivial⟩,E,rfl⟩
     .
       rintro m f w ⟨A,E,th⟩;refine io _ A (λg=>?_);clear A;refine ex.seq (λxR R=>(ex.region (ea (pG (decide_eq_true (by omega)) (Z.lss rfl rfl ⟨rfl,rfl⟩) ?_))));refine tn.nil ?_;refine aE (R _ _ (ex.seq (λEl T=>?_)));refine ex.cond _ rfl (λk=>?_) (λk=>?_)
       .
         have C:=k
         try simp only[rs]at k
         refine ex.skip ?_;refine aE (T _ _ (ex.seq (λEd wG=>?_)));refine ex.block ?_;refine ex.seq (λEc W=>(ex.region (ea (oD rfl (ea (nL rfl ((E.ef (v:=d.ai.v) (xs:=d.nq) es)) rfl (by omega) (ea (ap rfl (((E.ef (v:=d.ai.v) (xs:=d.nq) es).se q).ax (by rw[zh];simp only[nz.nq,List.getElem_cons_zero,a];rfl)) (ea (iM rfl (ea (iM rfl ?_))))))))))));refine tn.nil ?_;refine aE (W _ _ (ex.seq (λSA X=>(ex.region (ea (oD rfl (ea (esb rfl (show hH .xor .u64 18446744073709551615 0=18446744073709551615 from by decide) (ea (Z.call (C4 oh (s.ei E.J) (by decide)) rfl ?_))))))))));rintro _ w ⟨rfl,Y⟩;replace E:=E.ei Y;rw[esk s];refine ea (iM rfl ?_);refine tn.nil ?_;refine aE (X _ _ (ex.seq (λSO yL=>(ex.region (ea (oD rfl (ea (pG (by decide) (Z.lss rfl rfl ⟨rfl,rfl⟩) ?_))))))));refine tn.nil ?_;refine aE (yL _ _ ?_);refine ex.cond _ rfl (λl=>?_) (λl=>?_)
         .
           have D:=l
           try simp only[rs]at l
           refine ex.seq (λDD j6=>(ex.region (ea (oD rfl (ea (Z.mul rfl rfl (show IntKind.i64.wrap (0*64)=0 from by decide) (ea (oD rfl (ea (Z.add rfl rfl (show IntKind.i64.wrap (0+0)=0 from by decide) (ea (iM rfl ?_))))))))))));refine tn.nil ?_;refine aE (j6 _ _ ?_);refine ex.exit ?_;refine HR rfl ?_;refine u4 ?_;refine u4 ?_;refine yl (aE (P _ _ (ex.seq (λDU j7=>?_))));refine nV 0 12 (e5 [0,1,2,3,4,5,6,7,8,9,10,11] (oJ [12,13] .nil)) [] E λw E=>?_;refine tw rfl (λw E=>oM (v:=N p) rfl eY) (tw rfl (λw E=>sS rfl eY) (tw rfl (λw E=>o9 rfl eY) (tw rfl (λw E=>ap (v:=d.r.nq.v) rfl (E.aV (b:=p) (cs:=O.enc d.r) es (Dp d.r)) eY) (tw rfl (λw E=>oD rfl eY) (tw rfl (λw E=>Z.quo rfl rfl (by decide) (show IntKind.i64.wrap (Int.tdiv 0 64)=0 from by decide) eY) (tw rfl (λw E=>nL rfl ((E.ef (v:=d.ai.v) (xs:=d.nq) es)) rfl (by omega) eY) (tw rfl (λw E=>ap rfl (((E.ef (v:=d.ai.v) (xs:=d.nq) es).se q).ax (by rw[zh];simp only[nz.nq,List.getElem_cons_zero,a];rfl)) eY) (tw rfl (λw E=>oD rfl eY) (tw rfl (λw E=>Z.rem rfl rfl (by decide) (show Int.tmod 0 64=0 from by decide) eY) (tw rfl (λw E=>Z.shl rfl rfl (by decide) (show IntKind.u64.wrap (1*2^(min (Int.toNat 0) IntKind.u64.bits))=1 from by decide) eY) (tw rfl (λw E=>Z.or rfl rfl (show hH .or .u64 0 1=1 from by decide) eY) (hA rfl (nL rfl ((E.ef (v:=d.ai.v) (xs:=d.nq) es)) rfl (by omega) (nP rfl (pr (v:=d.ai.v) (u:=.int .u64 1) (eo:=1) (xs:=d.nq) (i:=0) (off:=0) (ds:=(⟨1⟩:t7)) E es q (yI d.ai.v 0 (O.eo t7)).symm rfl rfl (by decide) (o0 _ _) (mT (by rw[zh];rfl)) (tA es λw E=>(e3.nil (aE (j7 _ _ (ex.seq (λSN vX=>?_)))))))))))))))))))));refine nV 0 6 (e5 [0,1,2,3,4,5] (oJ [6,7] .nil)) [] E λw E=>?_;refine tw rfl (λw E=>oM (v:=N p) rfl eY) (tw rfl (λw E=>sS rfl eY) (tw rfl (λw E=>o9 rfl eY) (tw rfl (λw E=>ap (v:=d.r.sc.v) rfl (E.aV (b:=p) (cs:=O.enc d.r) es (Sc d.r)) eY) (tw rfl (λw E=>oD rfl eY) (tw rfl (λw E=>ap (v:=.agg (O.enc y)) rfl (E.nZ (b:=tZ) (cs:=O.enc y) es (O.eT y)) eY) (hA rfl (nL rfl ((E.ef (v:=d.ah.v) (xs:=d.sc) es)) rfl (by omega) (nP rfl (pr (v:=d.ah.v) (u:=.agg (O.enc y)) (eo:=O.eo Item) (xs:=d.sc) (i:=0) (off:=0) (ds:=y) E es G (yI d.ah.v 0 (O.eo Item)).symm rfl (by simp only[Value.cells];exact O.eT y) (Nat.le_of_eq (Nat.zero_add (O.eo Item))) (by simp only[Value.cells];exact O.one y) (by simp only[Value.cells];exact mT ((O.eT y).trans (O.eT d.sc[0]).symm)) (tA es λw E=>(e3.nil (aE (vX _ _ (ex.seq (λSS vJ=>(ex.region (ea (oM (v:=N p) rfl (ea (sS rfl (ea (o9 rfl (ea (ap (v:=i6 0) rfl (E.aV (b:=p) (cs:=O.enc d.r) es (by rw[<-t];exact Dg d.r)) (ea (Z.add rfl rfl (show IntKind.i64.wrap (0+1)=1 from by decide) (ea (sS rfl (ea (o9 rfl (oA (iU (b:=p) (o:=2) (v:=i6 1) (eo:=1) (cs:=O.enc d.r) (iR:=O.enc ({d.r with sp:=1}:l0)) E rfl rfl es rfl (by rw[O.eT];decide) (o0 _ _) (GD d.r 1) (tA es λw E=>?_)))))))))))))))))))))))))))))))));refine tn.nil ?_;refine aE (vJ _ _ (ex.seq (λSR vQ=>(ex.region (ea (oD rfl (ea (iM rfl (ea (iM rfl ?_))))))))));refine tn.nil ?_;refine aE (vQ _ _ ?_);refine ex.ret ?_;refine Nx ?_;refine cI (.hB rfl (.hB rfl .nil)) ?_;have hd:({d.r with sp:=1}:l0)=({d with oC:=some y}:nz).r:=by simp only[nz.r,a];rfl
           have tb:d.nq.set 0 ⟨1⟩=({d with oC:=some y}:nz).nq:=by simp only[nz.nq,a];rfl
           have OW:d.sc.set 0 y=({d with oC:=some y}:nz).sc:=rfl;rw[hd,tb,OW]at E;replace E:=(show U en (V p (O.enc ({d with oC:=some y}:nz).r) 376::B d.ah.v 143 ({d with oC:=some y}:nz).sc::B d.ai.v 23 ({d with oC:=some y}:nz).nq::S) _ from((((E.pick (e:=B d.ai.v 23 ({d with oC:=some y}:nz).nq) es).pick (e:=B d.ah.v 143 ({d with oC:=some y}:nz).sc) es).pick (e:=V p (O.enc ({d with oC:=some y}:nz).r) 376) es).sub aI));exact⟨rfl,Rv E⟩
         .
           have D:=l
           try simp only[rs]at l
           cases D
       .
         have C:=k
         try simp only[rs]at k
         cases C
theorem esI(f:pk d)(a:d.oC=some x)(j:U en (mK p d::S) w0):eJ 116 #[N p,i6 0] w0 (λu w'=>u=i6 0/\U en (mK p ({d with oC:=none}:nz)::S) w'):=by
 refine nk.enter (args:=[N p,i6 0]) func116 rfl ntmps116 results116 rfl ?_;have E:=eG w0;have H:=f.ny;have I:=OF f;have k:0<d.sc.length:=by omega
 have J:=EB f;have g:0<d.nq.length:=by omega
 replace E:=j;have l:d.r.sp=1:=by simp only[nz.r,a];rfl
 refine ex.seq (λK m=>(ex.region (ea (iM rfl ?_))));refine tn.nil ?_;refine aE (m _ _ (ex.seq (λL n=>(ex.region (ea (oM (v:=N p) rfl (ea (oD rfl (ea (Z.call (C6 f a (E.qv es)) rfl ?_))))))))));rintro _ w ⟨rfl,q⟩;replace E:=E.ei q;refine ea (iM rfl ?_);replace E:=(E.pick (e:=mK p d) es).C5;refine tn.nil ?_;refine aE (n _ _ (ex.seq (λM s=>(ex.seq (λP t=>(ex.region (ea (oD rfl (ea (pG (by decide) (Z.eql rfl rfl ⟨rfl,rfl⟩) ?_))))))))));refine tn.nil ?_;refine aE (t _ _ ?_);refine ex.cond _ rfl (λc=>?_) (λc=>?_)
 .
   have h:=c
   try simp only[rs]at c
   refine ex.seq (λQ y=>(ex.region (ea (sV E ?_))));intro z w _ E;rw[zK]at E;refine tn.nil ?_;refine aE (y _ _ (ex.seq (λR A=>?_)));refine nV 0 6 (e5 [0,1,2,3,4,5] (oJ [6,7] .nil)) [] E λw E=>?_;refine tw rfl (λw E=>oM (v:=N p) rfl eY) (tw rfl (λw E=>sS rfl eY) (tw rfl (λw E=>o9 rfl eY) (tw rfl (λw E=>ap (v:=d.r.sc.v) rfl (E.aV (b:=p) (cs:=O.enc d.r) es (Sc d.r)) eY) (tw rfl (λw E=>oD rfl eY) (tw rfl (λw E=>ap rfl (E.nZ (b:=z) (cs:=O.enc uR) es (O.eT uR)) eY) (hA rfl (nL rfl ((E.ef (v:=d.ah.v) (xs:=d.sc) es)) rfl (by omega) (nP rfl (pr (v:=d.ah.v) (u:=.agg (O.enc uR)) (eo:=O.eo Item) (xs:=d.sc) (i:=0) (off:=0) (ds:=uR) E es k (yI d.ah.v 0 (O.eo Item)).symm rfl (by simp only[Value.cells];exact O.eT uR) (Nat.le_of_eq (Nat.zero_add (O.eo Item))) (by simp only[Value.cells];exact O.one uR) (by simp only[Value.cells];exact mT ((O.eT uR).trans (O.eT d.sc[0]).symm)) (tA es λw E=>(e3.nil (aE (A _ _ (ex.seq (λT C=>?_)))))))))))))));refine nV 0 12 (e5 [0,1,2,3,4,5,6,7,8,9,10,11] (oJ [12,13] .nil)) [] E λw E=>?_;refine tw rfl (λw E=>oM (v:=N p) rfl eY) (tw rfl (λw E=>sS rfl eY) (tw rfl (λw E=>o9 rfl eY) (tw rfl (λw E=>ap (v:=d.r.nq.v) rfl (E.aV (b:=p) (cs:=O.enc d.r) es (Dp d.r)) eY) (tw rfl (λw E=>oD rfl eY) (tw rfl (λw E=>Z.quo rfl rfl (by decide) (show IntKind.i64.wrap (Int.tdiv 0 64)=0 from by decide) eY) (tw rfl (λw E=>nL rfl ((E.ef (v:=d.ai.v) (xs:=d.nq) es)) rfl (by omega) eY) (tw rfl (λw E=>ap rfl (((E.ef (v:=d.ai.v) (xs:=d.nq) es).se g).ax (by rw[zh];simp only[nz.nq,List.getElem_cons_zero,a];rfl)) eY) (tw rfl (λw E=>oD rfl eY) (tw rfl (λw E=>Z.rem rfl rfl (by decide) (show Int.tmod 0 64=0 from by decide) eY) (tw rfl (λw E=>Z.shl rfl rfl (by decide) (show IntKind.u64.wrap (1*2^(min (Int.toNat 0) IntKind.u64.bits))=1 from by decide) eY) (tw rfl (λw E=>Z.andNot rfl rfl (show hH .andNot .u64 1 1=0 from by decide) eY) (hA rfl (nL rfl ((E.ef (v:=d.ai.v) (xs:=d.nq) es)) rfl (by omega) (nP rfl (pr (v:=d.ai.v) (u:=.int .u64 0) (eo:=1) (xs:=d.nq) (i:=0) (off:=0) (ds:=(⟨0⟩:t7)) E es g (yI d.ai.v 0 (O.eo t7)).symm rfl rfl (by decide) (o0 _ _) (mT (by rw[zh];rfl)) (tA es λw E=>(e3.nil (aE (C _ _ (ex.region (ea (oM (v:=N p) rfl (ea (sS rfl (ea (o9 rfl (ea (ap (v:=i6 1) rfl (E.aV (b:=p) (cs:=O.enc d.r) es (by rw[<-l];exact Dg d.r)) (ea (Z.sub rfl rfl (show IntKind.i64.wrap (1-1)=0 from by decide) (ea (sS rfl (ea (o9 rfl (oA (iU (b:=p) (o:=2) (v:=i6 0) (eo:=1) (cs:=O.enc d.r) (iR:=O.enc ({d.r with sp:=0}:l0)) E rfl rfl es rfl (by rw[O.eT];decide) (o0 _ _) (GD d.r 0) (tA es λw E=>?_)))))))))))))))))))))))))))))))))))));refine tn.nil ?_;refine aE (s _ _ (ex.seq (λW D=>(ex.region (ea (oD rfl (ea (iM rfl ?_))))))));refine tn.nil ?_;refine aE (D _ _ ?_);refine ex.ret ?_;refine cI (.hB rfl .nil) ?_;have hd:({d.r with sp:=0}:l0)=({d with oC:=none}:nz).r:=by simp only[nz.r,a];rfl
   have F:d.nq.set 0 ⟨0⟩=({d with oC:=none}:nz).nq:=by simp only[nz.nq,a];rfl
   have G:d.sc.set 0 uR=({d with oC:=none}:nz).sc:=rfl;rw[hd,F,G]at E;replace E:=(show U en (V p (O.enc ({d with oC:=none}:nz).r) 376::B d.ah.v 143 ({d with oC:=none}:nz).sc::B d.ai.v 23 ({d with oC:=none}:nz).nq::S) _ from((((E.pick (e:=B d.ai.v 23 ({d with oC:=none}:nz).nq) es).pick (e:=B d.ah.v 143 ({d with oC:=none}:nz).sc) es).pick (e:=V p (O.enc ({d with oC:=none}:nz).r) 376) es).sub aI));exact⟨rfl,Rv E⟩
 .
   have h:=c
   try simp only[rs]at c
   cases h
end
end Go.Fer
