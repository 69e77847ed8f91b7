import Derived.Test.YtncdhadaifhleaaGreatDoorF9
import Derived.Test.YtncdhadaifhleaaGreatDoorF11
set_option linter.all false
set_option synthInstance.maxSize 100000
set_option synthInstance.maxHeartbeats 400000
set_option maxHeartbeats 8000000
set_option maxRecDepth 100000
namespace Go.Fer
open Go Go.RowKit
section
open Go.Proofs Tryz
variable{S:List eL}{b n sq aP p q r aR a2:Nat}{i oC j:Option Item}{is:List Instr}{hb hv:Int}{ou:aX}{eQ:Bool}{v0 ab ah ai:eu}{w w0 en:World}{x y:Item}{xs:List UInt8}
@[irreducible] def oO (p:Nat) (ah ai:eu) (n:Nat) (oC:Option Item):eL:=hD [no (pk ⟨ah,ai,n,none⟩),mK p ⟨ah,ai,n,oC⟩]
theorem pk.any(h:pk ⟨ah,ai,n,i⟩):pk ⟨ah,ai,n,j⟩:=⟨h.ny,h.sd,h.ah⟩
theorem U.xW(h:U w0 (oO p ah ai n oC::S) w):pk ⟨ah,ai,n,oC⟩/\U w0 (mK p ⟨ah,ai,n,oC⟩::S) w:=by
 unfold oO at h;have h:=h.dr;have G:=h.get (e:=no (pk ⟨ah,ai,n,none⟩)) .em;rw[mf]at G;exact⟨G.any,h.sub (List.sublist_cons_self _ _)⟩
theorem U.Rj(e1:pk ⟨ah,ai,n,oC⟩)(h:U w0 (mK p ⟨ah,ai,n,oC⟩::S) w):U w0 (oO p ah ai n oC::S) w:=by
 unfold oO;exact U.closed (l:=[no (pk ⟨ah,ai,n,none⟩),mK p ⟨ah,ai,n,oC⟩]) (h.pure e1.any)
theorem Rq(a:U en S w0)(b:tX (oO p ah ai n (some x)) S):tN 111 #[N p,i6 0] w0 (.tuple #[.agg (O.enc x),i6 0]):=by
 obtain⟨e1,h⟩:=(a.mem b).xW;exact esT e1 rfl (h.qv .em)
theorem esN(a:U en S w0)(b:tX (oO p ah ai n (some x)) S):tN 204 #[N p] w0 (i6 1):=by
 obtain⟨e1,h⟩:=(a.mem b).xW;exact Y2 (h.qv .em)
theorem esS(a:U en S w0)(b:tX (oO p ah ai n none) S):tN 204 #[N p] w0 (i6 0):=by
 obtain⟨e1,h⟩:=(a.mem b).xW;exact Y2 (h.qv .em)
theorem Y3(a:U en (oO p ah ai n (some x)::S) w0):eJ 188 #[N p,i6 0,.agg (O.enc y)] w0 (λu w'=>u=i6 0/\U en (oO p ah ai n (some y)::S) w'):=by
 obtain⟨e1,h⟩:=a.xW;exact(esA e1 rfl h).mono λu w' h=>⟨h.1,h.2.Rj e1.any⟩
theorem esR(oh:Nat->Nat)(a:Tab en oh)(b:U en (oO p ah ai n none::S) w0):eJ 122 #[N p,.agg (O.enc y)] w0 (λu w'=>u= .tuple #[i6 0,i6 0]/\U en (oO p ah ai n (some y)::S) w'):=by
 obtain⟨e1,h⟩:=b.xW;exact(esO oh a e1 rfl h).mono λu w' h=>⟨h.1,h.2.Rj e1.any⟩
theorem esH(a:U en (oO p ah ai n (some x)::S) w0):eJ 116 #[N p,i6 0] w0 (λu w'=>u=i6 0/\U en (oO p ah ai n none::S) w'):=by
 obtain⟨e1,h⟩:=a.xW;exact(esI e1 rfl h).mono λu w' h=>⟨h.1,h.2.Rj e1.any⟩
theorem b1(a:ar w0 (N b) #[N p,N q]):tN 105 #[N b] w0 (.bool true):=by
 have:=iu a;refine eH 22 (eG _) func105 ntmps105 results105 rfl λw E=>?_;exact⟨rfl,E.J⟩
theorem esL:tN 125 #[.agg (O.enc x)] w0 (.agg #[eb x.r.priority,eb x.number]):=by
 refine eH 13 (eG _) func125 ntmps125 results125 rfl λiZ aa w E=>?_;refine ag 0 E (ud (#[eb x.r.priority,eb x.number])) λw E=>?_;exact oA (iU (v:=.agg #[eb x.r.priority,eb x.number]) (iR:=#[eb x.r.priority,eb x.number]) E rfl rfl .em rfl (Nat.le_of_ble_eq_true rfl) (h3 rfl) rfl (tA .em λw E=>(ew 4 E λw E=>(⟨rfl,E.J⟩))))
theorem Y4(a:ar w0 (N b) #[N p,N q])(c:U en S w0)(d:tX (oO p ah ai n (some x)) S):tN 112 #[N b,i6 0] w0 (.tuple #[.agg (O.enc x),i6 0]):=by
 refine eH 10 (eG _) func112 ntmps112 results112 rfl λaF w E=>?_;have:=iu a;refine ej 14 E (b1 (a.ei E.J)) λw E=>?_;refine ej 8 E (Rq (c.ei E.J) d) λw E=>?_;exact⟨rfl,E.J⟩
theorem C7{y:nD}(f:ar w0 (N b) #[N p,N q])(a:U en S w0)(g:tX (oO p ah ai n (some x)) S)(e:tX (az x.r is xs y) S):eJ 45 #[N b,i6 0] w0 (λu w'=>∃(eE:aX)(te:(List Instr)),u= .tuple #[.agg (O.enc (⟨x.number,eE,x.place,x.AB⟩:Item)),i6 0]/\U w0 [az eE te xs y] w'):=by
 have:=dU a e;refine eH 10 (eG _) func45 ntmps45 results45 rfl λaF w E=>?_;refine ej 12 E (Y4 (f.ei E.J) (a.ei E.J) g) λh w E=>?_;refine ej 14 E (YX (a.ei E.J) e) λc d w E=>?_;exact⟨c,d,rfl,(tF [1,2] E)⟩
theorem Y5(a:ar w0 (N b) #[N p,N q])(c:U en S w0)(d:tX (oO p ah ai n (some x)) S):tN 135 #[N b] w0 (i6 1):=by
 refine eH 9 (eG _) func135 ntmps135 results135 rfl λw E=>?_;have:=iu a;refine ej 13 E (b1 (a.ei E.J)) λw E=>?_;refine ej 5 E (esN (c.ei E.J) d) λw E=>?_;exact⟨rfl,E.J⟩
theorem Y6(a:ar w0 (N b) #[N p,N q])(c:U en S w0)(d:tX (oO p ah ai n none) S):tN 135 #[N b] w0 (i6 0):=by
 refine eH 9 (eG _) func135 ntmps135 results135 rfl λw E=>?_;have:=iu a;refine ej 13 E (b1 (a.ei E.J)) λw E=>?_;refine ej 5 E (esS (c.ei E.J) d) λw E=>?_;exact⟨rfl,E.J⟩
theorem esU(a:U en (V b #[N p,N q] 259::oO p ah ai n (some (⟨aP,ou,0,eQ⟩:Item))::mV q aR a2 r sq v0 ab hv hb::S) w0):eJ 115 #[N b,i6 0,.int .u8 1] w0 (λu w'=>u= .tuple #[]/\U en (oO p ah ai n (some (⟨aP,ou,1,eQ⟩:Item))::h0 q aR a2 r sq v0 ab::V b #[N p,N q] 259::S) w'):=by
 refine eH 8 a func115 ntmps115 results115 rfl λw E=>?_;refine ej 13 E (Rq E .G) λc=>?_;refine eP true 10 λw E=>?_;refine ej 13 E (esy (E.pick .ez)) ?_;refine eP false 5 ?_;refine ow 7 7 (e5 [0,1,2,3,4,5,6] (.one 7 .nil)) [] λw E=>?_;refine fh 2 E (Y3 (E.pick .e6)) λw E=>?_;exact⟨rfl,(tF [2,3] E)⟩
theorem esM(a:U en (V b #[N p,N q] 259::oO p ah ai n (some (⟨aP,ou,1,eQ⟩:Item))::S) w0):eJ 115 #[N b,i6 0,.int .u8 1] w0 (λu w'=>u= .tuple #[]/\U en (oO p ah ai n (some (⟨aP,ou,1,eQ⟩:Item))::V b #[N p,N q] 259::S) w'):=by
 refine eH 8 a func115 ntmps115 results115 rfl λw E=>?_;refine ej 13 E (Rq E .G) λc=>?_;refine eP false 16 ?_;refine eP false 5 ?_;refine ow 7 7 (e5 [0,1,2,3,4,5,6] (.one 7 .nil)) [] λw E=>?_;refine fh 2 E (Y3 (E.pick .Y)) λw E=>?_;exact⟨rfl,(tF [1] E)⟩
theorem esF(a:U en (V b #[N p,N q] 259::oO p ah ai n (some (⟨aP,ou,0,eQ⟩:Item))::mV q aR a2 r sq v0 ab hv hb::S) w0):eJ 262 #[N b] w0 (λu w'=>u= .tuple #[i6 0,.bool true]/\U en (oO p ah ai n (some (⟨aP,ou,1,eQ⟩:Item))::h0 q aR a2 r sq v0 ab::V b #[N p,N q] 259::S) w'):=by
 refine eH 10 a func262 ntmps262 results262 rfl λw E=>?_;refine ej 14 E (b1 (E.tU .em)) λw E=>?_;refine ej 17 E (esc E .Y) λw E=>?_;refine ej 12 E (esU (Pi [2,2,2] E)) λw E=>?_;exact⟨rfl,E⟩
theorem Y7(a:ar w0 (N b) #[N p,N q])(c:U en S w0)(d:tX (h0 q aR a2 r sq v0 ab) S):tN 262 #[N b] w0 (.tuple #[i6 0,.bool false]):=by
 have:=dU c d;refine eH 10 (eG _) func262 ntmps262 results262 rfl λw E=>?_;have:=iu a;refine ej 14 E (b1 (a.ei E.J)) λw E=>?_;refine ej 26 E (esm (c.ei E.J) d) λw E=>?_;exact⟨rfl,E.J⟩
theorem Y8(a:U en (V b #[N p,N q] 259::oO p ah ai n (some (⟨aP,ou,1,eQ⟩:Item))::S) w0):eJ 47 #[N b,i6 0] w0 (λu w'=>u=i6 0/\U en (oO p ah ai n none::V b #[N p,N q] 259::S) w'):=by
 refine eH 10 a func47 ntmps47 results47 rfl λw E=>?_;refine ej 11 E (Y4 (E.tU .em) E .G) λc=>?_;refine eP false 9 λw E=>?_;refine ej 10 E (esM (Pi [2,2] E)) λw E=>?_;refine ej 5 E (esH (E.pick .em)) λw E=>?_;exact⟨rfl,(tF [2] E)⟩
theorem esP{y:nD}(oh:Nat->Nat)(g:Tab en oh)(h:U en (V b #[N p,N q] 259::oO p ah ai n none::cQ q aR a2 r::az ou is xs y::S) w0):eJ 51 #[N b,eb aP,.agg (O.enc ou)] w0 (λu w'=>∃(eE:aX)(te:(List Instr))(tO:Nat)(af:eu)(aT:eu),u= .tuple #[i6 0,eF,i6 0]/\U en (mV q aR a2 r tO af aT (eE.priority:Int) (aP:Int)::oO p ah ai n (some (⟨aP,eE,0,false⟩:Item))::az eE te xs y::V b #[N p,N q] 259::az ou is xs y::S) w'):=by
 refine eH 12 h func51 ntmps51 results51 rfl λj w E=>?_;refine ej 10 E (b1 (E.tU .G)) λw E=>?_;refine ej 0 E (YX E .e6) λa c w E=>?_;refine ea (rV (r:=(⟨aP,a,0,false⟩:Item)) (ps:=Item.parts (⟨aP,a,0,false⟩:Item)) (Df _) (by first|rfl|(simp only[Df,Item.parts,p4,aX.parts,dm,oF.parts,cy,oe.parts,cW,rr.parts,bS,sD.parts,sM,nn];rfl)) (by exact lE ⟨by decide,rfl,by decide,O.eT a,trivial⟩) (ea (sV E ?_)));intro r2 w _ E;rw[zK]at E;refine oA (iV (r:=(⟨aP,a,0,false⟩:Item)) E rfl rfl .em (O.eT _) (tA .em λw E=>(ew 4 E ?_)));refine ow 0 12 (e5 [0,1,2,3,4,5] (.one 6 (e5 [7,8,9,10,11] .nil))) [4] λw E=>?_;refine tw rfl (λw E=>oM (v:=N b) rfl eY) (tw rfl (λw E=>sS rfl eY) (tw rfl (λw E=>o9 rfl eY) (tw rfl (λw E=>o9 rfl eY) (tw rfl (λw E=>ap (v:=N p) rfl (E.aV .ez rfl) eY) (tw rfl (λw E=>ap (v:=.agg (O.enc (⟨aP,a,0,false⟩:Item))) rfl (E.nZ .em (O.eT (⟨aP,a,0,false⟩:Item))) eY) (ol rfl (Z.call (esR _ g (E.pick .e6)) rfl ?_)))))));rintro _ w ⟨rfl,E⟩;refine⟨tF [0] E,?_⟩;refine tw rfl (λw E=>oM (v:=.tuple #[i6 0,i6 0]) rfl eY) (tw rfl (λw E=>Z.extract rfl rfl eY) (tw rfl (λw E=>Z.extract rfl rfl eY) (tw rfl (λw E=>iM rfl eY) (tw rfl (λw E=>iM rfl eY) (ao 4 E λw E=>?_)))));refine ea (oD rfl ?_);refine ea (gS rfl (Z.eql rfl rfl ⟨rfl,rfl⟩) ?_);refine ew 6 E ?_;refine ow 0 8 (e5 [0,1,2,3,4,5,7] (oJ [6,8] .nil)) [] λw E=>?_;refine tw rfl (λw E=>oM (v:=N b) rfl eY) (tw rfl (λw E=>sS rfl eY) (tw rfl (λw E=>o9 rfl eY) (tw rfl (λw E=>o9 rfl eY) (tw rfl (λw E=>ap (v:=N q) rfl (E.aV .e6 rfl) eY) (tw rfl (λw E=>ap (v:=.agg (O.enc (⟨aP,a,0,false⟩:Item))) rfl (E.nZ .G (O.eT (⟨aP,a,0,false⟩:Item))) eY) (tw rfl (λw E=>oD rfl eY) (ol rfl (Z.call (esL) rfl ?_))))))));rintro _ w ⟨rfl,i⟩;replace E:=E.ei i;refine⟨E,?_⟩;refine hA rfl (Z.call (esh (E.pick .ac)) rfl ?_);rintro _ w ⟨d,e,f,rfl,E⟩;refine ao 4 E λw E=>?_;exact ea (oD rfl (ea (oM (v:=eF) rfl (ea (oD rfl (ea (iM rfl (ea (wy (v:=eF) rfl (ea (iM rfl (ew 4 E λw E=>(⟨a,c,d,e,f,rfl,(tF [2,4] E)⟩)))))))))))))
variable{hs lh x:Value}{s:eu}
theorem esV(a:ar w0 (N b) #[s.v])(c:ev w0 s.v ([]:List il)):tN 241 #[x,N b] w0 (.tuple #[]):=by
 have:=iu a;have:=aS c;refine eH 8 (eG _) func241 ntmps241 results241 rfl λw E=>?_;refine oU 40 (og.step ?_);refine eI 2 E ?_;refine eP false 9 λw E=>?_;exact⟨rfl,E.J⟩
theorem Y9:eJ 176 #[s.v] w0 (λu w'=>∃(eE:Nat),u= .func (.func 241) #[] #[N eE]/\U w0 [V eE #[s.v] 356] w'):=by
 refine eH 14 (eG _) func176 ntmps176 results176 rfl λiZ w E=>?_;exact⟨iZ,rfl,E⟩
theorem esK(c:ar w0 (N b) #[s.v])(d:ev w0 s.v ([]:List il)):tN 306 #[eF,.func (.func 241) #[] #[N b]] w0 eF:=by
 refine jH (args:=[eF,.func (.func 241) #[] #[N b]]) func306 rfl ntmps306 rfl ?_;have E:=eG w0;replace E:=E.jS;refine oz.seq (λi e=>?_);refine oz.of λD a=>?_;refine eI 4 E λaa w E=>?_;refine rH (e _ _ _ ?_);refine oz.seq (λj f=>?_);refine oz.seq (λk g=>?_);refine oz.of λD a=>?_;refine eI 3 E λw E=>?_;refine rH (g _ _ _ ?_);replace E:=E.pick .G;refine Gi (oS:=[N b]) rfl rfl E (λl m w E=>(esV (c.ei E.J) (d.ei E.J)).mono λ_ _ h=>h.2) (λn w E=>?_);refine rH (f _ _ _ ?_);refine oz.of λD a=>?_;refine eI 7 E λw E=>?_;refine jR results306 E (λw E=>?_);refine⟨_,(.yi (v:=eF) rfl .nil),?_⟩;exact⟨rfl,E.J⟩
theorem esX(a:ar w0 (N b) #[s.v])(c:ev w0 s.v ([]:List il)):tN 239 #[.func (.func 241) #[] #[N b]] w0 eF:=by
 refine eH 8 (eG _) func239 ntmps239 results239 rfl λw E=>?_;refine ej 5 E (esK (a.ei E.J) (c.ei E.J)) λw E=>?_;exact⟨rfl,E.J⟩
theorem esJ:eJ 258 #[.int .u64 0] w0 (λu w'=>u=i6 0/\eB w0 w'):=CR (by decide)
theorem esQ:eJ 258 #[.int .u64 1] w0 (λu w'=>u=i6 1/\eB w0 w'):=CR (by decide)
theorem Be:tN 190 #[.int .u64 0] w0 (i6 0):=by
 refine eH 12 (eG _) func190 ntmps190 results190 rfl λw E=>?_;refine ej 5 E (esJ) λw E=>?_;exact⟨rfl,E.J⟩
theorem esZ:tN 190 #[.int .u64 1] w0 (i6 1):=by
 refine eH 12 (eG _) func190 ntmps190 results190 rfl λw E=>?_;refine ej 5 E (esQ) λw E=>?_;exact⟨rfl,E.J⟩
theorem es0:tN 352 #[eF,i6 0,i6 0,hs] w0 (.tuple #[]):=by
 refine eH 8 (eG _) func352 ntmps352 results352 rfl λw E=>?_;refine oU 40 (og.step ?_);refine eI 5 E ?_;refine eP false 8 λw E=>?_;exact⟨rfl,E.J⟩
theorem es1:tN 307 #[eF,i6 0,i6 0,lh,hs] w0 (.tuple #[]):=by
 refine eH 11 (eG _) func307 ntmps307 results307 rfl λw E=>?_;refine oU 40 (og.step ?_);refine eI 13 E ?_;refine eP true 9 λw E=>?_;refine ej 8 E (es0) λw E=>?_;exact⟨rfl,E.J⟩
theorem es2:tN 240 #[eF,hs] w0 (.tuple #[]):=by
 refine eH 12 (eG _) func240 ntmps240 results240 rfl λw E=>?_;refine ej 1 E (Be) λw E=>?_;refine ej 2 E (es1) λw E=>?_;exact⟨rfl,E.J⟩
theorem Bt(a:ar w0 (N b) #[s.v])(c:ev w0 s.v ([]:List il)):tN 175 #[.func (.func 241) #[] #[N b],hs] w0 eF:=by
 refine eH 8 (eG _) func175 ntmps175 results175 rfl λw E=>?_;refine ej 7 E (esX (a.ei E.J) (c.ei E.J)) λw E=>?_;refine ej 10 E (es2) λw E=>?_;exact⟨rfl,E.J⟩
theorem es3(b:U en S w0)(c:tX (cQ p aR a2 r) S):eJ 106 #[N p] w0 (λu w'=>∃(eE:Nat),u=e4 eE 0 0/\U w0 [B (e4 eE 0 0) 3 ([]:List eU)] w'):=by
 obtain⟨a,d,g,h⟩:=en8 b c;refine eH 9 (eG _) func106 ntmps106 results106 rfl λw E=>?_;have:=iu a;have:=iu d;refine ej 16 E (EY (a.ei E.J)) λw E=>?_;refine ej 0 E (Y9 (s:=ec)) λe w E=>?_;refine ej 7 E (Bt (E.tU .em) (ev.nil _)) λw E=>?_;refine ea (lj (α:=eU) (n:=0) ⟨0⟩ (by rfl) E rfl rfl (by first|decide|omega) (by first|decide|(simp only[maxLen];omega)) ?_);intro f w _ E;refine ew 12 E λw E=>?_;refine oU 40 (og.step ?_);refine eI 2 E ?_;refine eP false 17 λw E=>?_;exact⟨f,rfl,(tF [1] E)⟩
theorem es5(b:U en S w0)(c:tX (h0 p aR a2 r n v0 ab) S):eJ 106 #[N p] w0 (λu w'=>∃(eE:Nat),u=e4 eE 0 0/\U w0 [B (e4 eE 0 0) 3 ([]:List eU)] w'):=by
 obtain⟨a,d,h,e,i,j⟩:=YZ b c;refine eH 9 (eG _) func106 ntmps106 results106 rfl λw E=>?_;have:=iu a;have:=iu d;refine ej 16 E (EY (a.ei E.J)) λw E=>?_;refine ej 0 E (Y9) λf w E=>?_;refine ej 7 E (Bt (E.tU .em) (sf (ys:=([]:List il)) (e.ei E.J) (by simp) (by simp) (by simp) (by exact Nat.le_refl _) (by simp))) λw E=>?_;refine ea (lj (α:=eU) (n:=0) ⟨0⟩ (by rfl) E rfl rfl (by first|decide|omega) (by first|decide|(simp only[maxLen];omega)) ?_);intro g w _ E;refine ew 12 E λw E=>?_;refine oU 40 (og.step ?_);refine eI 2 E ?_;refine eP false 17 λw E=>?_;exact⟨g,rfl,(tF [1] E)⟩
theorem Ba(a:ar w0 (N b) #[N p,N q])(c:U en S w0)(d:tX (cQ q aR a2 r) S):eJ 43 #[N b] w0 (λu w'=>∃(eE:Nat),u=e4 eE 0 0/\U w0 [B (e4 eE 0 0) 3 ([]:List eU)] w'):=by
 have:=dU c d;refine eH 9 (eG _) func43 ntmps43 results43 rfl λw E=>?_;have:=iu a;refine ej 13 E (b1 (a.ei E.J)) λw E=>?_;refine ej 5 E (es3 (c.ei E.J) d) λe w E=>?_;exact⟨e,rfl,E⟩
theorem Bo(a:ar w0 (N b) #[N p,N q])(c:U en S w0)(d:tX (h0 q aR a2 r sq v0 ab) S):eJ 43 #[N b] w0 (λu w'=>∃(eE:Nat),u=e4 eE 0 0/\U w0 [B (e4 eE 0 0) 3 ([]:List eU)] w'):=by
 have:=dU c d;refine eH 9 (eG _) func43 ntmps43 results43 rfl λw E=>?_;have:=iu a;refine ej 13 E (b1 (a.ei E.J)) λw E=>?_;refine ej 5 E (es5 (c.ei E.J) d) λe w E=>?_;exact⟨e,rfl,E⟩
variable{us:List t7}{v:Value}{x:Item}{xs:List eU}
theorem Bi(a:ev w0 v xs):tN 107 #[v] w0 (nT v 0 xs.length xs.length (O.eo (eU))):=by
 have:=aS a;refine eH 12 (eG _) func107 ntmps107 results107 rfl λw E=>?_;exact ea (hq (a.ei E.J) ⟨⟨_,rfl⟩,a.cap⟩ ⟨⟨_,rfl⟩,Nat.le_refl _⟩ ⟨rfl,Nat.zero_le _⟩ (ew 5 E λw E=>(⟨rfl,E.J⟩)))
theorem es6(oh:Nat->Nat)(a:Tab w0 oh):tN 180 #[.int .u64 1] w0 (i6 0):=by
 have h:=C4 (w0:=w0) oh a (x:=1) (by decide);rwa[esx a]at h
def es7(k:Nat):List eU:=if k=0 then[]else[⟨0⟩]
theorem EK{v:eu}(a:ev w0 v.v xs):eJ 107 #[v.v] w0 (λu w'=>u=(v.cut 0 xs.length xs.length (O.eo eU)).v/\eB w0 w'):=Bi a
theorem es8:∀k(h:k<(nz.nq ⟨ah,ai,n,none⟩).length),((nz.nq ⟨ah,ai,n,none⟩)[k]).n=0:=by
 intro k h;cases k with
 |zero=>rfl
 |succ k=>unfold nz.nq;simp
theorem Bn:0<(nz.nq ⟨ah,ai,n,some x⟩).length/\∀k(h:k<(nz.nq ⟨ah,ai,n,some x⟩).length),((nz.nq ⟨ah,ai,n,some x⟩)[k]).n=if k=0 then 1 else 0:=by
 refine⟨by unfold nz.nq;simp,λk h=>?_⟩;cases k with
 |zero=>rfl
 |succ k=>unfold nz.nq;simp
theorem es9(c:ar w0 (N p) (O.enc (⟨ah,ai,0⟩:l0)))(d:ev w0 ai.v us)(m:us.length<=100000)(e:∀k(h:k<us.length),us[k].n=0):eJ 109 #[N p] w0 (λu w'=>∃(eE:Nat),u=e4 eE 0 0/\U w0 [B (e4 eE 0 0) 3 ([]:List eU)] w'):=by
 have:=iu c;refine eH 21 (eG _) func109 ntmps109 results109 rfl λw E=>?_;refine ea (lj (α:=eU) (n:=0) ⟨0⟩ (by rfl) E rfl rfl (by first|decide|omega) (by first|decide|(simp only[maxLen];omega)) ?_);intro a w _ E;have:=aS d;refine ew 15 E λw E=>?_;refine ex.loop (λq f w=>∃k:Nat,oW [(3,e4 a 0 0),(16,ai.v),(17,i6 us.length),(18,i6 k)] f/\U w0 [B (e4 a 0 0) 3 ([]:List eU)] w/\k<=us.length/\q=us.length-k) (us.length) ?_ ?_
 .
   exact⟨0,⟨rfl,rfl,rfl,sF,trivial⟩,E,Nat.zero_le _,rfl⟩
 .
   rintro q f w ⟨k,b,E,o,th⟩;refine io _ b (λg=>?_);clear b;refine eI 6 E<|om 0 13 (λi w E=>?_) (λi w E=>?_)
   .
     have j:k<us.length:=by omega
     have r:=e k j;refine eI 8 E ⟨⟨ay⟩,λ_=>rL 6 λw E=>?_⟩;refine oU 40 (og.step ?_);refine eI 7 E<|om 0 11 (λl w E=>?_) (λl=>⟨iA,λw E=>?_⟩)
     .
       omega
     .
       exact⟨us.length-(k+1),by omega,k+1,⟨rfl,rfl,rfl,sF,trivial⟩,E,by omega,rfl⟩
   .
     exact⟨a,rfl,E⟩
theorem ere(oh:Nat->Nat)(e:ar w0 (N p) (O.enc (⟨ah,ai,1⟩:l0)))(i:ev w0 ai.v us)(C:us.length<=100000)(l:∀k(h:k<us.length),us[k].n=if k=0 then 1 else 0)(D:0<us.length)(m:Tab w0 oh):eJ 109 #[N p] w0 (λu w'=>∃(eE:eu),u=eE.v/\U w0 [B eE.v 3 ([⟨0⟩]:List eU)] w'):=by
 have:=iu e;refine eH 21 (eG _) func109 ntmps109 results109 rfl λw E=>?_;refine ea (Q1 (α:=eU) (c:=1) ⟨0⟩ (by rfl) E rfl rfl (by first|decide|omega) (by first|decide|(simp only[maxLen];omega)) ?_);intro o w _ E;have:=aS i;refine ew 15 E λw E=>?_;refine ex.loop (λq f w=>∃(k:Nat)(s:eu),oW [(3,s.v),(16,ai.v),(17,i6 us.length),(18,i6 k)] f/\U w0 [B s.v 3 (es7 k)] w/\k<=us.length/\q=us.length-k) (us.length) ?_ ?_
 .
   exact⟨0,⟨some ⟨o,0,none⟩,0,1⟩,⟨sF,rfl,rfl,sF,trivial⟩,E,Nat.zero_le _,rfl⟩
 .
   rintro q f w ⟨k,s,d,E,F,th⟩;refine io _ d (λg=>?_);clear d;refine eI 6 E<|om 0 0 (λr w E=>?_) (λr w E=>?_)
   .
     have t:k<us.length:=by omega
     have a:=l k t;refine eI 8 E ⟨⟨ay⟩,λ_=>rL 6 λw E=>?_⟩;refine oU 40 (og.step ?_);refine eI 7 E<|om 0 0 (λx w E=>?_) (λx w E=>?_)
     .
       obtain rfl:k=0:=by
        rcases Nat.eq_zero_or_pos k with h|h
        .exact h
        rw[if_neg (by omega)]at a;omega
       have y:us[0].n=1:=a;rw[y];replace E:U w0 [B s.v 3 ([]:List eU)] w:=E;refine eI 9 E λw E=>?_;refine ej 1 E (es6 _ (m.ei E.J)) λw E=>?_;refine ho 0 E (sL ([⟨0⟩]:List eU)) λz w E=>?_;refine ea (pQ (α:=eU) (zs:=([⟨0⟩]:List eU)) rfl E rfl .G (E.ef .em) rfl ay (by simp[maxLen];try omega) ?_);intro b w E;replace E:=E _ .G;refine ew 8 E λw E=>?_;refine ag 8 E (p2 (show hH .and .u64 1 0=0 from by decide)) ?_;refine eP false 3 λw E=>?_
       try have A:0<k:=(by rcases Nat.eq_zero_or_pos k with h|h;(subst h;rw[if_pos rfl]at a;omega);exact h)
       refine eI 11 E λw E=>?_;exact⟨us.length-1,by omega,1,b,⟨sF,rfl,rfl,sF,trivial⟩,tF [0] E,by omega,rfl⟩
     .
       try have A:0<k:=(by rcases Nat.eq_zero_or_pos k with h|h;(subst h;rw[if_pos rfl]at a;omega);exact h)
       refine eI 11 E ⟨iA,λw E=>?_⟩
       (obtain⟨j,rfl⟩:∃j,k=j+1:=⟨k-1,by omega⟩;exact⟨us.length-(j+1+1),by omega,j+1+1,s,⟨sF,rfl,rfl,sF,trivial⟩,E,by omega,rfl⟩)
   .
     obtain⟨j,rfl⟩:∃j,k=j+1:=⟨k-1,by omega⟩;refine eI 13 E λw E=>?_;exact⟨s,rfl,E⟩
variable{c:Nat}
theorem el9(a:U en S w0)(c:tX (oO p ah ai n none) S):eJ 109 #[N p] w0 (λu w'=>∃b:Nat,u=e4 b 0 0/\U w0 [B (e4 b 0 0) 3 ([]:List eU)] w'):=by
 obtain⟨e1,h⟩:=(a.mem c).xW;have ep:=h.qv .em;exact es9 ep.tU ep.us (by rw[EB e1];have:=e1.sd;simp only at this⊢;omega) (es8)
theorem ede(oh:Nat->Nat)(a:Tab w0 oh)(b:U en S w0)(c:tX (oO p ah ai n (some x)) S):eJ 109 #[N p] w0 (λu w'=>∃s:eu,u=s.v/\U w0 [B s.v 3 ([⟨0⟩]:List eU)] w'):=by
 obtain⟨e1,h⟩:=(b.mem c).xW;have ep:=h.qv .em;exact ere oh ep.tU ep.us (by rw[EB e1];have:=e1.sd;simp only at this⊢;omega) (Bn).2 (Bn).1 a
theorem edt(a:ar w0 (N c) #[N b])(d:ar w0 (N b) #[N p,N q])(e:U en S w0)(f:tX (oO p ah ai n (some (⟨aP,ou,1,eQ⟩:Item))) S):tN 110 #[i6 0,N c] w0 (.bool true):=by
 have:=iu a;have:=iu d;refine eH 13 (eG _) func110 ntmps110 results110 rfl λw E=>?_;refine ej 12 E (Rq (e.ei E.J) f) λaF=>?_;refine eP true 5 λw E=>?_;exact⟨rfl,E.J⟩
theorem eda(a:ev w0 s.v ([⟨0⟩]:List eU))(d:ar w0 (N c) #[N b])(e:ar w0 (N b) #[N p,N q])(f:U en S w0)(g:tX (oO p ah ai n (some (⟨aP,ou,1,eQ⟩:Item))) S):tN 179 #[s.v,.func (.func 110) #[] #[N c]] w0 (i6 0):=by
 have:=aS a;refine eH 14 (eG _) func179 ntmps179 results179 rfl λw E=>?_;refine oU 40 (og.step ?_);refine eI 2 E ?_;refine eP true 21 λw E=>?_;refine ej 16 E (edt (d.ei E.J) (e.ei E.J) (f.ei E.J) g) λw E=>?_;exact⟨rfl,E.J⟩
theorem edo(a:ev w0 (e4 b 0 0) ([]:List eU)):tN 179 #[e4 b 0 0,hs] w0 (i6 (-1)):=by
 have:=aS a;refine eH 14 (eG _) func179 ntmps179 results179 rfl λw E=>?_;refine oU 40 (og.step ?_);refine eI 2 E ?_;refine eP false 16 λw E=>?_;exact⟨rfl,E.J⟩
theorem edi(a:ev w0 (e4 b 0 0) ([]:List eU)):tN 108 #[e4 b 0 0,hs] w0 (e4 b 0 0):=by
 refine eH 9 (eG _) func108 ntmps108 results108 rfl λw E=>?_;refine ej 7 E (edo (a.ei E.J)) ?_;refine eP true 12 λw E=>?_;exact⟨rfl,E.J⟩
theorem edn(a:U en (B s.v 3 ([⟨0⟩]:List eU)::V c #[N b] 129::V b #[N p,N q] 259::oO p ah ai n (some (⟨aP,ou,1,eQ⟩:Item))::S) w0):eJ 108 #[s.v,.func (.func 110) #[] #[N c]] w0 (λu w'=>u=(s.cut 0 0 s.c (O.eo eU)).v/\U en (B s.v 3 ([⟨0⟩]:List eU)::V c #[N b] 129::V b #[N p,N q] 259::oO p ah ai n (some (⟨aP,ou,1,eQ⟩:Item))::S) w'):=by
 refine eH 9 a func108 ntmps108 results108 rfl λw E=>?_;refine ej 7 E (eda (E.ef .em) (E.tU .G) (E.tU .Y) E .ez) ?_;refine eP false 14 λw E=>?_;refine oU 40 (og.step ?_);refine eI 6 E ?_;refine eP false 12 λw E=>?_;refine ea (P3 (α:=eU) (v:=s) (xs:=([⟨0⟩]:List eU)) (l:=0) rfl (E.ef .em) rfl ay (oA (Gs (α:=eU) (v:=s) (zs:=([⟨0⟩]:List eU)) ⟨0⟩ rfl rfl rfl E .em rfl rfl (tA .em λw E=>(ew 6 E λw E=>?_)))));refine ea (zv (α:=eU) (v:=s) (xs:=([⟨0⟩]:List eU)) (h':=0) rfl (E.ef .em) rfl ay ?_);refine ew 5 E λw E=>?_;exact⟨rfl,E⟩
theorem O2(a:ar w0 (N b) #[N p,N q])(d:U en S w0)(e:tX (oO p ah ai n none) S):eJ 44 #[N b] w0 (λu w'=>∃(eE:Nat),u=((ts eE 0 0).cut 0 0 0 (O.eo eU)).v/\U w0 [B (e4 eE 0 0) 3 ([]:List eU)] w'):=by
 refine eH 10 (eG _) func44 ntmps44 results44 rfl λiZ w E=>?_;have:=iu a;refine ej 13 E (b1 (a.ei E.J)) λw E=>?_;refine ej 1 E (el9 (d.ei E.J) e) λc w E=>?_;refine ej 0 E (edi (E.ef .em)) λw E=>?_;refine ej 5 E (EK (v:=(ts c 0 0)) (xs:=([]:List eU)) (E.ef .em)) λw E=>?_;exact⟨c,rfl,(tF [1] E)⟩
theorem Vm(oh:Nat->Nat)(d:Tab en oh)(e:U en (V b #[N p,N q] 259::oO p ah ai n (some (⟨aP,ou,1,eQ⟩:Item))::S) w0):eJ 44 #[N b] w0 (λu w'=>∃(eE:eu),u=((eE.cut 0 0 eE.c (O.eo eU)).cut 0 0 0 (O.eo eU)).v/\U en (B eE.v 3 ([⟨0⟩]:List eU)::V b #[N p,N q] 259::oO p ah ai n (some (⟨aP,ou,1,eQ⟩:Item))::S) w'):=by
 refine eH 10 e func44 ntmps44 results44 rfl λiZ w E=>?_;refine ej 13 E (b1 (E.tU .G)) λw E=>?_;refine ej 1 E (ede _ (d.ei E.J) E .Y) λa w E=>?_;refine ej 0 E (edn (Pi [3,3,3,3] E)) λw E=>?_;refine ej 5 E (EK (sf (ys:=([]:List eU)) (E.ef .em) (by simp) (by simp) (by simp) (by exact Nat.le_refl _) (by simp))) λw E=>?_;exact⟨a,rfl,(tF [1] E)⟩
theorem edL(h:n<=4096):IntKind.i64.wrap ((((n:Int)+64) -1).tdiv 64)=(((n+63)/64:Nat):Int):=by
 rw[Int.tdiv_eq_ediv_of_nonneg (by omega)];rw[wrap_i64 (by omega)];omega
theorem Vf{α:Type}(z:α)(h:1<=n):List.replicate n z=z::List.replicate (n-1) z:=by
 obtain⟨m,rfl⟩:∃m,n=m+1:=⟨n-1,by omega⟩;rfl
theorem edD(G:1<=n)(Y:n<=4096):eJ 156 #[i6 n] w0 (λu w'=>∃(eE:Nat)(te:Nat)(tO:Nat),u= .tuple #[N eE,i6 0]/\U w0 [V eE (O.enc (⟨⟨(some ⟨te,0,none⟩),n,n⟩,⟨(some ⟨tO,0,none⟩),((n+63)/64:Nat),((n+63)/64:Nat)⟩,0⟩:l0)) 376,B (e4 te n n) 143 (List.replicate n (uR:Item)),B (e4 tO ((n+63)/64:Nat) ((n+63)/64:Nat)) 23 (List.replicate ((n+63)/64:Nat) (⟨0⟩:t7))] w'):=by
 refine eH 10 (eG _) func156 ntmps156 results156 rfl ?_;refine eP false 2 ?_;refine eP false 7 ?_;refine ow 4 11 (e5 [0,2,3,4,5] (.nc 1 6 (.one 6 (.look 7 (.one 8 (e5 [9,10] .nil)))) (.one 1 (.look 7 (.one 8 (e5 [9,10] .nil)))))) [] ⟨iA,⟨iA,λw E=>?_⟩⟩;refine fY 0 E (AM (by omega) (edL Y)) λw E=>?_;refine e3.nc rfl rfl rfl rfl ?_ ?_
 .refine lj (α:=Item) (n:=n) uR (by exact zK) E rfl rfl (by first|decide|omega) (by first|decide|(simp only[maxLen];omega)) ?_;intro a w _ E;refine⟨tF [0] E,?_⟩;refine ol rfl (lj (α:=t7) (n:=((n+63)/64:Nat)) ⟨0⟩ (by rfl) E rfl rfl (by first|decide|omega) (by first|decide|(simp only[maxLen];omega)) ?_);intro b w _ E;refine⟨tF [0,1] E,?_⟩;exact tw rfl (λw E=>rV (r:=(⟨⟨(some ⟨a,0,none⟩),n,n⟩,⟨(some ⟨b,0,none⟩),((n+63)/64:Nat),((n+63)/64:Nat)⟩,0⟩:l0)) (ps:=l0.parts (⟨⟨(some ⟨a,0,none⟩),n,n⟩,⟨(some ⟨b,0,none⟩),((n+63)/64:Nat),((n+63)/64:Nat)⟩,0⟩:l0)) (Sd _) (by first|rfl|(simp only[Sd,l0.parts,sM,nn];rfl)) (by exact lE ⟨by decide,rfl,by decide,rfl,trivial⟩) eY) (ao 7 E λc w E=>(⟨c,a,b,rfl,(Pi [1,2,2] E)⟩))
 refine lj (α:=t7) (n:=((n+63)/64:Nat)) ⟨0⟩ (by rfl) E rfl rfl (by first|decide|omega) (by first|decide|(simp only[maxLen];omega)) ?_;intro b w _ E;refine⟨tF [0] E,?_⟩;refine ol rfl (lj (α:=Item) (n:=n) uR (by exact zK) E rfl rfl (by first|decide|omega) (by first|decide|(simp only[maxLen];omega)) ?_);intro a w _ E;refine⟨tF [0,1] E,?_⟩;exact tw rfl (λw E=>rV (r:=(⟨⟨(some ⟨a,0,none⟩),n,n⟩,⟨(some ⟨b,0,none⟩),((n+63)/64:Nat),((n+63)/64:Nat)⟩,0⟩:l0)) (ps:=l0.parts (⟨⟨(some ⟨a,0,none⟩),n,n⟩,⟨(some ⟨b,0,none⟩),((n+63)/64:Nat),((n+63)/64:Nat)⟩,0⟩:l0)) (Sd _) (by first|rfl|(simp only[Sd,l0.parts,sM,nn];rfl)) (by exact lE ⟨by decide,rfl,by decide,rfl,trivial⟩) eY) (ao 7 E λc w E=>(⟨c,a,b,rfl,(Pi [2,2,2] E)⟩))
theorem edC(G:1<=n)(Y:n<=4096):eJ 156 #[i6 n] w0 (λu w'=>∃(p:Nat)(ah ai:eu),u= .tuple #[N p,i6 0]/\U w0 [oO p ah ai n none] w'):=by
 refine(edD G Y).mono ?_;rintro u w' ⟨p,a,b,rfl,E⟩;refine⟨p,⟨some ⟨a,0,none⟩,n,n⟩,⟨some ⟨b,0,none⟩,(n+63)/64,(n+63)/64⟩,rfl,?_⟩;refine U.Rj ⟨G,Y,rfl⟩ (Rv ?_);have c:nz.sc ⟨⟨some ⟨a,0,none⟩,n,n⟩,⟨some ⟨b,0,none⟩,(n+63)/64,(n+63)/64⟩,n,none⟩=List.replicate n uR:=(Vf uR G).symm;have d:nz.nq ⟨⟨some ⟨a,0,none⟩,n,n⟩,⟨some ⟨b,0,none⟩,(n+63)/64,(n+63)/64⟩,n,none⟩=List.replicate ((n+63)/64) ⟨0⟩:=(Vf (n:=((n+63)/64)) (⟨0⟩:t7) (by omega)).symm;rw[c,d];exact E
theorem edU(G:1<=n)(Y:n<=4096):eJ 75 #[i6 n] w0 (λu w'=>∃(eE:Nat)(te:eu)(tO:eu)(af:Nat)(aT:Nat)(oP:Nat)(iN:Nat)(nB:Nat),u= .tuple #[N nB,i6 0]/\U w0 [V nB #[N eE,N aT] 259,cQ aT oP iN af,oO eE te tO n none] w'):=by
 refine eH 9 (eG _) func75 ntmps75 results75 rfl λw E=>?_;refine ej 11 E (edC G Y) λa b c=>?_;refine eP false 8 λw E=>?_;refine ej 0 E (eso) λg d e f w E=>?_;refine ag 0 E (ud (#[N a,N d])) λw E=>?_;refine ag 7 E (ud (#[N a,N d])) λh w E=>?_;exact⟨a,b,c,g,d,e,f,h,rfl,E⟩
end
end Go.Fer
