import Derived.Test.YtncdhadaifhleaaGreatDoorF7
import Derived.Test.YtncdhadaifhleaaGreatDoorF9
set_option linter.all false
set_option synthInstance.maxSize 100000
set_option synthInstance.maxHeartbeats 400000
set_option maxHeartbeats 8000000
set_option maxRecDepth 100000
namespace Go.Fer
open Go Go.RowKit
section
open Go.Proofs Tryz
variable{S:List eH}{b n nU aK p q r ay aM:Nat}{i oM j:Option Item}{is:List Instr}{hp hg:Int}{ou:aZ}{eW:Bool}{v0 am tK tV:ec}{w w0 ea:World}{x y:Item}{xs:List UInt8}
@[irreducible] def a7 (p:Nat) (tK tV:ec) (n:Nat) (oM:Option Item):eH:=hC [nn (pz ⟨tK,tV,n,none⟩),mK p ⟨tK,tV,n,oM⟩]
theorem pz.any(h:pz ⟨tK,tV,n,i⟩):pz ⟨tK,tV,n,j⟩:=⟨h.iV,h.nR,h.tK⟩
theorem U.xG(h:U w0 (a7 p tK tV n oM::S) w):pz ⟨tK,tV,n,oM⟩/\U w0 (mK p ⟨tK,tV,n,oM⟩::S) w:=by
 unfold a7 at h;have h:=h.de;have G:=h.get (e:=nn (pz ⟨tK,tV,n,none⟩)) .em;rw[md]at G;exact⟨G.any,h.sub (List.sublist_cons_self _ _)⟩
theorem U.S6(e1:pz ⟨tK,tV,n,oM⟩)(h:U w0 (mK p ⟨tK,tV,n,oM⟩::S) w):U w0 (a7 p tK tV n oM::S) w:=by
 unfold a7;exact U.closed (l:=[nn (pz ⟨tK,tV,n,none⟩),mK p ⟨tK,tV,n,oM⟩]) (h.pure e1.any)
theorem S7(a:U ea S w0)(b:tP (a7 p tK tV n (some x)) S):tS 111 #[N p,i6 0] w0 (.tuple #[.agg (O.enc x),i6 0]):=by
 obtain⟨e1,h⟩:=(a.mem b).xG;exact esb e1 rfl (h.qb .em)
theorem esj(a:U ea S w0)(b:tP (a7 p tK tV n (some x)) S):tS 204 #[N p] w0 (i6 1):=by
 obtain⟨e1,h⟩:=(a.mem b).xG;exact Yz (h.qb .em)
theorem esq(a:U ea S w0)(b:tP (a7 p tK tV n none) S):tS 204 #[N p] w0 (i6 0):=by
 obtain⟨e1,h⟩:=(a.mem b).xG;exact Yz (h.qb .em)
theorem YE(eC:U ea (a7 p tK tV n (some x)::S) w0):eJ 188 #[N p,i6 0,.agg (O.enc y)] w0 (λu w'=>u=i6 0/\U ea (a7 p tK tV n (some y)::S) w'):=by
 obtain⟨e1,h⟩:=eC.xG;exact(esv e1 rfl h).mono λu w' h=>⟨h.1,h.2.S6 e1.any⟩
theorem esz(oh:Nat->Nat)(a:Tab ea oh)(eC:U ea (a7 p tK tV n none::S) w0):eJ 122 #[N p,.agg (O.enc y)] w0 (λu w'=>u= .tuple #[i6 0,i6 0]/\U ea (a7 p tK tV n (some y)::S) w'):=by
 obtain⟨e1,h⟩:=eC.xG;exact(esk oh a e1 rfl h).mono λu w' h=>⟨h.1,h.2.S6 e1.any⟩
theorem esE(eC:U ea (a7 p tK tV n (some x)::S) w0):eJ 116 #[N p,i6 0] w0 (λu w'=>u=i6 0/\U ea (a7 p tK tV n none::S) w'):=by
 obtain⟨e1,h⟩:=eC.xG;exact(esx e1 rfl h).mono λu w' h=>⟨h.1,h.2.S6 e1.any⟩
theorem bZ(hb:an w0 (N b) #[N p,N q]):tS 105 #[N b] w0 (.bool true):=by
 have:=ir hb;refine eN 22 (eY _) func105 ntmps105 results105 rfl λw E=>?_;exact⟨rfl,E.ee⟩
theorem esT:tS 125 #[.agg (O.enc x)] w0 (.agg #[ef x.r.priority,ef x.number]):=by
 refine eN 13 (eY _) func125 ntmps125 results125 rfl λni ao w E=>?_;refine af 0 E (c9 (#[ef x.r.priority,ef x.number])) λw E=>?_;exact oE (iU (v:=.agg #[ef x.r.priority,ef x.number]) (iA:=#[ef x.r.priority,ef x.number]) E rfl rfl .em rfl (Nat.le_of_ble_eq_true rfl) (h2 rfl) rfl (tH .em λw E=>(ey 4 E λw E=>(⟨rfl,E.ee⟩))))
theorem YT(hb:an w0 (N b) #[N p,N q])(a:U ea S w0)(c:tP (a7 p tK tV n (some x)) S):tS 112 #[N b,i6 0] w0 (.tuple #[.agg (O.enc x),i6 0]):=by
 refine eN 10 (eY _) func112 ntmps112 results112 rfl λaW w E=>?_;have:=ir hb;refine ev 14 E (bZ (hb.es E.ee)) λw E=>?_;refine ev 8 E (S7 (a.es E.ee) c) λw E=>?_;exact⟨rfl,E.ee⟩
theorem CE{y:nT}(hb:an w0 (N b) #[N p,N q])(a:U ea S w0)(f:tP (a7 p tK tV n (some x)) S)(e:tP (ax x.r is xs y) S):eJ 45 #[N b,i6 0] w0 (λu w'=>∃(eE:aZ)(tt:(List Instr)),u= .tuple #[.agg (O.enc (⟨x.number,eE,x.place,x.Ak⟩:Item)),i6 0]/\U w0 [ax eE tt xs y] w'):=by
 have:=lC a e;refine eN 10 (eY _) func45 ntmps45 results45 rfl λaW w E=>?_;refine ev 12 E (YT (hb.es E.ee) (a.es E.ee) f) λg w E=>?_;refine ev 14 E (Yb (a.es E.ee) e) λc d w E=>?_;exact⟨c,d,rfl,(tN [1,2] E)⟩
theorem YA(hb:an w0 (N b) #[N p,N q])(a:U ea S w0)(c:tP (a7 p tK tV n (some x)) S):tS 135 #[N b] w0 (i6 1):=by
 refine eN 9 (eY _) func135 ntmps135 results135 rfl λw E=>?_;have:=ir hb;refine ev 13 E (bZ (hb.es E.ee)) λw E=>?_;refine ev 5 E (esj (a.es E.ee) c) λw E=>?_;exact⟨rfl,E.ee⟩
theorem YO(hb:an w0 (N b) #[N p,N q])(a:U ea S w0)(c:tP (a7 p tK tV n none) S):tS 135 #[N b] w0 (i6 0):=by
 refine eN 9 (eY _) func135 ntmps135 results135 rfl λw E=>?_;have:=ir hb;refine ev 13 E (bZ (hb.es E.ee)) λw E=>?_;refine ev 5 E (esq (a.es E.ee) c) λw E=>?_;exact⟨rfl,E.ee⟩
theorem esI(eC:U ea (B b #[N p,N q] 259::a7 p tK tV n (some (⟨aK,ou,0,eW⟩:Item))::mV q ay aM r nU v0 am hg hp::S) w0):eJ 115 #[N b,i6 0,.int .u8 1] w0 (λu w'=>u= .tuple #[]/\U ea (a7 p tK tV n (some (⟨aK,ou,1,eW⟩:Item))::rm q ay aM r nU v0 am::B b #[N p,N q] 259::S) w'):=by
 refine eN 8 eC func115 ntmps115 results115 rfl λw E=>?_;refine ev 13 E (S7 E .G) λa=>?_;refine eU true 10 λw E=>?_;refine ev 13 E (esd (E.pick .ej)) ?_;refine eU false 5 ?_;refine aC 7 7 (eX [0,1,2,3,4,5,6] (.one 7 .nil)) [] λw E=>?_;refine c8 2 E (YE (E.pick .e8)) λw E=>?_;exact⟨rfl,(tN [2,3] E)⟩
theorem esN(eC:U ea (B b #[N p,N q] 259::a7 p tK tV n (some (⟨aK,ou,1,eW⟩:Item))::S) w0):eJ 115 #[N b,i6 0,.int .u8 1] w0 (λu w'=>u= .tuple #[]/\U ea (a7 p tK tV n (some (⟨aK,ou,1,eW⟩:Item))::B b #[N p,N q] 259::S) w'):=by
 refine eN 8 eC func115 ntmps115 results115 rfl λw E=>?_;refine ev 13 E (S7 E .G) λa=>?_;refine eU false 16 ?_;refine eU false 5 ?_;refine aC 7 7 (eX [0,1,2,3,4,5,6] (.one 7 .nil)) [] λw E=>?_;refine c8 2 E (YE (E.pick .Y)) λw E=>?_;exact⟨rfl,(tN [1] E)⟩
theorem esS(eC:U ea (B b #[N p,N q] 259::a7 p tK tV n (some (⟨aK,ou,0,eW⟩:Item))::mV q ay aM r nU v0 am hg hp::S) w0):eJ 262 #[N b] w0 (λu w'=>u= .tuple #[i6 0,.bool true]/\U ea (a7 p tK tV n (some (⟨aK,ou,1,eW⟩:Item))::rm q ay aM r nU v0 am::B b #[N p,N q] 259::S) w'):=by
 refine eN 10 eC func262 ntmps262 results262 rfl λw E=>?_;refine ev 14 E (bZ (E.tb .em)) λw E=>?_;refine ev 17 E (eso E .Y) λw E=>?_;refine ev 12 E (esI (Pi [2,2,2] E)) λw E=>?_;exact⟨rfl,E⟩
theorem YI(hb:an w0 (N b) #[N p,N q])(a:U ea S w0)(c:tP (rm q ay aM r nU v0 am) S):tS 262 #[N b] w0 (.tuple #[i6 0,.bool false]):=by
 have:=lC a c;refine eN 10 (eY _) func262 ntmps262 results262 rfl λw E=>?_;have:=ir hb;refine ev 14 E (bZ (hb.es E.ee)) λw E=>?_;refine ev 26 E (esn (a.es E.ee) c) λw E=>?_;exact⟨rfl,E.ee⟩
theorem YN(eC:U ea (B b #[N p,N q] 259::a7 p tK tV n (some (⟨aK,ou,1,eW⟩:Item))::S) w0):eJ 47 #[N b,i6 0] w0 (λu w'=>u=i6 0/\U ea (a7 p tK tV n none::B b #[N p,N q] 259::S) w'):=by
 refine eN 10 eC func47 ntmps47 results47 rfl λw E=>?_;refine ev 11 E (YT (E.tb .em) E .G) λa=>?_;refine eU false 9 λw E=>?_;refine ev 10 E (esN (Pi [2,2] E)) λw E=>?_;refine ev 5 E (esE (E.pick .em)) λw E=>?_;exact⟨rfl,(tN [2] E)⟩
theorem esR{y:nT}(oh:Nat->Nat)(g:Tab ea oh)(eC:U ea (B b #[N p,N q] 259::a7 p tK tV n none::uO q ay aM r::ax ou is xs y::S) w0):eJ 51 #[N b,ef aK,.agg (O.enc ou)] w0 (λu w'=>∃(eE:aZ)(tt:(List Instr))(tC:Nat)(ap:ec)(aD:ec),u= .tuple #[i6 0,eF,i6 0]/\U ea (mV q ay aM r tC ap aD (eE.priority:Int) (aK:Int)::a7 p tK tV n (some (⟨aK,eE,0,false⟩:Item))::ax eE tt xs y::B b #[N p,N q] 259::ax ou is xs y::S) w'):=by
 refine eN 12 eC func51 ntmps51 results51 rfl λi w E=>?_;refine ev 10 E (bZ (E.tb .G)) λw E=>?_;refine ev 0 E (Yb E .e8) λa c w E=>?_;refine et (sV (r:=(⟨aK,a,0,false⟩:Item)) (ps:=Item.parts (⟨aK,a,0,false⟩:Item)) (LY _) (by first|rfl|(simp only[LY,Item.parts,p9,aZ.parts,dr,oW.parts,cn,oa.parts,cR,ro.parts,bA,sP.parts,sg,iW];rfl)) (by exact hT ⟨by decide,rfl,by decide,O.ez a,trivial⟩) (et (sI E ?_)));intro lm w _ E;rw[zK]at E;refine oE (iJ (r:=(⟨aK,a,0,false⟩:Item)) E rfl rfl .em (O.ez _) (tH .em λw E=>(ey 4 E ?_)));refine aC 0 12 (eX [0,1,2,3,4,5] (.one 6 (eX [7,8,9,10,11] .nil))) [4] λw E=>?_;refine tl rfl (λw E=>oI (v:=N b) rfl eG) (tl rfl (λw E=>sk rfl eG) (tl rfl (λw E=>o9 rfl eG) (tl rfl (λw E=>o9 rfl eG) (tl rfl (λw E=>ag (v:=N p) rfl (E.a6 .ej rfl) eG) (tl rfl (λw E=>ag (v:=.agg (O.enc (⟨aK,a,0,false⟩:Item))) rfl (E.n5 .em (O.ez (⟨aK,a,0,false⟩:Item))) eG) (ol rfl (J.call (esz _ g (E.pick .e8)) rfl ?_)))))));rintro _ w ⟨rfl,E⟩;refine⟨tN [0] E,?_⟩;refine tl rfl (λw E=>oI (v:=.tuple #[i6 0,i6 0]) rfl eG) (tl rfl (λw E=>J.extract rfl rfl eG) (tl rfl (λw E=>J.extract rfl rfl eG) (tl rfl (λw E=>iP rfl eG) (tl rfl (λw E=>iP rfl eG) (t7 4 E λw E=>?_)))));refine et (oP rfl ?_);refine et (yi rfl (J.eql rfl rfl ⟨rfl,rfl⟩) ?_);refine ey 6 E ?_;refine aC 0 8 (eX [0,1,2,3,4,5,7] (oA [6,8] .nil)) [] λw E=>?_;refine tl rfl (λw E=>oI (v:=N b) rfl eG) (tl rfl (λw E=>sk rfl eG) (tl rfl (λw E=>o9 rfl eG) (tl rfl (λw E=>o9 rfl eG) (tl rfl (λw E=>ag (v:=N q) rfl (E.a6 .e8 rfl) eG) (tl rfl (λw E=>ag (v:=.agg (O.enc (⟨aK,a,0,false⟩:Item))) rfl (E.n5 .G (O.ez (⟨aK,a,0,false⟩:Item))) eG) (tl rfl (λw E=>oP rfl eG) (ol rfl (J.call (esT) rfl ?_))))))));rintro _ w ⟨rfl,h⟩;replace E:=E.es h;refine⟨E,?_⟩;refine hO rfl (J.call (ese (E.pick .au)) rfl ?_);rintro _ w ⟨d,e,f,rfl,E⟩;refine t7 4 E λw E=>?_;exact et (oP rfl (et (oI (v:=eF) rfl (et (oP rfl (et (iP rfl (et (yo (v:=eF) rfl (et (iP rfl (ey 4 E λw E=>(⟨a,c,d,e,f,rfl,(tN [2,4] E)⟩)))))))))))))
variable{hi ls x:Value}{s:ec}
theorem esU(a:an w0 (N b) #[s.v])(c:ex w0 s.v ([]:List im)):tS 241 #[x,N b] w0 (.tuple #[]):=by
 have:=ir a;have:=aL c;refine eN 8 (eY _) func241 ntmps241 results241 rfl λw E=>?_;refine oL 40 (oc.step ?_);refine eA 2 E ?_;refine eU false 9 λw E=>?_;exact⟨rfl,E.ee⟩
theorem YS:eJ 176 #[s.v] w0 (λu w'=>∃(eE:Nat),u= .func (.func 241) #[] #[N eE]/\U w0 [B eE #[s.v] 356] w'):=by
 refine eN 14 (eY _) func176 ntmps176 results176 rfl λni w E=>?_;exact⟨ni,rfl,E⟩
theorem esM(c:an w0 (N b) #[s.v])(d:ex w0 s.v ([]:List im)):tS 306 #[eF,.func (.func 241) #[] #[N b]] w0 eF:=by
 refine jL (args:=[eF,.func (.func 241) #[] #[N b]]) func306 rfl ntmps306 rfl ?_;have E:=eY w0;replace E:=E.jR;refine oq.seq (λi e=>?_);refine oq.of λD a=>?_;refine eA 4 E λao w E=>?_;refine rT (e _ _ _ ?_);refine oq.seq (λj f=>?_);refine oq.seq (λk g=>?_);refine oq.of λD a=>?_;refine eA 3 E λw E=>?_;refine rT (g _ _ _ ?_);replace E:=E.pick .G;refine PU (oN:=[N b]) rfl rfl E (λl m w E=>(esU (c.es E.ee) (d.es E.ee)).mono λ_ _ h=>h.2) (λn w E=>?_);refine rT (f _ _ _ ?_);refine oq.of λD a=>?_;refine eA 7 E λw E=>?_;refine jH results306 E (λw E=>?_);refine⟨_,(.w9 (v:=eF) rfl .nil),?_⟩;exact⟨rfl,E.ee⟩
theorem esF(a:an w0 (N b) #[s.v])(c:ex w0 s.v ([]:List im)):tS 239 #[.func (.func 241) #[] #[N b]] w0 eF:=by
 refine eN 8 (eY _) func239 ntmps239 results239 rfl λw E=>?_;refine ev 5 E (esM (a.es E.ee) (c.es E.ee)) λw E=>?_;exact⟨rfl,E.ee⟩
theorem esP:eJ 258 #[.int .u64 0] w0 (λu w'=>u=i6 0/\eV w0 w'):=Ct (by decide)
theorem esG:eJ 258 #[.int .u64 1] w0 (λu w'=>u=i6 1/\eV w0 w'):=Ct (by decide)
theorem YR:tS 190 #[.int .u64 0] w0 (i6 0):=by
 refine eN 12 (eY _) func190 ntmps190 results190 rfl λw E=>?_;refine ev 5 E (esP) λw E=>?_;exact⟨rfl,E.ee⟩
theorem esW:tS 190 #[.int .u64 1] w0 (i6 1):=by
 refine eN 12 (eY _) func190 ntmps190 results190 rfl λw E=>?_;refine ev 5 E (esG) λw E=>?_;exact⟨rfl,E.ee⟩
theorem esY:tS 352 #[eF,i6 0,i6 0,hi] w0 (.tuple #[]):=by
 refine eN 8 (eY _) func352 ntmps352 results352 rfl λw E=>?_;refine oL 40 (oc.step ?_);refine eA 5 E ?_;refine eU false 8 λw E=>?_;exact⟨rfl,E.ee⟩
theorem esB:tS 307 #[eF,i6 0,i6 0,ls,hi] w0 (.tuple #[]):=by
 refine eN 11 (eY _) func307 ntmps307 results307 rfl λw E=>?_;refine oL 40 (oc.step ?_);refine eA 13 E ?_;refine eU true 9 λw E=>?_;refine ev 8 E (esY) λw E=>?_;exact⟨rfl,E.ee⟩
theorem esV:tS 240 #[eF,hi] w0 (.tuple #[]):=by
 refine eN 12 (eY _) func240 ntmps240 results240 rfl λw E=>?_;refine ev 1 E (YR) λw E=>?_;refine ev 2 E (esB) λw E=>?_;exact⟨rfl,E.ee⟩
theorem YH(a:an w0 (N b) #[s.v])(c:ex w0 s.v ([]:List im)):tS 175 #[.func (.func 241) #[] #[N b],hi] w0 eF:=by
 refine eN 8 (eY _) func175 ntmps175 results175 rfl λw E=>?_;refine ev 7 E (esF (a.es E.ee) (c.es E.ee)) λw E=>?_;refine ev 10 E (esV) λw E=>?_;exact⟨rfl,E.ee⟩
theorem esK(b:U ea S w0)(c:tP (uO p ay aM r) S):eJ 106 #[N p] w0 (λu w'=>∃(eE:Nat),u=ta eE 0 0/\U w0 [V (ta eE 0 0) 3 ([]:List eL)] w'):=by
 obtain⟨a,d,g,h⟩:=en0 b c;refine eN 9 (eY _) func106 ntmps106 results106 rfl λw E=>?_;have:=ir a;have:=ir d;refine ev 16 E (EP (a.es E.ee)) λw E=>?_;refine ev 0 E (YS (s:=ed)) λe w E=>?_;refine ev 7 E (YH (E.tb .em) (ex.nil _)) λw E=>?_;refine et (dt (α:=eL) (n:=0) ⟨0⟩ (by rfl) E rfl rfl (by first|decide|omega) (by first|decide|(simp only[maxLen];omega)) ?_);intro f w _ E;refine ey 12 E λw E=>?_;refine oL 40 (oc.step ?_);refine eA 2 E ?_;refine eU false 17 λw E=>?_;exact⟨f,rfl,(tN [1] E)⟩
theorem esJ(b:U ea S w0)(c:tP (rm p ay aM r n v0 am) S):eJ 106 #[N p] w0 (λu w'=>∃(eE:Nat),u=ta eE 0 0/\U w0 [V (ta eE 0 0) 3 ([]:List eL)] w'):=by
 obtain⟨a,d,h,e,i,j⟩:=Yx b c;refine eN 9 (eY _) func106 ntmps106 results106 rfl λw E=>?_;have:=ir a;have:=ir d;refine ev 16 E (EP (a.es E.ee)) λw E=>?_;refine ev 0 E (YS) λf w E=>?_;refine ev 7 E (YH (E.tb .em) (s5 (ys:=([]:List im)) (e.es E.ee) (by simp) (by simp) (by simp) (by exact Nat.le_refl _) (by simp))) λw E=>?_;refine et (dt (α:=eL) (n:=0) ⟨0⟩ (by rfl) E rfl rfl (by first|decide|omega) (by first|decide|(simp only[maxLen];omega)) ?_);intro g w _ E;refine ey 12 E λw E=>?_;refine oL 40 (oc.step ?_);refine eA 2 E ?_;refine eU false 17 λw E=>?_;exact⟨g,rfl,(tN [1] E)⟩
theorem YL(hb:an w0 (N b) #[N p,N q])(a:U ea S w0)(c:tP (uO q ay aM r) S):eJ 43 #[N b] w0 (λu w'=>∃(eE:Nat),u=ta eE 0 0/\U w0 [V (ta eE 0 0) 3 ([]:List eL)] w'):=by
 have:=lC a c;refine eN 9 (eY _) func43 ntmps43 results43 rfl λw E=>?_;have:=ir hb;refine ev 13 E (bZ (hb.es E.ee)) λw E=>?_;refine ev 5 E (esK (a.es E.ee) c) λd w E=>?_;exact⟨d,rfl,E⟩
theorem xW(hb:an w0 (N b) #[N p,N q])(a:U ea S w0)(c:tP (rm q ay aM r nU v0 am) S):eJ 43 #[N b] w0 (λu w'=>∃(eE:Nat),u=ta eE 0 0/\U w0 [V (ta eE 0 0) 3 ([]:List eL)] w'):=by
 have:=lC a c;refine eN 9 (eY _) func43 ntmps43 results43 rfl λw E=>?_;have:=ir hb;refine ev 13 E (bZ (hb.es E.ee)) λw E=>?_;refine ev 5 E (esJ (a.es E.ee) c) λd w E=>?_;exact⟨d,rfl,E⟩
variable{us:List aa}{v:Value}{x:Item}{xs:List eL}
theorem YD(Z:ex w0 v xs):tS 107 #[v] w0 (nz v 0 xs.length xs.length (O.eo (eL))):=by
 have:=aL Z;refine eN 12 (eY _) func107 ntmps107 results107 rfl λw E=>?_;exact et (hj (Z.es E.ee) ⟨⟨_,rfl⟩,Z.cap⟩ ⟨⟨_,rfl⟩,Nat.le_refl _⟩ ⟨rfl,Nat.zero_le _⟩ (ey 5 E λw E=>(⟨rfl,E.ee⟩)))
theorem esQ(oh:Nat->Nat)(a:Tab w0 oh):tS 180 #[.int .u64 1] w0 (i6 0):=by
 have h:=Cj (w0:=w0) oh a (x:=1) (by decide);rwa[esf a]at h
def esZ(k:Nat):List eL:=if k=0 then[]else[⟨0⟩]
theorem EY{v:ec}(Z:ex w0 v.v xs):eJ 107 #[v.v] w0 (λu w'=>u=(v.cut 0 xs.length xs.length (O.eo eL)).v/\eV w0 w'):=YD Z
theorem es0:∀k(h:k<(nj.nx ⟨tK,tV,n,none⟩).length),((nj.nx ⟨tK,tV,n,none⟩)[k]).n=0:=by
 intro k h;cases k with
 |zero=>rfl
 |succ k=>unfold nj.nx;simp
theorem YC:0<(nj.nx ⟨tK,tV,n,some x⟩).length/\∀k(h:k<(nj.nx ⟨tK,tV,n,some x⟩).length),((nj.nx ⟨tK,tV,n,some x⟩)[k]).n=if k=0 then 1 else 0:=by
 refine⟨by unfold nj.nx;simp,λk h=>?_⟩;cases k with
 |zero=>rfl
 |succ k=>unfold nj.nx;simp
theorem es1(c:an w0 (N p) (O.enc (⟨tK,tV,0⟩:lZ)))(d:ex w0 tV.v us)(m:us.length<=100000)(e:∀k(h:k<us.length),us[k].n=0):eJ 109 #[N p] w0 (λu w'=>∃(eE:Nat),u=ta eE 0 0/\U w0 [V (ta eE 0 0) 3 ([]:List eL)] w'):=by
 have:=ir c;refine eN 21 (eY _) func109 ntmps109 results109 rfl λw E=>?_;refine et (dt (α:=eL) (n:=0) ⟨0⟩ (by rfl) E rfl rfl (by first|decide|omega) (by first|decide|(simp only[maxLen];omega)) ?_);intro a w _ E;have:=aL d;refine ey 15 E λw E=>?_;refine ek.loop (λq f w=>∃k:Nat,oV [(3,ta a 0 0),(16,tV.v),(17,i6 us.length),(18,i6 k)] f/\U w0 [V (ta a 0 0) 3 ([]:List eL)] w/\k<=us.length/\q=us.length-k) (us.length) ?_ ?_
 .
   exact⟨0,⟨rfl,rfl,rfl,sJ,trivial⟩,E,Nat.zero_le _,rfl⟩
 .
   rintro q f w ⟨k,b,E,o,e5⟩;refine il _ b (λg=>?_);clear b;refine eA 6 E<|om 0 13 (λi w E=>?_) (λi w E=>?_)
   .
     have j:k<us.length:=by omega
     have r:=e k j;refine eA 8 E ⟨⟨aj⟩,λ_=>rO 6 λw E=>?_⟩;refine oL 40 (oc.step ?_);refine eA 7 E<|om 0 11 (λl w E=>?_) (λl=>⟨ib,λw E=>?_⟩)
     .
       omega
     .
       exact⟨us.length-(k+1),by omega,k+1,⟨rfl,rfl,rfl,sJ,trivial⟩,E,by omega,rfl⟩
   .
     exact⟨a,rfl,E⟩
theorem es2(oh:Nat->Nat)(e:an w0 (N p) (O.enc (⟨tK,tV,1⟩:lZ)))(i:ex w0 tV.v us)(B:us.length<=100000)(l:∀k(h:k<us.length),us[k].n=if k=0 then 1 else 0)(C:0<us.length)(m:Tab w0 oh):eJ 109 #[N p] w0 (λu w'=>∃(eE:ec),u=eE.v/\U w0 [V eE.v 3 ([⟨0⟩]:List eL)] w'):=by
 have:=ir e;refine eN 21 (eY _) func109 ntmps109 results109 rfl λw E=>?_;refine et (QW (α:=eL) (c:=1) ⟨0⟩ (by rfl) E rfl rfl (by first|decide|omega) (by first|decide|(simp only[maxLen];omega)) ?_);intro o w _ E;have:=aL i;refine ey 15 E λw E=>?_;refine ek.loop (λq f w=>∃(k:Nat)(s:ec),oV [(3,s.v),(16,tV.v),(17,i6 us.length),(18,i6 k)] f/\U w0 [V s.v 3 (esZ k)] w/\k<=us.length/\q=us.length-k) (us.length) ?_ ?_
 .
   exact⟨0,⟨some ⟨o,0,none⟩,0,1⟩,⟨sJ,rfl,rfl,sJ,trivial⟩,E,Nat.zero_le _,rfl⟩
 .
   rintro q f w ⟨k,s,d,E,D,e5⟩;refine il _ d (λg=>?_);clear d;refine eA 6 E<|om 0 0 (λr w E=>?_) (λr w E=>?_)
   .
     have t:k<us.length:=by omega
     have a:=l k t;refine eA 8 E ⟨⟨aj⟩,λ_=>rO 6 λw E=>?_⟩;refine oL 40 (oc.step ?_);refine eA 7 E<|om 0 0 (λx w E=>?_) (λx w E=>?_)
     .
       obtain rfl:k=0:=by
        rcases Nat.eq_zero_or_pos k with h|h
        .exact h
        rw[if_neg (by omega)]at a;omega
       have y:us[0].n=1:=a;rw[y];replace E:U w0 [V s.v 3 ([]:List eL)] w:=E;refine eA 9 E λw E=>?_;refine ev 1 E (esQ _ (m.es E.ee)) λw E=>?_;refine rF 0 E (nB ([⟨0⟩]:List eL)) λz w E=>?_;refine et (fr (α:=eL) (zs:=([⟨0⟩]:List eL)) rfl E rfl .G (E.eu .em) rfl aj (by simp[maxLen];try omega) ?_);intro b w E;replace E:=E _ .G;refine ey 8 E λw E=>?_;refine af 8 E (p7 (show hL .and .u64 1 0=0 from by decide)) ?_;refine eU false 3 λw E=>?_
       try have A:0<k:=(by rcases Nat.eq_zero_or_pos k with h|h;(subst h;rw[if_pos rfl]at a;omega);exact h)
       refine eA 11 E λw E=>?_;exact⟨us.length-1,by omega,1,b,⟨sJ,rfl,rfl,sJ,trivial⟩,tN [0] E,by omega,rfl⟩
     .
       try have A:0<k:=(by rcases Nat.eq_zero_or_pos k with h|h;(subst h;rw[if_pos rfl]at a;omega);exact h)
       refine eA 11 E ⟨ib,λw E=>?_⟩
       (obtain⟨j,rfl⟩:∃j,k=j+1:=⟨k-1,by omega⟩;exact⟨us.length-(j+1+1),by omega,j+1+1,s,⟨sJ,rfl,rfl,sJ,trivial⟩,E,by omega,rfl⟩)
   .
     obtain⟨j,rfl⟩:∃j,k=j+1:=⟨k-1,by omega⟩;refine eA 13 E λw E=>?_;exact⟨s,rfl,E⟩
variable{c:Nat}
theorem el4(a:U ea S w0)(c:tP (a7 p tK tV n none) S):eJ 109 #[N p] w0 (λu w'=>∃b:Nat,u=ta b 0 0/\U w0 [V (ta b 0 0) 3 ([]:List eL)] w'):=by
 obtain⟨e1,h⟩:=(a.mem c).xG;have ep:=h.qb .em;exact es1 ep.tb ep.us (by rw[EG e1];have:=e1.nR;simp only at this⊢;omega) (es0)
theorem el5(oh:Nat->Nat)(a:Tab w0 oh)(b:U ea S w0)(c:tP (a7 p tK tV n (some x)) S):eJ 109 #[N p] w0 (λu w'=>∃s:ec,u=s.v/\U w0 [V s.v 3 ([⟨0⟩]:List eL)] w'):=by
 obtain⟨e1,h⟩:=(b.mem c).xG;have ep:=h.qb .em;exact es2 oh ep.tb ep.us (by rw[EG e1];have:=e1.nR;simp only at this⊢;omega) (YC).2 (YC).1 a
theorem el6(a:an w0 (N c) #[N b])(hb:an w0 (N b) #[N p,N q])(d:U ea S w0)(e:tP (a7 p tK tV n (some (⟨aK,ou,1,eW⟩:Item))) S):tS 110 #[i6 0,N c] w0 (.bool true):=by
 have:=ir a;have:=ir hb;refine eN 13 (eY _) func110 ntmps110 results110 rfl λw E=>?_;refine ev 12 E (S7 (d.es E.ee) e) λaW=>?_;refine eU true 5 λw E=>?_;exact⟨rfl,E.ee⟩
theorem el7(a:ex w0 s.v ([⟨0⟩]:List eL))(d:an w0 (N c) #[N b])(hb:an w0 (N b) #[N p,N q])(e:U ea S w0)(f:tP (a7 p tK tV n (some (⟨aK,ou,1,eW⟩:Item))) S):tS 179 #[s.v,.func (.func 110) #[] #[N c]] w0 (i6 0):=by
 have:=aL a;refine eN 14 (eY _) func179 ntmps179 results179 rfl λw E=>?_;refine oL 40 (oc.step ?_);refine eA 2 E ?_;refine eU true 21 λw E=>?_;refine ev 16 E (el6 (d.es E.ee) (hb.es E.ee) (e.es E.ee) f) λw E=>?_;exact⟨rfl,E.ee⟩
theorem el8(a:ex w0 (ta b 0 0) ([]:List eL)):tS 179 #[ta b 0 0,hi] w0 (i6 (-1)):=by
 have:=aL a;refine eN 14 (eY _) func179 ntmps179 results179 rfl λw E=>?_;refine oL 40 (oc.step ?_);refine eA 2 E ?_;refine eU false 16 λw E=>?_;exact⟨rfl,E.ee⟩
theorem el9(a:ex w0 (ta b 0 0) ([]:List eL)):tS 108 #[ta b 0 0,hi] w0 (ta b 0 0):=by
 refine eN 9 (eY _) func108 ntmps108 results108 rfl λw E=>?_;refine ev 7 E (el8 (a.es E.ee)) ?_;refine eU true 12 λw E=>?_;exact⟨rfl,E.ee⟩
theorem ede(eC:U ea (V s.v 3 ([⟨0⟩]:List eL)::B c #[N b] 129::B b #[N p,N q] 259::a7 p tK tV n (some (⟨aK,ou,1,eW⟩:Item))::S) w0):eJ 108 #[s.v,.func (.func 110) #[] #[N c]] w0 (λu w'=>u=(s.cut 0 0 s.c (O.eo eL)).v/\U ea (V s.v 3 ([⟨0⟩]:List eL)::B c #[N b] 129::B b #[N p,N q] 259::a7 p tK tV n (some (⟨aK,ou,1,eW⟩:Item))::S) w'):=by
 refine eN 9 eC func108 ntmps108 results108 rfl λw E=>?_;refine ev 7 E (el7 (E.eu .em) (E.tb .G) (E.tb .Y) E .ej) ?_;refine eU false 14 λw E=>?_;refine oL 40 (oc.step ?_);refine eA 6 E ?_;refine eU false 12 λw E=>?_;refine et (PT (α:=eL) (v:=s) (xs:=([⟨0⟩]:List eL)) (l:=0) rfl (E.eu .em) rfl aj (oE (PF (α:=eL) (v:=s) (zs:=([⟨0⟩]:List eL)) ⟨0⟩ rfl rfl rfl E .em rfl rfl (tH .em λw E=>(ey 6 E λw E=>?_)))));refine et (zv (α:=eL) (v:=s) (xs:=([⟨0⟩]:List eL)) (h':=0) rfl (E.eu .em) rfl aj ?_);refine ey 5 E λw E=>?_;exact⟨rfl,E⟩
theorem yJ(hb:an w0 (N b) #[N p,N q])(c:U ea S w0)(d:tP (a7 p tK tV n none) S):eJ 44 #[N b] w0 (λu w'=>∃(eE:Nat),u=((tE eE 0 0).cut 0 0 0 (O.eo eL)).v/\U w0 [V (ta eE 0 0) 3 ([]:List eL)] w'):=by
 refine eN 10 (eY _) func44 ntmps44 results44 rfl λni w E=>?_;have:=ir hb;refine ev 13 E (bZ (hb.es E.ee)) λw E=>?_;refine ev 1 E (el4 (c.es E.ee) d) λa w E=>?_;refine ev 0 E (el9 (E.eu .em)) λw E=>?_;refine ev 5 E (EY (v:=(tE a 0 0)) (xs:=([]:List eL)) (E.eu .em)) λw E=>?_;exact⟨a,rfl,(tN [1] E)⟩
theorem BK(oh:Nat->Nat)(d:Tab ea oh)(eC:U ea (B b #[N p,N q] 259::a7 p tK tV n (some (⟨aK,ou,1,eW⟩:Item))::S) w0):eJ 44 #[N b] w0 (λu w'=>∃(eE:ec),u=((eE.cut 0 0 eE.c (O.eo eL)).cut 0 0 0 (O.eo eL)).v/\U ea (V eE.v 3 ([⟨0⟩]:List eL)::B b #[N p,N q] 259::a7 p tK tV n (some (⟨aK,ou,1,eW⟩:Item))::S) w'):=by
 refine eN 10 eC func44 ntmps44 results44 rfl λni w E=>?_;refine ev 13 E (bZ (E.tb .G)) λw E=>?_;refine ev 1 E (el5 _ (d.es E.ee) E .Y) λa w E=>?_;refine ev 0 E (ede (Pi [3,3,3,3] E)) λw E=>?_;refine ev 5 E (EY (s5 (ys:=([]:List eL)) (E.eu .em) (by simp) (by simp) (by simp) (by exact Nat.le_refl _) (by simp))) λw E=>?_;exact⟨a,rfl,(tN [1] E)⟩
theorem edI(h:n<=4096):IntKind.i64.wrap ((((n:Int)+64) -1).tdiv 64)=(((n+63)/64:Nat):Int):=by
 rw[Int.tdiv_eq_ediv_of_nonneg (by omega)];rw[wrap_i64 (by omega)];omega
theorem BX{α:Type}(z:α)(h:1<=n):List.replicate n z=z::List.replicate (n-1) z:=by
 obtain⟨m,rfl⟩:∃m,n=m+1:=⟨n-1,by omega⟩;rfl
theorem edN(G:1<=n)(Y:n<=4096):eJ 156 #[i6 n] w0 (λu w'=>∃(eE:Nat)(tt:Nat)(tC:Nat),u= .tuple #[N eE,i6 0]/\U w0 [B eE (O.enc (⟨⟨(some ⟨tt,0,none⟩),n,n⟩,⟨(some ⟨tC,0,none⟩),((n+63)/64:Nat),((n+63)/64:Nat)⟩,0⟩:lZ)) 376,V (ta tt n n) 143 (List.replicate n (ux:Item)),V (ta tC ((n+63)/64:Nat) ((n+63)/64:Nat)) 23 (List.replicate ((n+63)/64:Nat) (⟨0⟩:aa))] w'):=by
 refine eN 10 (eY _) func156 ntmps156 results156 rfl ?_;refine eU false 2 ?_;refine eU false 7 ?_;refine aC 4 11 (eX [0,2,3,4,5] (.iZ 1 6 (.one 6 (.look 7 (.one 8 (eX [9,10] .nil)))) (.one 1 (.look 7 (.one 8 (eX [9,10] .nil)))))) [] ⟨ib,⟨ib,λw E=>?_⟩⟩;refine mR 0 E (Ag (by omega) (edI Y)) λw E=>?_;refine e2.iZ rfl rfl rfl rfl ?_ ?_
 .refine dt (α:=Item) (n:=n) ux (by exact zK) E rfl rfl (by first|decide|omega) (by first|decide|(simp only[maxLen];omega)) ?_;intro a w _ E;refine⟨tN [0] E,?_⟩;refine ol rfl (dt (α:=aa) (n:=((n+63)/64:Nat)) ⟨0⟩ (by rfl) E rfl rfl (by first|decide|omega) (by first|decide|(simp only[maxLen];omega)) ?_);intro b w _ E;refine⟨tN [0,1] E,?_⟩;exact tl rfl (λw E=>sV (r:=(⟨⟨(some ⟨a,0,none⟩),n,n⟩,⟨(some ⟨b,0,none⟩),((n+63)/64:Nat),((n+63)/64:Nat)⟩,0⟩:lZ)) (ps:=lZ.parts (⟨⟨(some ⟨a,0,none⟩),n,n⟩,⟨(some ⟨b,0,none⟩),((n+63)/64:Nat),((n+63)/64:Nat)⟩,0⟩:lZ)) (NB _) (by first|rfl|(simp only[NB,lZ.parts,sg,iW];rfl)) (by exact hT ⟨by decide,rfl,by decide,rfl,trivial⟩) eG) (t7 7 E λc w E=>(⟨c,a,b,rfl,(Pi [1,2,2] E)⟩))
 refine dt (α:=aa) (n:=((n+63)/64:Nat)) ⟨0⟩ (by rfl) E rfl rfl (by first|decide|omega) (by first|decide|(simp only[maxLen];omega)) ?_;intro b w _ E;refine⟨tN [0] E,?_⟩;refine ol rfl (dt (α:=Item) (n:=n) ux (by exact zK) E rfl rfl (by first|decide|omega) (by first|decide|(simp only[maxLen];omega)) ?_);intro a w _ E;refine⟨tN [0,1] E,?_⟩;exact tl rfl (λw E=>sV (r:=(⟨⟨(some ⟨a,0,none⟩),n,n⟩,⟨(some ⟨b,0,none⟩),((n+63)/64:Nat),((n+63)/64:Nat)⟩,0⟩:lZ)) (ps:=lZ.parts (⟨⟨(some ⟨a,0,none⟩),n,n⟩,⟨(some ⟨b,0,none⟩),((n+63)/64:Nat),((n+63)/64:Nat)⟩,0⟩:lZ)) (NB _) (by first|rfl|(simp only[NB,lZ.parts,sg,iW];rfl)) (by exact hT ⟨by decide,rfl,by decide,rfl,trivial⟩) eG) (t7 7 E λc w E=>(⟨c,a,b,rfl,(Pi [2,2,2] E)⟩))
theorem edS(G:1<=n)(Y:n<=4096):eJ 156 #[i6 n] w0 (λu w'=>∃(p:Nat)(tK tV:ec),u= .tuple #[N p,i6 0]/\U w0 [a7 p tK tV n none] w'):=by
 refine(edN G Y).mono ?_;rintro u w' ⟨p,a,b,rfl,E⟩;refine⟨p,⟨some ⟨a,0,none⟩,n,n⟩,⟨some ⟨b,0,none⟩,(n+63)/64,(n+63)/64⟩,rfl,?_⟩;refine U.S6 ⟨G,Y,rfl⟩ (S3 ?_);have c:nj.sy ⟨⟨some ⟨a,0,none⟩,n,n⟩,⟨some ⟨b,0,none⟩,(n+63)/64,(n+63)/64⟩,n,none⟩=List.replicate n ux:=(BX ux G).symm;have d:nj.nx ⟨⟨some ⟨a,0,none⟩,n,n⟩,⟨some ⟨b,0,none⟩,(n+63)/64,(n+63)/64⟩,n,none⟩=List.replicate ((n+63)/64) ⟨0⟩:=(BX (n:=((n+63)/64)) (⟨0⟩:aa) (by omega)).symm;rw[c,d];exact E
theorem edR(G:1<=n)(Y:n<=4096):eJ 75 #[i6 n] w0 (λu w'=>∃(eE:Nat)(tt:ec)(tC:ec)(ap:Nat)(aD:Nat)(o8:Nat)(iF:Nat)(nK:Nat),u= .tuple #[N nK,i6 0]/\U w0 [B nK #[N eE,N aD] 259,uO aD o8 iF ap,a7 eE tt tC n none] w'):=by
 refine eN 9 (eY _) func75 ntmps75 results75 rfl λw E=>?_;refine ev 11 E (edS G Y) λa b c=>?_;refine eU false 8 λw E=>?_;refine ev 0 E (en5) λg d e f w E=>?_;refine af 0 E (c9 (#[N a,N d])) λw E=>?_;refine af 7 E (c9 (#[N a,N d])) λh w E=>?_;exact⟨a,b,c,g,d,e,f,h,rfl,E⟩
end
end Go.Fer
