import Derived.Test.YtncdhadaifhleaaGreatDoorF18
import Derived.Test.YtncdhadaifhleaaGreatDoorF19
import Derived.Test.YtncdhadaifhleaaGreatDoorRows
import Derived.ProofKit
import Derived.LaidMore
import Derived.LaidHandle
import Derived.OpenShut
import Derived.Stop.Joined
set_option linter.all false
set_option synthInstance.maxSize 100000
set_option synthInstance.maxHeartbeats 400000
set_option maxHeartbeats 8000000
set_option maxRecDepth 100000
namespace Go.Fer
open Go Go.RowKit
section
open Go.Proofs Tryz
variable{D:iL}{S:List eH}{eO aI oz oS:ec}{b cs oF p r eu:Nat}{d:dl}{k:ak}{o:oK}{w0 ea:World}{x:Value}
theorem em0(a:U ea S w0)(b:tP (hH p d) S):eJ 81 #[N p] w0 (λu w'=>u= .bool true/\eV w0 w'):=D8 (pq a b).1.1
theorem em1(eC:U ea (iC p D::S) w0):eJ 151 #[N p] w0 (λu w'=>u=i6 0/\U ea (iC p D::S) w'):=by
 obtain⟨e1,E⟩:=eC.EB;exact(YM e1 E).mono λu w' h=>⟨h.1,qv e1 h.2⟩
theorem em2(eC:U ea (iC p (⟨r,[]⟩:iL)::S) w0):eJ 49 #[N p] w0 (λu w'=>∃(s:ec),u=s.v/\U ea (V s.v 64 ([]:List tX)::iC p (⟨r,[]⟩:iL)::S) w'):=by
 refine(OF (by simp) eC).mono ?_;rintro u w' ⟨s,L,rfl,E⟩;have G:fx ⟨r,[]⟩ L:=by have h:=E.get .em;rwa[md]at h
 obtain rfl:L=[]:=List.Perm.eq_nil G;exact⟨s,rfl,E.sub (List.sublist_cons_self _ _)⟩
theorem em3(a:U ea S w0)(b:tP (hH p d) S):tS 217 #[N p,.agg (O.enc k),eF] w0 (i6 1):=by
 have c:=pq a b;refine eN 11 (eY _) func217 ntmps217 results217 rfl λaW w E=>?_;refine ev 10 E (em0 (a.es E.ee) b) ?_;refine eU true 16 λw E=>?_;exact⟨rfl,E.ee⟩
theorem em4(b:U ea S w0)(c:tP (hH p d) S):tS 148 #[N p] w0 (.bool true):=by
 have e:=pq b c;refine eN 8 (eY _) func148 ntmps148 results148 rfl λw E=>?_;refine et (yf (k:=aO 32) (by first|rfl|(simp only[sg,iW];rfl)) (by intro p a;first|(exfalso;simp at a;done)|(simp only[List.map_cons,List.map_nil,List.mem_cons,List.not_mem_nil,or_false]at a;rcases a with rfl|rfl|rfl|rfl<;>exact⟨by simp,rfl⟩)) (ev 0 E (em3 (b.es E.ee) c) ?_));refine eU true 5 λw E=>?_;exact⟨rfl,E.ee⟩
theorem em5:eJ 149 #[.agg (O.enc o)] w0 (λu w'=>∃(eE:Nat),u= .func (.func 218) #[] #[N eE]/\U w0 [B eE (O.enc o) 86] w'):=by
 refine eN 14 (eY _) func149 ntmps149 results149 rfl λni w E=>?_;exact⟨ni,rfl,E⟩
theorem em6(hb:an w0 (N b) (O.enc (⟨eu,aI,eO,oz,oS,oF,cs⟩:oK)))(a:ex w0 oz.v ([]:List ec)):tS 218 #[x,N b] w0 (.tuple #[]):=by
 have:=ir hb;have:=aL a;refine eN 9 (eY _) func218 ntmps218 results218 rfl λw E=>?_;refine oL 40 (oc.step ?_);refine eA 2 E ?_;refine eU false 9 λw E=>?_;exact⟨rfl,E.ee⟩
theorem em7(e:ex w0 oz.v ([]:List ec))(e1:ex w0 oS.v ([]:List tr))(b:U ea S w0)(c:tP (hH p d) S):tS 64 #[.agg (O.enc (⟨eu,aI,eO,oz,oS,oF,cs⟩:oK)),N p] w0 (.tuple #[eF,i6 0]):=by
 refine jL (args:=[.agg (O.enc (⟨eu,aI,eO,oz,oS,oF,cs⟩:oK)),N p]) func64 rfl ntmps64 rfl ?_;have E:=eY w0;have m:=pq b c;replace E:=E.jR;refine oq.seq (λn f=>?_);refine oq.of λD a=>?_;refine eA 6 E λao t6 aW o w E=>?_;refine rT (f _ _ _ ?_);refine oq.seq (λq g=>?_);refine oq.of λD a=>?_;refine eA 3 E λw E=>?_;refine ev 5 E (em4 (b.es E.ee) c) λw E=>?_;refine rT (g _ _ _ ?_);refine oq.seq (λr i=>?_);refine oq.of λD a=>?_;refine eA 4 E λs w E=>?_;refine rT (i _ _ _ ?_);refine oq.seq (λt j=>?_);refine oq.seq (λu k=>?_);refine oq.of λD a=>?_;refine eA 2 E λw E=>?_;refine ev 1 E (em5) λl w E=>?_;refine rT (k _ _ _ ?_);replace E:=E.pick .a2;refine VM (oN:=[N l]) rfl rfl rfl E (λx y w E=>(em6 (E.tb .em) (e.es E.ee)).mono λ_ _ h=>h.2) (λz w E=>?_);refine rT (j _ _ _ ?_);refine oq.of λD a=>?_;have:=aL e1;refine eA 7 E ?_;refine eU false 13 λw E=>?_;refine jH results64 E (λw E=>?_);refine⟨_,(.cell (E.a6 .ej rfl) (.cell (E.a6 .Y rfl) .nil)),?_⟩;exact⟨rfl,E.ee⟩
theorem em8:tS 154 #[eF,i6 0] w0 eF:=by
 refine eN 9 (eY _) func154 ntmps154 results154 rfl ?_;refine eU false 10 λw E=>?_;refine et (Nl (α:=aZ) (n:=0) rfl (ex.nil _) rfl (ey 10 E ?_));refine eU false 13 λw E=>?_;exact⟨rfl,E.ee⟩
theorem em9:tS 66 #[eF] w0 eF:=by
 refine eN 19 (eY _) func66 ntmps66 results66 rfl λw E=>?_;refine oL 40 (oc.step ?_);refine eA 2 E ?_;refine eU false 12 λw E=>?_;refine ev 12 E (em8) λw E=>?_;refine oL 40 (oc.step ?_);refine eA 2 E ?_;refine eU false 17 λw E=>?_;exact⟨rfl,E.ee⟩
variable{V2:iL}{u v:ec}{c:Nat}
theorem efe:eJ 152 #[N p,eF] w0 (λu w'=>∃(eE:Nat)(tt:Nat),u= .func (.func 223) #[] #[N tt,N eE]/\U w0 [B tt #[eF] 185,B eE #[N p] 99] w'):=by
 refine eN 15 (eY _) func152 ntmps152 results152 rfl λao t6 w E=>?_;exact⟨ao,t6,rfl,E⟩
theorem eft(hb:an w0 (N b) #[eF]):tS 223 #[x,N b,N c] w0 (.tuple #[]):=by
 have:=ir hb;refine eN 8 (eY _) func223 ntmps223 results223 rfl λw E=>?_;refine oL 40 (oc.step ?_);refine eA 2 E ?_;refine eU false 9 λw E=>?_;exact⟨rfl,E.ee⟩
theorem efa(eC:U ea (iC p V2::S) w0):eJ 65 #[N p,eF] w0 (λu w'=>u= .tuple #[(ed.cut 0 0 0 (O.eo tr)).v,.int .u64 0,i6 0]/\U ea (iC p V2::S) w'):=by
 refine jL (args:=[N p,eF]) func65 rfl ntmps65 rfl ?_;have E:=eC;replace E:=E.jR;refine oq.seq (λj b=>?_);refine oq.of λD a=>?_;refine eA 5 E λaW k l w E=>?_;refine rT (b _ _ _ ?_);refine oq.scope ?_;refine oq.seq (λm c=>?_);refine xu λD a=>?_;refine eA 3 E λw E=>?_;refine ev 6 E (em1 (E.pick .e8)) ?_;refine eU false 4 λw E=>?_;refine zA ?_;refine rT (c _ _ _ ?_);refine oq.seq (λn d=>?_);refine oq.label ?_;refine rT (d _ _ _ ?_);refine oq.seq (λo e=>?_);refine oq.seq (λq f=>?_);refine oq.of λD a=>?_;refine eA 3 E λw E=>?_;refine ev 1 E (efe) λg i w E=>?_;refine rT (f _ _ _ ?_);replace E:=E.pick .a2;refine VM (oN:=[N i,N g]) rfl rfl rfl E (λr s w E=>(eft (E.tb .em)).mono λ_ _ h=>h.2) (λt w E=>?_);refine rT (e _ _ _ ?_);refine xu λD a=>?_;refine eA 1 E ?_;refine aC 3 7 (eX [2,3] (oA [0,1,4,5,6] .nil)) [6] λw E=>?_;refine o0 6 E (UD (v:=ed) (xs:=([])) (ex.nil _)) λw E=>?_;refine Lx ?_;refine emn ?_;refine jH results65 E (λw E=>?_);refine⟨_,(.cell (E.a6 .au rfl) (.cell (E.a6 .e8 rfl) (.cell (E.a6 .ej rfl) .nil))),?_⟩;exact⟨rfl,(tN [0,1,3,4,5] E)⟩
theorem efo(tG:ex w0 v.v ([]:List tr))(a:ex w0 u.v ([]:List tr)):tS 67 #[v.v,u.v,.func (.func 68) #[] #[]] w0 (.bool true):=by
 have:=aL tG;have:=aL a;refine eN 12 (eY _) func67 ntmps67 results67 rfl ?_;refine eU false 14 λw E=>?_;refine oL 40 (oc.step ?_);refine eA 2 E ?_;refine eU false 16 λw E=>?_;exact⟨rfl,E.ee⟩
theorem efi(tG:ex w0 v.v ([]:List tX))(a:ex w0 u.v ([]:List tX)):tS 69 #[v.v,u.v] w0 (.bool true):=by
 have:=aL tG;have:=aL a;refine eN 12 (eY _) func69 ntmps69 results69 rfl ?_;refine eU false 14 λw E=>?_;refine oL 40 (oc.step ?_);refine eA 2 E ?_;refine eU false 16 λw E=>?_;exact⟨rfl,E.ee⟩
theorem efn(c:ex w0 oz.v ([]:List ec))(e1:ex w0 oS.v ([]:List tr))(hb:ex w0 aI.v ([]:List tX))(ep:ex w0 eO.v ([]:List tX))(a:U ea S w0)(b:tP (hH p d) S):tS 20 #[.agg (O.enc (⟨0,aI,eO,oz,oS,0,cs⟩:oK)),N p] w0 (i6 0):=by
 have g:=pq a b;refine eN 10 (eY _) func20 ntmps20 results20 rfl λao w E=>?_;refine ev 11 E (em7 (c.es E.ee) (e1.es E.ee) (a.es E.ee) b) ?_;refine eU false 7 λw E=>?_;have:=aL hb;refine ev 13 E (YF) λh e w E=>?_;refine oL 40 (oc.step ?_);refine eA 2 E ?_;refine eU false 13 λw E=>?_;refine ev 0 E (em9) λw E=>?_;refine ev 11 E (efa (E.pick .em)) ?_;refine aC 1 23 (eX [0,1,2,3,4,5,6,7,8,9,10,11] (.one 12 (eX [13,14,15,16,18,19] (oA [17,20] (eX [21,22] .nil))))) [] λw E=>?_;refine bz false 4 E λw E=>?_;refine bz false 5 E λw E=>?_;refine o0 6 E (efo (s5 (ys:=([]:List tr)) (ex.nil (α:=tr) _) (by simp) (by simp) (by simp) (by exact Nat.zero_le _) (by simp)) (e1.es E.ee)) λw E=>?_;refine o0 0 E (em2 (E.pick .em)) λf w E=>?_;refine o0 14 E (efi (E.eu .em) (ep.es E.ee)) λw E=>?_;exact⟨rfl,E.ee⟩
variable{HL:List aR}{L:List tX}{oG ih tk d fH up pL pD pC oO tI tg yM eP ti eM eW ar:Nat}{tY th eZ:ec}{c:rj}{co tf aT:Value}{ox:sa}{ab:i9}
def cy:rj:=⟨[⟨4607182418800017408⟩],1,1,1,1,0,0,0,0,0⟩
theorem Kh:lg cy:=by constructor<;>decide
theorem fx.nil(h:fx D L)(a:D.eI=[]):L=[]:=by
 unfold fx at h;rw[a]at h;exact List.Perm.eq_nil h
theorem efx(w:ex w0 (ta fH 1 1) ([⟨4607182418800017408⟩]:List lX))(e1:ex w0 (ta up 1 1) ([true]:List Bool)):eJ 7 #[.agg #[ta fH 1 1,i6 1,i6 1,i6 1,i6 1,.int .u64 0,.int .u64 0,.int .u64 0,.int .u64 0,i6 0,ta up 1 1],eF] w0 (λu w'=>∃(eE:ec)(tt:ec)(tC:Nat)(ap:nl)(aD:Nat)(o8:nG)(iF:Nat)(nK:Nat)(sE:Nat)(rR:Nat)(lr:ec)(dc:ec)(ct:Nat)(cx:Nat)(m:Nat)(n:Nat)(b:Nat)(d:Nat)(o:Nat)(p:Nat)(e:Nat)(q:i9)(a:Nat)(f:Nat)(g:Nat)(r:dl)(h:Nat)(tY:ec)(i:Nat)(j:ec)(k:Nat)(s:sa)(l:Nat),u= .tuple #[N h,i6 0]/\U w0 [B l #[N a,N tC,N aD,N k,.bool false,eF,eF,.int .u64 0] 302,rn k s cy.oN cy.nM cy.t8,V j.v 64 ([]:List tX),iC a (⟨f,[]⟩:iL),B h #[N sE,N i,N a,N g,N l,j.v,.int .u64 0,ef cy.mf,eF,eF] 105,aN sE eE tt cy b d e tC aD (ta iF cy.eg.length cy.eg.length) (ta nK cy.eg.length cy.eg.length),B b #[N rR,N cx] 259,a7 rR lr dc cy.room none,B i #[N sE,tY.v] 208,V tY.v 407 (List.replicate cy.eg.length (⟨0,ed⟩:aR)),hH g r,sj e q cy.eg.length none,n2 d cy.eg.length o p [] [],uO cx m n ct,it aD o8 [],o3 tC ap [],V (ta iF cy.eg.length cy.eg.length) 3 (List.replicate cy.eg.length (⟨0⟩:eL)),V (ta nK cy.eg.length cy.eg.length) 23 (List.replicate cy.eg.length (⟨0⟩:aa))] w'):=by
 refine(V4 (w0:=w0) (c:=cy) (eZ:=⟨some ⟨fH,0,none⟩,1,1⟩) (th:=⟨some ⟨up,0,none⟩,1,1⟩) (ac:=ed) (L:=[]) Kh w e1 (ex.nil _) (by simp)).mono ?_;rintro u w' ⟨eE,tt,tC,ap,aD,o8,iF,nK,sE,rR,lr,dc,ct,cx,m,n,b,d,o,p,e,q,a,f,g,r,h,x,i,j,t,k,s,l,rfl,E⟩;have G:fx (l4 (⟨f,[]⟩:iL) []) t:=E.b9 .Y;obtain rfl:t=[]:=G.nil rfl;exact⟨eE,tt,tC,ap,aD,o8,iF,nK,sE,rR,lr,dc,ct,cx,m,n,b,d,o,p,e,q,a,f,g,r,h,⟨some ⟨x,0,none⟩,cy.eg.length,cy.eg.length⟩,i,j,k,s,l,rfl,tN [2] E⟩
theorem efj(a:lg c)(e:HL.length=c.eg.length)(f:∀j(h:j<HL.length),HL[j].phase=0)(eC:U ea (B ti #[N d,N tk,N eW,N ar,N oG,aI.v,ef eu,ef oO,aT,eF] 105::B tk #[N d,tY.v] 208::aN d eZ th c b tI tg eP eM tf co::V tY.v 407 HL::sj tg ab c.eg.length none::iC eW (⟨yM,[]⟩:iL)::B oG #[N eW,N eP,N eM,N ih,.bool false,eF,eF,.int .u64 0] 302::rn ih ox pL pD pC::S) w0):eJ 16 #[N ti] w0 (λu w'=>∃(eE:ec)(tC:ec),u=i6 0/\U ea (V tC.v 86 [(⟨eu,aI,eE,(ed.cut 0 0 0 (O.eo ec)),(ed.cut 0 0 0 (O.eo tr)),0,0⟩:oK)]::V eE.v 64 ([]:List tX)::iC eW (⟨yM,[]⟩:iL)::B ti #[N d,N tk,N eW,N ar,.pointer none,eF,ef eu,ef oO,aT,tC.v] 105::B tk #[N d,tY.v] 208::aN d eZ th c b tI tg eP eM tf co::V tY.v 407 HL::sj tg ab c.eg.length none::B oG #[N eW,N eP,N eM,N ih,.bool true,eF,eF,.int .u64 0] 302::rn ih ox pL pD pC::S) w'):=by
 refine(eff a (by simp) e f eC).mono ?_;rintro u w' ⟨eE,tt,tC,rfl,E⟩;have G:fx (⟨yM,[]⟩:iL) tt:=E.b9 .G;obtain rfl:tt=[]:=G.nil rfl;exact⟨eE,tC,rfl,tN [1] E⟩
theorem vi:tS 6 #[] w0 (.bool true):=by
 refine eN 7 (eY _) func6 ntmps6 results6 rfl λw E=>?_;refine rF 0 E (nB ([⟨4607182418800017408⟩]:List lX)) λg w E=>?_;refine rF 0 E (nB ([true]:List Bool)) λk w E=>?_;refine et (zT (c:=[ta g 1 1,i6 1,i6 1,i6 1,i6 1,.int .u64 0,.int .u64 0,.int .u64 0,.int .u64 0,i6 0,ta k 1 1]) [(0,ta g 1 1),(1,i6 1),(2,i6 1),(3,i6 1),(4,i6 1),(8,ta k 1 1)] rfl (by exact hT ⟨by decide,rfl,by decide,rfl,by decide,rfl,by decide,rfl,by decide,rfl,by decide,rfl,trivial⟩) rfl (ev 11 E (efx (E.eu .G) (E.eu .em)) λb7 l m o p q r s t u x y z A B C D F H I K L M N P Q R S T V W X Z=>?_));refine eU false 2 λw E=>?_;refine ev 0 E (Ti (E.tb .e8) (E.tb .em)) ?_;refine eU false 3 λw E=>?_;refine ev 0 E (efj Kh (by first|omega|simp) (λj h=>by rw[List.getElem_replicate]) (Pi [1,1,3,11,10,7,10,8] E)) λRI evw=>?_;refine eU false 9 λw E=>?_;refine ev 4 E (emZ (E.tb .ej) (E.eu .em) (E.eu .hh) (E.eu .G) (by first|omega|simp) (by first|omega|simp) (s5 (ys:=([]:List ec)) (ex.nil (α:=ec) _) (by simp) (by simp) (by simp) (by exact Nat.zero_le _) (by simp)) (s5 (ys:=([]:List tr)) (ex.nil (α:=tr) _) (by simp) (by simp) (by simp) (by exact Nat.zero_le _) (by simp))) λf b d a e=>?_;refine aC 1 20 (eX [0,1,2,3,4,5,6,7,8,9,10,11,12,13,14] (oA [15,16] (eX [17,18,19] .nil))) [] λw E=>?_;refine tl rfl (λw E=>c6 (n:=1) (v:=((tE f 1 1).cut 0 1 1 (O.eo oK)).v) (xs:=[(⟨0,(b.cut 0 0 0 (O.eo tX)),(d.cut 0 0 0 (O.eo tX)),(tE a 0 0),(tE e 0 0),0,0⟩:oK)]) rfl (s5 (ys:=[(⟨0,(b.cut 0 0 0 (O.eo tX)),(d.cut 0 0 0 (O.eo tX)),(tE a 0 0),(tE e 0 0),0,0⟩:oK)]) (E.eu .e8) (by simp) (by simp) (by simp) (by exact(E.eu .e8).cap) (by simp)) rfl eG) (bz true 2 E λw E=>?_);refine cE 28 rfl rfl rfl rfl rfl rfl (λw E=>(by have E:U w0 _ w:=E;exact nX (α:=oK) (v:=((tE f 1 1).cut 0 1 1 (O.eo oK)).v) (xs:=[(⟨0,(b.cut 0 0 0 (O.eo tX)),(d.cut 0 0 0 (O.eo tX)),(tE a 0 0),(tE e 0 0),0,0⟩:oK)]) (i:=0) rfl (s5 (ys:=[(⟨0,(b.cut 0 0 0 (O.eo tX)),(d.cut 0 0 0 (O.eo tX)),(tE a 0 0),(tE e 0 0),0,0⟩:oK)]) (E.eu .e8) (by simp) (by simp) (by simp) (by exact(E.eu .e8).cap) (by simp)) rfl aj ⟨rfl,rfl⟩)) ?_;refine cE 28 rfl rfl rfl rfl rfl rfl (λw E=>(by have E:U w0 _ w:=E;exact J.fieldAddr rfl ((show ex _ (((tE f 1 1).cut 0 1 1 (O.eo oK)).v) [(⟨0,(b.cut 0 0 0 (O.eo tX)),(d.cut 0 0 0 (O.eo tX)),(tE a 0 0),(tE e 0 0),0,0⟩:oK)]from(s5 (ys:=[(⟨0,(b.cut 0 0 0 (O.eo tX)),(d.cut 0 0 0 (O.eo tX)),(tE a 0 0),(tE e 0 0),0,0⟩:oK)]) (E.eu .e8) (by simp) (by simp) (by simp) (by exact(E.eu .e8).cap) (by simp))).sY (show 0<[(⟨0,(b.cut 0 0 0 (O.eo tX)),(d.cut 0 0 0 (O.eo tX)),(tE a 0 0),(tE e 0 0),0,0⟩:oK)].length from aj)) ⟨rfl,rfl⟩)) ?_;refine mR 1 E (hA (v:=ta a 0 0) λw E=>ud ((show ex _ (((tE f 1 1).cut 0 1 1 (O.eo oK)).v) [(⟨0,(b.cut 0 0 0 (O.eo tX)),(d.cut 0 0 0 (O.eo tX)),(tE a 0 0),(tE e 0 0),0,0⟩:oK)]from(s5 (ys:=[(⟨0,(b.cut 0 0 0 (O.eo tX)),(d.cut 0 0 0 (O.eo tX)),(tE a 0 0),(tE e 0 0),0,0⟩:oK)]) (E.eu .e8) (by simp) (by simp) (by simp) (by exact(E.eu .e8).cap) (by simp))).sm (show 0<[(⟨0,(b.cut 0 0 0 (O.eo tX)),(d.cut 0 0 0 (O.eo tX)),(tE a 0 0),(tE e 0 0),0,0⟩:oK)].length from aj)) 3 (emS _)) λw E=>?_;refine bz true 3 E λw E=>?_;refine cE 36 rfl rfl rfl rfl rfl rfl (λw E=>(by have E:U w0 _ w:=E;exact nX (α:=oK) (v:=((tE f 1 1).cut 0 1 1 (O.eo oK)).v) (xs:=[(⟨0,(b.cut 0 0 0 (O.eo tX)),(d.cut 0 0 0 (O.eo tX)),(tE a 0 0),(tE e 0 0),0,0⟩:oK)]) (i:=0) rfl (s5 (ys:=[(⟨0,(b.cut 0 0 0 (O.eo tX)),(d.cut 0 0 0 (O.eo tX)),(tE a 0 0),(tE e 0 0),0,0⟩:oK)]) (E.eu .e8) (by simp) (by simp) (by simp) (by exact(E.eu .e8).cap) (by simp)) rfl aj ⟨rfl,rfl⟩)) ?_;refine mR 0 E (hA (v:=.agg (O.enc (⟨0,(b.cut 0 0 0 (O.eo tX)),(d.cut 0 0 0 (O.eo tX)),(tE a 0 0),(tE e 0 0),0,0⟩:oK))) λw E=>((show ex _ (((tE f 1 1).cut 0 1 1 (O.eo oK)).v) [(⟨0,(b.cut 0 0 0 (O.eo tX)),(d.cut 0 0 0 (O.eo tX)),(tE a 0 0),(tE e 0 0),0,0⟩:oK)]from(s5 (ys:=[(⟨0,(b.cut 0 0 0 (O.eo tX)),(d.cut 0 0 0 (O.eo tX)),(tE a 0 0),(tE e 0 0),0,0⟩:oK)]) (E.eu .e8) (by simp) (by simp) (by simp) (by exact(E.eu .e8).cap) (by simp))).sm (show 0<[(⟨0,(b.cut 0 0 0 (O.eo tX)),(d.cut 0 0 0 (O.eo tX)),(tE a 0 0),(tE e 0 0),0,0⟩:oK)].length from aj)).n5 (O.ez _)) λw E=>?_;refine o0 0 E (EN) λevy evb w E=>?_;refine o0 0 E (efn (E.eu .Y) (E.eu .G) (s5 (ys:=([]:List tX)) (E.eu .e8) (by simp) (by simp) (by simp) (by exact(E.eu .e8).cap) (by simp)) (s5 (ys:=([]:List tX)) (E.eu .ej) (by simp) (by simp) (by simp) (by exact(E.eu .ej).cap) (by simp)) E .em) λw E=>?_;refine bz true 6 E λw E=>?_;exact⟨rfl,E.ee⟩
variable{ac:ec}{iV nR sz sR sO:Int}{hy n6 hv hQ:Nat}{eg:List lX}
theorem efq(a:ex w0 eZ.v eg)(e1:ex w0 th.v ([true]:List Bool))(hb:¬(1<=(eg.length:Int)/\(eg.length:Int)<=64)):tS 70 #[.agg #[eZ.v,.int .i64 iV,.int .i64 nR,.int .i64 sz,.int .i64 sR,ef hy,ef n6,ef hv,ef hQ,.int .i64 sO,th.v]] w0 (i6 1):=by
 have:=aL a;refine eN 18 (eY _) func70 ntmps70 results70 rfl λni w E=>?_;refine ev 51 E (OI hb) λw E=>?_;exact⟨rfl,E.ee⟩
theorem efz(a:ex w0 eZ.v eg)(e1:ex w0 th.v ([true]:List Bool))(b:1<=(eg.length:Int))(c:(eg.length:Int)<=64)(hb:¬(1<=iV/\iV<=4096)):tS 70 #[.agg #[eZ.v,.int .i64 iV,.int .i64 nR,.int .i64 sz,.int .i64 sR,ef hy,ef n6,ef hv,ef hQ,.int .i64 sO,th.v]] w0 (i6 1):=by
 have:=aL a;refine eN 18 (eY _) func70 ntmps70 results70 rfl λni w E=>?_;refine ev 5 E (uD b c) λw E=>?_;refine ev 45 E (OI hb) λw E=>?_;exact⟨rfl,E.ee⟩
theorem efE(a:ex w0 eZ.v eg)(e1:ex w0 th.v ([true]:List Bool))(b:1<=(eg.length:Int))(c:(eg.length:Int)<=64)(d:1<=iV)(e:iV<=4096)(hb:¬(1<=nR/\nR<=256)):tS 70 #[.agg #[eZ.v,.int .i64 iV,.int .i64 nR,.int .i64 sz,.int .i64 sR,ef hy,ef n6,ef hv,ef hQ,.int .i64 sO,th.v]] w0 (i6 1):=by
 have:=aL a;refine eN 18 (eY _) func70 ntmps70 results70 rfl λni w E=>?_;refine ev 5 E (uD b c) λw E=>?_;refine ev 6 E (uD d e) λw E=>?_;refine ev 38 E (OI hb) λw E=>?_;exact⟨rfl,E.ee⟩
theorem efT(a:ex w0 eZ.v eg)(e1:ex w0 th.v ([true]:List Bool))(b:1<=(eg.length:Int))(c:(eg.length:Int)<=64)(d:1<=iV)(e:iV<=4096)(f:1<=nR)(g:nR<=256)(hb:¬(1<=sz/\sz<=64)):tS 70 #[.agg #[eZ.v,.int .i64 iV,.int .i64 nR,.int .i64 sz,.int .i64 sR,ef hy,ef n6,ef hv,ef hQ,.int .i64 sO,th.v]] w0 (i6 1):=by
 have:=aL a;refine eN 18 (eY _) func70 ntmps70 results70 rfl λni w E=>?_;refine ev 5 E (uD b c) λw E=>?_;refine ev 6 E (uD d e) λw E=>?_;refine ev 6 E (uD f g) λw E=>?_;refine ev 31 E (OI hb) λw E=>?_;exact⟨rfl,E.ee⟩
theorem efA(a:ex w0 eZ.v eg)(e1:ex w0 th.v ([true]:List Bool))(b:1<=(eg.length:Int))(c:(eg.length:Int)<=64)(d:1<=iV)(e:iV<=4096)(f:1<=nR)(g:nR<=256)(h:1<=sz)(i:sz<=64)(hb:¬(1<=sR/\sR<=256)):tS 70 #[.agg #[eZ.v,.int .i64 iV,.int .i64 nR,.int .i64 sz,.int .i64 sR,ef hy,ef n6,ef hv,ef hQ,.int .i64 sO,th.v]] w0 (i6 1):=by
 have:=aL a;refine eN 18 (eY _) func70 ntmps70 results70 rfl λni w E=>?_;refine ev 5 E (uD b c) λw E=>?_;refine ev 6 E (uD d e) λw E=>?_;refine ev 6 E (uD f g) λw E=>?_;refine ev 6 E (uD h i) λw E=>?_;refine ev 24 E (OI hb) λw E=>?_;exact⟨rfl,E.ee⟩
theorem efO(c:ex w0 eZ.v eg)(e1:ex w0 th.v ([true]:List Bool))(d:1<=(eg.length:Int))(e:(eg.length:Int)<=64)(f:1<=iV)(g:iV<=4096)(h:1<=nR)(i:nR<=256)(j:1<=sz)(k:sz<=64)(a:1<=sR)(b:sR<=256)(hb:sO<0):tS 70 #[.agg #[eZ.v,.int .i64 iV,.int .i64 nR,.int .i64 sz,.int .i64 sR,ef hy,ef n6,ef hv,ef hQ,.int .i64 sO,th.v]] w0 (i6 1):=by
 have:=aL c;refine eN 18 (eY _) func70 ntmps70 results70 rfl λni w E=>?_;refine ev 5 E (uD d e) λw E=>?_;refine ev 6 E (uD f g) λw E=>?_;refine ev 6 E (uD h i) λw E=>?_;refine ev 6 E (uD j k) λw E=>?_;refine ev 5 E (uD a b) ?_;refine eU true 18 λw E=>?_;exact⟨rfl,E.ee⟩
theorem efS(a:ex w0 eZ.v eg)(e1:ex w0 th.v ([true]:List Bool))(b:¬((1<=(eg.length:Int)/\(eg.length:Int)<=64)/\(1<=iV/\iV<=4096)/\(1<=nR/\nR<=256)/\(1<=sz/\sz<=64)/\(1<=sR/\sR<=256)/\0<=sO)):tS 70 #[.agg #[eZ.v,.int .i64 iV,.int .i64 nR,.int .i64 sz,.int .i64 sR,ef hy,ef n6,ef hv,ef hQ,.int .i64 sO,th.v]] w0 (i6 1):=by
 by_cases em:1<=(eg.length:Int)/\(eg.length:Int)<=64;rotate_left
 .exact efq a e1 em
 by_cases G:1<=iV/\iV<=4096;rotate_left
 .exact efz a e1 em.1 em.2 G
 by_cases Y:1<=nR/\nR<=256;rotate_left
 .exact efE a e1 em.1 em.2 G.1 G.2 Y
 by_cases ej:1<=sz/\sz<=64;rotate_left
 .exact efT a e1 em.1 em.2 G.1 G.2 Y.1 Y.2 ej
 by_cases e8:1<=sR/\sR<=256;rotate_left
 .exact efA a e1 em.1 em.2 G.1 G.2 Y.1 Y.2 ej.1 ej.2 e8
 exact efO a e1 em.1 em.2 G.1 G.2 Y.1 Y.2 ej.1 ej.2 e8.1 e8.2 (Int.not_le.1 λh=>b ⟨em,G,Y,ej,e8,h⟩)
theorem efR(a:ex w0 eZ.v eg)(e1:ex w0 th.v ([true]:List Bool))(b:¬((1<=(eg.length:Int)/\(eg.length:Int)<=64)/\(1<=iV/\iV<=4096)/\(1<=nR/\nR<=256)/\(1<=sz/\sz<=64)/\(1<=sR/\sR<=256)/\0<=sO)):tS 21 #[.agg #[eZ.v,.int .i64 iV,.int .i64 nR,.int .i64 sz,.int .i64 sR,ef hy,ef n6,ef hv,ef hQ,.int .i64 sO,th.v]] w0 (.tuple #[.pointer none,i6 1]):=by
 refine eN 11 (eY _) func21 ntmps21 results21 rfl λni w E=>?_;refine ev 6 E (efS (a.es E.ee) (e1.es E.ee) b) ?_;refine eU true 13 λw E=>?_;exact⟨rfl,E.ee⟩
theorem efH(a:ex w0 eZ.v eg)(e1:ex w0 th.v ([true]:List Bool))(b:¬((1<=(eg.length:Int)/\(eg.length:Int)<=64)/\(1<=iV/\iV<=4096)/\(1<=nR/\nR<=256)/\(1<=sz/\sz<=64)/\(1<=sR/\sR<=256)/\0<=sO)):tS 7 #[.agg #[eZ.v,.int .i64 iV,.int .i64 nR,.int .i64 sz,.int .i64 sR,ef hy,ef n6,ef hv,ef hQ,.int .i64 sO,th.v],ac.v] w0 (.tuple #[.pointer none,i6 1]):=by
 refine eN 10 (eY _) func7 ntmps7 results7 rfl λao w E=>?_;refine ev 11 E (efR (a.es E.ee) (e1.es E.ee) b) ?_;refine eU true 13 λw E=>?_;exact⟨rfl,E.ee⟩
variable{os:List Bool}
theorem efL(a:ex w0 eZ.v eg)(e1:ex w0 th.v os)(eB:ex w0 ac.v L)(b:64<eg.length):tS 5 #[.agg #[eZ.v,.int .i64 iV,.int .i64 nR,.int .i64 sz,.int .i64 sR,ef hy,ef n6,ef hv,ef hQ,.int .i64 sO,th.v],ac.v,eF] w0 (.bool true):=by
 have:=aL a;refine eN 12 (eY _) func5 ntmps5 results5 rfl λt6=>?_;refine eU true 32 λw E=>?_;exact⟨rfl,E.ee⟩
theorem efD(a:ex w0 eZ.v eg)(e1:ex w0 th.v os)(eB:ex w0 ac.v L)(b:eg.length<=64)(c:100<os.length):tS 5 #[.agg #[eZ.v,.int .i64 iV,.int .i64 nR,.int .i64 sz,.int .i64 sR,ef hy,ef n6,ef hv,ef hQ,.int .i64 sO,th.v],ac.v,eF] w0 (.bool true):=by
 have:=aL a;refine eN 12 (eY _) func5 ntmps5 results5 rfl λt6=>?_;have:=aL e1;refine eU false 4 ?_;refine eU true 27 λw E=>?_;exact⟨rfl,E.ee⟩
theorem efC(a:ex w0 eZ.v eg)(e1:ex w0 th.v os)(eB:ex w0 ac.v L)(b:eg.length<=64)(c:os.length<=100)(d:1000<sO):tS 5 #[.agg #[eZ.v,.int .i64 iV,.int .i64 nR,.int .i64 sz,.int .i64 sR,ef hy,ef n6,ef hv,ef hQ,.int .i64 sO,th.v],ac.v,eF] w0 (.bool true):=by
 have:=aL a;refine eN 12 (eY _) func5 ntmps5 results5 rfl λt6=>?_;have:=aL e1;refine eU false 4 ?_;refine eU false 4 ?_;refine eU true 22 λw E=>?_;exact⟨rfl,E.ee⟩
theorem efU(a:ex w0 eZ.v eg)(e1:ex w0 th.v os)(eB:ex w0 ac.v L)(b:eg.length<=64)(c:os.length<=100)(d:sO<=1000)(e:200<L.length):tS 5 #[.agg #[eZ.v,.int .i64 iV,.int .i64 nR,.int .i64 sz,.int .i64 sR,ef hy,ef n6,ef hv,ef hQ,.int .i64 sO,th.v],ac.v,eF] w0 (.bool true):=by
 have:=aL a;refine eN 12 (eY _) func5 ntmps5 results5 rfl λt6=>?_;have:=aL e1;refine eU false 4 ?_;refine eU false 4 ?_;have:=aL eB;refine eU false 4 ?_;refine eU true 17 λw E=>?_;exact⟨rfl,E.ee⟩
theorem efM(a:ex w0 eZ.v eg)(e1:ex w0 th.v os)(eB:ex w0 ac.v L)(b:eg.length<=64)(c:os.length<=100)(d:sO<=1000)(e:L.length<=200):tS 5 #[.agg #[eZ.v,.int .i64 iV,.int .i64 nR,.int .i64 sz,.int .i64 sR,ef hy,ef n6,ef hv,ef hQ,.int .i64 sO,th.v],ac.v,eF] w0 (.bool false):=by
 have:=aL a;refine eN 12 (eY _) func5 ntmps5 results5 rfl λt6=>?_;have:=aL e1;refine eU false 4 ?_;refine eU false 4 ?_;have:=aL eB;refine eU false 4 ?_;refine eU false 4 ?_;refine eU false 18 λw E=>?_;refine oL 40 (oc.step ?_);refine eA 6 E ?_;refine eU false 11 ?_;refine eU false 5 λw E=>?_;exact⟨rfl,E.ee⟩
theorem efF(a:ex w0 eZ.v eg)(e1:ex w0 th.v os)(eB:ex w0 ac.v L)(b:¬(eg.length<=64/\os.length<=100/\sO<=1000/\L.length<=200)):tS 5 #[.agg #[eZ.v,.int .i64 iV,.int .i64 nR,.int .i64 sz,.int .i64 sR,ef hy,ef n6,ef hv,ef hQ,.int .i64 sO,th.v],ac.v,eF] w0 (.bool true):=by
 by_cases em:eg.length<=64;rotate_left
 .exact efL a e1 eB (by omega)
 by_cases G:os.length<=100;rotate_left
 .exact efD a e1 eB em (by omega)
 by_cases Y:sO<=1000;rotate_left
 .exact efC a e1 eB em G (by omega)
 by_cases ej:L.length<=200;rotate_left
 .exact efU a e1 eB em G Y (by omega)
 exact absurd ⟨em,G,Y,ej⟩ b
variable{d:dl}{oD:ec}{xs:List UInt8}
theorem efP(h:(nA xs).2=0/\lF (nA xs).1=0/\(nA xs).1.m.nF=[]):nA xs=((nA xs).1,0)/\lF (nA xs).1=0/\(nA xs).1.m.nF=[]:=⟨by rw[<-h.1],h.2⟩
theorem efG(hb:ex w0 oD.v xs)(o2:xs.length<=100000)(c:¬((nA xs).2=0/\lF (nA xs).1=0/\(nA xs).1.m.nF=[]))(a:U ea S w0)(b:tP (hH p d) S):eJ 8 #[oD.v,N p] w0 (λu w'=>∃(r:aZ)(e:Int),u= .tuple #[.agg (O.enc r),.int .i64 e]/\U w0 [nn (e≠0)] w'):=by
 have key:∀(r:aZ)(e:Int)(u:Value)(w':World),e≠0->u= .tuple #[.agg (O.enc r),.int .i64 e]/\eV w0 w'->∃(r:aZ)(e:Int),u= .tuple #[.agg (O.enc r),.int .i64 e]/\U w0 [nn (e≠0)] w':=
  λr e u w' f h=>⟨r,e,h.1,((eY w0).es h.2).pure f⟩
 by_cases G:(nA xs).2=0
 .have o4:nA xs=((nA xs).1,0):=by rw[<-G]
  by_cases Y:lF (nA xs).1=0
  .have ej:(nA xs).1.m.nF≠[]:=λh=>c ⟨G,Y,h⟩;exact(enp hb o2 o4 Y ej a b).mono λu w' h=>key _ _ u w' (by decide) h
  exact(enf hb o2 o4 rfl Y a b).mono λu w' h=>key _ _ u w' Y h
 exact(enm hb o2 rfl G a b).mono λu w' h=>key _ _ u w' G h
theorem Kl(x:lg c)(y:c.oN=1099511627776)(z:c.nM=1099511627776)(A:c.t8=1099511627776)(C:ex w0 eZ.v c.eg)(e1:ex w0 (ta up 1 1) ([true]:List Bool))(eB:ex w0 ac.v L)(D:L.length<=100000):eJ 7 #[.agg #[eZ.v,i6 c.room,i6 c.cm,i6 c.cf,i6 c.cp,.int .u64 1099511627776,.int .u64 1099511627776,.int .u64 1099511627776,ef c.mf,i6 c.dk,ta up 1 1],ac.v] w0 (λu w'=>∃(eE:ec)(tt:ec)(tC:Nat)(ap:nl)(aD:Nat)(o8:nG)(iF:Nat)(nK:Nat)(sE:Nat)(rR:Nat)(lr:ec)(dc:ec)(ct:Nat)(cx:Nat)(o:Nat)(p:Nat)(b:Nat)(d:Nat)(q:Nat)(r:Nat)(e:Nat)(s:i9)(a:Nat)(f:Nat)(g:Nat)(t:dl)(i:Nat)(tY:ec)(j:Nat)(k:ec)(l:(List tX))(m:Nat)(w:sa)(n:Nat),u= .tuple #[N i,i6 0]/\U w0 [B n #[N a,N tC,N aD,N m,.bool false,eF,eF,.int .u64 0] 302,rn m w 1099511627776 1099511627776 1099511627776,nn (fx (l4 (⟨f,[]⟩:iL) L) l),V k.v 64 l,iC a (l4 (⟨f,[]⟩:iL) L),B i #[N sE,N j,N a,N g,N n,k.v,.int .u64 0,ef c.mf,eF,eF] 105,aN sE eE tt c b d e tC aD (ta iF c.eg.length c.eg.length) (ta nK c.eg.length c.eg.length),B b #[N rR,N cx] 259,a7 rR lr dc c.room none,B j #[N sE,tY.v] 208,V tY.v 407 (List.replicate c.eg.length (⟨0,ed⟩:aR)),hH g t,sj e s c.eg.length none,n2 d c.eg.length q r [] [],uO cx o p ct,it aD o8 [],o3 tC ap [],V (ta iF c.eg.length c.eg.length) 3 (List.replicate c.eg.length (⟨0⟩:eL)),V (ta nK c.eg.length c.eg.length) 23 (List.replicate c.eg.length (⟨0⟩:aa))] w'):=by
 have h:=V4 (w0:=w0) (c:=c) (eZ:=eZ) (th:=⟨some ⟨up,0,none⟩,1,1⟩) (ac:=ac) (L:=L) x C e1 eB D;rw[y,z,A]at h;refine h.mono ?_;rintro u w' ⟨eE,tt,tC,ap,aD,o8,iF,nK,sE,rR,lr,dc,ct,cx,o,p,b,d,q,r,e,s,a,f,g,t,i,F,j,k,l,m,w,n,rfl,E⟩;exact⟨eE,tt,tC,ap,aD,o8,iF,nK,sE,rR,lr,dc,ct,cx,o,p,b,d,q,r,e,s,a,f,g,t,i,⟨some ⟨F,0,none⟩,c.eg.length,c.eg.length⟩,j,k,l,m,w,n,rfl,E⟩
theorem efW(a:ex w0 eZ.v eg)(e1:ex w0 (ta up 1 1) ([true]:List Bool))(b:¬((1<=(eg.length:Int)/\(eg.length:Int)<=64)/\(1<=iV/\iV<=4096)/\(1<=nR/\nR<=256)/\(1<=sz/\sz<=64)/\(1<=sR/\sR<=256)/\0<=sO)):eJ 7 #[.agg #[eZ.v,.int .i64 iV,.int .i64 nR,.int .i64 sz,.int .i64 sR,ef hy,ef n6,ef hv,ef hQ,.int .i64 sO,ta up 1 1],ac.v] w0 (λu w'=>u= .tuple #[.pointer none,i6 1]/\eV w0 w'):=
 efH (w0:=w0) (eZ:=eZ) (th:=⟨some ⟨up,0,none⟩,1,1⟩) (eg:=eg) (iV:=iV) (nR:=nR) (sz:=sz) (sR:=sR) (sO:=sO) (hy:=hy) (n6:=n6) (hv:=hv) (hQ:=hQ) (ac:=ac) a e1 b
variable{pt:UInt8}
theorem efV(a:ex w0 eZ.v eg)(e1:ex w0 th.v os)(b:¬(eg.length<=64/\os.length<=100/\sO<=1000)):eJ 5 #[.agg #[eZ.v,.int .i64 iV,.int .i64 nR,.int .i64 sz,.int .i64 sR,ef hy,ef n6,ef hv,ef hQ,.int .i64 sO,th.v],eF,eF] w0 (λu w'=>u= .bool true/\eV w0 w'):=
 efF (w0:=w0) (eZ:=eZ) (th:=th) (ac:=ed) (eg:=eg) (os:=os) (L:=[]) (iV:=iV) (nR:=nR) (sz:=sz) (sR:=sR) (sO:=sO) (hy:=hy) (n6:=n6) (hv:=hv) (hQ:=hQ) a e1 (ex.nil _) (λh=>b ⟨h.1,h.2.1,h.2.2.1⟩)
theorem OJ(a:ex w0 eZ.v eg)(e1:ex w0 th.v os)(b:eg.length<=64)(c:os.length<=100)(d:sO<=1000):eJ 5 #[.agg #[eZ.v,.int .i64 iV,.int .i64 nR,.int .i64 sz,.int .i64 sR,ef hy,ef n6,ef hv,ef hQ,.int .i64 sO,th.v],eF,eF] w0 (λu w'=>u= .bool false/\eV w0 w'):=
 efM (w0:=w0) (eZ:=eZ) (th:=th) (ac:=ed) (eg:=eg) (os:=os) (L:=[]) (iV:=iV) (nR:=nR) (sz:=sz) (sR:=sR) (sO:=sO) (hy:=hy) (n6:=n6) (hv:=hv) (hQ:=hQ) a e1 (ex.nil _) b c d (Nat.zero_le _)
theorem efK(a:ex w0 eZ.v eg)(e1:ex w0 th.v os)(hb:ex w0 oD.v xs)(b:¬(eg.length<=64/\os.length<=100/\sO<=1000)):tS 4 #[.agg #[eZ.v,.int .i64 iV,.int .i64 nR,.int .i64 sz,.int .i64 sR,ef hy,ef n6,ef hv,ef hQ,.int .i64 sO,th.v],oD.v,.int .u8 (pt.toNat:Int)] w0 (.bool true):=by
 refine eN 10 (eY _) func4 ntmps4 results4 rfl λt6 w E=>?_;refine ev 10 E (efV (a.es E.ee) (e1.es E.ee) b) λw E=>?_;refine ev 6 E (vi) λw E=>?_;exact⟨rfl,E.ee⟩
theorem efX(a:ex w0 eZ.v eg)(e1:ex w0 th.v os)(hb:ex w0 oD.v xs)(b:eg.length<=64)(c:os.length<=100)(d:sO<=1000)(e:1300<xs.length):tS 4 #[.agg #[eZ.v,.int .i64 iV,.int .i64 nR,.int .i64 sz,.int .i64 sR,ef hy,ef n6,ef hv,ef hQ,.int .i64 sO,th.v],oD.v,.int .u8 (pt.toNat:Int)] w0 (.bool true):=by
 refine eN 10 (eY _) func4 ntmps4 results4 rfl λt6 w E=>?_;have:=aL hb;refine ev 3 E (OJ (a.es E.ee) (e1.es E.ee) b c d) ?_;refine eU true 6 λw E=>?_;refine ev 6 E (vi) λw E=>?_;exact⟨rfl,E.ee⟩
theorem efJ(a:ex w0 eZ.v eg)(e1:ex w0 th.v os)(hb:ex w0 oD.v xs)(b:eg.length<=64)(c:os.length<=100)(d:sO<=1000)(o2:xs.length<=1300)(e:¬((nA xs).2=0/\lF (nA xs).1=0/\(nA xs).1.m.nF=[])):tS 4 #[.agg #[eZ.v,.int .i64 iV,.int .i64 nR,.int .i64 sz,.int .i64 sR,ef hy,ef n6,ef hv,ef hQ,.int .i64 sO,th.v],oD.v,.int .u8 (pt.toNat:Int)] w0 (.bool true):=by
 refine eN 10 (eY _) func4 ntmps4 results4 rfl λt6 w E=>?_;have:=aL hb;refine ev 3 E (OJ (a.es E.ee) (e1.es E.ee) b c d) ?_;refine eU false 8 λw E=>?_;refine rF 6 E (nB ([true]:List Bool)) λg w E=>?_;refine af 7 E (c9 (#[.int .u64 1099511627776,.int .u64 1099511627776,.int .u64 1099511627776])) λw E=>?_;refine ev 0 E (EN) λh i w E=>?_;refine ev 12 E (efG (hb.es E.ee) (by first|omega|simp) e E .em) λj f k w E=>?_;refine et (ft ((by simp only[Bool.not_eq_true',Bool.not_eq_false',decide_eq_true_eq,decide_eq_false_iff_not];exact E.b9 (by repeat constructor))) (J.neq rfl rfl ⟨rfl,rfl⟩) ?_);refine ey 11 E λw E=>?_;refine ev 6 E (vi) λw E=>?_;exact⟨rfl,E.ee⟩
variable{aU:r0}{aV:rY}{a1:List iM}{og d no nd nM oN rV m nU q c1 ay aM tB:Nat}{aI:Value}{f0:UInt8}{aT v0 am tK tV:ec}{is:List Instr}{oy:nl}{ou:aZ}{aF:nG}{cw:Bool}{y:nT}
theorem RM{α:Type}(n k:Nat)(x:α):(List.replicate n x).set k x=List.replicate n x:=by
 apply List.ext_getElem
 .simp
 intro i G Y;rw[List.getElem_set];split<;>simp
theorem epb{aJ:Value}(oh:Nat->Nat)(a:lg c)(e:tB<c.eg.length)(r1:y.m.oT∈a1.take 150)(f:fK D)(g:cF (uA (y.sigs.length:Int) (su y)) (ai y) (iE D (ai y))=false)(h:ErrLaid ea)(i:1099511627776<=nM)(j:1099511627776<=oN)(k:1099511627776<=rV)(l:Tab ea oh)(eC:U ea (B ti #[N d,N tk,N eW,N ar,N oG,aI,ef eu,ef oO,aT.v,aJ] 105::B tk #[N d,tY.v] 208::V tY.v 407 (List.replicate c.eg.length (⟨0,ed⟩:aR))::aN d eZ th c b tI tg eP eM tf co::sj tg ab c.eg.length (some tB)::V tf 3 ((List.replicate c.eg.length (⟨0⟩:eL)).set tB ⟨1⟩)::B oG #[N eW,N eP,N eM,N ih,.bool false,eF,eF,.int .u64 0] 302::B b #[N p,N q] 259::a7 p tK tV m (some (⟨1,ou,1,cw⟩:Item))::rm q ay aM c1 nU v0 am::ax ou is xs y::o3 eP oy a1::n2 tI c.eg.length no nd aU aV::V co 23 ((List.replicate c.eg.length (⟨0⟩:aa)).set tB ⟨og⟩)::V aT.v 77 ([f0]:List UInt8)::it eM aF []::rn ih ox nM oN rV::iC eW D::S) w0):eJ 14 #[N ti,i6 c.eg.length] w0 (λu w'=>∃(n:Nat)(o:r0)(r:rY)(s:nG)(t:sa)(w:i9),u= .tuple #[]/\U ea (B ti #[N d,N tk,N eW,N ar,N oG,aI,ef eu,ef oO,aT.v,aJ] 105::B tk #[N d,tY.v] 208::V tY.v 407 (List.replicate c.eg.length (⟨0,ed⟩:aR))::aN d eZ th c b tI tg eP eM tf co::rf tg w c.eg.length::V tf 3 ((List.replicate c.eg.length (⟨0⟩:eL)).set tB ⟨0⟩)::B oG #[N eW,N eP,N eM,N ih,.bool false,eF,eF,.int .u64 0] 302::B b #[N p,N q] 259::a7 p tK tV m none::rm q ay aM c1 nU v0 am::ax ou is xs y::o3 eP oy a1::n2 tI c.eg.length no nd o r::V co 23 ((List.replicate c.eg.length (⟨0⟩:aa)).set tB ⟨n⟩)::V aT.v 77 ([7]:List UInt8)::it eM s []::rn ih t nM oN rV::iC eW D::S) w'):=by
 have em:hW ⟨ea,ti,d,tk,eW,ar,oG,b,tI,tg,eP,eM,p,q,ay,aM,c1,nU,m,tB,ih,no,nd,eu,oO,nM,oN,rV,aI,aJ,tf,co,aT,tY,eZ,th,tK,tV,v0,am,c,ou,cw,is,xs,y,oy,a1,D,f0,oh⟩ false 0 S w0:=⟨_,_,_,_,_,_,.xc false og aU aV aF ox ab,by rw[RM];exact eC⟩;have G:=λx=>Kb x em;refine(G ⟨a,e,r1,f,g,h,i,j,k,l⟩).mono ?_;rintro u w' ⟨rfl,HL,FLs,LA,cK,ck,X,z,E⟩;cases z;rename_i og aU aV aF ox ab;simp only[List.cons_append,List.nil_append]at E;rw[RM]at E;exact⟨og,aU,aV,aF,ox,ab,rfl,E⟩
variable{k:Nat}{dL:List o6}{w:World}
def OZ(y:nT):ak:=((ai y).getD 0 ST).key
theorem Md:∀(L:List tX){D:iL},cM D->fK D->(∀h∈L,cC h.cr) ->fK (l4 D L)
 |[],_,_,h,_=>h
 |x::L,D,e1,h,eB=>by
  refine Md L (e1.put x.key x.cr) (λk=>?_) λy a=>eB y (List.mem_cons_of_mem _ a);rw[eaE e1];split
  .exact eB x List.mem_cons_self
  exact h k
theorem Kv:∀(L:List tX){D eb:iL},D.eI=eb.eI->(l4 D L).eI=(l4 eb L).eI
 |[],_,_,h=>h
 |x::L,D,eb,h=>Kv L (show(D.put x.key x.cr).eI=(eb.put x.key x.cr).eI by unfold iL.put;rw[h])
theorem Kk(r:Nat)(L:List tX)(dL:List o6):iE (l4 (⟨r,[]⟩:iL) L) dL=iE (l4 (⟨0,[]⟩:iL) L) dL:=by
 unfold iE iL.get;rw[Kv L (D:=⟨r,[]⟩) (eb:=⟨0,[]⟩) rfl]
theorem Kx:cM (⟨r,[]⟩:iL):=⟨List.nodup_nil,λx Z=>by cases Z⟩
theorem Kj:fK (⟨r,[]⟩:iL):=λk=>⟨(by show(0:Nat)<_;decide),(by show(0:Nat)<_;decide)⟩
theorem Kq(em:0<(ai y).length):OZ y=(ai y)[0].key:=by unfold OZ;simp[List.getD,em]
theorem Mc{r:aZ}(h:U w0 S w)(a:tP (ax r is xs y) S):0<(ai y).length/\0<y.sigs.length/\y.sigs.length<=255:=by
 obtain⟨d,e,f,b,g,i,j,k,c⟩:=fZ h a;exact⟨by omega,c,b⟩
theorem epv(a:ex w0 eZ.v eg)(e1:ex w0 th.v os)(hb:ex w0 oD.v xs)(b:eg.length<=64)(c:os.length<=100)(d:sO<=1000)(o2:xs.length<=1300)(o4:nA xs=(y,0))(hr:lF y=0)(sw:y.m.nF=[])(nJ:Laid w0)(e:¬((1<=(eg.length:Int)/\(eg.length:Int)<=64)/\(1<=iV/\iV<=4096)/\(1<=nR/\nR<=256)/\(1<=sz/\sz<=64)/\(1<=sR/\sR<=256)/\0<=sO)):tS 4 #[.agg #[eZ.v,.int .i64 iV,.int .i64 nR,.int .i64 sz,.int .i64 sR,ef hy,ef n6,ef hv,ef hQ,.int .i64 sO,th.v],oD.v,.int .u8 (pt.toNat:Int)] w0 (.bool true):=by
 refine eN 10 (eY _) func4 ntmps4 results4 rfl λt6 w E=>?_;have:=aL hb;refine ev 3 E (OJ (a.es E.ee) (e1.es E.ee) b c d) ?_;refine eU false 8 λw E=>?_;refine rF 6 E (nB ([true]:List Bool)) λh w E=>?_;refine af 7 E (c9 (#[.int .u64 1099511627776,.int .u64 1099511627776,.int .u64 1099511627776])) λw E=>?_;refine ev 0 E (EN) λi j w E=>?_;refine ev 11 E (ER (hb.es E.ee) (by first|omega|simp) o4 hr sw (nJ.es E.ee) E .em) λk l n w E=>?_;have f:=Mc E (by repeat constructor);have o:=f.1;refine ey 1 E ?_;refine eU false 4 ?_;refine eU false 7 ?_;refine aC 4 15 (eX [0,1,2,3,4,5,6,7] (oA [8,9] (eX [10,11,12,13,14] .nil))) [] ⟨⟨aj⟩,λ_=>jB 2 λw E=>?_⟩;refine tl rfl (λw E=>sV (r:=(⟨18446744073709551615,(aO 32),0⟩:aH)) (ps:=aH.parts (⟨18446744073709551615,(aO 32),0⟩:aH)) (pg _) (by first|rfl|(simp only[pg,aH.parts,sg,iW];rfl)) (by exact hT ⟨by decide,rfl,trivial⟩) eG) (tl rfl (λw E=>sV (r:=(⟨((ai y)[0]).key,⟨18446744073709551615,(aO 32),0⟩⟩:tX)) (ps:=tX.parts (⟨((ai y)[0]).key,⟨18446744073709551615,(aO 32),0⟩⟩:tX)) (bO _) (by first|rfl|(simp only[bO,tX.parts,pg,aH.parts,sg,iW];rfl)) (by exact hT ⟨by decide,O.ez (((ai y)[0]).key),by decide,O.ez (⟨18446744073709551615,(aO 32),0⟩:aH),trivial⟩) eG) ?_);refine mt 0 E (nB [(⟨((ai y)[0]).key,⟨18446744073709551615,(aO 32),0⟩⟩:tX)]) λg w E=>?_;refine o0 11 E (efW (ac:=(tE g 1 1)) (eg:=eg) (a.es E.ee) (E.eu .e8) e) ?_;refine eU true 14 λw E=>?_;refine ev 6 E (vi) λw E=>?_;exact⟨rfl,E.ee⟩
variable{h rec:iM}{i j n:Nat}
def uG(i:Nat):iM:=(((((((aO 32).set 0 1).set 1 2).set 2 3).set 3 4).set 4 5).set 5 (zd (i:Int))).set 6 77
def d9(rec:iM):Nat->List iM
 |0=>[rec]
 |i+1=>uG i::d9 rec i
def pn(g:sd)(rec:iM)(i:Nat):List (sd×iM):=if i<150 then[(g,rec)]else[]
theorem egl(ew:i<256)(a:j<256)(h:uG i=uG j):i=j:=by
 have au:=congrArg (λv:iM=>(v[5]).toNat) h;simp[uG,zd]at au;omega
theorem KX(rec:iM)(i:Nat):(d9 rec i).length=i+1:=by
 induction i with
 |zero=>rfl
 |succ i a=>simp[d9,a]
theorem egd(rec:iM){i n:Nat}(b:n<=i){h:iM}(e5:h∈(d9 rec i).take n):∃j,j<i/\h=uG j:=by
 induction i generalizing n with
 |zero=>obtain rfl:n=0:=by omega
        simp at e5
 |succ i a=>
  cases n with
  |zero=>simp at e5
  |succ n=>
   simp only[d9,List.take_succ_cons,List.mem_cons]at e5;rcases e5 with rfl|e5
   .exact⟨i,by omega,rfl⟩
   obtain⟨j,c,rfl⟩:=a (by omega) e5;exact⟨j,by omega,rfl⟩
theorem egc(e5:h∈d9 rec i):h=rec∨∃j,j<i/\h=uG j:=by
 induction i with
 |zero=>simp[d9]at e5;exact .inl e5
 |succ i a=>
  simp only[d9,List.mem_cons]at e5;rcases e5 with rfl|e5
  .exact .inr ⟨i,by omega,rfl⟩
  rcases a e5 with h|⟨j,b,rfl⟩
  .exact .inl h
  exact .inr ⟨j,by omega,rfl⟩
theorem Mv(ew:i<256)(a:uG i≠rec):uG i∉(d9 rec i).take n:=by
 intro e5;rcases egc (List.mem_of_mem_take e5)with h|⟨j,b,h⟩
 .exact a h
 have:=egl ew (by omega) h;omega
theorem egu(rec z:iM)(i:Nat):(d9 rec i).getD i z=rec:=by
 induction i with
 |zero=>rfl
 |succ i a=>simpa[d9]using a
theorem egm:rec∈d9 rec i:=by
 induction i with
 |zero=>simp[d9]
 |succ i a=>simp[d9,a]
theorem egf(ew:i<150):rec∈(d9 rec i).take 150:=by
 rw[List.take_of_length_le (by rw[KX];omega)];exact egm
theorem egp(ew:150<=i)(a:∀j,j<i->uG j≠rec):rec∉(d9 rec i).take 150:=by
 intro e5;obtain⟨j,b,h⟩:=egd rec ew e5;exact a j b h.symm
section
variable[D:lb]{P:Program}{n:Nat}{Q:Exit->te->World->Prop}{f:te}{w:World}
theorem egg{c:Code}(I:Nat->te->World->Prop)(M:Nat)(G:ek P n c (uY (λae w'=>∃a,a<M/\I a ae w') Q) f w)
 (round:∀m f w,I m f w->ek P n c (uY (λae w'=>∃a,a<m/\I a ae w') Q) f w):ek P n (.loop c) Q f w:=by
 refine ek.loop (λm f w=>ek P n c (uY (λae w'=>∃a,a<m/\I a ae w') Q) f w) M G λm f w b=>?_;refine ek.mono b λe f w q=>?_;cases e with
 |normal=>
  obtain⟨a,e5,h⟩:=q;exact⟨a,e5,round a f w h⟩
 |_=>exact q
end
theorem RV(i:Nat):qZ (O.enc (aO 32)) [(0,.int .u8 1),(1,.int .u8 2),(2,.int .u8 3),(3,.int .u8 4),(4,.int .u8 5),(5,.int .u8 ((zd i).toNat:Int)),(6,.int .u8 77)]=O.enc (uG i):=by
 simp only[uG,sg,iW];rfl
theorem KJ(b:7<=n):∀p∈([(0,.int .u8 1),(1,.int .u8 2),(2,.int .u8 3),(3,.int .u8 4),(4,.int .u8 5),(5,.int .u8 ((zd i).toNat:Int)),(6,.int .u8 77)]:List (Nat×Value)),p.1<n/\p.2.cells=#[p.2]:=by
 intro p a;simp only[List.mem_cons,List.not_mem_nil,or_false]at a;rcases a with rfl|rfl|rfl|rfl|rfl|rfl|rfl<;>exact⟨by dsimp only;omega,rfl⟩
theorem KQ(ea w0:World)(S:List eH)(ti:Nat)(d:Nat)(tk:Nat)(eW:Nat)(ar:Nat)(nZ:Value)(aI:Value)(eu:Nat)(oO:Nat)(aT:Value)(aJ:Value)(eZ:ec)(th:ec)(c:rj)(b:Nat)(tI:Nat)(tg:Nat)(eP:Nat)(eM:Nat)(tf:Value)(co:Value)(p:Nat)(tK:ec)(tV:ec)(m:Nat)(q:Nat)(ay:Nat)(aM:Nat)(tj:Nat)(nU:Nat)(v0:ec)(am:ec)(oy:nl)(aF:nG)(g:sd)(rec:iM)(i:Nat)(ew:i<256)(j:uG i≠rec)(eC:U ea (B ti #[N d,N tk,N eW,N ar,nZ,aI,ef eu,ef oO,aT,aJ] 105::aN d eZ th c b tI tg eP eM tf co::B b #[N p,N q] 259::a7 p tK tV m none::rm q ay aM tj nU v0 am::o3 eP oy (d9 rec i)::it eM aF (pn g rec i)::S) w0):
 eJ 10 #[N ti,.agg (O.enc (uG i))] w0 (λu w'=>∃(eE:nl)(tt:nG),u=i6 0/\U ea (it eM tt (pn g rec (i+1))::o3 eP eE (d9 rec (i+1))::B ti #[N d,N tk,N eW,N ar,nZ,aI,ef eu,ef oO,aT,aJ] 105::aN d eZ th c b tI tg eP eM tf co::B b #[N p,N q] 259::a7 p tK tV m none::rm q ay aM tj nU v0 am::S) w'):=by
 have eB:=KX rec i;by_cases G:i<149
 .have a:pn g rec i=[(g,rec)]:=if_pos (by omega);have e:pn g rec (i+1)=[(g,rec)]:=if_pos (by omega);rw[a]at eC;rw[e];refine(epH ea w0 (it eM aF [(g,rec)]::S) (h:=uG i) (hE:=Mv ew j) (hlt:=by omega) (eC:=eC)).mono ?_;rintro u w' ⟨eE,f,E⟩;exact⟨eE,aF,f,E.pick .a2⟩
 by_cases Y:i=149
 .have a:pn g rec i=[(g,rec)]:=if_pos (by omega);have e:pn g rec (i+1)=[]:=if_neg (by omega);rw[a]at eC;rw[e];refine(epD ea w0 S (h:=uG i) (g:=g) (hE:=Mv ew j) (uJ:=by omega) (eC:=by subst Y;rw[egu];exact eC)).mono ?_;rintro u w' ⟨eE,tt,f,E⟩;exact⟨eE,tt,f,E⟩
 have a:pn g rec i=[]:=if_neg (by omega);have e:pn g rec (i+1)=[]:=if_neg (by omega);rw[a]at eC;rw[e];refine(epL ea w0 S (h:=uG i) (hE:=Mv ew j) (uJ:=by omega) (eC:=eC)).mono ?_;rintro u w' ⟨eE,tt,f,E⟩;exact⟨eE,tt,f,E⟩
variable{nZ:Value}{fq:dl}
theorem egw{aJ:Value}(oh:Nat->Nat)(a:lg c)(e:tB<c.eg.length)(r1:y.m.oT∈a1.take 150)(f:fK D)(g:cF (uA (y.sigs.length:Int) (su y)) (ai y) (iE D (ai y))=true)(h:ErrLaid ea)(i:1099511627776<=nM)(j:1099511627776<=oN)(k:1099511627776<=rV)(l:Tab ea oh)(eC:U ea (B ti #[N d,N tk,N eW,N ar,N oG,aI,ef eu,ef oO,aT.v,aJ] 105::B tk #[N d,tY.v] 208::V tY.v 407 (List.replicate c.eg.length (⟨0,ed⟩:aR))::aN d eZ th c b tI tg eP eM tf co::sj tg ab c.eg.length (some tB)::V tf 3 ((List.replicate c.eg.length (⟨0⟩:eL)).set tB ⟨1⟩)::B oG #[N eW,N eP,N eM,N ih,.bool false,eF,eF,.int .u64 0] 302::B b #[N p,N q] 259::a7 p tK tV m (some (⟨1,ou,1,cw⟩:Item))::rm q ay aM c1 nU v0 am::ax ou is xs y::o3 eP oy a1::n2 tI c.eg.length no nd aU aV::V co 23 ((List.replicate c.eg.length (⟨0⟩:aa)).set tB ⟨og⟩)::V aT.v 77 ([f0]:List UInt8)::it eM aF []::rn ih ox nM oN rV::iC eW D::S) w0):eJ 14 #[N ti,i6 c.eg.length] w0 (λu w'=>∃(n:Nat)(s:r0)(t:rY)(w:nG)(x:sa)(z:i9)(r:aZ)(o:tr)(ch:(List tX))(oz:ec)(oS:ec)(h7:ec)(m2:ec)(oF:Nat),u= .tuple #[]/\U ea (nn (ch.length<=64)::B ti #[N d,N tk,N eW,N ar,N oG,aI,ef eu,ef oO,aT.v,aJ] 105::B tk #[N d,tY.v] 208::V tY.v 407 (List.replicate c.eg.length (⟨0,ed⟩:aR))::aN d eZ th c b tI tg eP eM tf co::rf tg z c.eg.length::V tf 3 ((List.replicate c.eg.length (⟨0⟩:eL)).set tB ⟨0⟩)::B oG #[N eW,N eP,N eM,N ih,.bool false,oz.v,oS.v,ef oF] 302::B b #[N p,N q] 259::a7 p tK tV m none::rm q ay aM c1 nU v0 am::ax ou is xs y::o3 eP oy a1::n2 tI c.eg.length no nd s t::V co 23 ((List.replicate c.eg.length (⟨0⟩:aa)).set tB ⟨n⟩)::V aT.v 77 ([8]:List UInt8)::it eM w [((db y),y.m.oT)]::cW ih x::iC eW (f3 D ch)::V oz.v 30 ([h7]:List ec)::V h7.v 5 (([1,0,0,0,0,0,0,0]:List UInt8)++xs)::V oS.v 189 [(⟨o.fail,o.ot,o.tJ,o.tv,o.tq,m2⟩:tr)]::V m2.v 64 ch::S) w'):=by
 have em:hW ⟨ea,ti,d,tk,eW,ar,oG,b,tI,tg,eP,eM,p,q,ay,aM,c1,nU,m,tB,ih,no,nd,eu,oO,nM,oN,rV,aI,aJ,tf,co,aT,tY,eZ,th,tK,tV,v0,am,c,ou,cw,is,xs,y,oy,a1,D,f0,oh⟩ true 0 S w0:=⟨_,_,_,_,_,_,.xc true og aU aV aF ox ab,by rw[RM];exact eC⟩;have G:=λA=>Kb A em;refine(G ⟨a,e,r1,f,g,h,i,j,k,l⟩).mono ?_;rintro u w' ⟨rfl,HL,FLs,LA,cK,ck,X,C,E⟩;cases C;rename_i og aU aV aF ox ab r o ch oz oS h7 m2 oF e1 r1;simp only[List.cons_append,List.nil_append]at E;rw[RM]at E;rw[r1]at E;exact⟨og,aU,aV,aF,ox,ab,r,o,ch,oz,oS,h7,m2,oF,rfl,E.pure e1.len⟩
theorem KZ{aJ:Value}(ew:i<150)(hb:ex ea oD.v xs)(o2:xs.length<=100000)(o4:nA xs=(y,0))(hr:lF y=0)(sw:y.m.nF=[])(nJ:Laid ea)(eC:U ea (B ti #[N d,N tk,N eW,N ar,nZ,aI,ef eu,ef oO,aT.v,aJ] 105::V aT.v 77 ([f0]:List UInt8)::aN d eZ th c b tI tg eP eM tf co::B b #[N p,N q] 259::a7 p tK tV m none::hH ar fq::o3 eP oy (d9 y.m.oT i)::it eM aF (pn (db y) y.m.oT i)::S) w0):
 eJ 12 #[N ti,oD.v,.bool false] w0 (λu w'=>∃(eE:ec),u= .tuple #[.int .u64 2,i6 0]/\U ea (B ti #[N d,N tk,N eW,N ar,nZ,aI,ef eu,ef oO,eE.v,aJ] 105::V eE.v 77 ([f0,6]:List UInt8)::aN d eZ th c b tI tg eP eM tf co::B b #[N p,N q] 259::a7 p tK tV m none::hH ar fq::o3 eP oy (d9 y.m.oT i)::it eM aF (pn (db y) y.m.oT i)::S) w'):=by
 have a:pn (db y) y.m.oT i=[(db y,y.m.oT)]:=if_pos ew;rw[a]at eC⊢;exact epK ea w0 S (hb:=hb) (o2:=o2) (o4:=o4) (hr:=hr) (sw:=sw) (nJ:=nJ) (hin:=egf ew) (eC:=eC)
theorem egy{aJ:Value}(a:150<=i)(e:∀j,j<i->uG j≠y.m.oT)(hb:ex ea oD.v xs)(o2:xs.length<=100000)(o4:nA xs=(y,0))(hr:lF y=0)(sw:y.m.nF=[])(nJ:Laid ea)(eC:U ea (B ti #[N d,N tk,N eW,N ar,nZ,aI,ef eu,ef oO,aT.v,aJ] 105::V aT.v 77 ([f0]:List UInt8)::aN d eZ th c b tI tg eP eM tf co::B b #[N p,N q] 259::a7 p tK tV m none::hH ar fq::o3 eP oy (d9 y.m.oT i)::it eM aF (pn (db y) y.m.oT i)::S) w0):
 eJ 12 #[N ti,oD.v,.bool false] w0 (λu w'=>∃(eE:ec),u= .tuple #[.int .u64 2,i6 0]/\U ea (B ti #[N d,N tk,N eW,N ar,nZ,aI,ef eu,ef oO,eE.v,aJ] 105::V eE.v 77 ([f0,5]:List UInt8)::aN d eZ th c b tI tg eP eM tf co::B b #[N p,N q] 259::a7 p tK tV m none::hH ar fq::o3 eP oy (d9 y.m.oT i)::it eM aF (pn (db y) y.m.oT i)::S) w'):=
 epX ea w0 (it eM aF (pn (db y) y.m.oT i)::S) (aF:=aF) (hb:=hb) (o2:=o2) (o4:=o4) (hr:=hr) (sw:=sw) (nJ:=nJ) (hin:=egp a e) (eC:=eC)
theorem ev7(oh:Nat->Nat)(b:lg c)(aQ:c.oN=1099511627776)(oo:c.nM=1099511627776)(r6:c.t8=1099511627776)(n:ex w0 eZ.v c.eg)(e1:ex w0 th.v os)(hb:ex w0 oD.v xs)(sf:os.length<=100)(sD:c.dk<=1000)(o2:xs.length<=1300)(o4:nA xs=(y,0))(hr:lF y=0)(sw:y.m.nF=[])(nJ:Laid w0)(o:Tab w0 oh)(vn:ErrLaid w0):tS 4 #[.agg #[eZ.v,i6 c.room,i6 c.cm,i6 c.cf,i6 c.cp,ef hy,ef n6,ef hv,ef c.mf,i6 c.dk,th.v],oD.v,.int .u8 (pt.toNat:Int)] w0 (.bool true):=by
 obtain⟨dX,pa,oe,nw,iN,u4,uv,hx,f8,mD⟩:=id b;have dN:=pt.toNat_lt;refine eN 10 (eY _) func4 ntmps4 results4 rfl λt6 w E=>?_;have:=aL hb;refine ev 3 E (OJ (n.es E.ee) (e1.es E.ee) (by first|omega|simp) sf (by first|omega|simp)) ?_;refine eU false 8 λw E=>?_;refine rF 6 E (nB ([true]:List Bool)) λpo w E=>?_;refine af 7 E (c9 (#[.int .u64 1099511627776,.int .u64 1099511627776,.int .u64 1099511627776])) λw E=>?_;refine ev 0 E (EN) λU7 U8 w E=>?_;refine ev 11 E (ER (hb.es E.ee) (by first|omega|simp) o4 hr sw (nJ.es E.ee) E .em) λq O0 hF w E=>?_;have O1:=Mc E (by repeat constructor);have RF:=O1.1;have r1:q.tQ.m.oT=y.m.oT:=(E.g6 (r:=q) (is:=O0) (by repeat constructor)).2.2.2.2.2.2.1;refine ey 1 E ?_;refine eU false 4 ?_;refine eU false 7 ?_;refine aC 4 15 (eX [0,1,2,3,4,5,6,7] (oA [8,9] (eX [10,11,12,13,14] .nil))) [] ⟨⟨aj⟩,λ_=>jB 2 λw E=>?_⟩;refine tl rfl (λw E=>sV (r:=(⟨18446744073709551615,(aO 32),0⟩:aH)) (ps:=aH.parts (⟨18446744073709551615,(aO 32),0⟩:aH)) (pg _) (by first|rfl|(simp only[pg,aH.parts,sg,iW];rfl)) (by exact hT ⟨by decide,rfl,trivial⟩) eG) (tl rfl (λw E=>sV (r:=(⟨((ai y)[0]).key,⟨18446744073709551615,(aO 32),0⟩⟩:tX)) (ps:=tX.parts (⟨((ai y)[0]).key,⟨18446744073709551615,(aO 32),0⟩⟩:tX)) (bO _) (by first|rfl|(simp only[bO,tX.parts,pg,aH.parts,sg,iW];rfl)) (by exact hT ⟨by decide,O.ez (((ai y)[0]).key),by decide,O.ez (⟨18446744073709551615,(aO 32),0⟩:aH),trivial⟩) eG) ?_);refine mt 0 E (nB [(⟨((ai y)[0]).key,⟨18446744073709551615,(aO 32),0⟩⟩:tX)]) λO2 w E=>?_;refine o0 11 E (Kl (ac:=(tE O2 1 1)) (L:=[(⟨((ai y)[0]).key,⟨18446744073709551615,(aO 32),0⟩⟩:tX)]) b aQ oo r6 (n.es E.ee) (E.eu .e8) (E.eu .em) (by first|omega|simp)) λKR KH C epQ D epZ KL KD F Mm KC KU KM Mf KF KP Mp KG ep0 ep1 Mg ep2 H s Mw KW I My Mb KY ep3 ep4 ep5 ep6=>?_;refine eU false 6 λw E=>?_;refine ev 0 E (KA (by simp) (by simp) (Pi [16,15,10,10,10,10] E)) λoY=>?_;refine eU false 10 λw E=>?_;refine ev 5 E (KI _ hb (by first|omega|simp) o4 hr sw nJ (by rw[r1];simp) o (Pi [16,6,2,14,7,7,7,7] E)) λbJ RS RR OH OL KB w E=>?_;refine ev 3 E (KT _ b (by rw[r1];simp) o (Pi [20,20,19,20,13,13,8,7,8,9,12,14,13] E)) λep7 ep8 ep9 ege egt ega ego egi w E=>?_;rcases Bool.eq_false_or_eq_true (cF (uA (y.sigs.length:Int) (su y)) (ai y) (iE (l4 (⟨0,[]⟩:iL) [(⟨OZ y,⟨18446744073709551615,aO 32,0⟩⟩:tX)]) (ai y)))with K|K
 .
   have:=aL n;refine eA 5 E λw E=>?_;refine ev 5 E (egw _ b (E.b9 .iG) (by rw[r1];simp) (Md _ (Kx) (Kj) (by intro h e;simp only[List.mem_cons,List.not_mem_nil,or_false]at e;subst e;exact⟨by(show(18446744073709551615:Nat)<18446744073709551616);omega,by(show(0:Nat)<18446744073709551616);omega⟩)) (by rw[Kk,<-Kq RF];exact K) vn (by first|omega|simp) (by first|omega|simp) (by first|omega|simp) o ((Pi [22,20,17,19,17,16,18,14,17,15,15,19,19,19,18,24,24] E).pick (.ei (.ei (.ei (.ei (.ei (.ei (.az))))))))) λegn egs egr egh KV KK evj evq l evz evE evT evA M w E=>?_;refine ev 11 E (VN (E.tb .G) (E.eu (.ei (.az)))) ?_;refine eU false 2 λw E=>?_;refine dp 88 rfl rfl rfl (et (yi rfl (J.neq rfl rfl ⟨rfl,rfl⟩) (ey 8 E λw E=>?_)));have ju:=E.b9 (p:=l.length<=64) (by repeat constructor);have t:(f3 (l4 (⟨s,[]⟩:iL) [(⟨((ai y)[0]).key,⟨18446744073709551615,(aO 32),0⟩⟩:tX)]) l).eI.length<=100000:=by
    have G:=kq (⟨s,[]⟩:iL) [(⟨((ai y)[0]).key,⟨18446744073709551615,(aO 32),0⟩⟩:tX)];have Y:=kq (l4 (⟨s,[]⟩:iL) [(⟨((ai y)[0]).key,⟨18446744073709551615,(aO 32),0⟩⟩:tX)]) l;simp only[List.length_nil,List.length_cons]at G;show(l4 _ l).eI.length<=_;omega
   refine ey 13 E ⟨ib,λw E=>?_⟩;refine egg (λdy f w=>∃(i d u x:Nat)(P:sa)(z A:ec)(FZ_:List oK)(K0:nl)(K1:nG),oV [(1,oD.v),(7,N hF),(9,N I),(13,.int .i64 ((pt.toNat%170:Nat):Int)),(14,i6 i)] f/\U w0 [B u #[N H,N C,N D,N x,.bool false,eF,eF,.int .u64 0] 302,rn x P c.oN c.nM c.t8,iC H (f3 (l4 (⟨s,[]⟩:iL) [(⟨((ai y)[0]).key,⟨18446744073709551615,(aO 32),0⟩⟩:tX)]) l),B I #[N F,N Mb,N H,N Mw,N u,z.v,ef d,ef c.mf,bJ.v,A.v] 105,aN F KR KH c Mp KG Mg C D (ta KL c.eg.length c.eg.length) (ta KD c.eg.length c.eg.length),B Mp #[N Mm,N Mf] 259,a7 Mm KC KU c.room none,V A.v 86 FZ_,B Mb #[N F,My.v] 208,V My.v 407 (List.replicate c.eg.length (⟨0,ed⟩:aR)),rf Mg KK c.eg.length,it D K1 (pn (db y) y.m.oT i),o3 C K0 (d9 y.m.oT i),rm Mf KF KP KM OH OL KB,V bJ.v 77 ([8]:List UInt8),hH Mw KW,B hF (O.enc q) 53,ax q O0 xs y] w/\1<=i/\i<=pt.toNat%170/\d<=i/\FZ_.length*40<=i+39/\(∀j,j<i->uG j≠y.m.oT)/\dy=171-i) (171) ?_ ?_
   .
     rw[r1]at E;rw[show[y.m.oT]=d9 y.m.oT 0 from rfl,show[((db y),y.m.oT)]=pn (db y) y.m.oT 0 from rfl]at E;refine eA 3 E λw E=>?_;refine et (oP rfl (et (oP rfl (et (J.lss rfl rfl (ey 2 E λw E=>?_))))));refine ek.cond _ rfl (λa=>?_) (λa=>?_)
     .
       have mh:=a;have gn:=a
       try simp only[sX]at a
       refine eA 6 E λw E=>?_;refine et (oP rfl (et (J.conv rfl (F3 _) (et (yf (k:=uG 0) (by first|exact RV _|(rw[<-RV,iW];rfl)) (KJ (by decide)) ?_)))));refine ey 12 E λxJ w E=>?_;refine et (jm rfl rfl ?_);refine ey 2 E<|om 2 7 (λQ w E=>?_) (λQ w E=>?_)
       .
         refine ev 11 E (vi) λw E=>?_;exact⟨rfl,E.ee⟩
       .
         refine ev 0 E (KQ _ _ _ _ _ _ _ _ _ _ _ _ _ _ _ _ _ _ _ _ _ _ _ _ _ _ _ _ _ _ _ _ _ _ _ _ _ _ _ _ (by omega) (by rw[<-r1];assumption) (Pi [17,14,13,13,13,10,8] E)) λR S=>?_;refine eU false 9 ?_;refine eU true 2 λw E=>?_;refine ev 0 E (efp b t (by first|omega|simp) (λj h=>by rw[List.getElem_replicate]) (by first|omega|simp) (by simp;omega) (E.b9 .iG) (Pi [18,23,23,23,23,18,23,18,18,12,18,13] E)) λT evO evI W evN X Z=>?_;refine eU false 2 λw E=>?_;refine ev 0 E (Kr t (by first|omega|simp) (Pi [7,22,22,12,11] E)) λegT evS egA egO egI=>?_;refine eU false 14 λw E=>?_;exact⟨170,by omega,(0+1),(0+1:Nat),egI,egA,egO,egT,Z,[(⟨0,KY,T,(W.cut 0 1 1 (O.eo ec)),(X.cut 0 1 1 (O.eo tr)),M,KV.block⟩:oK)],R,S,⟨rfl,rfl,rfl,rfl,sJ,trivial⟩,(tN [2,3,10,11,12,13,14,15,19,20,21,22,23,24,28,29,30,31,32,33,35,36,37,38,40,41,42,45,46,47] E),by omega,by omega,by omega,by simp,(λj tO=>by obtain rfl:j=0:=(by omega);rw[<-r1];assumption),rfl⟩
     .
       have mh:=a;have gn:=a
       try simp only[sX]at a
       refine eA 7 E λw E=>?_;refine et (oI (v:=N I) rfl ?_);refine et (oI (v:=oD.v) rfl ?_);refine ev 5 E (KZ (by decide) hb (by first|omega|simp) o4 hr sw nJ (Pi [16,13,27,12,12,9,17,8] E)) λevR w E=>?_;refine ev 16 E (UC (E.tb .em) (E.eu .G)) ?_;refine eU false 8 ?_;refine eU true 3 λw E=>?_;refine dp 144 rfl rfl rfl (et (ft rfl (J.eql rfl rfl ⟨rfl,rfl⟩) ?_));refine ey 2 E λw E=>?_;refine ev 6 E (vi) λw E=>?_;exact⟨rfl,E.ee⟩
   .
     rintro dy f w ⟨i,d,u,x,P,z,A,FZ_,K0,K1,e6,E,evH,hin,evL,evD,O8,mX⟩;refine il _ e6 (λg=>?_);clear e6;refine eA 8 E<|om 7 0 (λa w E=>?_) (λa w E=>?_)
     .
       refine af 0 E (Zl (F3 _)) λw E=>?_;refine et (yf (k:=uG i) (by first|exact RV _|(rw[<-RV,iW];rfl)) (KJ (by decide)) ?_);refine ey 12 E λevC w E=>?_;refine et (jm rfl rfl ?_);refine ey 2 E<|om 2 7 (λQ w E=>?_) (λQ w E=>?_)
       .
         refine ev 11 E (vi) λw E=>?_;exact⟨rfl,E.ee⟩
       .
         refine ev 0 E (KQ _ _ _ _ _ _ _ _ _ _ _ _ _ _ _ _ _ _ _ _ _ _ _ _ _ _ _ _ _ _ _ _ _ _ _ _ _ _ _ _ (by omega) (by rw[<-r1];assumption) (Pi [12,13,14,10,10,10,10] E)) λK2 K3=>?_;refine eU false 11 λw E=>?_;cases K4:(decide (((i%40:Nat):Int)=0))with
         |true=>
          refine ey 1 E λw E=>?_;refine ev 0 E (efB b t (by first|omega|simp) (λj h=>by rw[List.getElem_replicate]) (by first|omega|simp) (Pi [11,10,10,11,14,14,9,14,10] E)) λegN evU egS=>?_;refine eU false 2 λw E=>?_;refine ev 0 E (Kr t (by first|omega|simp) (Pi [2,14,14,7,6] E)) λegR evM egH egL egD=>?_;refine eU false 14 ⟨ib,λw E=>?_⟩;exact⟨171-(i+1),by omega,(i+1),(d+1:Nat),egD,egH,egL,egR,egS,(FZ_++[(⟨d,z,egN,(ed.cut 0 0 0 (O.eo ec)),(ed.cut 0 0 0 (O.eo tr)),0,0⟩:oK)]),K2,K3,⟨rfl,rfl,rfl,rfl,sJ,trivial⟩,(ig E),by omega,by omega,by omega,(by have e8:=K4;simp at e8⊢;omega),(λj tO=>by rcases Nat.lt_or_ge j i with h|h;exact O8 j h;obtain rfl:j=i:=(by omega);rw[<-r1];assumption),rfl⟩
         |false=>
          refine ey 21 E ⟨ib,λw E=>?_⟩;exact⟨171-(i+1),by omega,(i+1),d,u,x,P,z,A,FZ_,K2,K3,⟨rfl,rfl,rfl,rfl,sJ,trivial⟩,(ig E),by omega,by omega,by omega,(by have e8:=K4;simp at e8⊢;omega),(λj tO=>by rcases Nat.lt_or_ge j i with h|h;exact O8 j h;obtain rfl:j=i:=(by omega);rw[<-r1];assumption),rfl⟩
     .
       rcases Nat.lt_or_ge i 150 with Mx|Mx
       .
         refine eA 9 E λw E=>?_;refine ev 5 E (KZ Mx hb (by first|omega|simp) o4 hr sw nJ (((((((Pi [11,12] E).pick (.ei (.az))).pick .sr).pick .sr).pick .sr).pick (.ei (.az))).pick .hh)) λevF w E=>?_;refine ev 16 E (UC (E.tb .em) (E.eu .G)) ?_;refine eU false 8 ?_;refine eU true 3 λw E=>?_;refine dp 144 rfl rfl rfl (et (ft rfl (J.eql rfl rfl ⟨rfl,rfl⟩) ?_));refine ey 2 E λw E=>?_;refine ev 6 E (vi) λw E=>?_;exact⟨rfl,E.ee⟩
       .
         refine eA 9 E λw E=>?_;refine ev 5 E (egy Mx O8 hb (by first|omega|simp) o4 hr sw nJ (((((((Pi [11,12] E).pick (.ei (.az))).pick .sr).pick .sr).pick .sr).pick (.ei (.az))).pick .hh)) λevP w E=>?_;refine ev 16 E (UC (E.tb .em) (E.eu .G)) ?_;refine eU true 10 ?_;refine eU true 3 λw E=>?_;refine dp 144 rfl rfl rfl (et (ft rfl (J.eql rfl rfl ⟨rfl,rfl⟩) ?_));refine ey 2 E λw E=>?_;refine ev 6 E (vi) λw E=>?_;exact⟨rfl,E.ee⟩
 .
   have:=aL n;refine eA 5 E λw E=>?_;refine ev 5 E (epb _ b (E.b9 .iG) (by rw[r1];simp) (Md _ (Kx) (Kj) (by intro h e;simp only[List.mem_cons,List.not_mem_nil,or_false]at e;subst e;exact⟨by(show(18446744073709551615:Nat)<18446744073709551616);omega,by(show(0:Nat)<18446744073709551616);omega⟩)) (by rw[Kk,<-Kq RF];exact K) vn (by first|omega|simp) (by first|omega|simp) (by first|omega|simp) o ((Pi [22,20,17,19,17,16,18,14,17,15,15,19,19,19,18,24,24] E).pick (.ei (.ei (.ei (.ei (.ei (.ei (.az))))))))) λev8 ev9 eke ekt eka eko w E=>?_;refine ev 11 E (VN (E.tb .em) (E.eu .az)) ?_;refine eU false 2 λw E=>?_;refine dp 88 rfl rfl rfl (et (ft rfl (J.neq rfl rfl ⟨rfl,rfl⟩) ?_));refine ey 7 E ?_;refine eU true 1 λw E=>?_;refine ev 7 E (vi) λw E=>?_;exact⟨rfl,E.ee⟩
variable{v:Int}
theorem egC{P:Program}{t:TypeId}[h:Ha P t]:yd P t Bool (λ_ _=>True):=by
 intro H enc w fuel cs d ps hr;obtain⟨b,rfl⟩:=Jt h.out hr;exact⟨b,rfl,trivial⟩
theorem egU{P:Program}{t:TypeId}[h:Lk P t]:yd P t lX (λ_ _=>True):=by
 intro H enc w fuel cs d ps hr;cases fuel with
 |zero=>simp[dP,DataW.trod]at hr
 |succ fuel=>
  unfold dP DataW.trod at hr;rw[h.out]at hr;have key:∃n,cs=[.float .f64 n]:=by
   split at hr<;>simp_all
  obtain⟨n,rfl⟩:=key;exact⟨⟨n⟩,rfl,trivial⟩
structure fz where
 EQ:ec
 room:Int
 cm:Int
 cf:Int
 cp:Int
 pA:uN
 Ru:Nat
 dk:Int
 cQ:ec
variable{x:fz}
def fz.parts(x:fz):List (Array Value):=[#[x.EQ.v],#[.int .i64 x.room],#[.int .i64 x.cm],#[.int .i64 x.cf],#[.int .i64 x.cp],O.enc x.pA,#[ef x.Ru],#[.int .i64 x.dk],#[x.cQ.v]]
theorem egM(x:fz):x.parts.map Array.size=[1,1,1,1,1,3,1,1,1]:=by
 simp only[fz.parts,List.map,O.ez];rfl
instance:O fz where
 enc x:=eK x.parts
 eo:=11
 pos:=by omega
 ez x:=by rw[iw,egM];rfl
 one x:=rD (all_cons (O.one (α:=ec) _) (all_cons (oZ _ _) (all_cons (oZ _ _) (all_cons (oZ _ _) (all_cons (oZ _ _) (all_cons (O.one _) (all_cons (oZ _ _) (all_cons (oZ _ _) (all_cons (O.one (α:=ec) _) rC)))))))))
theorem K5(x:fz):O.enc x=eK x.parts:=rfl
def fz.ok(w:World)(x:fz):Prop:=(∃l:List (lX),ex w x.EQ.v l/\∀e∈l,True)/\(-9223372036854775808<=x.room/\x.room<=9223372036854775807)/\(-9223372036854775808<=x.cm/\x.cm<=9223372036854775807)/\(-9223372036854775808<=x.cf/\x.cf<=9223372036854775807)/\(-9223372036854775808<=x.cp/\x.cp<=9223372036854775807)/\(uN.ok w x.pA)/\(x.Ru<=18446744073709551615)/\(-9223372036854775808<=x.dk/\x.dk<=9223372036854775807)/\(∃l:List (Bool),ex w x.cQ.v l/\∀e∈l,True)
theorem egF:yd prog 28 fz fz.ok:=by
 intro H enc w fuel cs d ps hr;obtain⟨ub,E,a⟩:=Fk underlying28 inferInstance hr;obtain⟨d0,j,em⟩:=a 0 _ 22 0 1 rfl rfl rfl inferInstance;obtain⟨eE,k,i0⟩:=Fx (α:=lX) inferInstance egU inferInstance em;obtain⟨d1,l,G⟩:=a 1 _ 3 1 1 rfl rfl rfl inferInstance;obtain⟨tt,m,i1⟩:=TR inferInstance G;obtain⟨d2,n,Y⟩:=a 2 _ 3 2 1 rfl rfl rfl inferInstance;obtain⟨tC,o,i2⟩:=TR inferInstance Y;obtain⟨d3,p,ej⟩:=a 3 _ 3 3 1 rfl rfl rfl inferInstance;obtain⟨ap,q,i3⟩:=TR inferInstance ej;obtain⟨d4,r,e8⟩:=a 4 _ 3 4 1 rfl rfl rfl inferInstance;obtain⟨aD,s,i4⟩:=TR inferInstance e8;obtain⟨d5,t,au⟩:=a 5 _ 25 5 3 rfl rfl rfl inferInstance;obtain⟨o8,u,i5⟩:=Ju ehi au;obtain⟨d6,v,a2⟩:=a 6 _ 23 8 1 rfl rfl rfl inferInstance;obtain⟨iF,x,i6⟩:=IS inferInstance a2;obtain⟨d7,y,iK⟩:=a 7 _ 3 9 1 rfl rfl rfl inferInstance;obtain⟨nK,z,i7⟩:=TR inferInstance iK;obtain⟨d8,A,iG⟩:=a 8 _ 26 10 1 rfl rfl rfl inferInstance;obtain⟨sE,B,i8⟩:=Fx (α:=Bool) inferInstance egC inferInstance iG;have b:=wv B ub;have c:=wv z b;have e:=wv x c;have f:=wv u e;have g:=wv s f;have h:=wv q g;have C:=wv o h;have D:=wv m C;have i:=wv k D;refine⟨⟨eE,tt,tC,ap,aD,o8,iF,nK,sE⟩,?_,⟨i0,i1,i2,i3,i4,i5,i6,i7,i8⟩⟩;rw[K5];simp only[fz.parts,IN,vy];rw[List.drop_zero]at i;rw[i];try simp
theorem egK(x:fz):(.agg (O.enc x):Value)= .agg #[x.EQ.v,.int .i64 x.room,.int .i64 x.cm,.int .i64 x.cf,.int .i64 x.cp,ef x.pA.block,ef x.pA.cr,ef x.pA.tq,ef x.Ru,.int .i64 x.dk,x.cQ.v]:=by
 refine congrArg Value.agg (Array.ext' ?_);rw[K5];simp[fz.parts,IN,vy,Ba,uN.parts]
theorem egX(w0:World)(x:fz)(oD:ec)(eg:List lX)(os:List Bool)(xs:List UInt8)(pt:UInt8)(oh:Nat->Nat)(b:ex w0 x.EQ.v eg)(e1:ex w0 x.cQ.v os)(hb:ex w0 oD.v xs)(nJ:Laid w0)(l:Tab w0 oh)(n:ErrLaid w0):
 eJ 4 #[.agg (O.enc x),oD.v,.int .u8 (pt.toNat:Int)] w0 (λu w'=>u= .bool true/\eV w0 w'):=by
 rw[egK];by_cases i:eg.length<=64/\os.length<=100/\x.dk<=1000;rotate_left
 .exact efK b e1 hb i
 obtain⟨d,c,e⟩:=i;by_cases o2:xs.length<=1300;rotate_left
 .exact efX b e1 hb d c e (by omega)
 by_cases j:(nA xs).2=0/\lF (nA xs).1=0/\(nA xs).1.m.nF=[];rotate_left
 .exact efJ b e1 hb d c e o2 j
 obtain⟨o4,hr,sw⟩:=efP j;by_cases k:(1<=(eg.length:Int)/\(eg.length:Int)<=64)/\(1<=x.room/\x.room<=4096)/\(1<=x.cm/\x.cm<=256)/\(1<=x.cf/\x.cf<=64)/\(1<=x.cp/\x.cp<=256)/\0<=x.dk;rotate_left
 .exact epv b e1 hb d c e o2 o4 hr sw nJ k
 obtain⟨⟨r,s⟩,⟨ni,ao⟩,⟨si,nu⟩,⟨d1,d2⟩,⟨f1,f2⟩,Tp⟩:=k;obtain⟨eZ,f,g,yk,tf,⟨no,nd,t⟩,h,o,th⟩:=x;dsimp only at*;obtain⟨f,rfl⟩:=Int.eq_ofNat_of_zero_le (a:=f) (by omega);obtain⟨g,rfl⟩:=Int.eq_ofNat_of_zero_le (a:=g) (by omega);obtain⟨yk,rfl⟩:=Int.eq_ofNat_of_zero_le (a:=yk) (by omega);obtain⟨tf,rfl⟩:=Int.eq_ofNat_of_zero_le (a:=tf) (by omega);obtain⟨p,rfl⟩:=Int.eq_ofNat_of_zero_le (a:=o) (by omega);have q:lg ⟨eg,f,g,yk,tf,1099511627776,1099511627776,1099511627776,h,p⟩:=by
  constructor<;>dsimp only<;>omega
 exact ev7 oh q rfl rfl rfl b e1 hb c (by dsimp only;omega) o2 o4 hr sw nJ l n
end
end Go.Fer
namespace Go.Proofs.YtncdhadaifhleaaGreatDoor
open Go Go.RowKit
section
open Go.ChangeShapes Go.WideShapes Go.ChangeAt Go.WideMaps Go.WideElems
variable{W:World}{l:List Value}{m:Nat}{ns:List Int}
abbrev K6:List (String×DataW Unit):=[("math/bits.deBruijn64tab",Rows.laid_math_bits_deBruijn64tab),("ferryhouse/budgets.long",Rows.laid_ferryhouse_budgets_long),("ferryhouse/budgets.tags",Rows.laid_ferryhouse_budgets_tags)]
abbrev K7:List (String×DataW Unit):=[("errors.errorType",Rows.laid_errors_errorType)]
abbrev O9:List (String×DataW Unit):=[("math/bits.deBruijn64tab",Rows.laid_math_bits_deBruijn64tab),("errors.errorType",Rows.laid_errors_errorType),("ferryhouse/budgets.long",Rows.laid_ferryhouse_budgets_long),("ferryhouse/budgets.tags",Rows.laid_ferryhouse_budgets_tags)]
theorem egQ:Tryz.prog.globalNamed "ferryhouse/budgets.long"=some 0:=by kernel_rfl
theorem egZ:Tryz.prog.globalNamed "ferryhouse/budgets.tags"=some 1:=by kernel_rfl
theorem eg0:Tryz.prog.globalNamed "math/bits.deBruijn64tab"=some 4:=by kernel_rfl
theorem eg1:(Tryz.prog.globals[0]?).map (·.type)=some 349:=by kernel_rfl
theorem eg2:(Tryz.prog.globals[1]?).map (·.type)=some 350:=by kernel_rfl
theorem eg3:(Tryz.prog.globals[4]?).map (·.type)=some 250:=by kernel_rfl
theorem eg4:Tryz.prog.globalNamed "errors.errorType"=some 6:=by kernel_rfl
theorem eg5:(Tryz.prog.cutTypes.find? (·.1== "internal/reflectlite.rtype")).map (·.2)=some 332:=by kernel_rfl
theorem eg6:((List.range 673).filter λt=>Tryz.prog.rowNamed t [101,114,114,111,114])=[214]:=by kernel_rfl
theorem eg7:Tryz.prog.types.size=673:=by kernel_rfl
def w8:List Int:=[0,1,56,2,57,49,28,3,61,58,42,50,38,29,17,4,62,47,59,36,45,43,51,22,53,39,33,30,24,18,12,5,63,55,48,27,60,41,37,16,46,35,44,21,52,32,23,11,54,26,40,15,34,20,31,10,25,14,19,9,13,8,7,6]
theorem eg8:((Array.range 64).map λi=>(.int .u8 ((w8.getD i 0).toNat:Int):Value)).toList=w8.map (Value.int .u8):=by
 rw[Array.toList_map,Array.toList_range];rfl
theorem Mz{k:IntKind}{e:TypeId}(d:Tryz.prog.underlying e=some (.int k))(si:Tryz.prog.cellsOf e=1){xs:List (DataW Unit×List MemPlace)}(eB:l.length=ns.length)(b:xs.length=ns.length)
 (f:∀(i:Nat),i<ns.length->DataW.trod (λ_=>()) Tryz.prog W 0 (λ_=>true) false m e ((l.drop (i*Tryz.prog.cellsOf e)).take (Tryz.prog.cellsOf e))=xs[i]?)
 (Z:DataW.agg (ns.map λa=>.lit (.int k a))=DataW.agg (xs.map λx=>x.fst)):l=ns.map (Value.int k):=by
 have Z:=DataW.agg.inj Z;apply List.ext_getElem (by simp[eB]);intro i G Y;have ew:i<ns.length:=by rw[<-eB];exact G
 have em:=f i ew;rw[si,Nat.mul_one,List.drop_eq_getElem_cons G,List.getElem?_eq_getElem (by rw[b];exact ew)]at em;obtain⟨a,c,g,_⟩:=DataW.trod_int d em;have ej:(ns.map λa=>DataW.lit (H:=Unit) (.int k a))[i]? =(xs.map λx=>x.fst)[i]? :=by rw[Z]
 rw[List.getElem?_map,List.getElem?_map,List.getElem?_eq_getElem ew,List.getElem?_eq_getElem (by rw[b];exact ew),g]at ej;simp only[Option.map_some,Option.some.injEq,DataW.lit.injEq,Lit.int.injEq,true_and]at ej;simp only[List.take_succ_cons,List.take_zero,List.cons.injEq,and_true]at c;rw[c,List.getElem_map,ej]
theorem eg9(h:handlesMet Tryz.prog K7 W):Fer.ErrLaid W:=by
 obtain⟨name,u,ty,b,c,d,e,a⟩:=h _ (List.mem_singleton.2 rfl);have oz:name=[101,114,114,111,114]:=(Option.some.inj b).symm;subst oz;obtain rfl:=Option.some.inj (eg5.symm.trans c);have e5:ty∈(List.range 673).filter λt=>Tryz.prog.rowNamed t [101,114,114,111,114]:=List.mem_filter.2 ⟨List.mem_range.2 (by rw[<-eg7];exact d),e⟩;rw[eg6]at e5;obtain rfl:=List.mem_singleton.1 e5;have f:typeHandle Tryz.prog 214= .pointer (some ⟨8,214,none⟩):=by kernel_rfl
 rw[f]at a;unfold Fer.ErrLaid;simpa using World.var?_cell eg4 a 0
theorem K8(h:laidMet Tryz.prog K6 W):Fer.Laid W/\Fer.Tab W (λi=>(w8.getD i 0).toNat):=by
 obtain⟨ps,⟨I,t2,s,f2,j4,oy,m,t,b,v,⟨J,t0,w,f0,xc,K,n,y,z,c,⟨L,t1,A,f1,jD,nb,o,B,C,D,_,_⟩,_⟩,_⟩,_,_⟩:=h;obtain rfl:=Option.some.inj (egQ.symm.trans n);obtain rfl:=Option.some.inj (egZ.symm.trans o);obtain rfl:=Option.some.inj (eg0.symm.trans m);obtain rfl:=Option.some.inj (eg1.symm.trans y);obtain rfl:=Option.some.inj (eg2.symm.trans B);obtain rfl:=Option.some.inj (eg3.symm.trans t);obtain⟨xs,Tp,rfl,p,hlen,d,E⟩:=DataW.trod_array Tryz.underlying349 c;obtain⟨ys,Al,rfl,q,F,e,G⟩:=DataW.trod_array Tryz.underlying350 D;obtain⟨zs,Zr,rfl,r,f,g,l⟩:=DataW.trod_array Tryz.underlying250 v;simp only[Prod.mk.injEq]at p q r;have no:=Mz (k:=.i64) (ns:=[4,8]) Tryz.underlying3 (by kernel_rfl) (hlen.trans (by kernel_rfl)) d E p.1;have nd:=Mz (k:=.u8) (ns:=[2,3]) Tryz.underlying5 (by kernel_rfl) (F.trans (by kernel_rfl)) e G q.1;have H:=Mz (k:=.u8) (ns:=w8) Tryz.underlying5 (by kernel_rfl) (f.trans (by kernel_rfl)) g l r.1;refine⟨⟨⟨0,0,rfl,λj u a=>?_⟩,⟨1,0,rfl,λj u a=>?_⟩⟩,⟨⟨4,0,rfl,λj u a=>?_⟩,rfl,λi=>?_⟩⟩
 .rw[Nat.zero_add,World.var?_cell n z j,<-a,<-Array.getElem?_toList,no,<-Array.getElem?_toList];rfl
 .rw[Nat.zero_add,World.var?_cell o C j,<-a,<-Array.getElem?_toList,nd,<-Array.getElem?_toList];rfl
 .rw[Nat.zero_add,World.var?_cell m b j,<-a,<-Array.getElem?_toList,H,<-Array.getElem?_toList,eg8]
 show(w8.getD i 0).toNat<=255;have h:∀x∈w8,x.toNat<=255:=by decide
 by_cases ew:i<w8.length
 .have:w8.getD i 0=w8[i]:=by simp[List.getD,ew]
  rw[this];exact h _ (List.getElem_mem ew)
 have:w8.getD i 0=0:=by simp[List.getD,Nat.le_of_not_lt ew]
 rw[this];decide
theorem ewr(h:laidMetH Tryz.prog O9 W):Fer.Laid W/\Fer.Tab W (λi=>(w8.getD i 0).toNat)/\Fer.ErrLaid W:=by
 have h':laidMet Tryz.prog K6 W/\handlesMet Tryz.prog K7 W:=h;exact⟨(K8 h'.1).1,(K8 h'.1).2,eg9 h'.2⟩
theorem ewh(os:Os)(args:Array Value):laidMetH Tryz.prog O9 ((World.doorLaid Tryz.prog 31 os).forCall (λ_ _=>0) ⟨#[],args,[]⟩).memory:=
 laidMetH_of_parts3 (fuel:=8) (laidMet_of_run' 8 (by kernel_rfl) (by kernel_rfl)) (by kernel_rfl) (by kernel_rfl)
end
end Go.Proofs.YtncdhadaifhleaaGreatDoor
