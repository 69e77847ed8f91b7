import Derived.Test.YtncdhadaifhleaaGreatDoorF24
import Derived.Test.YtncdhadaifhleaaGreatDoorF26
import Derived.Test.YtncdhadaifhleaaGreatDoorRows
import Derived.ProofKit
import Derived.LaidMore
import Derived.LaidHandle
import Derived.OpenShut
import Derived.Stop.Joined
set_option linter.all false
set_option synthInstance.maxSize 100000
set_option synthInstance.maxHeartbeats 400000
set_option maxHeartbeats 8000000
set_option maxRecDepth 100000
namespace Go.Fer
open Go Go.RowKit
section
open Go.Proofs
variable{D:im}{aL:hh}{aG:r4}{oX:List sW}{S:List eL}{b oY ip tY ob d iG iY nY oS r5 iI tJ tH m sq p q e2 uO aR a2 tk ef eZ eQ aH tV:Nat}{aZ co tT:Value}{c:h1}{oE:sw}{f0:UInt8}{oj tB tL e7 v0 ab ah ai:eu}{is:List Instr}{ax:ni}{o4:sg}{ou:aX}{oq:sY}{c4:Bool}{w0 en:World}{xs:List UInt8}{y:nD}
theorem R3{α:Type}(n k:Nat)(x:α):(List.replicate n x).set k x=List.replicate n x:=by
 apply List.ext_getElem
 .simp
 intro i G Y;rw[List.getElem_set];split<;>simp
theorem efI{oQ:Value}(oh:Nat->Nat)(a:ll c)(e:tV<c.eg.length)(dg:y.m.it∈oX.take 150)(f:f4 D)(g:dz (dE (y.sigs.length:Int) (n2 y)) (ad y) (ir D (ad y))=false)(h:ErrLaid en)(i:1099511627776<=nY)(j:1099511627776<=oS)(k:1099511627776<=r5)(l:Tab en oh)(n:U en (V tk #[N d,N tY,N eQ,N aH,N oY,aZ,eb ef,eb iI,oj.v,oQ] 105::V tY #[N d,tB.v] 208::B tB.v 407 (List.replicate c.eg.length (⟨0,ec⟩:aN))::a6 d e7 tL c b tJ tH e2 eZ tT co::sl tH ax c.eg.length (some tV)::B tT 3 ((List.replicate c.eg.length (⟨0⟩:eU)).set tV ⟨1⟩)::V oY #[N eQ,N e2,N eZ,N ip,.bool false,eF,eF,.int .u64 0] 302::V b #[N p,N q] 259::oO p ah ai m (some (⟨1,ou,1,c4⟩:Item))::h0 q aR a2 uO sq v0 ab::az ou is xs y::iF e2 o4 oX::nC tJ c.eg.length iG iY aL aG::B co 23 ((List.replicate c.eg.length (⟨0⟩:t7)).set tV ⟨ob⟩)::B oj.v 77 ([f0]:List UInt8)::iQ eZ oq []::rl ip oE nY oS r5::iC eQ D::S) w0):eJ 14 #[N tk,i6 c.eg.length] w0 (λu w'=>∃(o:Nat)(r:hh)(s:r4)(t:sY)(w:sw)(x:ni),u= .tuple #[]/\U en (V tk #[N d,N tY,N eQ,N aH,N oY,aZ,eb ef,eb iI,oj.v,oQ] 105::V tY #[N d,tB.v] 208::B tB.v 407 (List.replicate c.eg.length (⟨0,ec⟩:aN))::a6 d e7 tL c b tJ tH e2 eZ tT co::rA tH x c.eg.length::B tT 3 ((List.replicate c.eg.length (⟨0⟩:eU)).set tV ⟨0⟩)::V oY #[N eQ,N e2,N eZ,N ip,.bool false,eF,eF,.int .u64 0] 302::V b #[N p,N q] 259::oO p ah ai m none::h0 q aR a2 uO sq v0 ab::az ou is xs y::iF e2 o4 oX::nC tJ c.eg.length iG iY r s::B co 23 ((List.replicate c.eg.length (⟨0⟩:t7)).set tV ⟨o⟩)::B oj.v 77 ([7]:List UInt8)::iQ eZ t []::rl ip w nY oS r5::iC eQ D::S) w'):=by
 have em:hW ⟨en,tk,d,tY,eQ,aH,oY,b,tJ,tH,e2,eZ,p,q,aR,a2,uO,sq,m,tV,ip,iG,iY,ef,iI,nY,oS,r5,aZ,oQ,tT,co,oj,tB,e7,tL,ah,ai,v0,ab,c,ou,c4,is,xs,y,o4,oX,D,f0,oh⟩ false 0 S w0:=⟨_,_,_,_,_,_,.xc false ob aL aG oq oE ax,by rw[R3];exact n⟩;have G:=λz=>KD z em;refine(G ⟨a,e,dg,f,g,h,i,j,k,l⟩).mono ?_;rintro u w' ⟨rfl,HL,FLs,LA,c6,cT,X,A,E⟩;cases A;rename_i ob aL aG oq oE ax;simp only[List.cons_append,List.nil_append]at E;rw[R3]at E;exact⟨ob,aL,aG,oq,oE,ax,rfl,E⟩
theorem efN{oQ:Value}(oh:Nat->Nat)(a:ll c)(e:tV<c.eg.length)(dg:y.m.it∈oX.take 150)(f:f4 D)(g:dz (dE (y.sigs.length:Int) (n2 y)) (ad y) (ir D (ad y))=true)(h:ErrLaid en)(i:1099511627776<=nY)(j:1099511627776<=oS)(k:1099511627776<=r5)(l:Tab en oh)(n:U en (V tk #[N d,N tY,N eQ,N aH,N oY,aZ,eb ef,eb iI,oj.v,oQ] 105::V tY #[N d,tB.v] 208::B tB.v 407 (List.replicate c.eg.length (⟨0,ec⟩:aN))::a6 d e7 tL c b tJ tH e2 eZ tT co::sl tH ax c.eg.length (some tV)::B tT 3 ((List.replicate c.eg.length (⟨0⟩:eU)).set tV ⟨1⟩)::V oY #[N eQ,N e2,N eZ,N ip,.bool false,eF,eF,.int .u64 0] 302::V b #[N p,N q] 259::oO p ah ai m (some (⟨1,ou,1,c4⟩:Item))::h0 q aR a2 uO sq v0 ab::az ou is xs y::iF e2 o4 oX::nC tJ c.eg.length iG iY aL aG::B co 23 ((List.replicate c.eg.length (⟨0⟩:t7)).set tV ⟨ob⟩)::B oj.v 77 ([f0]:List UInt8)::iQ eZ oq []::rl ip oE nY oS r5::iC eQ D::S) w0):eJ 14 #[N tk,i6 c.eg.length] w0 (λu w'=>∃(s:Nat)(t:hh)(w:r4)(x:sY)(z:sw)(A:ni)(r:aX)(o:ta)(ch:(List tf))(ot:eu)(od:eu)(h7:eu)(mZ:eu)(oa:Nat),u= .tuple #[]/\U en (no (ch.length<=64)::V tk #[N d,N tY,N eQ,N aH,N oY,aZ,eb ef,eb iI,oj.v,oQ] 105::V tY #[N d,tB.v] 208::B tB.v 407 (List.replicate c.eg.length (⟨0,ec⟩:aN))::a6 d e7 tL c b tJ tH e2 eZ tT co::rA tH A c.eg.length::B tT 3 ((List.replicate c.eg.length (⟨0⟩:eU)).set tV ⟨0⟩)::V oY #[N eQ,N e2,N eZ,N ip,.bool false,ot.v,od.v,eb oa] 302::V b #[N p,N q] 259::oO p ah ai m none::h0 q aR a2 uO sq v0 ab::az ou is xs y::iF e2 o4 oX::nC tJ c.eg.length iG iY t w::B co 23 ((List.replicate c.eg.length (⟨0⟩:t7)).set tV ⟨s⟩)::B oj.v 77 ([8]:List UInt8)::iQ eZ x [((y3 y),r.tQ.m.it)]::cZ ip z::iC eQ (fg D ch)::B ot.v 30 ([h7]:List eu)::B h7.v 5 (([1,0,0,0,0,0,0,0]:List UInt8)++xs)::B od.v 189 [(⟨o.fail,o.aQ,o.tK,o.tc,o.tv,mZ⟩:ta)]::B mZ.v 64 ch::S) w'):=by
 have em:hW ⟨en,tk,d,tY,eQ,aH,oY,b,tJ,tH,e2,eZ,p,q,aR,a2,uO,sq,m,tV,ip,iG,iY,ef,iI,nY,oS,r5,aZ,oQ,tT,co,oj,tB,e7,tL,ah,ai,v0,ab,c,ou,c4,is,xs,y,o4,oX,D,f0,oh⟩ true 0 S w0:=⟨_,_,_,_,_,_,.xc true ob aL aG oq oE ax,by rw[R3];exact n⟩;have G:=λC=>KD C em;refine(G ⟨a,e,dg,f,g,h,i,j,k,l⟩).mono ?_;rintro u w' ⟨rfl,HL,FLs,LA,c6,cT,X,F,E⟩;cases F;rename_i ob aL aG oq oE ax r o ch ot od h7 mZ oa e1 dg;simp only[List.cons_append,List.nil_append]at E;rw[R3]at E;exact⟨ob,aL,aG,oq,oE,ax,r,o,ch,ot,od,h7,mZ,oa,rfl,E.pure e1.len⟩
variable{L M ch:List tf}{b:sD}{k r s:Nat}{lg:av}{sB:List o1}{w:World}
def uv(y:nD):av:=((ad y).getD 0 Om).key
theorem KZ{tl tx:Type}[DecidableEq tl]{k:tl}{v:tx}:∀{l:List (tl×tx)},(l.map Prod.fst).Nodup->(k,v)∈l->tR k l=some v
 |(y,u)::l,b,h=>by
  rw[List.map_cons]at b;obtain⟨G,Y⟩:=List.nodup_cons.1 b;rcases List.mem_cons.1 h with a|a
  .cases a;simp[tR]
  by_cases c:k=y
  .exact absurd (show y∈l.map Prod.fst from List.mem_map.2 ⟨(k,v),a,c⟩) G
  simp only[tR,if_neg c];exact KZ Y a
def uQ(lg:av)(L:List tf):Nat×Bool:=L.foldl (λa h=>if h.key=lg then(h.rJ.o6,decide (h.rJ.hJ=oc 32))else a) (0,false)
theorem efF(lg:av)(L:List tf)(h:tf):uQ lg (L++[h])=if h.key=lg then(h.rJ.o6,decide (h.rJ.hJ=oc 32))else uQ lg L:=by
 unfold uQ;rw[List.foldl_append];rfl
theorem R4(a:k<L.length):uQ lg (L.take (k+1))=if L[k].key=lg then(L[k].rJ.o6,decide (L[k].rJ.hJ=oc 32))else uQ lg (L.take k):=by
 rw[List.take_succ_eq_append_getElem a,efF]
theorem MF{lg:av}:∀(L:List tf),(∀h∈L,h.key≠lg) ->∀a,L.foldl (λa h=>if h.key=lg then(h.rJ.o6,decide (h.rJ.hJ=oc 32))else a) a=a
 |[],_,a=>rfl
 |h::L,b,a=>by
  rw[List.foldl_cons,if_neg (b h List.mem_cons_self)];exact MF L (λx c=>b x (List.mem_cons_of_mem _ c)) a
theorem K0{lg:av}{h:tf}(b:h.key=lg):∀(L:List tf)(a:Nat×Bool),(L.map (·.key)).Nodup->h∈L->L.foldl (λa h=>if h.key=lg then(h.rJ.o6,decide (h.rJ.hJ=oc 32))else a) a=(h.rJ.o6,decide (h.rJ.hJ=oc 32))
 |[],_,_,th=>by cases th
 |x::L,a,c,th=>by
  rw[List.map_cons,List.nodup_cons]at c;rw[List.foldl_cons];rcases List.mem_cons.1 th with rfl|th
  .rw[if_pos b];refine MF L (λy e d=>c.1 ?_) _;rw[b,<-d];exact List.mem_map_of_mem e
  exact K0 b L _ c.2 th
theorem K1(a:0<s)(c:s<=255):0<dE (s:Int) b:=by
 unfold dE;rw[YE];have G:ES (s:Int)=s*5000:=by
  unfold ES;rw[Int.toNat_natCast];exact My (by omega)
 simp only[List.map_cons,List.map_nil,List.sum_cons,List.sum_nil,G];omega
theorem K2(eM:l7 D L)(e1:df D){tc:Nat}(l:0<tc)(em:0<sB.length):
 dz tc sB (ir D sB)=((uQ sB[0].key L).2&&decide (tc<=(uQ sB[0].key L).1)&&sB[0].iO):=by
 have d:sB.getD 0 Om=sB[0]:=by simp[List.getD,em]
 have e:(ir D sB).getD 0 sI=D.get sB[0].key:=by simp[List.getD,ir,em]
 have f:(L.map (·.key)).Nodup:=by
  have h:=(eM.map (·.key)).symm.nodup (by rw[List.map_map];exact e1.sq);exact h
 unfold dz;rw[d,e];cases ep:tR sB[0].key D.eS with
 |none=>
  have b:D.get sB[0].key=sI:=by unfold im.get;rw[ep];rfl
  have c:uQ sB[0].key L=(0,false):=by
   refine MF L (λh g i=>?_) _;have G:=eM.mem_iff.1 g;obtain⟨x,j,k⟩:=List.mem_map.1 G;have Y:tR x.1 D.eS=some x.2:=KZ e1.sq j;rw[show x.1=sB[0].key from by rw[<-i,<-k],ep]at Y;cases Y
  rw[b,c,show sI.o6=0 from rfl,decide_eq_false (by omega:¬tc<=0)];simp
 |some a=>
  have b:D.get sB[0].key=a:=by unfold im.get;rw[ep];rfl
  have th:(⟨sB[0].key,a⟩:tf)∈L:=eM.mem_iff.2 (List.mem_map.2 ⟨(sB[0].key,a),Cs ep,rfl⟩);have c:uQ sB[0].key L=(a.o6,decide (a.hJ=oc 32)):=K0 (h:=⟨sB[0].key,a⟩) rfl L _ f th;rw[b,c];show(sB[0].iO&&decide (a.hJ=oc 32)&&decide (tc<=a.o6))=(decide (a.hJ=oc 32)&&decide (tc<=a.o6)&&sB[0].iO);cases sB[0].iO<;>cases decide (a.hJ=oc 32)<;>cases decide (tc<=a.o6)<;>rfl
theorem MP:∀(L:List tf){D:im},df D->df (lB D L)
 |[],_,h=>h
 |x::L,_,h=>MP L (h.put x.key x.rJ)
theorem MG:∀(L:List tf){D:im},df D->f4 D->(∀h∈L,dq h.rJ) ->f4 (lB D L)
 |[],_,_,h,_=>h
 |x::L,D,e1,h,eM=>by
  refine MG L (e1.put x.key x.rJ) (λk=>?_) λy a=>eM y (List.mem_cons_of_mem _ a);rw[eaD e1];split
  .exact eM x List.mem_cons_self
  exact h k
theorem K3:∀(L:List tf){D ek:im},D.eS=ek.eS->(lB D L).eS=(lB ek L).eS
 |[],_,_,h=>h
 |x::L,D,ek,h=>K3 L (show(D.put x.key x.rJ).eS=(ek.put x.key x.rJ).eS by unfold im.put;rw[h])
theorem R5(r:Nat)(L:List tf)(sB:List o1):ir (lB (⟨r,[]⟩:im) L) sB=ir (lB (⟨0,[]⟩:im) L) sB:=by
 unfold ir im.get;rw[K3 L (D:=⟨r,[]⟩) (ek:=⟨0,[]⟩) rfl]
theorem R6:df (⟨r,[]⟩:im):=⟨List.nodup_nil,λx a=>by cases a⟩
theorem K4:f4 (⟨r,[]⟩:im):=λk=>⟨(by show(0:Nat)<_;decide),(by show(0:Nat)<_;decide)⟩
theorem Iw(h:l7 (lB (⟨r,[]⟩:im) L) M)(eM:L.length<=200):M.length<=200:=by
 have G:=(show List.Perm _ _ from h).length_eq;rw[List.length_map]at G;have Y:=kz (⟨r,[]⟩:im) L;simp only[List.length_nil]at Y;omega
theorem efG(h:l7 (fg (lB (⟨r,[]⟩:im) L) ch) M)(eM:L.length<=200)(a:ch.length<=64):M.length<=1000:=by
 have G:=(show List.Perm _ _ from h).length_eq;rw[List.length_map]at G;have Y:=kz (⟨r,[]⟩:im) L;have ez:(fg (lB (⟨r,[]⟩:im) L) ch).eS.length<=_:=kz (lB (⟨r,[]⟩:im) L) ch;simp only[List.length_nil]at Y;omega
theorem R7(em:0<(ad y).length):uv y=(ad y)[0].key:=by unfold uv;simp[List.getD,em]
theorem R8{r:aX}(h:U w0 S w)(a:tX (az r is xs y) S):0<(ad y).length/\0<y.sigs.length/\y.sigs.length<=255:=by
 obtain⟨d,e,f,b,g,i,j,k,c⟩:=pe h a;exact⟨by omega,c,b⟩
theorem efW{tc:Nat}(eM:l7 D L)(e1:df D)(c:tc=dE (y.sigs.length:Int) (n2 y))(em:0<(ad y).length)(b:0<y.sigs.length/\y.sigs.length<=255)
 (a:dz (dE (y.sigs.length:Int) (n2 y)) (ad y) (ir D (ad y))=true):(uQ (uv y) L).2=true/\tc<=(uQ (uv y) L).1/\(ad y)[0].iO=true:=by
 have e:uv y=(ad y)[0].key:=by unfold uv;simp[List.getD,em]
 rw[K2 eM e1 (K1 b.1 b.2) em,<-e]at a;simp only[Bool.and_eq_true,decide_eq_true_eq]at a;exact⟨a.1.1,by rw[c];exact a.1.2,a.2⟩
theorem efY{tc:Nat}(eM:l7 D L)(e1:df D)(c:tc=dE (y.sigs.length:Int) (n2 y))(em:0<(ad y).length)(a:0<y.sigs.length/\y.sigs.length<=255)
 (b:dz (dE (y.sigs.length:Int) (n2 y)) (ad y) (ir D (ad y))=false):((uQ (uv y) L).2&&decide ((tc:Int)<=((uQ (uv y) L).1:Int))&&(ad y)[0].iO)=false:=by
 have e:uv y=(ad y)[0].key:=by unfold uv;simp[List.getD,em]
 rw[K2 eM e1 (K1 a.1 a.2) em,<-e]at b;rw[show decide ((tc:Int)<=((uQ (uv y) L).1:Int))=decide (tc<=(uQ (uv y) L).1)from decide_eq_decide.2 Int.ofNat_le];rw[c];exact b
open Tryz
variable{ae o8:eu}{ny sd rM r6 hx:Int}{l8 n6 l9 ce:Nat}{os:List Bool}{eg:List dC}
theorem epu(a:ev w0 e7.v eg)(e1:ev w0 tL.v os)(eM:ev w0 ae.v L)(b:64<eg.length):tN 5 #[.agg #[e7.v,.int .i64 ny,.int .i64 sd,.int .i64 rM,.int .i64 r6,eb l8,eb n6,eb l9,eb ce,.int .i64 hx,tL.v],ae.v,eF] w0 (.bool true):=by
 have:=aS a;refine eH 12 (eG _) func5 ntmps5 results5 rfl λtZ=>?_;refine eP true 32 λw E=>?_;exact⟨rfl,E.J⟩
theorem epm(a:ev w0 e7.v eg)(e1:ev w0 tL.v os)(eM:ev w0 ae.v L)(b:eg.length<=64)(c:100<os.length):tN 5 #[.agg #[e7.v,.int .i64 ny,.int .i64 sd,.int .i64 rM,.int .i64 r6,eb l8,eb n6,eb l9,eb ce,.int .i64 hx,tL.v],ae.v,eF] w0 (.bool true):=by
 have:=aS a;refine eH 12 (eG _) func5 ntmps5 results5 rfl λtZ=>?_;have:=aS e1;refine eP false 4 ?_;refine eP true 27 λw E=>?_;exact⟨rfl,E.J⟩
theorem epf(a:ev w0 e7.v eg)(e1:ev w0 tL.v os)(eM:ev w0 ae.v L)(b:eg.length<=64)(c:os.length<=100)(d:1000<hx):tN 5 #[.agg #[e7.v,.int .i64 ny,.int .i64 sd,.int .i64 rM,.int .i64 r6,eb l8,eb n6,eb l9,eb ce,.int .i64 hx,tL.v],ae.v,eF] w0 (.bool true):=by
 have:=aS a;refine eH 12 (eG _) func5 ntmps5 results5 rfl λtZ=>?_;have:=aS e1;refine eP false 4 ?_;refine eP false 4 ?_;refine eP true 22 λw E=>?_;exact⟨rfl,E.J⟩
theorem epp(a:ev w0 e7.v eg)(e1:ev w0 tL.v os)(eM:ev w0 ae.v L)(b:eg.length<=64)(c:os.length<=100)(d:hx<=1000)(e:200<L.length):tN 5 #[.agg #[e7.v,.int .i64 ny,.int .i64 sd,.int .i64 rM,.int .i64 r6,eb l8,eb n6,eb l9,eb ce,.int .i64 hx,tL.v],ae.v,eF] w0 (.bool true):=by
 have:=aS a;refine eH 12 (eG _) func5 ntmps5 results5 rfl λtZ=>?_;have:=aS e1;refine eP false 4 ?_;refine eP false 4 ?_;have:=aS eM;refine eP false 4 ?_;refine eP true 17 λw E=>?_;exact⟨rfl,E.J⟩
theorem Iv(a:ev w0 e7.v eg)(e1:ev w0 tL.v os)(eM:ev w0 ae.v L)(b:eg.length<=64)(c:os.length<=100)(d:hx<=1000)(e:L.length<=200):tN 5 #[.agg #[e7.v,.int .i64 ny,.int .i64 sd,.int .i64 rM,.int .i64 r6,eb l8,eb n6,eb l9,eb ce,.int .i64 hx,tL.v],ae.v,eF] w0 (.bool false):=by
 have:=aS a;refine eH 12 (eG _) func5 ntmps5 results5 rfl λtZ=>?_;have:=aS e1;refine eP false 4 ?_;refine eP false 4 ?_;have:=aS eM;refine eP false 4 ?_;refine eP false 4 ?_;refine eP false 18 λw E=>?_;refine oU 40 (og.step ?_);refine eI 6 E ?_;refine eP false 11 ?_;refine eP false 5 λw E=>?_;exact⟨rfl,E.J⟩
theorem epg(a:ev w0 e7.v eg)(e1:ev w0 tL.v os)(eM:ev w0 ae.v L)(b:¬(eg.length<=64/\os.length<=100/\hx<=1000/\L.length<=200)):tN 5 #[.agg #[e7.v,.int .i64 ny,.int .i64 sd,.int .i64 rM,.int .i64 r6,eb l8,eb n6,eb l9,eb ce,.int .i64 hx,tL.v],ae.v,eF] w0 (.bool true):=by
 by_cases em:eg.length<=64;rotate_left
 .exact epu a e1 eM (by omega)
 by_cases G:os.length<=100;rotate_left
 .exact epm a e1 eM em (by omega)
 by_cases Y:hx<=1000;rotate_left
 .exact epf a e1 eM em G (by omega)
 by_cases ez:L.length<=200;rotate_left
 .exact epp a e1 eM em G Y (by omega)
 exact absurd ⟨em,G,Y,ez⟩ b
theorem epw(a:ev w0 e7.v eg)(e1:ev w0 tL.v os)(eM:ev w0 ae.v L)(c:ev w0 o8.v xs)(b:¬(eg.length<=64/\os.length<=100/\hx<=1000/\L.length<=200)):tN 3 #[.agg #[e7.v,.int .i64 ny,.int .i64 sd,.int .i64 rM,.int .i64 r6,eb l8,eb n6,eb l9,eb ce,.int .i64 hx,tL.v],ae.v,o8.v] w0 (.bool true):=by
 refine eH 11 (eG _) func3 ntmps3 results3 rfl λtZ w E=>?_;refine ej 10 E (epg (a.ei E.J) (e1.ei E.J) (eM.ei E.J) b) λw E=>?_;refine ej 6 E (Tp) λw E=>?_;exact⟨rfl,E.J⟩
theorem epy(a:ev w0 e7.v eg)(e1:ev w0 tL.v os)(eM:ev w0 ae.v L)(b:ev w0 o8.v xs)(c:eg.length<=64)(d:os.length<=100)(e:hx<=1000)(f:L.length<=200)(g:1300<xs.length):tN 3 #[.agg #[e7.v,.int .i64 ny,.int .i64 sd,.int .i64 rM,.int .i64 r6,eb l8,eb n6,eb l9,eb ce,.int .i64 hx,tL.v],ae.v,o8.v] w0 (.bool true):=by
 refine eH 11 (eG _) func3 ntmps3 results3 rfl λtZ w E=>?_;have:=aS b;refine ej 3 E (Iv (a.ei E.J) (e1.ei E.J) (eM.ei E.J) c d e f) ?_;refine eP true 6 λw E=>?_;refine ej 6 E (Tp) λw E=>?_;exact⟨rfl,E.J⟩
variable{d:ca}{uT:Nat}
theorem K7(h:(nG xs).2=0/\cq (nG xs).1=0/\(nG xs).1.m.sn=[]):nG xs=((nG xs).1,0)/\cq (nG xs).1=0/\(nG xs).1.m.sn=[]:=⟨by rw[<-h.1],h.2⟩
theorem K8(a:ev w0 o8.v xs)(b:xs.length<=100000)(i:¬((nG xs).2=0/\cq (nG xs).1=0/\(nG xs).1.m.sn=[]))(c:U en S w0)(f:tX (l4 p d) S):eJ 8 #[o8.v,N p] w0 (λu w'=>∃(r:aX)(e:Int),u= .tuple #[.agg (O.enc r),.int .i64 e]/\U w0 [no (e≠0)] w'):=by
 have key:∀(r:aX)(e:Int)(u:Value)(w':World),e≠0->u= .tuple #[.agg (O.enc r),.int .i64 e]/\eB w0 w'->∃(r:aX)(e:Int),u= .tuple #[.agg (O.enc r),.int .i64 e]/\U w0 [no (e≠0)] w':=
  λr e u w' j h=>⟨r,e,h.1,((eG w0).ei h.2).pure j⟩
 by_cases G:(nG xs).2=0
 .have g:nG xs=((nG xs).1,0):=by rw[<-G]
  by_cases Y:cq (nG xs).1=0
  .have ez:(nG xs).1.m.sn≠[]:=λh=>i ⟨G,Y,h⟩;exact(enj a b g Y ez c f).mono λu w' h=>key _ _ u w' (by decide) h
  exact(enx a b g rfl Y c f).mono λu w' h=>key _ _ u w' Y h
 exact(enk a b rfl G c f).mono λu w' h=>key _ _ u w' G h
theorem epb(b:ev w0 o8.v xs)(c:xs.length<=100000)(i:Laid w0)(f:U en S w0)(g:tX (l4 p d) S):eJ 8 #[o8.v,N p] w0 (λu w'=>∃(r:aX)(e:Int),u= .tuple #[.agg (O.enc r),.int .i64 e]/\eB w0 w'):=by
 by_cases h:(nG xs).2=0/\cq (nG xs).1=0/\(nG xs).1.m.sn=[]
 .obtain⟨G,Y,ez⟩:=K7 h;exact(Ry b c G Y ez i f g).mono λu w'⟨r,is,a,E⟩=>⟨r,0,a,E.J⟩
 exact(K8 b c h f g).mono λu w'⟨r,e,a,E⟩=>⟨r,e,a,E.J⟩
theorem MB(x:ll c)(y:c.oS=1099511627776)(z:c.nY=1099511627776)(A:c.t8=1099511627776)(C:ev w0 e7.v c.eg)(e1:ev w0 (e4 uT 1 1) ([true]:List Bool))(eM:ev w0 ae.v L)(D:L.length<=100000):eJ 7 #[.agg #[e7.v,i6 c.room,i6 c.dT,i6 c.dA,i6 c.dO,.int .u64 1099511627776,.int .u64 1099511627776,.int .u64 1099511627776,eb c.c1,i6 c.lL,e4 uT 1 1],ae.v] w0 (λu w'=>∃(eE:eu)(te:eu)(tO:Nat)(af:sg)(aT:Nat)(oP:sY)(iN:Nat)(nB:Nat)(sb:Nat)(rF:Nat)(ld:eu)(dw:eu)(cu:Nat)(cN:Nat)(o:Nat)(p:Nat)(b:Nat)(d:Nat)(q:Nat)(r:Nat)(e:Nat)(s:ni)(a:Nat)(f:Nat)(g:Nat)(t:ca)(i:Nat)(tB:eu)(j:Nat)(k:eu)(l:(List tf))(m:Nat)(w:sw)(n:Nat),u= .tuple #[N i,i6 0]/\U w0 [V n #[N a,N tO,N aT,N m,.bool false,eF,eF,.int .u64 0] 302,rl m w 1099511627776 1099511627776 1099511627776,no (l7 (lB (⟨f,[]⟩:im) L) l),B k.v 64 l,iC a (lB (⟨f,[]⟩:im) L),V i #[N sb,N j,N a,N g,N n,k.v,.int .u64 0,eb c.c1,eF,eF] 105,a6 sb eE te c b d e tO aT (e4 iN c.eg.length c.eg.length) (e4 nB c.eg.length c.eg.length),V b #[N rF,N cN] 259,oO rF ld dw c.room none,V j #[N sb,tB.v] 208,B tB.v 407 (List.replicate c.eg.length (⟨0,ec⟩:aN)),l4 g t,sl e s c.eg.length none,nC d c.eg.length q r [] [],cQ cN o p cu,iQ aT oP [],iF tO af [],B (e4 iN c.eg.length c.eg.length) 3 (List.replicate c.eg.length (⟨0⟩:eU)),B (e4 nB c.eg.length c.eg.length) 23 (List.replicate c.eg.length (⟨0⟩:t7))] w'):=by
 have h:=KU (w0:=w0) (c:=c) (e7:=e7) (tL:=⟨some ⟨uT,0,none⟩,1,1⟩) (ae:=ae) (L:=L) x C e1 eM D;rw[y,z,A]at h;refine h.mono ?_;rintro u w' ⟨eE,te,tO,af,aT,oP,iN,nB,sb,rF,ld,dw,cu,cN,o,p,b,d,q,r,e,s,a,f,g,t,i,F,j,k,l,m,w,n,rfl,E⟩;exact⟨eE,te,tO,af,aT,oP,iN,nB,sb,rF,ld,dw,cu,cN,o,p,b,d,q,r,e,s,a,f,g,t,i,⟨some ⟨F,0,none⟩,c.eg.length,c.eg.length⟩,j,k,l,m,w,n,rfl,E⟩
theorem epv(a:ev w0 e7.v eg)(e1:ev w0 (e4 uT 1 1) ([true]:List Bool))(b:¬((1<=(eg.length:Int)/\(eg.length:Int)<=64)/\(1<=ny/\ny<=4096)/\(1<=sd/\sd<=256)/\(1<=rM/\rM<=64)/\(1<=r6/\r6<=256)/\0<=hx)):eJ 7 #[.agg #[e7.v,.int .i64 ny,.int .i64 sd,.int .i64 rM,.int .i64 r6,eb l8,eb n6,eb l9,eb ce,.int .i64 hx,e4 uT 1 1],ae.v] w0 (λu w'=>u= .tuple #[.pointer none,i6 1]/\eB w0 w'):=
 epc (w0:=w0) (e7:=e7) (tL:=⟨some ⟨uT,0,none⟩,1,1⟩) (eg:=eg) (ny:=ny) (sd:=sd) (rM:=rM) (r6:=r6) (hx:=hx) (l8:=l8) (n6:=n6) (l9:=l9) (ce:=ce) (ae:=ae) a e1 b
theorem epk(a:ev w0 e7.v eg)(e1:ev w0 tL.v os)(eM:ev w0 ae.v L)(b:ev w0 o8.v xs)(c:eg.length<=64)(d:os.length<=100)(e:hx<=1000)(f:L.length<=200)(j:xs.length<=1300)(g:¬((1<=(eg.length:Int)/\(eg.length:Int)<=64)/\(1<=ny/\ny<=4096)/\(1<=sd/\sd<=256)/\(1<=rM/\rM<=64)/\(1<=r6/\r6<=256)/\0<=hx))(h:Laid w0):tN 3 #[.agg #[e7.v,.int .i64 ny,.int .i64 sd,.int .i64 rM,.int .i64 r6,eb l8,eb n6,eb l9,eb ce,.int .i64 hx,tL.v],ae.v,o8.v] w0 (.bool true):=by
 refine eH 11 (eG _) func3 ntmps3 results3 rfl λtZ w E=>?_;have:=aS b;refine ej 3 E (Iv (a.ei E.J) (e1.ei E.J) (eM.ei E.J) c d e f) ?_;refine eP false 8 λw E=>?_;refine ho 6 E (sL ([true]:List Bool)) λk w E=>?_;refine ag 8 E (ud (#[.int .u64 1099511627776,.int .u64 1099511627776,.int .u64 1099511627776])) λw E=>?_;refine ej 10 E (epv (a.ei E.J) (E.ef .em) g) λw E=>?_;refine ej 0 E (ER) λl m w E=>?_;refine ej 12 E (epb (b.ei E.J) (by first|omega|simp) (h.ei E.J) E .em) λn i r2=>?_;refine eP true 18 λw E=>?_;refine ej 6 E (Tp) λw E=>?_;exact⟨rfl,E.J⟩
theorem epj(a:ll c)(e:c.oS=1099511627776)(f:c.nY=1099511627776)(g:c.t8=1099511627776)(b:ev w0 e7.v c.eg)(e1:ev w0 tL.v os)(eM:ev w0 ae.v L)(d:ev w0 o8.v xs)(h:os.length<=100)(l:c.lL<=1000)(i:L.length<=200)(n:xs.length<=1300)(j:¬((nG xs).2=0/\cq (nG xs).1=0/\(nG xs).1.m.sn=[])):tN 3 #[.agg #[e7.v,i6 c.room,i6 c.dT,i6 c.dA,i6 c.dO,eb l8,eb n6,eb l9,eb c.c1,i6 c.lL,tL.v],ae.v,o8.v] w0 (.bool true):=by
 obtain⟨o,p,q,r,s,t,u,x,y,z⟩:=id a;refine eH 11 (eG _) func3 ntmps3 results3 rfl λtZ w E=>?_;have:=aS d;refine ej 3 E (Iv (b.ei E.J) (e1.ei E.J) (eM.ei E.J) (by first|omega|simp) h (by first|omega|simp) i) ?_;refine eP false 8 λw E=>?_;refine ho 6 E (sL ([true]:List Bool)) λA w E=>?_;refine ag 8 E (ud (#[.int .u64 1099511627776,.int .u64 1099511627776,.int .u64 1099511627776])) λw E=>?_;refine ej 10 E (MB a e f g (b.ei E.J) (E.ef .em) (eM.ei E.J) (by first|omega|simp)) λB C D F G H I K M N O P Q R S T U V W X Y Hh x7 vl Tj Hl Tq Tz TE TT sZ TA Hd TO w E=>?_;refine ej 0 E (ER) λO9 MV w E=>?_;refine ej 12 E (K8 (d.ei E.J) (by first|omega|simp) j E .em) λc7 k r2=>?_;refine eP false 2 λw E=>?_;refine sk 50 rfl rfl rfl (ea (pG ((by simp only[Bool.not_eq_true',Bool.not_eq_false',decide_eq_true_eq,decide_eq_false_iff_not];exact E.mX (by repeat constructor))) (Z.neq rfl rfl ⟨rfl,rfl⟩) ?_));refine ew 15 E λw E=>?_;refine ej 6 E (Tp) λw E=>?_;exact⟨rfl,E.J⟩
theorem epK(oh:Nat->Nat)(z:ll c)(aA:c.oS=1099511627776)(aK:c.nY=1099511627776)(rW:c.t8=1099511627776)(K:ev w0 e7.v c.eg)(e1:ev w0 tL.v os)(eM:ev w0 ae.v L)(M:ev w0 o8.v xs)(sj:os.length<=100)(ro:c.lL<=1000)(F:L.length<=200)(iy:xs.length<=1300)(iB:nG xs=(y,0))(eD:cq y=0)(h9:y.m.sn=[])(rm:Laid w0)(P:Tab w0 oh)(vr:ErrLaid w0)(TS:∀h∈L,dq h.rJ)(kq:dz (dE (y.sigs.length:Int) (n2 y)) (ad y) (ir (lB (⟨0,[]⟩:im) L) (ad y))=true):tN 3 #[.agg #[e7.v,i6 c.room,i6 c.dT,i6 c.dA,i6 c.dO,eb l8,eb n6,eb l9,eb c.c1,i6 c.lL,tL.v],ae.v,o8.v] w0 (.bool true):=by
 obtain⟨dW,fv,a8,nv,iS,uN,un,hu,fy,ml⟩:=id z;refine eH 11 (eG _) func3 ntmps3 results3 rfl λtZ w E=>?_;have:=aS M;refine ej 3 E (Iv (K.ei E.J) (e1.ei E.J) (eM.ei E.J) (by first|omega|simp) sj (by first|omega|simp) F) ?_;refine eP false 8 λw E=>?_;refine ho 6 E (sL ([true]:List Bool)) λE9 w E=>?_;refine ag 8 E (ud (#[.int .u64 1099511627776,.int .u64 1099511627776,.int .u64 1099511627776])) λw E=>?_;refine ej 10 E (MB z aA aK rW (K.ei E.J) (E.ef .em) (eM.ei E.J) (by first|omega|simp)) λgl R9 Q K9 R He Tg Tw S Ty Ht Ha Ho Tb Hi Hn Tv Tk Hs Hr Tx Hh T A Tj Hl Tq Tz TE TT a TA Hd TO w E=>?_;refine ej 0 E (ER) λO9 MV w E=>?_;refine ej 12 E (Ry (M.ei E.J) (by first|omega|simp) iB eD h9 (rm.ei E.J) E .em) λu Iq r2=>?_;refine eP false 2 ?_;refine eP false 7 λw E=>?_;refine ej 0 E (Xi (by simp) (by simp) (Pi [19,18,13,13,13,13] E)) λIj=>?_;refine eP false 19 λw E=>?_;refine ej 6 E (KT (by have:=kz (⟨A,[]⟩:im) L;simp only[List.length_nil]at this;omega) (Pi [13,2] E)) λIz d w E=>?_;have IE:=E.mX (p:=l7 _ _) (by repeat constructor);have MX:=E.mX (p:=l7 _ a) (by repeat constructor);have epX:=Iw IE F;have epJ:=Iw MX F;refine ew 4 E λw E=>?_;refine ex.loop (λlW f w=>∃(k:Nat),oW [(2,o8.v),(3,N tZ),(7,N Tq),(9,N r2),(11,.int .u64 ((uQ (uv y) (d.take k)).1:Int)),(12,.bool (uQ (uv y) (d.take k)).2),(13,Iz.v),(14,i6 k)] f/\U w0 [B Iz.v 64 d,iC T (lB (⟨A,[]⟩:im) L),V Tq #[N S,N TE,N T,N Tj,N TO,TT.v,.int .u64 0,eb c.c1,eF,eF] 105,iF Q Ij (u.tQ.m.it::[]),a6 S gl R9 c Tv Tk Tx Q R (e4 Tg c.eg.length c.eg.length) (e4 Tw c.eg.length c.eg.length),V Tv #[N Ty,N Tb] 259,oO Ty Ht Ha c.room none,cQ Tb Hi Hn Ho,V r2 (O.enc u) 53,az u Iq xs y,V TO #[N T,N Q,N R,N TA,.bool false,eF,eF,.int .u64 0] 302,rl TA Hd 1099511627776 1099511627776 1099511627776,B TT.v 64 a,V TE #[N S,Tz.v] 208,B Tz.v 407 (List.replicate c.eg.length (⟨0,ec⟩:aN)),l4 Tj Hl,sl Tx Hh c.eg.length none,nC Tk c.eg.length Hs Hr [] [],iQ R He [],B (e4 Tg c.eg.length c.eg.length) 3 (List.replicate c.eg.length (⟨0⟩:eU)),B (e4 Tw c.eg.length c.eg.length) 23 (List.replicate c.eg.length (⟨0⟩:t7)),V tZ #[e7.v,i6 c.room,i6 c.dT,i6 c.dA,i6 c.dO,.int .u64 1099511627776,.int .u64 1099511627776,.int .u64 1099511627776,eb c.c1,i6 c.lL,e4 E9 1 1] 28] w/\k<=d.length/\lW=d.length-k) (d.length) ?_ ?_
 .
   exact⟨0,⟨rfl,rfl,rfl,rfl,(by first|rfl|(refine congrArg (Value.int .u64) ?_;omega)),sF,rfl,sF,trivial⟩,(tF [0,11,14,24] E),Nat.zero_le _,rfl⟩
 .
   rintro lW f w ⟨k,e8,E,rU,my⟩;refine io _ e8 (λg=>?_);clear e8;refine eI 9 E<|om 0 0 (λaJ w E=>?_) (λaJ w E=>?_)
   .
     have aj:k<d.length:=by omega
     have C:=R8 E .n9;refine eI 5 E ?_;refine ow 3 11 (e5 [0,1,2,3,4,5,6,7,8,9,10] .nil) [] ⟨⟨ay⟩,λ_=>xk 5 ⟨⟨ay⟩,λ_=>xk 2 λw E=>?_⟩⟩;refine tw rfl (λw E=>vT rfl rfl eY) (ao 2 E<|om 0 0 (λW w E=>?_) (λW w E=>?_))
     .
       have x:=R4 (lg:=uv y) aj;rw[if_pos (by rw[R7 C.1];exact W)]at x;refine eI 18 E λw E=>?_;exact ea (yg (k:=oc 32) (by first|rfl|(simp only[sM,nn];rfl)) (by intro p X;first|(exfalso;simp at X;done)|(simp only[List.map_cons,List.map_nil,List.mem_cons,List.not_mem_nil,or_false]at X;rcases X with rfl|rfl|rfl|rfl<;>exact⟨by simp,rfl⟩)) (ea (vT rfl rfl (ew 10 E ⟨iA,λw E=>(⟨d.length-(k+1),by omega,k+1,⟨rfl,rfl,rfl,rfl,(by rw[x];rfl),(by rw[x];rfl),rfl,congrArg (Value.int .i64) (by omega),trivial⟩,E,by omega,rfl⟩)⟩))))
     .
       have x:=R4 (lg:=uv y) aj;rw[if_neg (by rw[R7 C.1];exact W)]at x;refine eI 9 E ⟨iA,λw E=>?_⟩;exact⟨d.length-(k+1),by omega,k+1,⟨rfl,rfl,rfl,rfl,(by rw[x];rfl),(by rw[x];rfl),rfl,congrArg (Value.int .i64) (by omega),trivial⟩,E,by omega,rfl⟩
   .
     have dj:d.take k=d:=List.take_of_length_le (by omega);rw[dj];have ig:=E.g9 (r:=u) (is:=Iq) .n9;have dg:u.tQ.m.it=y.m.it:=ig.2.2.2.2.2.2.1;have C:=R8 E .n9;obtain⟨epQ,evh,epZ⟩:=efW IE (MP L (R6)) ig.1.tc C.1 C.2 (by rw[R5];exact kq);rw[epQ];refine eI 9 E λw E=>?_;refine ej 10 E (Xn _ M (by first|omega|simp) iB eD h9 rm (by rw[dg];simp) P (Pi [18,8,5,16,9,9,9,9] E)) λep0 ep1 ep2 ep3 ep4 ep5 w E=>?_;refine ej 12 E (Xa _ z (by rw[dg];simp) P (Pi [22,22,21,22,13,13,8,7,8,9,12,18,13] E)) λep6 ep7 ep8 ep9 ege egt ega ego YL=>?_;refine eP false 2 ?_;refine eP false 3 ?_;have:=aS K;refine eP false 12 λw E=>?_;refine ej 6 E (efN _ z (E.mX .n9) (by rw[dg];simp) (MG L (R6) (K4) TS) (by rw[R5];exact kq) vr (by first|omega|simp) (by first|omega|simp) (by first|omega|simp) P ((Pi [21,24,18,20,18,17,19,15,18,16,16,20,20,20,19,27,27] E).pick (.ee (.ee (.ee (.ee (.ee (.ee (.ee (.ak)))))))))) λegi egn egs egr l egh evl D H evd evc evu evm o w E=>?_;refine ej 14 E (Kt (E.tU .G) (E.ef (.ee (.ak)))) ?_;refine eP true 3 λw E=>?_;refine sk 136 rfl rfl rfl (ea (ap (v:=u.s5.v) rfl (E.aV (.i 30) (Sh u)) ?_));refine sk 136 rfl rfl rfl (ea (nL (α:=o1) (v:=u.s5.v) rfl (gr E (.ee (.ee (.ee (.ee (.ee (.ee (.ee (.ee (.ee (.ee (.ee (.ee (.ee (.ee (.ee (.ee (.ee (.ak))))))))))))))))))).2.2.1 rfl ay ?_));refine sk 136 rfl rfl rfl (ea (Z.fieldAddr rfl ((gr E (.ee (.ee (.ee (.ee (.ee (.ee (.ee (.ee (.ee (.ee (.ee (.ee (.ee (.ee (.ee (.ee (.ee (.ak))))))))))))))))))).2.2.1.sv (show 0<(ad y).length from ay)) ?_));refine sk 136 rfl rfl rfl (ea (ap (v:=.bool (((ad y)[0]).iO)) rfl (dK ((gr E (.ee (.ee (.ee (.ee (.ee (.ee (.ee (.ee (.ee (.ee (.ee (.ee (.ee (.ee (.ee (.ee (.ee (.ak))))))))))))))))))).2.2.1.se (show 0<(ad y).length from by omega)) 33 (Dd _)) ?_));refine ea (m9 rfl (congrArg Value.bool epZ) ?_);refine ea (ww rfl ?_);refine ew 5 E λw E=>?_;refine ea (oD rfl ?_);refine ea (gS rfl (Z.neq rfl rfl ⟨rfl,rfl⟩) ?_);refine ea (di rfl ?_);refine sk 145 rfl rfl rfl (ea (di rfl ?_));refine sk 145 rfl rfl rfl (ea (oD rfl ?_));refine sk 145 rfl rfl rfl (ea (pG rfl (Z.eql rfl rfl ⟨rfl,rfl⟩) ?_));refine sk 145 rfl rfl rfl (ea (Pd rfl rfl ?_));refine ea (m9 rfl rfl ?_);refine ea (di rfl ?_);refine sk 151 rfl rfl rfl (ea (di rfl ?_));refine sk 151 rfl rfl rfl (ea (Z.not rfl ?_));refine sk 151 rfl rfl rfl (ea (di rfl ?_));refine ew 2 E λw E=>?_;refine sk 151 rfl rfl rfl (ea (m9 rfl rfl ?_));refine ea (m9 rfl rfl ?_);refine ew 8 E λw E=>?_;have wx:=E.mX (p:=H.length<=64) (by repeat constructor);refine ew 1 E λw E=>?_;refine ej 0 E (emG z (by have G:=kz (⟨A,[]⟩:im) L;have Y:=kz (lB (⟨A,[]⟩:im) L) H;have ez:=E.mX (p:=H.length<=64) (by repeat constructor);simp only[List.length_nil]at G;show(lB (lB (⟨A,[]⟩:im) L) H).eS.length<=_;omega) (by first|omega|simp) (λj h=>by rw[List.getElem_replicate]) (by first|omega|simp) (by simp;omega) (E.mX .em) (Pi [17,22,22,22,22,12,22,12,11,12,12,12] E)) λegl b Xs evf egd evp evg=>?_;refine eP false 7 λw E=>?_;have egc:=efG (E.mX (p:=l7 _ b) (by repeat constructor)) F wx;refine ew 1 E λw E=>?_;refine ej 6 E (efs (E.tU .nE) (E.ef .em) (E.ef (.ee (.ee (.ee (.ee (.ee (.ee (.ee (.ee (.ee (.ee (.ee (.ee (.ee (.ee (.ee (.ee (.ee (.ee (.ee (.ee (.ee (.ee (.ee (.ee (.ee (.ak))))))))))))))))))))))))))) (E.ef .aW) (by first|omega|simp) (by first|omega|simp) (sf (ys:=([Xs]:List eu)) (E.ef .ez) (by simp) (by simp) (by simp) (by exact(E.ef .ez).cap) (by simp)) (E.ef .e6) (by simp;omega) (sf (ys:=[(⟨D.fail,D.aQ,D.tK,D.tc,D.tv,egd⟩:ta)]) (E.ef .G) (by simp) (by simp) (by simp) (by exact(E.ef .G).cap) (by simp)) (E.ef .Y) (E.mX (.ee (.ee (.ee (.ee (.ee (.ak)))))))) λI q s e y8 t evw w E=>?_;refine ea (cw (n:=1) (v:=((ts I 1 1).cut 0 1 1 (O.eo aq)).v) (xs:=[(⟨0,(q.cut 0 a.length a.length (O.eo tf)),(s.cut 0 b.length b.length (O.eo tf)),(ts e 1 1),(ts t 1 1),o,l.block⟩:aq)]) rfl (sf (ys:=[(⟨0,(q.cut 0 a.length a.length (O.eo tf)),(s.cut 0 b.length b.length (O.eo tf)),(ts e 1 1),(ts t 1 1),o,l.block⟩:aq)]) (E.ef .aW) (by simp) (by simp) (by simp) (by exact(E.ef .aW).cap) (by simp)) rfl ?_);refine mn true 2 E λw E=>?_;refine sk 167 rfl rfl rfl (ea (nL (α:=aq) (v:=((ts I 1 1).cut 0 1 1 (O.eo aq)).v) (xs:=[(⟨0,(q.cut 0 a.length a.length (O.eo tf)),(s.cut 0 b.length b.length (O.eo tf)),(ts e 1 1),(ts t 1 1),o,l.block⟩:aq)]) (i:=0) rfl (sf (ys:=[(⟨0,(q.cut 0 a.length a.length (O.eo tf)),(s.cut 0 b.length b.length (O.eo tf)),(ts e 1 1),(ts t 1 1),o,l.block⟩:aq)]) (E.ef .aW) (by simp) (by simp) (by simp) (by exact(E.ef .aW).cap) (by simp)) rfl ay ?_));refine sk 167 rfl rfl rfl (ea (Z.fieldAddr rfl ((show ev _ (((ts I 1 1).cut 0 1 1 (O.eo aq)).v) [(⟨0,(q.cut 0 a.length a.length (O.eo tf)),(s.cut 0 b.length b.length (O.eo tf)),(ts e 1 1),(ts t 1 1),o,l.block⟩:aq)]from(sf (ys:=[(⟨0,(q.cut 0 a.length a.length (O.eo tf)),(s.cut 0 b.length b.length (O.eo tf)),(ts e 1 1),(ts t 1 1),o,l.block⟩:aq)]) (E.ef .aW) (by simp) (by simp) (by simp) (by exact(E.ef .aW).cap) (by simp))).sv (show 0<[(⟨0,(q.cut 0 a.length a.length (O.eo tf)),(s.cut 0 b.length b.length (O.eo tf)),(ts e 1 1),(ts t 1 1),o,l.block⟩:aq)].length from ay)) (ag 1 E (hT (v:=e4 e 1 1) λw E=>dK ((show ev _ (((ts I 1 1).cut 0 1 1 (O.eo aq)).v) [(⟨0,(q.cut 0 a.length a.length (O.eo tf)),(s.cut 0 b.length b.length (O.eo tf)),(ts e 1 1),(ts t 1 1),o,l.block⟩:aq)]from(sf (ys:=[(⟨0,(q.cut 0 a.length a.length (O.eo tf)),(s.cut 0 b.length b.length (O.eo tf)),(ts e 1 1),(ts t 1 1),o,l.block⟩:aq)]) (E.ef .aW) (by simp) (by simp) (by simp) (by exact(E.ef .aW).cap) (by simp))).se (show 0<[(⟨0,(q.cut 0 a.length a.length (O.eo tf)),(s.cut 0 b.length b.length (O.eo tf)),(ts e 1 1),(ts t 1 1),o,l.block⟩:aq)].length from ay)) 3 (Md _)) ?_)));refine eP true 1 λw E=>?_;refine sk 167 rfl rfl rfl (ea (Pl rfl rfl ?_));refine ew 2 E λw E=>?_;refine sk 177 rfl rfl rfl (ea (Z.call (Tp) rfl ?_));rintro _ w ⟨rfl,ed⟩;replace E:=E.ei ed;refine ea (m9 rfl rfl ?_);refine ew 5 E λw E=>?_;exact⟨rfl,E.J⟩
theorem egu(oh:Nat->Nat)(C:ll c)(aA:c.oS=1099511627776)(aK:c.nY=1099511627776)(rW:c.t8=1099511627776)(I:ev w0 e7.v c.eg)(e1:ev w0 tL.v os)(eM:ev w0 ae.v L)(K:ev w0 o8.v xs)(sj:os.length<=100)(ro:c.lL<=1000)(F:L.length<=200)(iy:xs.length<=1300)(iB:nG xs=(y,0))(eD:cq y=0)(h9:y.m.sn=[])(rm:Laid w0)(M:Tab w0 oh)(vr:ErrLaid w0)(TS:∀h∈L,dq h.rJ)(kq:dz (dE (y.sigs.length:Int) (n2 y)) (ad y) (ir (lB (⟨0,[]⟩:im) L) (ad y))=false):tN 3 #[.agg #[e7.v,i6 c.room,i6 c.dT,i6 c.dA,i6 c.dO,eb l8,eb n6,eb l9,eb c.c1,i6 c.lL,tL.v],ae.v,o8.v] w0 (.bool true):=by
 obtain⟨dW,fv,a8,nv,iS,uN,un,hu,fy,ml⟩:=id C;refine eH 11 (eG _) func3 ntmps3 results3 rfl λtZ w E=>?_;have:=aS K;refine ej 3 E (Iv (I.ei E.J) (e1.ei E.J) (eM.ei E.J) (by first|omega|simp) sj (by first|omega|simp) F) ?_;refine eP false 8 λw E=>?_;refine ho 6 E (sL ([true]:List Bool)) λE9 w E=>?_;refine ag 8 E (ud (#[.int .u64 1099511627776,.int .u64 1099511627776,.int .u64 1099511627776])) λw E=>?_;refine ej 10 E (MB C aA aK rW (I.ei E.J) (E.ef .em) (eM.ei E.J) (by first|omega|simp)) λgl R9 P K9 Q He Tg Tw R Ty Ht Ha Ho Tb Hi Hn Tv Tk Hs Hr Tx Hh S T Tj Hl Tq Tz TE TT d TA Hd TO w E=>?_;refine ej 0 E (ER) λO9 MV w E=>?_;refine ej 12 E (Ry (K.ei E.J) (by first|omega|simp) iB eD h9 (rm.ei E.J) E .em) λs Iq r2=>?_;refine eP false 2 ?_;refine eP false 7 λw E=>?_;refine ej 0 E (Xi (by simp) (by simp) (Pi [19,18,13,13,13,13] E)) λIj=>?_;refine eP false 19 λw E=>?_;refine ej 6 E (KT (by have:=kz (⟨T,[]⟩:im) L;simp only[List.length_nil]at this;omega) (Pi [13,2] E)) λIz q w E=>?_;have IE:=E.mX (p:=l7 _ _) (by repeat constructor);have MX:=E.mX (p:=l7 _ d) (by repeat constructor);have epX:=Iw IE F;have epJ:=Iw MX F;refine ew 4 E λw E=>?_;refine ex.loop (λlW f w=>∃(k:Nat),oW [(2,o8.v),(3,N tZ),(7,N Tq),(9,N r2),(11,.int .u64 ((uQ (uv y) (q.take k)).1:Int)),(12,.bool (uQ (uv y) (q.take k)).2),(13,Iz.v),(14,i6 k)] f/\U w0 [B Iz.v 64 q,iC S (lB (⟨T,[]⟩:im) L),V Tq #[N R,N TE,N S,N Tj,N TO,TT.v,.int .u64 0,eb c.c1,eF,eF] 105,iF P Ij (s.tQ.m.it::[]),a6 R gl R9 c Tv Tk Tx P Q (e4 Tg c.eg.length c.eg.length) (e4 Tw c.eg.length c.eg.length),V Tv #[N Ty,N Tb] 259,oO Ty Ht Ha c.room none,cQ Tb Hi Hn Ho,V r2 (O.enc s) 53,az s Iq xs y,V TO #[N S,N P,N Q,N TA,.bool false,eF,eF,.int .u64 0] 302,rl TA Hd 1099511627776 1099511627776 1099511627776,B TT.v 64 d,V TE #[N R,Tz.v] 208,B Tz.v 407 (List.replicate c.eg.length (⟨0,ec⟩:aN)),l4 Tj Hl,sl Tx Hh c.eg.length none,nC Tk c.eg.length Hs Hr [] [],iQ Q He [],B (e4 Tg c.eg.length c.eg.length) 3 (List.replicate c.eg.length (⟨0⟩:eU)),B (e4 Tw c.eg.length c.eg.length) 23 (List.replicate c.eg.length (⟨0⟩:t7)),V tZ #[e7.v,i6 c.room,i6 c.dT,i6 c.dA,i6 c.dO,.int .u64 1099511627776,.int .u64 1099511627776,.int .u64 1099511627776,eb c.c1,i6 c.lL,e4 E9 1 1] 28] w/\k<=q.length/\lW=q.length-k) (q.length) ?_ ?_
 .
   exact⟨0,⟨rfl,rfl,rfl,rfl,(by first|rfl|(refine congrArg (Value.int .u64) ?_;omega)),sF,rfl,sF,trivial⟩,(tF [0,11,14,24] E),Nat.zero_le _,rfl⟩
 .
   rintro lW f w ⟨k,e8,E,rU,my⟩;refine io _ e8 (λg=>?_);clear e8;refine eI 9 E<|om 0 0 (λaJ w E=>?_) (λaJ w E=>?_)
   .
     have aj:k<q.length:=by omega
     have D:=R8 E .n9;refine eI 5 E ?_;refine ow 3 11 (e5 [0,1,2,3,4,5,6,7,8,9,10] .nil) [] ⟨⟨ay⟩,λ_=>xk 5 ⟨⟨ay⟩,λ_=>xk 2 λw E=>?_⟩⟩;refine tw rfl (λw E=>vT rfl rfl eY) (ao 2 E<|om 0 0 (λW w E=>?_) (λW w E=>?_))
     .
       have A:=R4 (lg:=uv y) aj;rw[if_pos (by rw[R7 D.1];exact W)]at A;refine eI 18 E λw E=>?_;exact ea (yg (k:=oc 32) (by first|rfl|(simp only[sM,nn];rfl)) (by intro p X;first|(exfalso;simp at X;done)|(simp only[List.map_cons,List.map_nil,List.mem_cons,List.not_mem_nil,or_false]at X;rcases X with rfl|rfl|rfl|rfl<;>exact⟨by simp,rfl⟩)) (ea (vT rfl rfl (ew 10 E ⟨iA,λw E=>(⟨q.length-(k+1),by omega,k+1,⟨rfl,rfl,rfl,rfl,(by rw[A];rfl),(by rw[A];rfl),rfl,congrArg (Value.int .i64) (by omega),trivial⟩,E,by omega,rfl⟩)⟩))))
     .
       have A:=R4 (lg:=uv y) aj;rw[if_neg (by rw[R7 D.1];exact W)]at A;refine eI 9 E ⟨iA,λw E=>?_⟩;exact⟨q.length-(k+1),by omega,k+1,⟨rfl,rfl,rfl,rfl,(by rw[A];rfl),(by rw[A];rfl),rfl,congrArg (Value.int .i64) (by omega),trivial⟩,E,by omega,rfl⟩
   .
     have dj:q.take k=q:=List.take_of_length_le (by omega);rw[dj];have ig:=E.g9 (r:=s) (is:=Iq) .n9;have dg:s.tQ.m.it=y.m.it:=ig.2.2.2.2.2.2.1;have D:=R8 E .n9;have egm:=efY IE (MP L (R6)) ig.1.tc D.1 D.2 (by rw[R5];exact kq);refine eI 9 E λw E=>?_;refine ej 10 E (Xn _ K (by first|omega|simp) iB eD h9 rm (by rw[dg];simp) M (Pi [18,8,5,16,9,9,9,9] E)) λep0 ep1 ep2 ep3 ep4 ep5 w E=>?_;refine ej 12 E (Xa _ C (by rw[dg];simp) M (Pi [22,22,21,22,13,13,8,7,8,9,12,18,13] E)) λep6 ep7 ep8 ep9 ege egt ega ego YL=>?_;refine eP false 2 ?_;refine eP false 3 ?_;have:=aS I;refine eP false 12 λw E=>?_;refine ej 6 E (efI _ C (E.mX .n9) (by rw[dg];simp) (MG L (R6) (K4) TS) (by rw[R5];exact kq) vr (by first|omega|simp) (by first|omega|simp) (by first|omega|simp) M ((Pi [21,24,18,20,18,17,19,15,18,16,16,20,20,20,19,27,27] E).pick (.ee (.ee (.ee (.ee (.ee (.ee (.ee (.ak)))))))))) λegi egn egs egr y7 egh w E=>?_;refine ej 11 E (Kt (E.tU .em) (E.ef .ak)) λw E=>?_;refine tn.eV _ 130 _ rfl rfl rfl rfl (λevy=>oD rfl ⟨rfl,eB.refl _⟩) (λw l=>?_);replace E:=E.ei l;refine tn.eV _ 130 _ rfl rfl rfl rfl (λevb=>o9 (b:=r2) (o:=0) rfl ⟨rfl,eB.refl _⟩) (λw l=>?_);replace E:=E.ei l;refine tn.eV _ 130 _ rfl rfl rfl rfl (λegf=>ap (v:=eb s.tc) (by first|exact a7 rfl egf|rfl) (E.aV (.i 25) (Dm s)) ⟨rfl,eB.refl _⟩) (λw l=>?_);replace E:=E.ei l;refine tn.eV _ 130 _ rfl rfl rfl rfl (λXr=>Z.geq (k:=.u64) (a:=((uQ (uv y) q).1:Int)) (b:=(s.tc:Int)) (by first|exact a7 rfl Xr|rfl) (by first|exact a7 rfl Xr|rfl) ⟨rfl,eB.refl _⟩) (λw l=>?_);replace E:=E.ei l;refine ea (fN rfl (by first|rfl) rfl (ew 1 E λw E=>(tn.eV _ 136 _ rfl rfl rfl rfl (λevv=>o9 (b:=r2) (o:=0) rfl ⟨rfl,eB.refl _⟩) (λw l=>?_))));replace E:=E.ei l;refine tn.eV _ 136 _ rfl rfl rfl rfl (λegp=>ap (v:=s.s5.v) (by first|exact a7 rfl egp|rfl) (E.aV (.i 25) (Sh s)) ⟨rfl,eB.refl _⟩) (λw l=>?_);replace E:=E.ei l;refine tn.eV _ 136 _ rfl rfl rfl rfl (λegg=>nL (α:=o1) (v:=s.s5.v) (by first|exact a7 rfl egg|rfl) (gr E (.ee (.ee (.ee (.ee (.ee (.ee (.ee (.ee (.ee (.ee (.ee (.ee (.ak)))))))))))))).2.2.1 rfl ay ⟨rfl,eB.refl _⟩) (λw l=>?_);replace E:=E.ei l;refine tn.eV _ 136 _ rfl rfl rfl rfl (λegw=>Z.fieldAddr (by first|exact a7 rfl egw|rfl) ((gr E (.ee (.ee (.ee (.ee (.ee (.ee (.ee (.ee (.ee (.ee (.ee (.ee (.ak)))))))))))))).2.2.1.sv (show 0<(ad y).length from ay)) ⟨rfl,eB.refl _⟩) (λw l=>?_);replace E:=E.ei l;refine tn.eV _ 136 _ rfl rfl rfl rfl (λegy=>ap (v:=.bool (((ad y)[0]).iO)) (by first|exact a7 rfl egy|rfl) (dK ((gr E (.ee (.ee (.ee (.ee (.ee (.ee (.ee (.ee (.ee (.ee (.ee (.ee (.ak)))))))))))))).2.2.1.se (show 0<(ad y).length from by omega)) 33 (Dd _)) ⟨rfl,eB.refl _⟩) (λw l=>?_);replace E:=E.ei l;refine ea (fN rfl (by first|rfl) rfl (ea (wy (v:=.bool false) (congrArg Value.bool egm) (ew 6 E ?_))));refine eP false 3 λw E=>?_;refine sk 145 rfl rfl rfl (ea (gS rfl (Z.eql rfl rfl ⟨rfl,rfl⟩) (sk 145 rfl rfl rfl (ea (Pd rfl rfl (ea (m9 rfl rfl (ea (di rfl (sk 151 rfl rfl rfl (ea (di rfl (sk 151 rfl rfl rfl (ea (Z.not rfl (sk 151 rfl rfl rfl (ea (di rfl (sk 154 rfl rfl rfl (ea (oD rfl (sk 154 rfl rfl rfl (ea (gS rfl (Z.neq rfl rfl ⟨rfl,rfl⟩) (sk 151 rfl rfl rfl (ea (m9 rfl rfl ?_)))))))))))))))))))))))))));refine ea (m9 rfl rfl ?_);refine ew 9 E λw E=>?_;refine ej 0 E (emP C (by have G:=kz (⟨T,[]⟩:im) L;simp only[List.length_nil]at G;omega) (by first|omega|simp) (λj h=>by rw[List.getElem_replicate]) (Pi [16,7,17,7,6,7,7,7] E)) λegl e Xs=>?_;refine eP false 7 λw E=>?_;have egc:=Iw (E.mX (p:=l7 _ e) (by repeat constructor)) F;refine ew 1 E λw E=>?_;refine ej 6 E (Kz (E.tU .e6) (E.ef .em) (E.ef (.ee (.ee (.ee (.ee (.ee (.ee (.ee (.ee (.ee (.ee (.ee (.ee (.ee (.ee (.ee (.ee (.ak)))))))))))))))))) (E.ef .Y) (by first|omega|simp) (by first|omega|simp) (sf (ys:=([]:List eu)) (ev.nil (α:=eu) _) (by simp) (by simp) (by simp) (by exact Nat.zero_le _) (by simp)) (sf (ys:=([]:List ta)) (ev.nil (α:=ta) _) (by simp) (by simp) (by simp) (by exact Nat.zero_le _) (by simp))) λH u x t z w E=>?_;refine ea (cw (n:=1) (v:=((ts H 1 1).cut 0 1 1 (O.eo aq)).v) (xs:=[(⟨0,(u.cut 0 d.length d.length (O.eo tf)),(x.cut 0 e.length e.length (O.eo tf)),(ts t 0 0),(ts z 0 0),0,0⟩:aq)]) rfl (sf (ys:=[(⟨0,(u.cut 0 d.length d.length (O.eo tf)),(x.cut 0 e.length e.length (O.eo tf)),(ts t 0 0),(ts z 0 0),0,0⟩:aq)]) (E.ef .e6) (by simp) (by simp) (by simp) (by exact(E.ef .e6).cap) (by simp)) rfl ?_);refine mn true 2 E λw E=>?_;refine sk 167 rfl rfl rfl (ea (nL (α:=aq) (v:=((ts H 1 1).cut 0 1 1 (O.eo aq)).v) (xs:=[(⟨0,(u.cut 0 d.length d.length (O.eo tf)),(x.cut 0 e.length e.length (O.eo tf)),(ts t 0 0),(ts z 0 0),0,0⟩:aq)]) (i:=0) rfl (sf (ys:=[(⟨0,(u.cut 0 d.length d.length (O.eo tf)),(x.cut 0 e.length e.length (O.eo tf)),(ts t 0 0),(ts z 0 0),0,0⟩:aq)]) (E.ef .e6) (by simp) (by simp) (by simp) (by exact(E.ef .e6).cap) (by simp)) rfl ay (sk 167 rfl rfl rfl (ea (Z.fieldAddr rfl ((show ev _ (((ts H 1 1).cut 0 1 1 (O.eo aq)).v) [(⟨0,(u.cut 0 d.length d.length (O.eo tf)),(x.cut 0 e.length e.length (O.eo tf)),(ts t 0 0),(ts z 0 0),0,0⟩:aq)]from(sf (ys:=[(⟨0,(u.cut 0 d.length d.length (O.eo tf)),(x.cut 0 e.length e.length (O.eo tf)),(ts t 0 0),(ts z 0 0),0,0⟩:aq)]) (E.ef .e6) (by simp) (by simp) (by simp) (by exact(E.ef .e6).cap) (by simp))).sv (show 0<[(⟨0,(u.cut 0 d.length d.length (O.eo tf)),(x.cut 0 e.length e.length (O.eo tf)),(ts t 0 0),(ts z 0 0),0,0⟩:aq)].length from ay)) (ag 1 E (hT (v:=e4 t 0 0) λw E=>dK ((show ev _ (((ts H 1 1).cut 0 1 1 (O.eo aq)).v) [(⟨0,(u.cut 0 d.length d.length (O.eo tf)),(x.cut 0 e.length e.length (O.eo tf)),(ts t 0 0),(ts z 0 0),0,0⟩:aq)]from(sf (ys:=[(⟨0,(u.cut 0 d.length d.length (O.eo tf)),(x.cut 0 e.length e.length (O.eo tf)),(ts t 0 0),(ts z 0 0),0,0⟩:aq)]) (E.ef .e6) (by simp) (by simp) (by simp) (by exact(E.ef .e6).cap) (by simp))).se (show 0<[(⟨0,(u.cut 0 d.length d.length (O.eo tf)),(x.cut 0 e.length e.length (O.eo tf)),(ts t 0 0),(ts z 0 0),0,0⟩:aq)].length from ay)) 3 (Md _)) ?_))))));refine eP false 1 λw E=>?_;refine sk 167 rfl rfl rfl (ea (Pl rfl rfl ?_));refine ew 2 E λw E=>?_;refine sk 177 rfl rfl rfl (ea (Z.call (Tp) rfl ?_));rintro _ w ⟨rfl,l⟩;replace E:=E.ei l;refine ea (m9 rfl rfl ?_);refine ew 5 E λw E=>?_;exact⟨rfl,E.J⟩
variable{v:Int}
theorem egb{P:Program}{t:TypeId}[h:TL P t]:pY P t Bool (λ_ _=>True):=by
 intro H enc w fuel cs d ps a;obtain⟨b,rfl⟩:=Ju h.out a;exact⟨b,rfl,trivial⟩
theorem egv{P:Program}{t:TypeId}[h:LK P t]:pY P t dC (λ_ _=>True):=by
 intro H enc w fuel cs d ps a;cases fuel with
 |zero=>simp[lJ,DataW.trod]at a
 |succ fuel=>
  unfold lJ DataW.trod at a;rw[h.out]at a;have key:∃n,cs=[.float .f64 n]:=by
   split at a<;>simp_all
  obtain⟨n,rfl⟩:=key;exact⟨⟨n⟩,rfl,trivial⟩
structure fz where
 E2:eu
 room:Int
 dT:Int
 dA:Int
 dO:Int
 pj:uF
 RA:Nat
 lL:Int
 ue:eu
variable{x:fz}
def fz.parts(x:fz):List (Array Value):=[#[x.E2.v],#[.int .i64 x.room],#[.int .i64 x.dT],#[.int .i64 x.dA],#[.int .i64 x.dO],O.enc x.pj,#[eb x.RA],#[.int .i64 x.lL],#[x.ue.v]]
theorem egk(x:fz):x.parts.map Array.size=[1,1,1,1,1,3,1,1,1]:=by
 simp only[fz.parts,List.map,O.eT];rfl
instance:O fz where
 enc x:=eK x.parts
 eo:=11
 pos:=by omega
 eT x:=by rw[iw,egk];rfl
 one x:=rY (all_cons (O.one (α:=eu) _) (all_cons (o0 _ _) (all_cons (o0 _ _) (all_cons (o0 _ _) (all_cons (o0 _ _) (all_cons (O.one _) (all_cons (o0 _ _) (all_cons (o0 _ _) (all_cons (O.one (α:=eu) _) rB)))))))))
theorem Xh(x:fz):O.enc x=eK x.parts:=rfl
def fz.ok(w:World)(x:fz):Prop:=(∃l:List (dC),ev w x.E2.v l/\∀e∈l,True)/\(-9223372036854775808<=x.room/\x.room<=9223372036854775807)/\(-9223372036854775808<=x.dT/\x.dT<=9223372036854775807)/\(-9223372036854775808<=x.dA/\x.dA<=9223372036854775807)/\(-9223372036854775808<=x.dO/\x.dO<=9223372036854775807)/\(uF.ok w x.pj)/\(x.RA<=18446744073709551615)/\(-9223372036854775808<=x.lL/\x.lL<=9223372036854775807)/\(∃l:List (Bool),ev w x.ue.v l/\∀e∈l,True)
theorem egx:pY prog 28 fz fz.ok:=by
 intro H enc w fuel cs d ps i;obtain⟨dX,B,a⟩:=I7 underlying28 inferInstance i;obtain⟨d0,C,em⟩:=a 0 _ 22 0 1 rfl rfl rfl inferInstance;obtain⟨eE,j,i0⟩:=F1 (α:=dC) inferInstance egv inferInstance em;obtain⟨d1,D,G⟩:=a 1 _ 3 1 1 rfl rfl rfl inferInstance;obtain⟨te,k,i1⟩:=T5 inferInstance G;obtain⟨d2,E,Y⟩:=a 2 _ 3 2 1 rfl rfl rfl inferInstance;obtain⟨tO,l,i2⟩:=T5 inferInstance Y;obtain⟨d3,m,ez⟩:=a 3 _ 3 3 1 rfl rfl rfl inferInstance;obtain⟨af,n,i3⟩:=T5 inferInstance ez;obtain⟨d4,o,e6⟩:=a 4 _ 3 4 1 rfl rfl rfl inferInstance;obtain⟨aT,p,i4⟩:=T5 inferInstance e6;obtain⟨d5,q,ac⟩:=a 5 _ 25 5 3 rfl rfl rfl inferInstance;obtain⟨oP,r,i5⟩:=I8 ehu ac;obtain⟨d6,s,aW⟩:=a 6 _ 23 8 1 rfl rfl rfl inferInstance;obtain⟨iN,t,i6⟩:=zt inferInstance aW;obtain⟨d7,u,nf⟩:=a 7 _ 3 9 1 rfl rfl rfl inferInstance;obtain⟨nB,v,i7⟩:=T5 inferInstance nf;obtain⟨d8,x,nE⟩:=a 8 _ 26 10 1 rfl rfl rfl inferInstance;obtain⟨sb,y,i8⟩:=F1 (α:=Bool) inferInstance egb inferInstance nE;have b:=fo y dX;have c:=fo v b;have e:=fo t c;have f:=fo r e;have g:=fo p f;have h:=fo n g;have z:=fo l h;have A:=fo k z;have lg:=fo j A;refine⟨⟨eE,te,tO,af,aT,oP,iN,nB,sb⟩,?_,⟨i0,i1,i2,i3,i4,i5,i6,i7,i8⟩⟩;rw[Xh];simp only[fz.parts,ze,yh];rw[List.drop_zero]at lg;rw[lg];try simp
variable{a:aB}
theorem egO(x:fz):(.agg (O.enc x):Value)= .agg #[x.E2.v,.int .i64 x.room,.int .i64 x.dT,.int .i64 x.dA,.int .i64 x.dO,eb x.pj.block,eb x.pj.rJ,eb x.pj.tv,eb x.RA,.int .i64 x.lL,x.ue.v]:=by
 refine congrArg Value.agg (Array.ext' ?_);rw[Xh];simp[fz.parts,ze,yh,BI,uF.parts]
theorem egI(w0:World)(x:fz)(ae o8:eu)(eg:List dC)(os:List Bool)(L:List tf)(xs:List UInt8)(oh:Nat->Nat)(b:ev w0 x.E2.v eg)(e1:ev w0 x.ue.v os)(eM:ev w0 ae.v L)(c:ev w0 o8.v xs)(g:Laid w0)(n:Tab w0 oh)(o:ErrLaid w0)(p:∀h∈L,dq h.rJ):
 eJ 3 #[.agg (O.enc x),ae.v,o8.v] w0 (λu w'=>u= .bool true/\eB w0 w'):=by
 rw[egO];by_cases q:eg.length<=64/\os.length<=100/\x.lL<=1000/\L.length<=200;rotate_left
 .exact epw b e1 eM c q
 obtain⟨r,d,s,e⟩:=q;by_cases f:xs.length<=1300;rotate_left
 .exact epy b e1 eM c r d s e (by omega)
 by_cases t:(1<=(eg.length:Int)/\(eg.length:Int)<=64)/\(1<=x.room/\x.room<=4096)/\(1<=x.dT/\x.dT<=256)/\(1<=x.dA/\x.dA<=64)/\(1<=x.dO/\x.dO<=256)/\0<=x.lL;rotate_left
 .exact epk b e1 eM c r d s e f t g
 obtain⟨⟨E,F⟩,⟨iZ,aa⟩,⟨n3,nr⟩,⟨d1,d2⟩,⟨f1,f2⟩,TU⟩:=t;obtain⟨e7,i,j,yj,tT,⟨iG,iY,G⟩,k,C,tL⟩:=x;dsimp only at*;obtain⟨i,rfl⟩:=Int.eq_ofNat_of_zero_le (a:=i) (by omega);obtain⟨j,rfl⟩:=Int.eq_ofNat_of_zero_le (a:=j) (by omega);obtain⟨yj,rfl⟩:=Int.eq_ofNat_of_zero_le (a:=yj) (by omega);obtain⟨tT,rfl⟩:=Int.eq_ofNat_of_zero_le (a:=tT) (by omega);obtain⟨D,rfl⟩:=Int.eq_ofNat_of_zero_le (a:=C) (by omega);have l:ll ⟨eg,i,j,yj,tT,1099511627776,1099511627776,1099511627776,k,D⟩:=by
  constructor<;>dsimp only<;>omega
 by_cases w:(nG xs).2=0/\cq (nG xs).1=0/\(nG xs).1.m.sn=[];rotate_left
 .exact epj l rfl rfl rfl b e1 eM c d (by dsimp only;omega) e f w
 obtain⟨y,z,A⟩:=K7 w;cases B:dz (dE ((nG xs).1.sigs.length:Int) (n2 (nG xs).1)) (ad (nG xs).1) (ir (lB (⟨0,[]⟩:im) L) (ad (nG xs).1))with
 |false=>exact egu oh l rfl rfl rfl b e1 eM c d (by dsimp only;omega) e f y z A g n o p B
 |true=>exact epK oh l rfl rfl rfl b e1 eM c d (by dsimp only;omega) e f y z A g n o p B
theorem egS(h:a.ok w):dq a:=by
 unfold aB.ok at h;obtain⟨G,Y⟩:=h;exact⟨by omega,by omega⟩
end
end Go.Fer
namespace Go.Proofs.YtncdhadaifhleaaGreatDoor
open Go Go.RowKit
section
open Go.ChangeShapes Go.WideShapes Go.ChangeAt Go.WideMaps Go.WideElems
variable{W:World}{l:List Value}{m:Nat}{ns:List Int}
abbrev Xl:List (String×DataW Unit):=[("math/bits.deBruijn64tab",Rows.laid_math_bits_deBruijn64tab),("ferryhouse/budgets.long",Rows.laid_ferryhouse_budgets_long),("ferryhouse/budgets.tags",Rows.laid_ferryhouse_budgets_tags)]
abbrev Xd:List (String×DataW Unit):=[("errors.errorType",Rows.laid_errors_errorType)]
abbrev IA:List (String×DataW Unit):=[("math/bits.deBruijn64tab",Rows.laid_math_bits_deBruijn64tab),("errors.errorType",Rows.laid_errors_errorType),("ferryhouse/budgets.long",Rows.laid_ferryhouse_budgets_long),("ferryhouse/budgets.tags",Rows.laid_ferryhouse_budgets_tags)]
theorem egR:Tryz.prog.globalNamed "ferryhouse/budgets.long"=some 0:=by kernel_rfl
theorem egH:Tryz.prog.globalNamed "ferryhouse/budgets.tags"=some 1:=by kernel_rfl
theorem egL:Tryz.prog.globalNamed "math/bits.deBruijn64tab"=some 4:=by kernel_rfl
theorem egD:(Tryz.prog.globals[0]?).map (·.type)=some 349:=by kernel_rfl
theorem egC:(Tryz.prog.globals[1]?).map (·.type)=some 350:=by kernel_rfl
theorem egU:(Tryz.prog.globals[4]?).map (·.type)=some 250:=by kernel_rfl
theorem egM:Tryz.prog.globalNamed "errors.errorType"=some 6:=by kernel_rfl
theorem egF:(Tryz.prog.cutTypes.find? (·.1== "internal/reflectlite.rtype")).map (·.2)=some 332:=by kernel_rfl
theorem egP:((List.range 673).filter λt=>Tryz.prog.rowNamed t [101,114,114,111,114])=[214]:=by kernel_rfl
theorem egG:Tryz.prog.types.size=673:=by kernel_rfl
def yo:List Int:=[0,1,56,2,57,49,28,3,61,58,42,50,38,29,17,4,62,47,59,36,45,43,51,22,53,39,33,30,24,18,12,5,63,55,48,27,60,41,37,16,46,35,44,21,52,32,23,11,54,26,40,15,34,20,31,10,25,14,19,9,13,8,7,6]
theorem egW:((Array.range 64).map λi=>(.int .u8 ((yo.getD i 0).toNat:Int):Value)).toList=yo.map (Value.int .u8):=by
 rw[Array.toList_map,Array.toList_range];rfl
theorem MZ{k:IntKind}{e:TypeId}(f:Tryz.prog.underlying e=some (.int k))(n3:Tryz.prog.cellsOf e=1){xs:List (DataW Unit×List MemPlace)}(eM:l.length=ns.length)(c:xs.length=ns.length)
 (g:∀(i:Nat),i<ns.length->DataW.trod (λ_=>()) Tryz.prog W 0 (λ_=>true) false m e ((l.drop (i*Tryz.prog.cellsOf e)).take (Tryz.prog.cellsOf e))=xs[i]?)
 (b:DataW.agg (ns.map λa=>.lit (.int k a))=DataW.agg (xs.map λx=>x.fst)):l=ns.map (Value.int k):=by
 have b:=DataW.agg.inj b;apply List.ext_getElem (by simp[eM]);intro i G Y;have ey:i<ns.length:=by rw[<-eM];exact G
 have em:=g i ey;rw[n3,Nat.mul_one,List.drop_eq_getElem_cons G,List.getElem?_eq_getElem (by rw[c];exact ey)]at em;obtain⟨a,d,h,_⟩:=DataW.trod_int f em;have ez:(ns.map λa=>DataW.lit (H:=Unit) (.int k a))[i]? =(xs.map λx=>x.fst)[i]? :=by rw[b]
 rw[List.getElem?_map,List.getElem?_map,List.getElem?_eq_getElem ey,List.getElem?_eq_getElem (by rw[c];exact ey),h]at ez;simp only[Option.map_some,Option.some.injEq,DataW.lit.injEq,Lit.int.injEq,true_and]at ez;simp only[List.take_succ_cons,List.take_zero,List.cons.injEq,and_true]at d;rw[d,List.getElem_map,ez]
theorem egY(h:handlesMet Tryz.prog Xd W):Fer.ErrLaid W:=by
 obtain⟨name,u,ty,b,c,d,e,a⟩:=h _ (List.mem_singleton.2 rfl);have ot:name=[101,114,114,111,114]:=(Option.some.inj b).symm;subst ot;obtain rfl:=Option.some.inj (egF.symm.trans c);have th:ty∈(List.range 673).filter λt=>Tryz.prog.rowNamed t [101,114,114,111,114]:=List.mem_filter.2 ⟨List.mem_range.2 (by rw[<-egG];exact d),e⟩;rw[egP]at th;obtain rfl:=List.mem_singleton.1 th;have f:typeHandle Tryz.prog 214= .pointer (some ⟨8,214,none⟩):=by kernel_rfl
 rw[f]at a;unfold Fer.ErrLaid;simpa using World.var?_cell egM a 0
theorem Xc(h:laidMet Tryz.prog Xl W):Fer.Laid W/\Fer.Tab W (λi=>(yo.getD i 0).toNat):=by
 obtain⟨ps,⟨I,t2,s,f2,j5,o4,m,t,b,v,⟨J,t0,w,f0,xc,K,n,y,z,c,⟨L,t1,A,f1,jL,nw,o,B,C,D,_,_⟩,_⟩,_⟩,_,_⟩:=h;obtain rfl:=Option.some.inj (egR.symm.trans n);obtain rfl:=Option.some.inj (egH.symm.trans o);obtain rfl:=Option.some.inj (egL.symm.trans m);obtain rfl:=Option.some.inj (egD.symm.trans y);obtain rfl:=Option.some.inj (egC.symm.trans B);obtain rfl:=Option.some.inj (egU.symm.trans t);obtain⟨xs,TU,rfl,p,hlen,d,E⟩:=DataW.trod_array Tryz.underlying349 c;obtain⟨ys,AR,rfl,q,F,e,G⟩:=DataW.trod_array Tryz.underlying350 D;obtain⟨zs,Zw,rfl,r,f,g,l⟩:=DataW.trod_array Tryz.underlying250 v;simp only[Prod.mk.injEq]at p q r;have iG:=MZ (k:=.i64) (ns:=[4,8]) Tryz.underlying3 (by kernel_rfl) (hlen.trans (by kernel_rfl)) d E p.1;have iY:=MZ (k:=.u8) (ns:=[2,3]) Tryz.underlying5 (by kernel_rfl) (F.trans (by kernel_rfl)) e G q.1;have H:=MZ (k:=.u8) (ns:=yo) Tryz.underlying5 (by kernel_rfl) (f.trans (by kernel_rfl)) g l r.1;refine⟨⟨⟨0,0,rfl,λj u a=>?_⟩,⟨1,0,rfl,λj u a=>?_⟩⟩,⟨⟨4,0,rfl,λj u a=>?_⟩,rfl,λi=>?_⟩⟩
 .rw[Nat.zero_add,World.var?_cell n z j,<-a,<-Array.getElem?_toList,iG,<-Array.getElem?_toList];rfl
 .rw[Nat.zero_add,World.var?_cell o C j,<-a,<-Array.getElem?_toList,iY,<-Array.getElem?_toList];rfl
 .rw[Nat.zero_add,World.var?_cell m b j,<-a,<-Array.getElem?_toList,H,<-Array.getElem?_toList,egW]
 show(yo.getD i 0).toNat<=255;have h:∀x∈yo,x.toNat<=255:=by decide
 by_cases ey:i<yo.length
 .have:yo.getD i 0=yo[i]:=by simp[List.getD,ey]
  rw[this];exact h _ (List.getElem_mem ey)
 have:yo.getD i 0=0:=by simp[List.getD,Nat.le_of_not_lt ey]
 rw[this];decide
theorem eg0(h:laidMetH Tryz.prog IA W):Fer.Laid W/\Fer.Tab W (λi=>(yo.getD i 0).toNat)/\Fer.ErrLaid W:=by
 have h':laidMet Tryz.prog Xl W/\handlesMet Tryz.prog Xd W:=h;exact⟨(Xc h'.1).1,(Xc h'.1).2,egY h'.2⟩
theorem eg1(os:Os)(args:Array Value):laidMetH Tryz.prog IA ((World.doorLaid Tryz.prog 31 os).forCall (λ_ _=>0) ⟨#[],args,[]⟩).memory:=
 laidMetH_of_parts3 (fuel:=8) (laidMet_of_run' 8 (by kernel_rfl) (by kernel_rfl)) (by kernel_rfl) (by kernel_rfl)
end
end Go.Proofs.YtncdhadaifhleaaGreatDoor
