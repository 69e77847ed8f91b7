import Derived.Test.YtncdhadaifhleaaGreatDoorF14
set_option linter.all false
set_option synthInstance.maxSize 100000
set_option synthInstance.maxHeartbeats 400000
set_option maxHeartbeats 8000000
set_option maxRecDepth 100000
namespace Go.Fer
open Go Go.RowKit
section
open Go.Proofs Tryz
variable{L:List (hO×sW)}{S:List eL}{g:hO}{h:sW}{p tD t6:Nat}{q:hO×sW}{v oL o3:Option Nat}{w w' w0:World}
structure mw where
 of:Option Nat
 all:Option Nat
variable{x:mw}
def mw.parts(x:mw):List (Array Value):=[#[.map x.of],#[.map x.all]]
theorem erD(x:mw):x.parts.map Array.size=[1,1]:=by
 simp only[mw.parts,List.map,O.eT];rfl
instance:O mw where
 enc x:=eK x.parts
 eo:=2
 pos:=by omega
 eT x:=by rw[iw,erD];rfl
 one x:=rY (all_cons (q9 _) (all_cons (q9 _) rB))
theorem erC(x:mw):(O.enc x)[1]? =some (.map x.all):=hp [#[.map x.of]] [] _ sH
instance(priority:=2000):nt (⟨oL,o3⟩:mw) [#[.map oL],#[.map o3]]:=⟨rfl⟩
def tC(h:sW):Value:=.agg (O.enc h)
structure sY where
 tD:Nat
 t6:Nat
 all:List (sW×(Value×List hO))
variable{d:sY}
def RT(p:Nat)(d:sY)(L:List (hO×sW)):List eL:=
 [V p (O.enc (mw.mk (some d.tD) (some d.t6))) 249,tW d.tD tC L,tW d.t6 Prod.fst d.all]++pl 251 d.all
@[irreducible] def we (p:Nat) (d:sY) (L:List (hO×sW)):eL:=hD (RT p d L)
def OB(L:List (hO×sW))(h:sW):List hO:=(L.filter λq=>decide (q.2=h)).map Prod.fst
def b2:Value×List hO:=(eF,[])
def b3(L:List (hO×sW))(d:sY):Prop:=(L.map Prod.fst).Nodup/\∀h:sW,((tR h d.all).getD b2).2=OB L h
theorem U.erU(h:U w0 (we p d L::S) w):
 U w0 (V p (O.enc (mw.mk (some d.tD) (some d.t6))) 249::tW d.tD tC L::tW d.t6 Prod.fst d.all::(pl 251 d.all++S)) w:=by
 unfold we at h;exact h.dr
theorem U.Us(d:sY)
 (h:U w0 (V p (O.enc (mw.mk (some d.tD) (some d.t6))) 249::tW d.tD tC L::tW d.t6 Prod.fst d.all::(pl 251 d.all++S)) w):U w0 (we p d L::S) w:=by
 unfold we;exact U.closed (l:=RT p d L) h
def Bw(w:World)(p:Nat)(d:sY)(L:List (hO×sW)):Prop:=ar w (N p) (O.enc (mw.mk (some d.tD) (some d.t6)))/\hV w d.tD tC L
theorem U.erM(h:U w0 S w)(a:tX (we p d L) S):Bw w p d L:=by
 have G:=h.get a;unfold we at G;rw[pK]at G;refine⟨?_,?_⟩
 .have:=G.2 (V p (O.enc (mw.mk (some d.tD) (some d.t6))) 249) (by simp[RT]);unfold V at this;exact ar.dV this
 have:=G.2 (tW d.tD tC L) (by simp[RT]);rw[mN]at this;exact this
def E0(L:List (hO×sW))(g:hO)(h:sW):List (hO×sW):=if(tR g L).isSome=true then L else L++[(g,h)]
theorem erF(hd:b3 L d)(c:(tR g L).isSome=false){v:Value}:
 b3 (E0 L g h) {d with all:=oH h (v,((tR h d.all).getD b2).2++[g]) d.all}:=by
 unfold E0;rw[if_neg (by rw[c];decide)];have i:tR g L=none:=by simpa using c
 refine⟨?_,λh'=>?_⟩
 .rw[List.map_append];refine List.nodup_append.2 ⟨hd.1,by simp,λa ep b f=>?_⟩;simp at f;subst f;exactλe=>za.1 i (e▸ep)
 show((tR h' (oH h _ d.all)).getD b2).2=_;rw[mI];by_cases e:h'=h
 .subst e;rw[if_pos rfl];show((tR h' d.all).getD b2).2++[g]=_;rw[hd.2 h'];simp[OB,List.filter_append]
 rw[if_neg e,hd.2 h'];simp[OB,List.filter_append,Ne.symm e]
theorem erP:oG prog 42 (tC (oc 32)):=by
 have h:oG prog 42 _:=inferInstance;unfold tC;rw[nn];exact h
theorem By(a:ar w0 (N p) (O.enc (mw.mk (some tD) (some t6)))):tN 103 #[N p] w0 (.bool true):=by
 have:=iu a;refine eH 21 (eG _) func103 ntmps103 results103 rfl λw E=>?_;exact⟨rfl,E.J⟩
theorem Bb(ep:Bw w0 p d L):tN 121 #[N p,.agg (O.enc g)] w0 (.bool (tR g L).isSome):=by
 refine eH 10 (eG _) func121 ntmps121 results121 rfl λtZ w E=>?_;refine ej 3 E (By (ep.1.ei E.J))<|na 0 3 (λa b w E=>?_) (λ_ b w E=>?_)
 .
   exact absurd a (by decide)
 .
   have:=iu ep.1;refine nV 5 12 (e5 [0,1,2,3,4,5,6,7,8] (oJ [9,10] (.look 11 .nil))) [] E λw E=>?_;refine tw rfl (λw E=>zr (tl:=hO) (ti:=tC) (z0:=oc 32) (u:=(tR g L).getD (oc 32)) erP (ep.2.ei E.J) rfl rfl rfl eY) (ao 3 E λw E=>(ol rfl (sV E ?_)));intro c w e E;refine⟨pm E,?_⟩;refine n5 rfl rfl (iV E rfl rfl es (by first|rfl|exact O.eT _) (tA es λw E=>?_));refine⟨pm E,?_⟩;refine ao 11 E λw E=>?_;exact⟨rfl,E.J⟩
variable{b:Bool}{en:World}
theorem erG(j:U en (we p d L::S) w0)(hd:b3 L d)(eM:L.length<=100000):eJ 338 #[N p,.agg (O.enc g),.agg (O.enc h)] w0 (λu w'=>∃d',u= .int .i64 (if(tR g L).isSome=true then 28 else 0)/\b3 (E0 L g h) d'/\U en (we p d' (E0 L g h)::S) w'):=by
 refine eH 12 j.erU func338 ntmps338 results338 rfl λaF i w E=>?_;refine ej 4 E (By (E.tU es))<|na 0 4 (λl m w E=>?_) (λ_ m w E=>?_)
 .
   exact absurd l (by decide)
 .
   refine ej 3 E (Bb ⟨E.tU es,E.map es⟩)<|na 9 0 (λb n w E=>?_) (λb n w E=>?_)
   .
     have th:E0 L g h=L:=if_pos b;rw[th,if_pos b];exact⟨d,rfl,hd,E.nF.nF.Us⟩
   .
     have o:tR g L=none:=by simpa using b
     refine eI 4 E ?_;refine ow 6 6 (e5 [0,1,2,3,4,5] (.one 6 .nil)) [] λw E=>?_;refine nP rfl (Z.mapUpdate (tl:=hO) (k:=g) (v:=h) (ti:=tC) E es rfl rfl rfl (tA es λw E=>(ao 1 E λw E=>?_)));rw[T7 o]at E;obtain⟨_,_,_,q⟩:=E.map (r:=d.t6) (ti:=Prod.fst) (eS:=d.all) es;have s:=q.2.2;replace E:=E.JM [_,_,_,_,_] h;simp only[List.cons_append,List.nil_append]at E;have x:(OB L h).length<=L.length:=by unfold OB;rw[List.length_map];exact List.length_filter_le _ _
     have c:((tR h d.all).getD b2).2.length<=100000:=by rw[hd.2 h];omega
     replace E:U en (B ((tR h d.all).getD b2).1 251 ((tR h d.all).getD b2).2::V i (O.enc h) 42::V aF (O.enc g) 251::V p (O.enc (mw.mk (some d.tD) (some d.t6))) 249::tW d.tD tC (L++[(g,h)])::tW d.t6 Prod.fst d.all::(pl 251 (rc h d.all)++S)) w:=E;generalize e:((tR h d.all).getD b2)=X at E c;refine s4 2 E λw E=>?_;refine vz 12 (e5 [0,1,2,3,4,5] (oJ [6,7] (e5 [8,10] (oJ [9,11] .nil)))) (by kernel_rfl) (λ_ _ _ h=>h) (λaM t=>?_);replace E:=E.ei t;have y:=E;refine⟨λw=>U en [V i (O.enc h) 42,V aF (O.enc g) 251,V p (O.enc (mw.mk (some d.tD) (some d.t6))) 249] w,E.sub aI,?_⟩;refine e3.look rfl rfl rfl (λw a=>(by have E:=a;exact oM (v:=N p) rfl ⟨rfl,rfl⟩)) ?_;refine e3.look rfl rfl rfl (λw a=>(by have E:=a;exact sS rfl ⟨rfl,rfl⟩)) ?_;refine e3.look rfl rfl rfl (λw a=>(by have E:=a;exact o9 rfl ⟨rfl,rfl⟩)) ?_;refine e3.look rfl rfl rfl (λw a=>(by have E:=a;exact ap rfl (E.aV es (erC _)) ⟨rfl,rfl⟩)) ?_;refine e3.look rfl rfl rfl (λw a=>(by have E:=a;exact ap rfl (E.nZ (cs:=O.enc h) es (O.eT _)) ⟨rfl,rfl⟩)) ?_;refine e3.look rfl rfl rfl (λw a=>(by have E:=a;exact ap rfl (E.nZ (cs:=O.enc g) es (O.eT _)) ⟨rfl,rfl⟩)) ?_;refine ol rfl (n4 E (([g]:List hO)) [.agg (O.enc g)] rfl rfl rfl rfl (by decide) ?_);intro z w a E;refine⟨E.sub aI,?_⟩;refine ol rfl (Z.mapEntry (tl:=sW) (tx:=Value×List hO) (k:=h) (ti:=Prod.fst) (z0:=b2) inferInstance E es rfl rfl ?_);intro born w E;replace E:=E _ es;rw[e]at E;rw[e];refine⟨E.sub aI,?_⟩;refine e3.look rfl rfl rfl (λw a=>(by have E:=a;exact Z.extract rfl rfl ⟨rfl,rfl⟩)) ?_;refine e3.look rfl rfl rfl (λw a=>(by have E:=a;exact Z.extract rfl rfl ⟨rfl,rfl⟩)) ?_;refine ol rfl (dS (α:=Vector UInt8 64) rfl E rfl es (E.ef es) (by simp only[List.length_cons,List.length_nil];omega) (by simp only[maxLen];simp only[List.length_cons,List.length_nil];omega) ?_);intro f w E;replace E:=E _ es;refine⟨E.sub aI,?_⟩;refine n5 rfl rfl (Z.entryStore (tl:=sW) (tx:=Value×List hO) (k:=h) (v:=(f,X.2++[g])) (ti:=Prod.fst) E es rfl rfl rfl (tA es λw E=>?_));refine⟨E.sub aI,?_⟩;refine e3.nil ?_;rw[Nt]at E;replace E:=E.nF.JD [_,_,_,_,_] s;simp only[List.cons_append,List.nil_append]at E;refine s4 8 E λw E=>?_;have th:E0 L g h=L++[(g,h)]:=if_neg (by rw[b];decide);have ey:=erF (h:=h) hd b (v:=f);rw[show((tR h d.all).getD b2).2=X.2 from by rw[e]]at ey;rw[th]at ey⊢;rw[if_neg (by rw[b];decide)];exact⟨_,rfl,ey,E.nF.nF.Us {d with all:=oH h (f,X.2++[g]) d.all}⟩
theorem erY:eJ 74 #[] w0 (λu w'=>∃p d,u=N p/\b3 [] d/\jv w0 w' (we p d [])/\eB w0 w'):=by
 refine eH 7 (eG _) func74 ntmps74 results74 rfl λw E=>?_;refine ea (Z.makeMap hO tC E ?_);intro tD w _ E;refine ea (Z.makeMap sW (Prod.fst:Value×List hO->Value) E ?_);intro t6 w _ E;refine ag 6 E (p0 ((mw.mk (some tD) (some t6)):mw)) λaF w E=>?_;refine⟨aF,⟨tD,t6,[]⟩,rfl,⟨by simp,λh=>rfl⟩,?_,E.J⟩;replace E:=(E.hK (tg:=[V aF (O.enc (mw.mk (some tD) (some t6))) 249,tW tD tC [],tW t6 Prod.fst ([]:List (sW×(Value×List hO)))]) (.cons _ (.swap _ _ _))).Us (S:=[]) ⟨tD,t6,[]⟩;exact E.zn .nU
@[irreducible] def iQ (p:Nat) (d:sY) (L:List (hO×sW)):eL:=hD [no (b3 L d),we p d L]
theorem U.Bv(h:U w0 (iQ p d L::S) w):(b3 L d)/\U w0 (we p d L::S) w:=by
 unfold iQ at h;have h:=h.dr;have G:=h.get (e:=no (b3 L d)) .em;rw[mf]at G;exact⟨G,h.sub (List.sublist_cons_self _ _)⟩
theorem Bk(e1:b3 L d)(h:U w0 (we p d L::S) w):U w0 (iQ p d L::S) w:=by
 unfold iQ;exact U.closed (l:=[no (b3 L d),we p d L]) (h.pure e1)
theorem erB:eJ 74 #[] w0 (λu w'=>∃(p:Nat)(d:sY),u=N p/\U w0 [iQ p d []] w'):=by
 refine(erY).mono ?_;rintro u w' ⟨p,d,rfl,hd,a,b⟩;exact⟨p,d,rfl,Bk hd ((eG w0).An b a)⟩
theorem erV(a:(tR g L).isSome=b)(c:U en S w0)(e:tX (iQ p d L) S):tN 121 #[N p,.agg (O.enc g)] w0 (.bool b):=by
 subst a;exact Bb ((c.mem e).Bv.2.erM .em)
theorem erK(a:U en (iQ p d []::S) w0):eJ 338 #[N p,.agg (O.enc g),.agg (O.enc h)] w0 (λu w'=>∃d:sY,u=i6 0/\U en (iQ p d [(g,h)]::S) w'):=by
 obtain⟨hd,E⟩:=a.Bv;refine(erG E hd (by simp)).mono ?_;rintro u w' ⟨d',rfl,G,Y⟩;exact⟨d',rfl,Bk G Y⟩
end
end Go.Fer
