import Derived.Test.YtncdhadaifhleaaGreatDoorF4
set_option linter.all false
set_option synthInstance.maxSize 100000
set_option synthInstance.maxHeartbeats 400000
set_option maxHeartbeats 8000000
set_option maxRecDepth 100000
namespace Go.Fer
open Go Go.RowKit
section
open Go.Proofs Tryz
variable{h:ro}{k:Nat}{td:List ak}{m:oa}{w0:World}
def hJ:ak:=aO 32
def dw:ak:=(aO 32).set 0 3
def j7(h:ro)(n i:Nat)(k:ak):o6:=
 ⟨k,decide ((i:Int)<(h.rh.toNat:Int)),decide ((i:Int)<(if(i:Int)<(h.rh.toNat:Int)then(h.rh.toNat:Int)else(n:Int)) -(if(i:Int)<(h.rh.toNat:Int)then(h.fP.toNat:Int)else(h.uk.toNat:Int)))⟩
def uq(h:ro)(td:List ak):List o6:=td.mapIdx (j7 h td.length)
theorem Sh(h:ro)(td:List ak):(uq h td).length=td.length:=by simp[uq]
theorem ee8(a:k<td.length):(uq h td).take (k+1)=(uq h td).take k++[j7 h td.length k td[k]]:=by
 rw[List.take_succ_eq_append_getElem (by rw[Sh];exact a)];simp[uq]
theorem ee9:tS 166 #[] w0 (.agg (O.enc hJ)):=by
 refine eN 7 (eY _) func166 ntmps166 results166 rfl λb w E=>?_;exact et (yf (k:=hJ) (by first|rfl|(simp only[hJ,dw,sg,iW];rfl)) (by intro p a;first|(exfalso;simp at a;done)|(simp only[List.map_cons,List.map_nil,List.mem_cons,List.not_mem_nil,or_false]at a;rcases a with rfl|rfl|rfl|rfl<;>exact⟨by simp,rfl⟩)) (ey 5 E λw E=>(⟨rfl,E.ee⟩)))
theorem GP:tS 167 #[] w0 (.agg (O.enc dw)):=by
 refine eN 7 (eY _) func167 ntmps167 results167 rfl λb w E=>?_;exact et (yf (k:=dw) (by first|rfl|(simp only[hJ,dw,sg,iW];rfl)) (by intro p a;first|(exfalso;simp at a;done)|(simp only[List.map_cons,List.map_nil,List.mem_cons,List.not_mem_nil,or_false]at a;rcases a with rfl|rfl|rfl|rfl<;>exact⟨by simp,rfl⟩)) (ey 5 E λw E=>(⟨rfl,E.ee⟩)))
theorem ete(d:ex w0 m.td.v td)(eB:td.length<=1000):eJ 90 #[.agg (O.enc m)] w0 (λu w'=>sH w0 w' u 66 (uq m.ic td)/\eV w0 w'):=by
 have no:=wb m.ic.rh;have nd:=wb m.ic.fP;have o:=wb m.ic.uk;have:=aL d;refine eN 25 (eY _) func90 ntmps90 results90 rfl λni=>⟨ib,λw E=>?_⟩;refine ek.loop (λq f w=>∃(k:Nat)(ln:Value),oV [(1,N ni),(2,ln),(3,i6 m.ic.rh.toNat),(13,m.td.v),(14,i6 td.length),(15,i6 k)] f/\U w0 [V ln 66 ((uq m.ic td).take k),B ni (O.enc m) 46] w/\k<=td.length/\q=td.length-k) (td.length) ?_ ?_
 .
   exact⟨0,eF,⟨rfl,rfl,rfl,rfl,rfl,rfl,trivial⟩,E.lR _,Nat.zero_le _,rfl⟩
 .
   rintro q f w ⟨k,ln,a,E,p,e5⟩;refine il _ a (λg=>?_);clear a;refine eA 6 E<|om 0 13 (λe w E=>?_) (λe w E=>?_)
   .
     have b:k<td.length:=by omega
     have h:=Sh m.ic td;refine eA 8 E ⟨⟨by omega⟩,λ_ w E=>?_⟩;have:=lq b;refine ey 7 E λc=>?_;refine aC 11 9 (eX [0,1,2,3,4,5,6,7,8] .nil) [] ⟨ib,λw E=>?_⟩;refine lB (λf w=>oV [(1,N ni),(2,ln),(3,i6 m.ic.rh.toNat),(4,i6 k),(5,N c),(6,.int .i64 (if(k:Int)<(m.ic.rh.toNat:Int)then(m.ic.rh.toNat:Int)else(td.length:Int))),(7,.int .i64 (if(k:Int)<(m.ic.rh.toNat:Int)then(m.ic.fP.toNat:Int)else(m.ic.uk.toNat:Int))),(13,m.td.v),(14,i6 td.length),(15,i6 k)] f/\U w0 [B c (O.enc td[k]) 60,V ln 66 ((uq m.ic td).take k),B ni (O.enc m) 46] w) ?_ ?_
     .
       refine eA 7 E<|om 0 2 (λi w E=>?_) (λi w E=>?_)
       .
         refine nC 9 7 (eX [0,1,2,3,4,5,6] .nil) [] E ⟨ib,λw E=>?_⟩;exact⟨⟨rfl,rfl,rfl,rfl,rfl,congrArg (Value.int .i64) (by rw[if_pos (by omega)]),congrArg (Value.int .i64) (by rw[if_pos (by omega)]),rfl,rfl,rfl,trivial⟩,E⟩
       .
         exact⟨⟨rfl,rfl,rfl,rfl,rfl,congrArg (Value.int .i64) (by rw[if_neg (by omega)]),congrArg (Value.int .i64) (by rw[if_neg (by omega)]),rfl,rfl,rfl,trivial⟩,E⟩
     .
       rintro f w ⟨a,E⟩;refine il _ a (λg=>?_);clear a;refine eA 11 E ⟨ib,λw E=>?_⟩;refine et (sV (r:=((j7 m.ic td.length k td[k]):o6)) (ps:=o6.parts ((j7 m.ic td.length k td[k]):o6)) (LP _) (by first|(simp only[hJ,dw,sg,iW,LP,o6.parts];rfl)|rfl) (by(repeat' (first|exact trivial|refine And.intro ?_ ?_))<;>first|rfl|exact O.ez _|(simp;done)) ?_);refine et (n7 E (([(j7 m.ic td.length k td[k])]:List o6)) [.agg (O.enc (j7 m.ic td.length k td[k]))] rfl rfl rfl rfl (by decide) ?_);intro j w s E;refine et (dj (α:=o6) rfl E rfl en (E.eu en) (by simp;omega) (by simp only[maxLen];simp;omega) ?_);intro l w E;replace E:=E _ en;refine ey 9 E ⟨ib,λw E=>?_⟩;refine⟨td.length-(k+1),by omega,k+1,l,⟨rfl,rfl,rfl,rfl,rfl,congrArg (Value.int .i64) (by omega),trivial⟩,?_,by omega,rfl⟩;rw[ee8 b];exact E.sub aS
   .
     have n:k=td.length:=by omega
     subst n;rw[List.take_of_length_le (by rw[Sh];exact Nat.le_refl _)]at E;have G:=E.cZ en;exact⟨G,E.ee⟩
def Dc(k:ak):Bool:=decide (k=hJ)||decide (k=dw)
theorem eta{k:ak}:tS 91 #[.agg (O.enc k)] w0 (.bool (Dc k)):=by
 refine eN 7 (eY _) func91 ntmps91 results91 rfl λni w E=>?_;refine gC 9 (.look 0 (.one 1 (eX [2,3,4] (.one 5 (eX [6,7,8] .nil))))) (by kernel_rfl) (λ_ _ _ h=>h) (λaB e=>?_);replace E:=E.es e;have a:=E;have b:=eY aB;refine ht 1 a ?_;refine ol rfl (J.call (ee9) rfl ?_);rintro v w ⟨rfl,c⟩;replace b:=b.es c;refine⟨b.ee,?_⟩;have E:=iq a b;refine ss a rfl (λw E=>jm rfl rfl eG) (ht 1 a (ds a rfl rfl (λf w E=>ag rfl (by first|exact E.n5 en (by first|rfl|exact O.ez _)|exact E.a6 en rfl) eG) ?_));refine Hv (.agg (O.enc dw)) _ 6 b.ee rfl rfl rfl rfl rfl rfl (λg=>J.call (GP) rfl (λ_ _ h=>h)) (λw c=>?_);replace b:=b.es c;have E:=iq a b;exact ds a rfl rfl (λd w E=>jm (by first|exact ov rfl d|rfl) (by first|exact ov rfl d|rfl) eG) (ss a rfl (λw E=>fe rfl rfl (by first|rfl) eG) (ht 1 a (e2.nil (s6 3 E λw E=>(⟨rfl,E.ee⟩)))))
variable{aw ws:List ak}{eI:List (ak×Int)}{l xs:List o6}{r:o6}{v am cT:Value}
theorem eto(Z:ex w0 v xs):tS 92 #[v] w0 (nz v 0 xs.length xs.length (O.eo (o6))):=by
 have:=aL Z;refine eN 12 (eY _) func92 ntmps92 results92 rfl λw E=>?_;exact et (hj (Z.es E.ee) ⟨⟨_,rfl⟩,Z.cap⟩ ⟨⟨_,rfl⟩,Nat.le_refl _⟩ ⟨rfl,Nat.zero_le _⟩ (ey 5 E λw E=>(⟨rfl,E.ee⟩)))
def vZ(m:oa)(td ws aw:List ak):List o6:=uq m.ic td++ws.map (λk=>⟨k,false,true⟩)++aw.map (λk=>⟨k,false,false⟩)
def j9(r:o6):o6:={r with iY:=r.iY&& !Dc r.key}
def GW(w0 w':World)(m:oa)(td ws aw:List ak)(v:Value)(e:Int):Prop:=
 ((((vZ m td ws aw).map o6.key).Nodup/\e=0/\sH w0 w' v 66 ((vZ m td ws aw).map j9))∨(¬((vZ m td ws aw).map o6.key).Nodup/\e=9/\v=eF))
def uo(l:List o6)(k:Nat):List o6:=(l.take k).map j9++l.drop k
theorem eti:(uo l k).length=l.length:=by simp[uo];omega
theorem etn(a:k<l.length):(uo l k)[k]? =some l[k]:=by
 unfold uo;rw[List.getElem?_append_right (by simp;omega)];simp[Nat.min_eq_left (Nat.le_of_lt a)]
theorem ets(a:k<l.length):(uo l k).set k (j9 l[k])=uo l (k+1):=by
 unfold uo;have eB:((l.take k).map j9).length=k:=by simp;omega
 rw[List.set_append_right _ _ (by omega),eB,Nat.sub_self,List.drop_eq_getElem_cons a,List.set_cons_zero,List.take_succ_eq_append_getElem a,List.map_append,List.append_assoc];rfl
def qe(eI:List (ak×Int))(l:List ak):Prop:=∀x:ak,(tL x eI).getD 0=(l.count x:Int)
theorem qe.nil:qe [] []:=λx=>by simp[tL]
theorem qe.step{l:List ak}(h:qe eI l)(x:ak):qe (oC x ((l.count x:Int)+1) eI) (l++[x]):=by
 intro y;rw[mT];by_cases a:y=x
 .subst a;simp[List.count_append]
 rw[if_neg a,h y,List.count_append];simp[Ne.symm a]
theorem etr(P:ex w0 m.td.v td)(s:ex w0 am ws)(Q:ex w0 cT aw)(R:td.length<=1000)(dh:ws.length<=1000)(GY:aw.length<=1000):eJ 31 #[.agg (O.enc m),am,cT] w0 (λu w'=>∃v e,u= .tuple #[v,.int .i64 e]/\GW w0 w' m td ws aw v e/\eV w0 w'):=by
 refine eN 10 (eY _) func31 ntmps31 results31 rfl λt6 w E=>?_;refine et (J.call (ete (P.es E.ee) R) rfl ?_);rintro S w ⟨G,c⟩;replace E:=E.pB c G.1 G.2;have:=aL s;refine ey 12 E λw E=>?_;refine ek.loop (λq f w=>∃(k:Nat)(ln:Value),oV [(2,cT),(8,ln),(17,am),(18,i6 ws.length),(19,i6 k)] f/\U w0 [V ln 66 (uq m.ic td++(ws.take k).map (λk=>(⟨k,false,true⟩:o6)))] w/\k<=ws.length/\q=ws.length-k) (ws.length) ?_ ?_
 .
   exact⟨0,S,⟨rfl,rfl,rfl,rfl,rfl,trivial⟩,by simpa using E.sub aS,Nat.zero_le _,rfl⟩
 .
   rintro q f w ⟨k,ln,o,E,H,e5⟩;refine il _ o (λg=>?_);clear o;refine eA 6 E<|om 0 0 (λt w E=>?_) (λt w E=>?_)
   .
     have d:k<ws.length:=by omega
     refine eA 7 E ⟨⟨by omega⟩,λ_ w E=>?_⟩;have:=lq d;refine ey 8 E λrQ w E=>?_;refine af 0 E (p5 ((⟨ws[k],false,true⟩:o6):o6)) λw E=>?_;refine et (n7 E (([⟨ws[k],false,true⟩]:List o6)) [.agg (O.enc (⟨ws[k],false,true⟩:o6))] rfl rfl rfl rfl (by decide) ?_);intro uz w c E;refine et (dj (α:=o6) rfl E rfl en (E.eu en) (by simp[uq];omega) (by simp only[maxLen];simp[uq];omega) ?_);intro T w E;replace E:=E _ en;refine ey 9 E ⟨ib,λw E=>?_⟩;refine⟨ws.length-(k+1),by omega,k+1,T,⟨rfl,rfl,rfl,rfl,congrArg (Value.int .i64) (by omega),trivial⟩,?_,by omega,rfl⟩;rw[List.take_succ_eq_append_getElem d,List.map_append,List.map_cons,List.map_nil,<-List.append_assoc];exact E.sub aS
   .
     have W:k=ws.length:=by omega
     subst W;rw[List.take_length]at E;have:=aL Q;refine eA 14 E λw E=>?_;refine ek.loop (λq f w=>∃(k:Nat)(ln:Value),oV [(8,ln),(29,cT),(30,i6 aw.length),(31,i6 k)] f/\U w0 [V ln 66 ((uq m.ic td++ws.map (λk=>(⟨k,false,true⟩:o6)))++(aw.take k).map (λk=>(⟨k,false,false⟩:o6)))] w/\k<=aw.length/\q=aw.length-k) (aw.length) ?_ ?_
     .
       exact⟨0,ln,⟨rfl,rfl,rfl,rfl,trivial⟩,by simpa using E.sub aS,Nat.zero_le _,rfl⟩
     .
       rintro q f w ⟨k,ln,o,E,H,e5⟩;refine il _ o (λg=>?_);clear o;refine eA 6 E<|om 0 0 (λX w E=>?_) (λX w E=>?_)
       .
         have d:k<aw.length:=by omega
         refine eA 7 E ⟨⟨by omega⟩,λ_ w E=>?_⟩;have:=lq d;refine ey 8 E λli w E=>?_;refine af 0 E (p5 ((⟨aw[k],false,false⟩:o6):o6)) λw E=>?_;refine et (n7 E (([⟨aw[k],false,false⟩]:List o6)) [.agg (O.enc (⟨aw[k],false,false⟩:o6))] rfl rfl rfl rfl (by decide) ?_);intro Z w c E;refine et (dj (α:=o6) rfl E rfl en (E.eu en) (by simp[uq];omega) (by simp only[maxLen];simp[uq];omega) ?_);intro v39 w E;replace E:=E _ en;refine ey 9 E ⟨ib,λw E=>?_⟩;refine⟨aw.length-(k+1),by omega,k+1,v39,⟨rfl,rfl,rfl,congrArg (Value.int .i64) (by omega),trivial⟩,?_,by omega,rfl⟩;rw[List.take_succ_eq_append_getElem d,List.map_append,List.map_cons,List.map_nil,<-List.append_assoc];exact E.sub aS
       .
         have v2:k=aw.length:=by omega
         subst v2;rw[List.take_length]at E;replace E:U w0 [V ln 66 (vZ m td ws aw)] w:=E;have Dm:(vZ m td ws aw).length<=3000:=by simp[vZ,uq];omega
         generalize x:vZ m td ws aw=L at E Dm;refine eA 7 E λw E=>?_;refine et (J.makeMap ak (Value.int .i64) E ?_);intro r w _ E;refine ey 12 E λw E=>?_;refine ek.loop (λq f w=>∃(k:Nat)(eI:List (ak×Int)),oV [(8,ln),(13,tA r),(43,i6 L.length),(44,i6 k)] f/\U w0 [tM r (Value.int .i64) eI,V ln 66 (uo L k)] w/\qe eI ((L.take k).map o6.key)/\((L.take k).map o6.key).Nodup/\k<=L.length/\q=L.length-k) (L.length) ?_ ?_
         .
           exact⟨0,[],⟨rfl,rfl,rfl,rfl,trivial⟩,by simpa[uo]using E.sub aS,by simpa using qe.nil,by simp,Nat.zero_le _,rfl⟩
         .
           rintro q f w ⟨k,eI,o,E,I,y,H,e5⟩;refine il _ o (λg=>?_);clear o;refine eA 6 E<|om 0 0 (λa8 w E=>?_) (λa8 w E=>?_)
           .
             have d:k<L.length:=by omega
             have Hs:=eti (l:=L) (k:=k);have p:=etn d;have mi:=List.count_le_length (a:=L[k].key) (l:=(L.take k).map o6.key);simp only[List.length_map,List.length_take]at mi;have K:=I L[k].key;refine eA 12 E λw E=>?_;refine vj 10 (eX [0,1,2,3,4,5,6,7] (.one 8 (.look 9 (.one 10 .nil)))) (by kernel_rfl) (λ_ _ _ h=>h) (λaB iN=>?_);replace E:=E.es iN;have tR:=E;refine⟨λw=>∃j:List (ak×Int),(tL L[k].key j).getD 0=(((L.take k).map o6.key).count L[k].key:Int)/\U w0 [tM r (Value.int .i64) j,V ln 66 (uo L k)] w,⟨eI,K,E⟩,?_⟩;refine e2.look rfl rfl rfl (λw c=>(by obtain⟨j,n,E⟩:=c;exact oI (v:=tA r) rfl ⟨rfl,rfl⟩)) ?_;refine e2.look rfl rfl rfl (λw c=>(by obtain⟨j,n,E⟩:=c;exact oI (v:=ln) rfl ⟨rfl,rfl⟩)) ?_;refine e2.look rfl rfl rfl (λw c=>(by obtain⟨j,n,E⟩:=c;exact oP rfl ⟨rfl,rfl⟩)) ?_;refine e2.look rfl rfl rfl (λw c=>(by obtain⟨j,n,E⟩:=c;exact nX rfl ((E.eu (xs:=uo L k) en)) rfl (by omega) ⟨rfl,rfl⟩)) ?_;refine e2.look rfl rfl rfl (λw c=>(by obtain⟨j,n,E⟩:=c;exact J.fieldAddr rfl ((E.eu (xs:=uo L k) en).sY (by omega)) ⟨rfl,rfl⟩)) ?_;refine e2.look rfl rfl rfl (λw c=>(by obtain⟨j,n,E⟩:=c;exact ag rfl (s1.wl ((E.eu (xs:=uo L k) en).tb p) 0 (Ay _) (by rw[O.ez];decide)) ⟨rfl,rfl⟩)) ?_;refine e2.look rfl rfl rfl (λw c=>(by obtain⟨j,n,E⟩:=c;exact ym (e7:=Value.int .i64) (z0:=0) inferInstance (E.map en) rfl rfl n ⟨rfl,rfl⟩)) ?_;refine e2.look rfl rfl rfl (λw c=>(by obtain⟨j,n,E⟩:=c;exact J.add rfl rfl (wrap_i64 (by omega)) ⟨rfl,rfl⟩)) ?_;refine ol rfl (J.mapEntry (e7:=Value.int .i64) (z0:=0) inferInstance E en rfl rfl ?_);intro born w E;replace E:=E _ en;refine⟨⟨_,by rw[mT,if_pos rfl];exact K,E.HY (.nW)⟩,?_⟩;refine e2.look rfl rfl rfl (λw c=>(by obtain⟨j,n,E⟩:=c;exact J.extract rfl rfl ⟨rfl,rfl⟩)) ?_;refine nH rfl (J.entryStore (k:=L[k].key) (e7:=Value.int .i64) E en rfl rfl rfl (tH en λw E=>(e2.nil ?_)));rw[IH]at E;refine s6 7 E ⟨⟨by omega⟩,λ_=>rO 1 λw E=>?_⟩;refine et (ag rfl (s1.wl ((E.eu (xs:=uo L k) en).tb p) 0 (Ay _) (by rw[O.ez];decide)) (et (ym (e7:=Value.int .i64) (z0:=0) (u:=(((L.take k).map o6.key).count L[k].key:Int)+1) inferInstance (E.map en) rfl rfl (by simp[mT]) (ey 3 E<|om 14 0 (λnD w E=>?_) (λnD w E=>?_)))))
             .
               refine⟨_,_,rfl,.inr ⟨?_,rfl,rfl⟩,E.ee⟩;rw[x];intro M;rw[<-List.take_append_drop (k+1) L,List.map_append]at M;have Y:=(List.nodup_append.1 M).1;rw[List.take_succ_eq_append_getElem d,List.map_append,List.map_cons,List.map_nil]at Y;have ej:=List.nodup_iff_count.1 Y L[k].key;rw[List.count_append,List.count_singleton_self]at ej;omega
             .
               have t:((L.take k).map o6.key).count L[k].key=0:=by omega
               have z:=I.step L[k].key;have IF:((L.take k).map o6.key++[L[k].key]).Nodup:=by
                refine List.nodup_append.2 ⟨y,by simp,λa ep b hb=>?_⟩;simp at hb;subst hb;intro e;subst e;exact List.count_eq_zero.1 t ep
               refine eA 11 E λw E=>?_;refine ts.eQ _ 72 _ rfl rfl rfl rfl (λewB=>oI (v:=ln) rfl ⟨rfl,eV.refl _⟩) (λw c=>?_);replace E:=E.es c;refine ts.eQ _ 72 _ rfl rfl rfl rfl (λewV=>oP rfl ⟨rfl,eV.refl _⟩) (λw c=>?_);replace E:=E.es c;refine ts.eQ _ 72 _ rfl rfl rfl rfl (λN=>nX (by first|exact ov rfl N|rfl) ((E.eu (xs:=uo L k) en)) (by first|exact ov rfl N|rfl) (by omega) ⟨rfl,eV.refl _⟩) (λw c=>?_);replace E:=E.es c;refine ts.eQ _ 72 _ rfl rfl rfl rfl (λA=>J.fieldAddr (by first|exact ov rfl A|rfl) ((E.eu (xs:=uo L k) en).sY (by omega)) ⟨rfl,eV.refl _⟩) (λw c=>?_);replace E:=E.es c;refine ts.eQ _ 72 _ rfl rfl rfl rfl (λB=>ag (by first|exact ov rfl B|rfl) (s1.wl ((E.eu (xs:=uo L k) en).tb p) 0 (Ay _) (by rw[O.ez];decide)) ⟨rfl,eV.refl _⟩) (λw c=>?_);replace E:=E.es c;refine ts.eQ _ 72 (.bool (Dc L[k].key)) rfl rfl rfl rfl (λC=>?_) (λw c=>?_)
               .refine J.call (eta) (Jj (by first|exact ov rfl C|rfl)) ?_;rintro v w ⟨rfl,c⟩;replace E:=E.es c;exact⟨rfl,‹_›⟩
               replace E:=E.es c;refine ts.eQ _ 72 _ rfl rfl rfl rfl (λD=>J.not (by first|exact ov rfl D|rfl) ⟨rfl,eV.refl _⟩) (λw c=>?_);replace E:=E.es c;refine et (pZ rfl (by first|rfl) rfl ?_);refine ey 1 E λw E=>?_;refine et (J.fieldAddr rfl ((E.eu (xs:=uo L k) en).sY (by omega)) ?_);refine oE (pd (eo:=1) (v:=ln) (xs:=uo L k) (i:=k) (off:=33) (l9:=j9 L[k]) E en (by omega) rfl rfl rfl (by decide) (O.one (α:=Bool) _) (by rw[(List.getElem?_eq_some_iff.1 p).2];exact Zf _ _) (tH en λw E=>?_));rw[ets d]at E;refine ey 8 E ⟨ib,λw E=>?_⟩;refine⟨L.length-(k+1),by omega,k+1,_,⟨rfl,rfl,rfl,congrArg (Value.int .i64) (by omega),trivial⟩,E.sub aS,?_,?_,by omega,rfl⟩
               .rw[List.take_succ_eq_append_getElem d,List.map_append];exact z
               rw[List.take_succ_eq_append_getElem d,List.map_append];exact IF
           .
             have dN:k=L.length:=by omega
             subst dN;have Df:uo L L.length=L.map j9:=by simp[uo]
             rw[Df]at E;rw[List.take_length]at y;refine eA 8 E λw E=>?_;refine et (J.call (eto (E.eu en)) rfl ?_);rintro ewK w ⟨F,c⟩;replace E:=E.es c;refine ey 6 E λw E=>?_;refine⟨_,_,rfl,.inl ⟨by rw[x];exact y,rfl,?_⟩,E.ee⟩;rw[x];subst F;exact sH.cut (v:=ln) (α:=o6) (E.cZ en)
theorem Dp{xs:List ak}(Z:ex w0 v xs):tS 89 #[v] w0 (nz v 0 xs.length xs.length (O.eo (ak))):=by
 have:=aL Z;refine eN 12 (eY _) func89 ntmps89 results89 rfl λw E=>?_;exact et (hj (Z.es E.ee) ⟨⟨_,rfl⟩,Z.cap⟩ ⟨⟨_,rfl⟩,Nat.le_refl _⟩ ⟨rfl,Nat.zero_le _⟩ (ey 5 E λw E=>(⟨rfl,E.ee⟩)))
def rG(l:List o6):List ak:=(l.filter o6.iY).map o6.key
theorem etp(a:k<l.length):rG (l.take (k+1))=rG (l.take k)++(if l[k].iY=true then[l[k].key]else[]):=by
 rw[List.take_succ_eq_append_getElem a];unfold rG;rw[List.filter_append,List.map_append];cases h:l[k].iY<;>simp[h]
theorem etg:(rG l).length<=l.length:=by simp[rG];exact List.length_filter_le _ _
theorem etw(Z:ex w0 v xs)(eB:xs.length<=100000):eJ 37 #[v] w0 (λu w'=>sH w0 w' u 60 (rG xs)/\eV w0 w'):=by
 have:=aL Z;refine eN 14 (eY _) func37 ntmps37 results37 rfl λw E=>?_;refine ek.loop (λq f w=>∃(k:Nat)(ln:Value),oV [(2,ln),(5,v),(6,i6 xs.length),(7,i6 k)] f/\U w0 [V ln 60 (rG (xs.take k))] w/\k<=xs.length/\q=xs.length-k) (xs.length) ?_ ?_
 .
   exact⟨0,eF,⟨rfl,rfl,rfl,rfl,trivial⟩,E.lR _,Nat.zero_le _,rfl⟩
 .
   rintro q f w ⟨k,ln,a,E,s,e5⟩;refine il _ a (λg=>?_);clear a;refine eA 6 E<|om 0 0 (λj w E=>?_) (λj w E=>?_)
   .
     have e:k<xs.length:=by omega
     have h:=etp e;have m:=etg (l:=(xs.take k));simp only[List.length_take]at m;refine eA 2 E λw E=>?_;refine lB (λf w=>∃b:Value,oV [(2,b),(5,v),(6,i6 xs.length),(7,i6 k)] f/\U w0 [V b 60 (rG (xs.take (k+1)))] w) ?_ ?_
     .
       refine eA 4 E ⟨⟨by omega⟩,λ_ w E=>?_⟩;have:=lq e;refine ey 2 E λaW w E=>?_;refine oE (iJ E rfl rfl en (by first|rfl|exact O.ez _) (tH en λw E=>(ey 8 E<|na 4 3 (λc n w E=>?_) (λc n w E=>?_))))
       .
         refine et (n7 E (([xs[k].key]:List ak)) [.agg (O.enc xs[k].key)] rfl rfl rfl rfl (by decide) ?_);intro t w i E;refine et (dj (α:=Vector UInt8 32) rfl E rfl en (E.eu en) (by simp only[List.length_cons,List.length_nil];omega) (by simp only[maxLen];simp only[List.length_cons,List.length_nil];omega) ?_);intro o w E;replace E:=E _ en;refine ey 4 E λw E=>?_;rw[h]
         (rw[if_pos (show xs[k].iY=true from c)];exact⟨o,⟨rfl,rfl,rfl,rfl,trivial⟩,E.sub aS⟩)
       .
         rw[h]
         (rw[if_neg (by rw[show xs[k].iY=false from c];decide),List.append_nil];exact⟨ln,⟨rfl,rfl,rfl,rfl,trivial⟩,E.sub aS⟩)
     .
       rintro f w ⟨b,a,E⟩;refine il _ a (λg=>?_);clear a;refine eA 5 E ⟨ib,λw E=>?_⟩;exact⟨xs.length-(k+1),by omega,k+1,b,⟨rfl,rfl,rfl,congrArg (Value.int .i64) (by omega),trivial⟩,E,by omega,rfl⟩
   .
     have p:k=xs.length:=by omega
     subst p;rw[List.take_length]at E;refine eA 8 E λw E=>?_;refine et (J.call (Dp (E.eu en)) rfl ?_);rintro r w ⟨d,i⟩;replace E:=E.es i;refine ey 5 E λw E=>?_;subst d;exact⟨sH.cut (v:=ln) (α:=Vector UInt8 32) (E.cZ en),E.ee⟩
variable{b l:List UInt8}{c p:UInt8}{i fg m n yx:Nat}{ad:List Instr}{wc sc:Int}{td:List (Vector UInt8 32)}{w:Bool}{w':World}
def hS:List UInt8->Nat
 |[]=>0
 |c::r=>c.toNat+256*hS r
theorem etb(a b:List UInt8):hS (a++b)=hS a+2^(8*a.length)*hS b:=by
 induction a with
 |nil=>simp[hS]
 |cons c r d=>
  simp only[List.cons_append,hS,d,List.length_cons];rw[show 8*(r.length+1)=8*r.length+8 by omega,Nat.pow_add,Nat.mul_add];have:256*(2^(8*r.length)*hS b)=2^(8*r.length)*2^8*hS b:=by rw[<-Nat.mul_assoc,Nat.mul_comm 256]
  omega
theorem GV:hS l<2^(8*l.length):=by
 induction l with
 |nil=>simp[hS]
 |cons c r a=>
  have:=wb c;simp only[hS,List.length_cons];rw[show 8*(r.length+1)=8*r.length+8 by omega,Nat.pow_add];omega
theorem etv(a:k<b.length):hS (b.take (k+1))=hS (b.take k)+b[k].toNat*2^(8*k):=by
 rw[List.take_succ_eq_append_getElem a,etb,List.length_take,Nat.min_eq_left (by omega)];simp[hS,Nat.mul_comm]
theorem GK:hS (b.take k)<2^(8*k):=
 Nat.lt_of_lt_of_le (GV) (Nat.pow_le_pow_right (by omega) (by simp;omega))
theorem etk(a:k<=7):IntKind.u64.wrap ((c.toNat:Int)*2^(min (Int.toNat (8*(k:Int))) IntKind.u64.bits))=((c.toNat*2^(8*k):Nat):Int):=by
 have e:(8*(k:Int))=((8*k:Nat):Int):=by omega
 rw[e];have:=wb c;have hb:c.toNat*2^(8*k)<=255*2^56:=Nat.mul_le_mul (by omega) (Nat.pow_le_pow_right (by omega) (by omega));exact Fm (by omega) (by simp) (by omega)
theorem etx(b:k<=7)(a:n<2^(8*k)):hL .or .u64 (n:Int) ((c.toNat*2^(8*k):Nat):Int)=((n+c.toNat*2^(8*k):Nat):Int):=by
 have:=wb c;have hb:c.toNat*2^(8*k)<=255*2^56:=Nat.mul_le_mul (by omega) (Nat.pow_le_pow_right (by omega) (by omega));have d:2^(8*k)<=2^56:=Nat.pow_le_pow_right (by omega) (by omega);rw[Ij _ _ (by omega) (by omega),HI _ _ _ a]
def qt(b:List UInt8)(m:Int):Nat×Int:=if m<1∨8<m then(0,1)else if(b.length:Int)<m then(0,5)else(hS (b.take m.toNat),0)
theorem Dw(G:1<=m)(iG:m<=8)(eB:m<=b.length):qt b m=(hS (b.take m),0):=by
 unfold qt;rw[if_neg (by omega),if_neg (by omega)];simp
theorem GX(Z:ex w0 v b):tS 168 #[v,.int .i64 sc] w0 (.tuple #[.int .u64 ((qt b sc).1:Int),i6 (qt b sc).2]):=by
 refine nr.enter (args:=[v,.int .i64 sc]) func168 rfl ntmps168 results168 rfl ?_;have E:=eY w0;refine ek.seq (λI o=>(ek.region (et (iP rfl (et (iP rfl ?_))))));refine ts.nil ?_;refine aE (o _ _ (ek.seq (λK p=>?_)));refine ek.block ?_;refine ek.seq (λL q=>(ek.region (et (oP rfl (et (J.lss rfl rfl (et (u0 rfl (ts.eQ _ 10 _ rfl rfl rfl rfl (λM=>oP rfl ⟨rfl,eV.refl _⟩) (λw h=>?_))))))))));replace E:=E.es h;refine ts.eQ _ 10 _ rfl rfl rfl rfl (λr=>J.gtr (by first|exact ov rfl r|rfl) rfl ⟨rfl,eV.refl _⟩) (λw h=>?_);replace E:=E.es h;refine et (fe rfl rfl (by first|rfl) (et (gN rfl ?_)));refine ts.nil ?_;refine aE (q _ _ ?_);refine ek.cond _ rfl (λc=>?_) (λc=>?_)
 .
   have s:=c
   try simp only[sX]at c
   refine ek.seq (λN t=>(ek.region (et (iP rfl (et (iP rfl ?_))))));refine ts.nil ?_;refine aE (t _ _ ?_);refine ek.ret ?_;refine kL ?_;refine pQ ?_;refine cJ (.hB rfl (.hB rfl .nil)) ?_;refine⟨?_,E.ee⟩;rw[show qt b sc=(0,1)from if_pos c];rfl
 .
   have s:=c
   try simp only[sX]at c
   refine ek.seq (λO u=>(ek.region (et (oI (v:=v) rfl (et (J.hD rfl ((Z.es E.ee)) (et (oP rfl (et (J.lss rfl rfl (et (gN rfl ?_))))))))))));refine ts.nil ?_;refine aE (u _ _ ?_);refine ek.cond _ rfl (λd=>?_) (λd=>?_)
   .
     have x:=d
     try simp only[sX]at d
     refine ek.seq (λP y=>(ek.region (et (iP rfl (et (iP rfl ?_))))));refine ts.nil ?_;refine aE (y _ _ ?_);refine ek.ret ?_;refine kL ?_;refine pQ ?_;refine cJ (.hB rfl (.hB rfl .nil)) ?_;refine⟨?_,E.ee⟩;rw[show qt b sc=(0,5)from by unfold qt;rw[if_neg (by omega),if_pos d]];rfl
   .
     have x:=d
     try simp only[sX]at d
     obtain⟨a,rfl⟩:∃a:Nat,sc=(a:Int):=⟨sc.toNat,by omega⟩;have i:=Dw (b:=b) (m:=a) (by omega) (by omega) (by omega);rw[i];refine ek.skip ?_;refine m9 (aE (p _ _ (ek.seq (λQ z=>(ek.seq (λR A=>(ek.region (et (oP rfl (et (oP rfl ?_)))))))))));refine ts.nil ?_;refine aE (A _ _ ?_);refine ek.block ?_;refine ek.loop (λm f w=>∃k:Nat,oV [(0,v),(4,.int .u64 (hS (b.take k):Int)),(19,i6 a),(20,i6 k)] f/\U w0 [] w/\k<=a/\m=a-k) (a) ?_ ?_
     .
       exact⟨0,⟨rfl,rfl,rfl,rfl,trivial⟩,E,Nat.zero_le _,rfl⟩
     .
       rintro m f w ⟨k,j,E,S,e5⟩;refine il _ j (λg=>?_);clear j;refine ek.seq (λT B=>(ek.region (et (J.lss rfl rfl ?_))));refine ts.nil ?_;refine aE (B _ _ (ek.seq (λV C=>?_)));refine ek.cond _ rfl (λe=>?_) (λe=>?_)
       .
         have D:=e
         try simp only[sX]at e
         have l:k<b.length:=by omega
         have hlt:=wb b[k];refine ek.skip ?_;refine aE (C _ _ (ek.seq (λW F=>?_)));refine ek.block ?_;refine ek.seq (λX G=>(ek.region (et (oP rfl (et (iP rfl ?_))))));refine ts.nil ?_;refine aE (G _ _ (ek.region (et (oP rfl (et (oI (v:=v) rfl (et (oP rfl (et (nX rfl ((Z.es E.ee)) rfl (by omega) (et (ag rfl (((Z.es E.ee).sm l).ab rfl) (et (J.conv rfl (wrap_u64 (by omega)) (et (oP rfl (et (J.mul rfl rfl (wrap_i64 (by omega)) (et (J.shl rfl rfl (by omega) (etk (by omega)) (et (J.or rfl rfl (etx (by omega) (GK)) (et (iP rfl ?_))))))))))))))))))))))));refine ts.nil ?_;refine m9 (aE (F _ _ (ek.region (et (J.add rfl rfl (wrap_i64 (by omega)) (et (oP rfl ?_)))))));refine ts.nil ?_;refine aE ?_;exact⟨a-(k+1),by omega,k+1,⟨rfl,congrArg (λn:Nat=>Value.int .u64 (n:Int)) (etv l).symm,rfl,congrArg (Value.int .i64) (by omega),trivial⟩,E,by omega,rfl⟩
       .
         have D:=e
         try simp only[sX]at e
         refine ek.exit ?_;refine uZ ?_;refine uZ ?_;refine ya (aE (z _ _ (ek.seq (λY H=>(ek.region (et (oP rfl (et (iP rfl (et (iP rfl ?_)))))))))));refine ts.nil ?_;refine aE (H _ _ ?_);refine ek.ret ?_;refine cJ (.hB rfl (.hB rfl .nil)) ?_;have:k=a:=by omega
         subst this;refine⟨?_,E.ee⟩;rw[i];rfl
def Sm:Vector UInt8 32:=(aO 32).set 0 3
def wP(k:Nat):Nat:=if k=0 then 4 else 8
def Db(k:Nat):Nat:=if k=0 then 2 else 3
def GJ:Array Value:=#[i6 4,i6 8]
def GQ:Array Value:=#[.int .u8 2,.int .u8 3]
theorem GZ(h:k<2):GJ[0+k*1]? =some (.int .i64 ((wP k:Nat):Int)):=by
 match k,h with
 |0,_=>rfl
 |1,_=>rfl
theorem etj(h:k<2):GQ[0+k*1]? =some (.int .u8 ((Db k:Nat):Int)):=by
 match k,h with
 |0,_=>rfl
 |1,_=>rfl
def Laid(w:World):Prop:=an w (N 0) GJ/\an w (N 1) GQ
theorem Laid.es{w:World}(h:Laid w)(hb:eV w w'):Laid w':=⟨h.1.es hb,h.2.es hb⟩
def g1(b:List UInt8)(k:Nat):Bool:=decide (b.length=wP k+1)&&decide ((b.getD 0 0).toNat=Db k)
def Eu(b:List UInt8)(k:Nat):Nat:=hS ((b.drop 1).take (wP k))
def ui(b:List UInt8):Int×Nat:=if g1 b 0=true then(0,Eu b 0)else if g1 b 1=true then(1,Eu b 1)else(-1,0)
theorem etq(a:k<2)(c:∀j,j<k->g1 b j=false)(h:g1 b k=true):ui b=((k:Int),Eu b k):=by
 unfold ui
 match k,a with
 |0,_=>rw[if_pos h];rfl
 |1,_=>rw[if_neg (by rw[c 0 (by decide)];decide),if_pos h];rfl
theorem etz(a:∀j,j<2->g1 b j=false):ui b=(-1,0):=by
 unfold ui;rw[if_neg (by rw[a 0 (by decide)];decide),if_neg (by rw[a 1 (by decide)];decide)]
theorem etE:(ui b).1= -1∨(ui b).1=0∨(ui b).1=1:=by
 unfold ui;split
 .exact .inr (.inl rfl)
 split
 .exact .inr (.inr rfl)
 exact .inl rfl
theorem G0:1<=wP k/\wP k<=8:=by unfold wP;split<;>omega
theorem etT(h:0<b.length):b[0]=b.getD 0 0:=by simp[List.getD,h]
theorem G1:(ui b).2<18446744073709551616:=by
 have h:∀k,Eu b k<18446744073709551616:=by
  intro k;have G:=GV (l:=((b.drop 1).take (wP k)));have Y:=(G0 (k:=k)).2;have ej:2^(8*((b.drop 1).take (wP k)).length)<=2^64:=Nat.pow_le_pow_right (by decide) (by rw[List.length_take];omega);unfold Eu;omega
 unfold ui;split
 .exact h 0
 split
 .exact h 1
 decide
def xS(td:List (Vector UInt8 32))(p:UInt8):Bool:=decide ((p.toNat:Int)<(td.length:Int))&&decide (td.getD p.toNat (aO 32)=Sm)
theorem etA:(decide ((p.toNat:Int)<(td.length:Int))&&decide (td.getD p.toNat (aO 32)=Sm))=xS td p:=rfl
structure Em where
 others:Nat
 S:Nat->Option Nat
 dW:Int
variable{s:Em}
def gi(s:Em)(i:Nat)(w:Bool)(b:List UInt8):Em:=
 if w=false then{s with others:=s.others+1}else if 0<=s.dW then s else if(ui b).1<0∨(s.S (ui b).1.toNat).isSome=true then{s with dW:=i}else{s with S:=λj=>if j=(ui b).1.toNat then some (ui b).2 else s.S j}
def dS(w:Nat->Bool)(b:Nat->List UInt8):Nat->Em
 |0=>⟨0,λ_=>none,-1⟩
 |n+1=>gi (dS w b n) n (w n) (b n)
def Dv(s:Em):sP:=⟨min ((s.S 0).getD (s.others*200000)) 1400000,(s.S 1).getD 0,s.dW⟩
def lM(td:List (Vector UInt8 32))(ad:List Instr)(i:Nat):Bool:=xS td ((ad.map Instr.program).getD i 0)
theorem etO(h:i<ad.length):lM td ad i=xS td ad[i].program:=by simp[lM,List.getD,h]
theorem etI:gi s i false b={s with others:=s.others+1}:=rfl
theorem etN(h:0<=s.dW):gi s i true b=s:=by unfold gi;rw[if_neg (by decide),if_pos h]
theorem G2(h:¬0<=s.dW)(a:ui b=(wc,yx))(Y:wc<0∨(s.S wc.toNat).isSome=true):gi s i true b={s with dW:=i}:=by
 unfold gi;rw[if_neg (by decide),if_neg h,a,if_pos Y]
theorem etS(h:¬0<=s.dW)(a:ui b=((fg:Int),yx))(Y:(s.S fg).isSome=false):gi s i true b={s with S:=λj=>if j=fg then some yx else s.S j}:=by
 have c:¬((fg:Int)<0∨(s.S (fg:Int).toNat).isSome=true):=by
  rintro(ej|ej)
  .omega
  rw[show(fg:Int).toNat=fg from rfl,Y]at ej;cases ej
 unfold gi;rw[if_neg (by decide),if_neg h,a,if_neg c];rfl
theorem etR:(gi s i w b).others<=s.others+1:=by
 unfold gi;split
 .exact Nat.le_refl _
 split
 .omega
 split
 .exact Nat.le_succ _
 exact Nat.le_succ _
theorem Dk(w:Nat->Bool)(b:Nat->List UInt8):∀n,(dS w b n).others<=n
 |0=>Nat.le_refl _
 |n+1=>by
  have G:=Dk w b n;have Y:=etR (s:=(dS w b n)) (i:=n) (w:=(w n)) (b:=(b n));show(gi (dS w b n) n (w n) (b n)).others<=n+1;omega
def Dx(s:Em):Prop:=(∀j n,s.S j=some n->n<18446744073709551616)/\-1<=s.dW
theorem etH(h:Dx s):Dx (gi s i w b):=by
 unfold gi;split
 .exact h
 split
 .exact h
 split
 .exact⟨h.1,by show(-1:Int)<=(i:Int);omega⟩
 refine⟨λj n a=>?_,h.2⟩;have a:(if j=(ui b).1.toNat then some (ui b).2 else s.S j)=some n:=a;split at a
 .cases a;exact G1
 exact h.1 j n a
theorem Sf(w:Nat->Bool)(b:Nat->List UInt8):∀n,Dx (dS w b n)
 |0=>⟨λj n h=>(by cases h),Int.le_refl _⟩
 |n+1=>etH (Sf w b n)
def bM(S:Nat->Option Nat):Array Value:=#[.int .u64 (((S 0).getD 0:Nat):Int),.int .u64 (((S 1).getD 0:Nat):Int)]
def Ef(S:Nat->Option Nat):Array Value:=#[.bool (S 0).isSome,.bool (S 1).isSome]
theorem G3(S:Nat->Option Nat)(h:k<2):(Ef S)[0+k*1]? =some (.bool (S k).isSome):=by
 match k,h with
 |0,_=>rfl
 |1,_=>rfl
theorem G4(S:Nat->Option Nat)(h:k<2):iI (bM S) (0+k*1) #[ef n]=bM (λj=>if j=k then some n else S j):=by
 match k,h with
 |0,_=>rfl
 |1,_=>rfl
theorem etL(S:Nat->Option Nat)(h:k<2):iI (Ef S) (0+k*1) #[.bool true]=Ef (λj=>if j=k then some n else S j):=by
 match k,h with
 |0,_=>rfl
 |1,_=>rfl
theorem etD(Z:ex w0 v b)(nJ:Laid w0):tS 93 #[v] w0 (.tuple #[i6 (ui b).1,.int .u64 (((ui b).2:Nat):Int)]):=by
 refine nr.enter (args:=[v]) func93 rfl ntmps93 results93 rfl ?_;have E:=eY w0;refine ek.seq (λS z=>(ek.region (et (iP rfl (et (iP rfl ?_))))));refine ts.nil ?_;refine aE (z _ _ (ek.seq (λT A=>(ek.seq (λV B=>(ek.region (et (oP rfl ?_))))))));refine ts.nil ?_;refine aE (B _ _ ?_);refine ek.block ?_;refine ek.loop (λq f w=>∃k:Nat,oV [(0,v),(7,i6 k)] f/\U w0 [] w/\(∀j,j<k->g1 b j=false)/\k<=2/\q=2-k) (2) ?_ ?_
 .
   exact⟨0,⟨rfl,rfl,trivial⟩,E,λj h=>by omega,Nat.zero_le _,rfl⟩
 .
   rintro q f w ⟨k,r,E,i,W,e5⟩;refine il _ r (λg=>?_);clear r;refine ek.seq (λX C=>(ek.region (et (J.lss rfl rfl ?_))));refine ts.nil ?_;refine aE (C _ _ (ek.seq (λbD D=>?_)));refine ek.cond _ rfl (λa=>?_) (λa=>?_)
   .
     have F:=a
     try simp only[sX]at a
     have d:k<2:=by omega
     have s:=G0 (k:=k);have G:=Z.le;simp only[maxLen]at G;refine ek.skip ?_;refine aE (D _ _ (ek.seq (λwM H=>?_)));refine ek.block ?_;refine ek.seq (λyN I=>(ek.region (et (oP rfl (et (iP rfl ?_))))));refine ts.nil ?_;refine aE (I _ _ (ek.seq (λxN K=>?_)));refine nC 0 16 (eX [0,1,2,3,4,5,6,7,8,9,10,11,12,13,14,15] .nil) [] E λw E=>?_;refine tl rfl (λw E=>oI (v:=v) rfl eG) (tl rfl (λw E=>J.hD rfl ((Z.es E.ee)) eG) (tl rfl (λw E=>oP rfl eG) (tl rfl (λw E=>fi rfl rfl (by omega) eG) (tl rfl (λw E=>ag rfl ((nJ.1.es E.ee).vA (GZ (k:=k) d)) eG) (tl rfl (λw E=>J.add rfl rfl (show IntKind.i64.wrap _=((wP k+1:Nat):Int)from(wrap_i64 (by omega)).trans (by omega)) eG) (tl rfl (λw E=>J.eql rfl rfl eG) (tl rfl (λw E=>u0 rfl eG) (ue (eb:=v) rfl rfl (λwD w E=>oI (v:=v) rfl eG) ?_))))))));refine Tx (eb:=(oX v 0 1)) _ 17 rfl rfl rfl rfl rfl rfl (λt w E=>(by have E:U _ _ w:=E;have L:(b.length:Int)=((wP k+1:Nat):Int):=(by simpa using t);exact nX (by first|exact ov rfl t|rfl) ((Z.es E.ee)) rfl (by omega) ⟨rfl,rfl⟩)) ?_;refine ue (eb:=(.int .u8 ((b.getD 0 0).toNat:Int))) rfl rfl (λu w E=>ag (by first|exact ov rfl u|rfl) ((by have em:0<b.length:=(by have L:(b.length:Int)=((wP k+1:Nat):Int):=(by simpa using u);omega);have Y:=(Z.es E.ee).sm em;rw[etT em]at Y;exact Y.ab rfl)) eG) (ue rfl rfl (λjK w E=>oP rfl eG) (ue rfl rfl (λM w E=>fi rfl (by first|exact ov rfl M|rfl) (by omega) eG) (ue (eb:=(.int .u8 ((Db k:Nat):Int))) rfl rfl (λN w E=>ag (by first|exact ov rfl N|rfl) ((nJ.2.es E.ee).vA (etj (k:=k) d)) eG) (ue rfl rfl (λx w E=>J.eql (by first|exact ov rfl x|rfl) (by first|exact ov rfl x|rfl) eG) (tl rfl (λw E=>pZ rfl (by first|rfl) rfl eG) (e2.nil (aE (K _ _ ?_))))))));refine ek.cond _ rfl (λc=>?_) (λc=>?_)
     .
       have n:=c
       try simp only[sX]at c
       have e:g1 b k=true:=by
        rw[<-n];unfold g1;congr 1
        .rw[Bool.eq_iff_iff,decide_eq_true_eq,decide_eq_true_eq];omega
        rw[Bool.eq_iff_iff,decide_eq_true_eq,decide_eq_true_eq];omega
       have o:=etq d i e;have hlen:b.length=wP k+1:=by unfold g1 at e;simp at e;exact e.1
       have y:=Z.cap;refine ek.seq (λEl O=>?_);refine nC 0 11 (eX [0,1,2,3,4] (.one 5 (eX [6,7,8,9,10] .nil))) [] E λw E=>?_;refine tl rfl (λw E=>oI (v:=v) rfl eG) (tl rfl (λw E=>hj (l:=1) (h':=b.length) (m:=s2 v) (Z.es E.ee) ⟨rfl,Nat.le_refl _⟩ ⟨⟨rfl,rfl⟩,y⟩ ⟨⟨_,rfl⟩,by omega⟩ eG) (tl rfl (λw E=>oP rfl eG) (tl rfl (λw E=>fi rfl rfl (by omega) eG) (tl rfl (λw E=>ag rfl ((nJ.1.es E.ee).vA (GZ (k:=k) d)) eG) (ol rfl (J.call (GX (by have h:=(Z.es E.ee).cut (l:=1) (h:=b.length) (m:=s2 v) (by omega) (Nat.le_refl _) y (Nat.le_refl _);rw[List.take_length]at h;exact h)) rfl ?_))))));rintro _ w ⟨rfl,P⟩;replace E:=E.es P;rw[Dw s.1 s.2 (by rw[List.length_drop];omega)];refine⟨pp E,?_⟩;refine tl rfl (λw E=>oI (v:=.tuple #[.int .u64 ((Eu b k:Nat):Int),i6 0]) rfl eG) (tl rfl (λw E=>J.extract rfl rfl eG) (tl rfl (λw E=>J.extract rfl rfl eG) (tl rfl (λw E=>iP rfl eG) (tl rfl (λw E=>iP rfl eG) (e2.nil (aE (O _ _ (ek.seq (λEd Q=>(ek.region (et (oP rfl (et (oP rfl (et (iP rfl (et (iP rfl ?_))))))))))))))))));refine ts.nil ?_;refine aE (Q _ _ ?_);refine ek.ret ?_;refine kL ?_;refine pQ ?_;refine pQ ?_;refine kL ?_;refine pQ ?_;refine cJ (.hB rfl (.hB rfl .nil)) ?_;rw[o];exact⟨rfl,E.ee⟩
     .
       have n:=c
       try simp only[sX]at c
       have p:g1 b k=false:=by
        rw[<-n];unfold g1;congr 1
        .rw[Bool.eq_iff_iff,decide_eq_true_eq,decide_eq_true_eq];omega
        rw[Bool.eq_iff_iff,decide_eq_true_eq,decide_eq_true_eq];omega
       refine ek.skip ?_;refine m9 (aE (H _ _ (ek.region (et (J.add rfl rfl (wrap_i64 (by omega)) (et (oP rfl ?_)))))));refine ts.nil ?_;exact aE (⟨2-(k+1),by omega,k+1,⟨rfl,congrArg (Value.int .i64) (by omega),trivial⟩,E,(λj tO=>(Nat.lt_or_ge j k).elim (λh=>i j h) (λh=>(show j=k by omega)▸p)),by omega,rfl⟩)
   .
     have F:=a
     try simp only[sX]at a
     obtain rfl:k=2:=by omega
     refine ek.exit ?_;refine uZ ?_;refine uZ ?_;refine ya (aE (A _ _ (ek.seq (λEc R=>(ek.region (et (iP rfl (et (iP rfl ?_)))))))));refine ts.nil ?_;refine aE (R _ _ ?_);refine ek.ret ?_;refine cJ (.hB rfl (.hB rfl .nil)) ?_;rw[etz i];exact⟨rfl,E.ee⟩
theorem etM{m:oa}{i:Instr}(c:ex w0 m.td.v td):tS 94 #[.agg (O.enc m),.agg (O.enc i)] w0 (.bool (xS td i.program)):=by
 refine eN 8 (eY _) func94 ntmps94 results94 rfl λao t6 w E=>?_;refine gC 18 (eX [0,1,2,3,4,5,6,7,8,9,10,11,12,13] (.one 14 (eX [15,16,17] .nil))) (by kernel_rfl) (λ_ _ _ h=>h) (λaB g=>?_);replace E:=E.es g;have a:=E;have b:=eY aB;have hlt:=wb i.program;refine ht 2 a ?_;refine ss a rfl (λw E=>J.conv rfl (show IntKind.i64.wrap _=(i.program.toNat:Int)from wrap_i64 (by omega)) eG) ?_;have:=aL c;refine ht 5 a ?_;refine ds a rfl rfl (λp w E=>o9 rfl eG) (ds (eb:=m.td.v) a rfl rfl (λj w E=>ag (by first|exact ov rfl j|rfl) (E.a6 en (Ge m)) eG) (ds a rfl rfl (λq w E=>o9 rfl eG) (ds (eb:=(.int .u8 (i.program.toNat:Int))) a rfl rfl (λl w E=>ag (by first|exact ov rfl l|rfl) (E.a6 en (P8 i)) eG) (ds (eb:=(oX m.td.v i.program.toNat (O.eo (Vector UInt8 32)))) a rfl rfl (λd w E=>by have n:(i.program.toNat:Int)<(td.length:Int):=(by simpa using d);exact nX (by first|exact ov rfl d|rfl) ((c.es E.ee)) (by first|exact ov rfl d|rfl) (by omega) (k:=.u8) (i:=(i.program.toNat:Int)) (v:=m.td.v) eG) (ds (eb:=(.agg (O.enc (td.getD i.program.toNat (aO 32))))) a rfl rfl (λe w E=>ag (by first|exact ov rfl e|rfl) ((by have em:i.program.toNat<td.length:=(by have n:(i.program.toNat:Int)<(td.length:Int):=(by simpa using e);omega);have Y:=(c.es E.ee).sm em;rw[show td[i.program.toNat]=td.getD i.program.toNat (aO 32) by simp[List.getD,em]]at Y;exact Y.n5 (O.ez _))) eG) ?_)))));refine Hv (.agg (O.enc Sm)) _ 12 b.ee rfl rfl rfl rfl rfl rfl (λr=>J.call (GP) rfl (λ_ _ h=>h)) (λw o=>?_);replace b:=b.es o;have E:=iq a b;exact ds (eb:=(.bool (decide (td.getD i.program.toNat (aO 32)=Sm)))) a rfl rfl (λf w E=>jm (by first|exact ov rfl f|rfl) (by first|exact ov rfl f|rfl) eG) (ss a rfl (λw E=>pZ rfl (by first|rfl) rfl eG) (ht 1 a (e2.nil (s6 3 E λw E=>(⟨congrArg Value.bool (etA),E.ee⟩)))))
variable{m:oa}
theorem etF(b:Nat->List UInt8)(nJ:Laid w0)(P:ex w0 m.td.v td)(Q:ex w0 m.instrs.v ad)(l8:ad.length<=1000000)(hb:∀i(ew:i<ad.length),ex w0 (ad[i]'ew).data.v (b i)):tS 34 #[.agg (O.enc m)] w0 (.agg (O.enc (Dv (dS (lM td ad) b ad.length)))):=by
 refine eN 8 (eY _) func34 ntmps34 results34 rfl λni ao w E=>?_;refine af 1 E (p5 ((sP.mk 0 0 (-1)):sP)) λt6 w E=>?_;refine oE (iJ E rfl rfl en (by first|rfl|exact O.ez _) (tH en λw E=>?_));have:=aL Q;refine ey 27 E λaW t w E=>?_;refine ek.loop (λq f w=>∃k:Nat,oV [(1,N ni),(2,N ao),(3,N t6),(4,N aW),(5,N t),(6,.int .u64 (((dS (lM td ad) b k).others:Nat):Int)),(13,m.instrs.v),(14,i6 ad.length),(15,i6 k)] f/\U w0 [B t (Ef (dS (lM td ad) b k).S) 228,B aW (bM (dS (lM td ad) b k).S) 227,B t6 (O.enc (sP.mk 0 0 (dS (lM td ad) b k).dW)) 51,B ao (O.enc (sP.mk 0 0 0)) 51,B ni (O.enc m) 46] w/\k<=ad.length/\q=ad.length-k) (ad.length) ?_ ?_
 .
   exact⟨0,⟨rfl,rfl,rfl,rfl,rfl,rfl,rfl,rfl,rfl,trivial⟩,E,Nat.zero_le _,rfl⟩
 .
   rintro q f w ⟨k,e,E,rP,e5⟩;refine il _ e (λg=>?_);clear e;refine eA 6 E<|om 0 0 (λR w E=>?_) (λR w E=>?_)
   .
     have y:k<ad.length:=by omega
     have z:=Dk (lM td ad) b k;obtain⟨K,A⟩:=Sf (lM td ad) b k;have T:=etO (td:=td) y;have d:(dS (lM td ad) b (k+1))=gi (dS (lM td ad) b k) k (lM td ad k) (b k):=rfl;have C:=etE (b:=(b k));have V:=G1 (b:=(b k));obtain⟨wc,yx,l⟩:∃wc yx,ui (b k)=(wc,yx):=⟨_,_,rfl⟩;rw[l]at C V;refine eA 2 E λw E=>?_;refine lB (λf w=>oV [(1,N ni),(2,N ao),(3,N t6),(4,N aW),(5,N t),(6,.int .u64 (((dS (lM td ad) b (k+1)).others:Nat):Int)),(13,m.instrs.v),(14,i6 ad.length),(15,i6 k)] f/\U w0 [B t (Ef (dS (lM td ad) b (k+1)).S) 228,B aW (bM (dS (lM td ad) b (k+1)).S) 227,B t6 (O.enc (sP.mk 0 0 (dS (lM td ad) b (k+1)).dW)) 51,B ao (O.enc (sP.mk 0 0 0)) 51,B ni (O.enc m) 46] w) ?_ ?_
     .
       refine eA 5 E ⟨⟨by omega⟩,λ_ w E=>?_⟩;have:=lq y;refine ey 3 E λnP w E=>?_;refine oE (iJ E rfl rfl en (by first|rfl|exact O.ez _) (tH en λw E=>?_));refine ey 6 E λw E=>?_;refine ev 0 E (etD ((hb k y).es E.ee) (nJ.es E.ee)) λw E=>?_;rw[l];refine ey 12 E λw E=>?_;refine ev 0 E (etM (P.es E.ee)) λw E=>?_;rw[<-T];refine ey 4 E<|na 0 0 (λD W w E=>?_) (λD W w E=>?_)
       .
         have F:lM td ad k=false:=by simpa using D
         rw[F,etI]at d;refine eA 8 E ⟨ib,λw E=>?_⟩;rw[d];exact⟨⟨rfl,rfl,rfl,rfl,rfl,rfl,rfl,rfl,rfl,trivial⟩,E.sub aS⟩
       .
         have F:lM td ad k=true:=by simpa using D
         rw[F]at d;refine eA 8 E<|om 0 0 (λX w E=>?_) (λX w E=>?_)
         .
           rw[etN (by omega)]at d;refine eA 4 E λw E=>?_;rw[d];exact⟨⟨rfl,rfl,rfl,rfl,rfl,rfl,rfl,rfl,rfl,trivial⟩,E.sub aS⟩
         .
           have G:¬0<=(dS (lM td ad) b k).dW:=by omega
           refine eA 5 E λw E=>?_;cases L:(decide (wc<(0:Int)))with
           |true=>
            refine ey 7 E<|na 0 0 (λ_ H w E=>?_) (λo H w E=>?_)
            .
              rw[G2 G l (.inl (of_decide_eq_true L))]at d;refine eA 8 E λw E=>?_;rw[d];exact⟨⟨rfl,rfl,rfl,rfl,rfl,rfl,rfl,rfl,rfl,trivial⟩,E.sub aS⟩
            .
              simp at o
           |false=>
            refine ey 1 E λw E=>?_;have Y:=of_decide_eq_false L;obtain⟨fg,rfl⟩:∃fg:Nat,wc=(fg:Int):=⟨wc.toNat,by omega⟩;have I:fg<2:=by omega
            refine dp 45 rfl rfl rfl (et (fi rfl rfl (by omega) ?_));refine af 4 E (hA λw E=>E.a6 en (G3 (dS (lM td ad) b k).S I))<|na 0 0 (λo H w E=>?_) (λo H w E=>?_)
            .
              rw[G2 G l (.inr (by simpa using o))]at d;refine eA 8 E λw E=>?_;rw[d];exact⟨⟨rfl,rfl,rfl,rfl,rfl,rfl,rfl,rfl,rfl,trivial⟩,E.sub aS⟩
            .
              rw[etS G l (by simpa using o)]at d;refine eA 4 E λw E=>?_;refine et (fi rfl rfl (by omega) (oE (iU (v:=.int .u64 ((yx:Nat):Int)) (eo:=1) (iA:=bM (λj=>if j=fg then some yx else(dS (lM td ad) b k).S j)) E rfl rfl en rfl (by show 0+fg*1+1<=2;omega) (oZ _ _) (G4 (dS (lM td ad) b k).S I) (tH en λw E=>(et (fi rfl rfl (by omega) (oE (iU (v:=.bool true) (eo:=1) (iA:=Ef (λj=>if j=fg then some yx else(dS (lM td ad) b k).S j)) E rfl rfl en rfl (by show 0+fg*1+1<=2;omega) (O.one true) (etL (dS (lM td ad) b k).S I) (tH en λw E=>(ey 4 E λw E=>?_))))))))));rw[d];exact⟨⟨rfl,rfl,rfl,rfl,rfl,rfl,rfl,rfl,rfl,trivial⟩,E.sub aS⟩
     .
       rintro f w ⟨e,E⟩;refine il _ e (λg=>?_);clear e;refine eA 5 E ⟨ib,λw E=>?_⟩;exact⟨ad.length-(k+1),by omega,k+1,⟨rfl,rfl,rfl,rfl,rfl,rfl,rfl,rfl,congrArg (Value.int .i64) (by omega),trivial⟩,E,by omega,rfl⟩
   .
     obtain rfl:k=ad.length:=by omega
     have z:=Dk (lM td ad) b ad.length;obtain⟨K,A⟩:=Sf (lM td ad) b ad.length;generalize(dS (lM td ad) b ad.length)=s at*;refine eA 5 E λw E=>?_;refine lB (λf w=>∃a:Nat->Option Nat,oV [(2,N ao),(3,N t6),(4,N aW)] f/\U w0 [B aW (bM a) 227,B t6 (O.enc (sP.mk 0 0 s.dW)) 51,B ao (O.enc (sP.mk 0 0 0)) 51] w/\(a 0).getD 0=(s.S 0).getD (s.others*200000)/\(a 1).getD 0=(s.S 1).getD 0/\(a 0).getD 0<18446744073709551616/\(a 1).getD 0<18446744073709551616) ?_ ?_
     .
       refine eA 2 E λw E=>?_;have eB:∀j,(s.S j).getD 0<18446744073709551616:=by
        intro j;cases p:s.S j with
        |none=>decide
        |some n=>exact K j n p
       have sw:=eB 0;have M:=eB 1;have Z:∀x:Nat,(!(s.S 0).isSome)=true->x=(s.S 0).getD x:=by
        intro x h;cases p:s.S 0 with
        |none=>rfl
        |some n=>rw[p]at h;cases h
       have Sg:(!(s.S 0).isSome)=false->(s.S 0).getD 0=(s.S 0).getD (s.others*200000):=by
        intro h;cases p:s.S 0 with
        |none=>rw[p]at h;cases h
        |some n=>rfl
       refine ey 1 E λw E=>?_;refine af 3 E (hA λw E=>E.a6 en (G3 s.S (k:=0) (by decide))) λw E=>?_;refine ek.cond _ rfl (λr=>?_) (λr=>?_)
       .
         have J:=r
         try simp only[sX]at r
         refine eA 4 E ⟨ib,λw E=>?_⟩;exact oE (iU (v:=.int .u64 ((s.others*200000:Nat):Int)) (eo:=1) (iA:=bM (λj=>if j=0 then some (s.others*200000)else s.S j)) E rfl rfl en rfl (by show 0+0*1+1<=2;decide) (oZ _ _) (G4 s.S (k:=0) (by decide)) (tH en λw E=>(ey 2 E λw E=>(⟨λj=>if j=0 then some (s.others*200000)else s.S j,⟨rfl,rfl,rfl,trivial⟩,E.sub aS,Z _ J,rfl,(show s.others*200000<18446744073709551616 by omega),M⟩))))
       .
         have J:=r
         try simp only[sX]at r
         refine eA 2 E λw E=>?_;exact⟨s.S,⟨rfl,rfl,rfl,trivial⟩,E.sub aS,Sg J,rfl,sw,M⟩
     .
       rintro f w ⟨a,e,E,ke,vS,pu,wA⟩;refine il _ e (λg=>?_);clear e;refine eA 1 E λw E=>?_;refine vj 8 (eX [0,1,2,3,4,5] (.one 6 (.look 7 (.one 8 .nil)))) (by kernel_rfl) (λ_ _ _ h=>h) (λaB iN=>?_);replace E:=E.es iN;have tR:=E;refine⟨λw=>∃u:Nat,U w0 [B aW (bM a) 227,B t6 (O.enc (sP.mk u 0 s.dW)) 51,B ao (O.enc (sP.mk 0 0 0)) 51] w,⟨0,E⟩,?_⟩;refine e2.look rfl rfl rfl (λw c=>(by obtain⟨u,E⟩:=c;exact fi rfl rfl (by omega) ⟨rfl,rfl⟩)) ?_;refine e2.look rfl rfl rfl (λw c=>(by obtain⟨u,E⟩:=c;exact ag rfl (E.a6 en (show(bM a)[0+0*1]? =some _ from rfl)) ⟨rfl,rfl⟩)) ?_;refine e2.look rfl rfl rfl (λw c=>(by obtain⟨u,E⟩:=c;exact Hd rfl rfl (show(if((1400000:Int))<(((a 0).getD 0:Nat):Int)then(1400000:Int)else(((a 0).getD 0:Nat):Int))=((min ((a 0).getD 0) 1400000:Nat):Int)from by split<;>omega) ⟨rfl,rfl⟩)) ?_;refine e2.look rfl rfl rfl (λw c=>(by obtain⟨u,E⟩:=c;exact fi rfl rfl (by omega) ⟨rfl,rfl⟩)) ?_;refine e2.look rfl rfl rfl (λw c=>(by obtain⟨u,E⟩:=c;exact ag rfl (E.a6 en (show(bM a)[0+1*1]? =some _ from rfl)) ⟨rfl,rfl⟩)) ?_;refine e2.look rfl rfl rfl (λw c=>(by obtain⟨u,E⟩:=c;exact o9 rfl ⟨rfl,rfl⟩)) ?_;refine n8 rfl rfl (iU (v:=.int .u64 ((min ((a 0).getD 0) 1400000:Nat):Int)) (eo:=1) (iA:=O.enc (sP.mk (min ((a 0).getD 0) 1400000) 0 s.dW)) E rfl rfl en rfl (by rw[O.ez];decide) (oZ _ _) (ZN (sP.mk 0 0 s.dW) _) (tH en λw E=>?_));refine⟨⟨min ((a 0).getD 0) 1400000,E⟩,?_⟩;refine e2.look rfl rfl rfl (λw c=>(by obtain⟨u,E⟩:=c;exact o9 rfl ⟨rfl,rfl⟩)) ?_;refine nH rfl (iU (v:=.int .u64 (((a 1).getD 0:Nat):Int)) (eo:=1) (iA:=O.enc (sP.mk (min ((a 0).getD 0) 1400000) ((a 1).getD 0) s.dW)) E rfl rfl en rfl (by rw[O.ez];decide) (oZ _ _) (ZS (sP.mk (min ((a 0).getD 0) 1400000) 0 s.dW) _) (tH en λw E=>(e2.nil (s6 9 E λw E=>?_))));refine⟨?_,E.ee⟩;rw[ke,vS];rfl
end
section
open Go.Proofs Tryz
variable{A2 aw ws xs:List UInt8}{all yk nZ td:Nat}{b:Bool}{c:iX}{cs:List (Vector UInt8 32×List UInt8×List UInt8)}{hi v:Value}{i:UInt8}{is:List Instr}{ri l:List ak}{eI:List (ak×Int)}{t8:List iX}{l7:List (UInt8×List UInt8×List UInt8)}{ti:List sd}{w0:World}{x:oW}{y:nT}
theorem eoC{xs:List iX}(p:Nat->Bool)(Z:ex w0 v xs)(e:∀w,eV w0 w->∀k(h:k<xs.length),mN prog hi [.agg (O.enc xs[k])] w (λu w'=>u= .bool (p k)/\eV w w')):eJ 303 #[v,hi] w0 (λu w'=>∃n:Int,u= .int .i64 n/\decide (0<=n)=(List.range xs.length).any p/\eV w0 w'):=by
 have:=aL Z;refine eN 14 (eY _) func303 ntmps303 results303 rfl λw E=>?_;refine ek.loop (λq f w=>∃k:Nat,oV [(0,v),(1,hi),(7,i6 xs.length),(8,i6 k)] f/\U w0 [] w/\(∀j,j<k->p j=false)/\k<=xs.length/\q=xs.length-k) (xs.length) ?_ ?_
 .
   exact⟨0,⟨rfl,rfl,rfl,rfl,trivial⟩,E,λj h=>absurd h (by omega),Nat.zero_le _,rfl⟩
 .
   rintro q f w ⟨k,c,E,d,s,e5⟩;refine il _ c (λg=>?_);clear c;refine eA 6 E<|om 0 12 (λi w E=>?_) (λi w E=>?_)
   .
     have a:k<xs.length:=by omega
     have l:=Z.le;simp only[maxLen]at l;refine eA 16 E ⟨⟨by omega⟩,λ_ w E=>?_⟩;have:=lq a;refine ey 1 E λw E=>?_;refine et (bf rfl (e _ E.ee k a) rfl ?_);rintro _ w ⟨rfl,m⟩;replace E:=E.es m;refine ey 2 E<|na 13 8 (λb o w E=>?_) (λb o=>⟨ib,λw E=>?_⟩)
     .
       exact⟨_,rfl,by rw[List.any_eq_true.2 ⟨k,List.mem_range.2 a,b⟩];exact decide_eq_true (by omega),E.ee⟩
     .
       exact⟨xs.length-(k+1),by omega,k+1,⟨rfl,rfl,rfl,congrArg (Value.int .i64) (by omega),trivial⟩,E,λj Y=>(by rcases Nat.lt_or_ge j k with h|h;exact d j h;obtain rfl:j=k:=(by omega);exact b),by omega,rfl⟩
   .
     refine⟨_,rfl,?_,E.ee⟩;rw[List.any_eq_false.2 (λj r=>by have:=List.mem_range.1 r;rw[d j (by omega)];decide)];rfl
theorem eoU{xs:List iX}(p:Nat->Bool)(Z:ex w0 v xs)(a:∀w,eV w0 w->∀k(h:k<xs.length),mN prog hi [.agg (O.enc xs[k])] w (λu w'=>u= .bool (p k)/\eV w w')):tS 230 #[v,hi] w0 (.bool ((List.range xs.length).any p)):=by
 refine eN 9 (eY _) func230 ntmps230 results230 rfl λw E=>?_;refine ev 6 E (eoC p (Z.es E.ee) (λw h=>a w (E.ee.trans h))) λn b w E=>?_;exact⟨congrArg Value.bool b,E.ee⟩
theorem eoM{xs:List Instr}(p:Nat->Bool)(Z:ex w0 v xs)(e:∀w,eV w0 w->∀k(h:k<xs.length),mN prog hi [.agg (O.enc xs[k])] w (λu w'=>u= .bool (p k)/\eV w w')):eJ 304 #[v,hi] w0 (λu w'=>∃n:Int,u= .int .i64 n/\decide (0<=n)=(List.range xs.length).any p/\eV w0 w'):=by
 have:=aL Z;refine eN 14 (eY _) func304 ntmps304 results304 rfl λw E=>?_;refine ek.loop (λq f w=>∃k:Nat,oV [(0,v),(1,hi),(7,i6 xs.length),(8,i6 k)] f/\U w0 [] w/\(∀j,j<k->p j=false)/\k<=xs.length/\q=xs.length-k) (xs.length) ?_ ?_
 .
   exact⟨0,⟨rfl,rfl,rfl,rfl,trivial⟩,E,λj h=>absurd h (by omega),Nat.zero_le _,rfl⟩
 .
   rintro q f w ⟨k,c,E,d,s,e5⟩;refine il _ c (λg=>?_);clear c;refine eA 6 E<|om 0 12 (λi w E=>?_) (λi w E=>?_)
   .
     have a:k<xs.length:=by omega
     have l:=Z.le;simp only[maxLen]at l;refine eA 16 E ⟨⟨by omega⟩,λ_ w E=>?_⟩;have:=lq a;refine ey 1 E λw E=>?_;refine et (bf rfl (e _ E.ee k a) rfl ?_);rintro _ w ⟨rfl,m⟩;replace E:=E.es m;refine ey 2 E<|na 13 8 (λb o w E=>?_) (λb o=>⟨ib,λw E=>?_⟩)
     .
       exact⟨_,rfl,by rw[List.any_eq_true.2 ⟨k,List.mem_range.2 a,b⟩];exact decide_eq_true (by omega),E.ee⟩
     .
       exact⟨xs.length-(k+1),by omega,k+1,⟨rfl,rfl,rfl,congrArg (Value.int .i64) (by omega),trivial⟩,E,λj Y=>(by rcases Nat.lt_or_ge j k with h|h;exact d j h;obtain rfl:j=k:=(by omega);exact b),by omega,rfl⟩
   .
     refine⟨_,rfl,?_,E.ee⟩;rw[List.any_eq_false.2 (λj r=>by have:=List.mem_range.1 r;rw[d j (by omega)];decide)];rfl
theorem eoF{xs:List Instr}(p:Nat->Bool)(Z:ex w0 v xs)(a:∀w,eV w0 w->∀k(h:k<xs.length),mN prog hi [.agg (O.enc xs[k])] w (λu w'=>u= .bool (p k)/\eV w w')):tS 233 #[v,hi] w0 (.bool ((List.range xs.length).any p)):=by
 refine eN 9 (eY _) func233 ntmps233 results233 rfl λw E=>?_;refine ev 6 E (eoM p (Z.es E.ee) (λw h=>a w (E.ee.trans h))) λn b w E=>?_;exact⟨congrArg Value.bool b,E.ee⟩
theorem eoP(p:Nat->Bool)(Z:ex w0 v xs)(e:∀w,eV w0 w->∀k(h:k<xs.length),mN prog hi [.int .u8 (xs[k].toNat:Int)] w (λu w'=>u= .bool (p k)/\eV w w')):eJ 305 #[v,hi] w0 (λu w'=>∃n:Int,u= .int .i64 n/\decide (0<=n)=(List.range xs.length).any p/\eV w0 w'):=by
 have:=aL Z;refine eN 14 (eY _) func305 ntmps305 results305 rfl λw E=>?_;refine ek.loop (λq f w=>∃k:Nat,oV [(0,v),(1,hi),(7,i6 xs.length),(8,i6 k)] f/\U w0 [] w/\(∀j,j<k->p j=false)/\k<=xs.length/\q=xs.length-k) (xs.length) ?_ ?_
 .
   exact⟨0,⟨rfl,rfl,rfl,rfl,trivial⟩,E,λj h=>absurd h (by omega),Nat.zero_le _,rfl⟩
 .
   rintro q f w ⟨k,c,E,d,s,e5⟩;refine il _ c (λg=>?_);clear c;refine eA 6 E<|om 0 12 (λi w E=>?_) (λi w E=>?_)
   .
     have a:k<xs.length:=by omega
     have l:=Z.le;simp only[maxLen]at l;refine eA 16 E ⟨⟨by omega⟩,λ_ w E=>?_⟩;have:=lq a;refine ey 1 E λw E=>?_;refine et (bf rfl (e _ E.ee k a) rfl ?_);rintro _ w ⟨rfl,m⟩;replace E:=E.es m;refine ey 2 E<|na 13 8 (λb o w E=>?_) (λb o=>⟨ib,λw E=>?_⟩)
     .
       exact⟨_,rfl,by rw[List.any_eq_true.2 ⟨k,List.mem_range.2 a,b⟩];exact decide_eq_true (by omega),E.ee⟩
     .
       exact⟨xs.length-(k+1),by omega,k+1,⟨rfl,rfl,rfl,congrArg (Value.int .i64) (by omega),trivial⟩,E,λj Y=>(by rcases Nat.lt_or_ge j k with h|h;exact d j h;obtain rfl:j=k:=(by omega);exact b),by omega,rfl⟩
   .
     refine⟨_,rfl,?_,E.ee⟩;rw[List.any_eq_false.2 (λj r=>by have:=List.mem_range.1 r;rw[d j (by omega)];decide)];rfl
theorem eoG(p:Nat->Bool)(Z:ex w0 v xs)(a:∀w,eV w0 w->∀k(h:k<xs.length),mN prog hi [.int .u8 (xs[k].toNat:Int)] w (λu w'=>u= .bool (p k)/\eV w w')):tS 236 #[v,hi] w0 (.bool ((List.range xs.length).any p)):=by
 refine eN 9 (eY _) func236 ntmps236 results236 rfl λw E=>?_;refine ev 6 E (eoP p (Z.es E.ee) (λw h=>a w (E.ee.trans h))) λn b w E=>?_;exact⟨congrArg Value.bool b,E.ee⟩
theorem eoW(d:ex w0 x.sigs.v ti):tS 160 #[.agg (O.enc x)] w0 (.bool ((decide (0<(x.m.ic.rh.toNat:Int)))&&(decide ((ti.length:Int)=(x.m.ic.rh.toNat:Int))))):=by
 have f:=x.m.ic.rh.toNat_lt;have g:=d.le;refine eN 0 (eY _) func160 ntmps160 results160 rfl λw E=>?_;simp only[maxLen]at g;refine eA 14 E λni w E=>?_;refine ts.eQ _ 8 _ rfl rfl rfl rfl (λt=>o9 (b:=ni) (o:=0) rfl ⟨rfl,eV.refl _⟩) (λw c=>?_);replace E:=E.es c;refine ts.eQ _ 8 _ rfl rfl rfl rfl (λh=>ag (v:=x.sigs.v) (by first|exact ov rfl h|rfl) (E.a6 .em (LW x)) ⟨rfl,eV.refl _⟩) (λw c=>?_);replace E:=E.es c;refine ts.eQ _ 8 _ rfl rfl rfl rfl (λl=>J.hD (v:=x.sigs.v) (xs:=ti) (by first|exact ov rfl l|rfl) (d.es E.ee) ⟨rfl,eV.refl _⟩) (λw c=>?_);replace E:=E.es c;refine ts.eQ _ 8 _ rfl rfl rfl rfl (λu=>o9 (b:=ni) (o:=0) rfl ⟨rfl,eV.refl _⟩) (λw c=>?_);replace E:=E.es c;refine ts.eQ _ 8 _ rfl rfl rfl rfl (λp=>o9 (b:=ni) (o:=1) (by first|exact ov rfl p|rfl) ⟨rfl,eV.refl _⟩) (λw c=>?_);replace E:=E.es c;refine ts.eQ _ 8 _ rfl rfl rfl rfl (λq=>o9 (b:=ni) (o:=2) (by first|exact ov rfl q|rfl) ⟨rfl,eV.refl _⟩) (λw c=>?_);replace E:=E.es c;refine ts.eQ _ 8 _ rfl rfl rfl rfl (λr=>ag (v:=.int .u8 (x.m.ic.rh.toNat:Int)) (by first|exact ov rfl r|rfl) (E.a6 .em (vq (i:=1) (zV x) (vq (i:=0) (NG x.m) (P9 x.m.ic) (by decide)) (by decide))) ⟨rfl,eV.refl _⟩) (λw c=>?_);replace E:=E.es c;refine ts.eQ _ 8 _ rfl rfl rfl rfl (λs=>J.conv (j:=.u8) (n:=(x.m.ic.rh.toNat:Int)) (by first|exact ov rfl s|rfl) (wrap_i64 (by omega)) ⟨rfl,eV.refl _⟩) (λw c=>?_);replace E:=E.es c;refine ts.eQ _ 8 _ rfl rfl rfl rfl (λe=>J.eql (k:=.i64) (a:=(ti.length:Int)) (b:=(x.m.ic.rh.toNat:Int)) (by first|exact ov rfl e|rfl) (by first|exact ov rfl e|rfl) ⟨rfl,eV.refl _⟩) (λw c=>?_);replace E:=E.es c;exact et (pZ rfl (by first|rfl) rfl (ey 5 E λw E=>(⟨rfl,E.ee⟩)))
theorem eoB(d:ex w0 x.m.td.v ri):tS 161 #[.agg (O.enc x)] w0 (.bool ((decide ((x.m.ic.fP.toNat:Int)<(x.m.ic.rh.toNat:Int)))&&(decide (((x.m.ic.rh.toNat:Int)+(x.m.ic.uk.toNat:Int))<=(ri.length:Int))))):=by
 have g:=x.m.ic.rh.toNat_lt;have h:=x.m.ic.uk.toNat_lt;have l:=d.le;refine eN 0 (eY _) func161 ntmps161 results161 rfl λw E=>?_;simp only[maxLen]at l;refine eA 12 E λni t6 w E=>?_;refine oE (iJ (r:=x.m.ic) E rfl rfl .em rfl (tH .em λw E=>(ey 10 E λw E=>(ts.eQ _ 12 _ rfl rfl rfl rfl (λA=>o9 (b:=t6) (o:=0) rfl ⟨rfl,eV.refl _⟩) (λw c=>?_)))));replace E:=E.es c;refine ts.eQ _ 12 _ rfl rfl rfl rfl (λp=>ag (v:=.int .u8 (x.m.ic.rh.toNat:Int)) (by first|exact ov rfl p|rfl) (E.a6 .em (P9 x.m.ic)) ⟨rfl,eV.refl _⟩) (λw c=>?_);replace E:=E.es c;refine ts.eQ _ 12 _ rfl rfl rfl rfl (λq=>J.conv (j:=.u8) (n:=(x.m.ic.rh.toNat:Int)) (by first|exact ov rfl q|rfl) (wrap_i64 (by omega)) ⟨rfl,eV.refl _⟩) (λw c=>?_);replace E:=E.es c;refine ts.eQ _ 12 _ rfl rfl rfl rfl (λB=>o9 (b:=t6) (o:=0) rfl ⟨rfl,eV.refl _⟩) (λw c=>?_);replace E:=E.es c;refine ts.eQ _ 12 _ rfl rfl rfl rfl (λs=>ag (v:=.int .u8 (x.m.ic.uk.toNat:Int)) (by first|exact ov rfl s|rfl) (E.a6 .em (Zy x.m.ic)) ⟨rfl,eV.refl _⟩) (λw c=>?_);replace E:=E.es c;refine ts.eQ _ 12 _ rfl rfl rfl rfl (λt=>J.conv (j:=.u8) (n:=(x.m.ic.uk.toNat:Int)) (by first|exact ov rfl t|rfl) (wrap_i64 (by omega)) ⟨rfl,eV.refl _⟩) (λw c=>?_);replace E:=E.es c;refine ts.eQ _ 12 _ rfl rfl rfl rfl (λe=>J.add (k:=.i64) (a:=(x.m.ic.rh.toNat:Int)) (b:=(x.m.ic.uk.toNat:Int)) (by first|exact ov rfl e|rfl) (by first|exact ov rfl e|rfl) (wrap_i64 (by omega)) ⟨rfl,eV.refl _⟩) (λw c=>?_);replace E:=E.es c;refine ts.eQ _ 12 _ rfl rfl rfl rfl (λC=>o9 (b:=ni) (o:=0) rfl ⟨rfl,eV.refl _⟩) (λw c=>?_);replace E:=E.es c;refine ts.eQ _ 12 _ rfl rfl rfl rfl (λu=>o9 (b:=ni) (o:=1) (by first|exact ov rfl u|rfl) ⟨rfl,eV.refl _⟩) (λw c=>?_);replace E:=E.es c;refine ts.eQ _ 12 _ rfl rfl rfl rfl (λy=>ag (v:=x.m.td.v) (by first|exact ov rfl y|rfl) (E.a6 .G (vq (i:=4) (zV x) (Ge x.m) (by decide))) ⟨rfl,eV.refl _⟩) (λw c=>?_);replace E:=E.es c;refine ts.eQ _ 12 _ rfl rfl rfl rfl (λz=>J.hD (v:=x.m.td.v) (xs:=ri) (by first|exact ov rfl z|rfl) (d.es E.ee) ⟨rfl,eV.refl _⟩) (λw c=>?_);replace E:=E.es c;refine ts.eQ _ 12 _ rfl rfl rfl rfl (λf=>J.leq (k:=.i64) (a:=((x.m.ic.rh.toNat:Int)+(x.m.ic.uk.toNat:Int))) (b:=(ri.length:Int)) (by first|exact ov rfl f|rfl) (by first|exact ov rfl f|rfl) ⟨rfl,eV.refl _⟩) (λw c=>?_);replace E:=E.es c;exact et (pZ rfl (by first|rfl) rfl (ey 5 E λw E=>(⟨rfl,E.ee⟩)))
theorem eoV(a:ex w0 c.iY.v ws)(hr:ex w0 c.p8.v aw)(G:ws.length<=100000)(Y:aw.length<=100000):tS 231 #[.agg (O.enc c)] w0 (.bool (decide (((ws.length:Int)+(aw.length:Int))=0))):=by
 have:=aL a;have:=aL hr;refine eN 21 (eY _) func231 ntmps231 results231 rfl λni=>⟨ib,λw E=>?_⟩;exact⟨rfl,E.ee⟩
theorem eoK{α:Type}(l:List (α×List UInt8×List UInt8))(k:Nat):hI (l.take k)<=hI l:=by
 unfold hI;induction l generalizing k with
 |nil=>simp
 |cons x l a=>
  cases k with
  |zero=>simp
  |succ k=>have:=a k;simp only[List.take_succ_cons,List.map_cons,List.sum_cons];omega
theorem WD(e:ex w0 x.m.td.v ri)(eB:ex w0 x.m.rJ.v t8)(b:bN w0 t8 cs)(s:ri.length+hI cs<=1000000000):tS 232 #[.agg (O.enc x)] w0 (.int .i64 ((ri.length+hI cs:Nat):Int)):=by
 have c:=e.le;refine eN 0 (eY _) func232 ntmps232 results232 rfl λw E=>?_;simp only[maxLen]at c;have:=aL e;have:=aL eB;refine eA 26 E λni w E=>?_;refine ek.loop (λq f w=>∃k:Nat,oV [(3,.int .i64 ((ri.length+hI (cs.take k):Nat):Int)),(12,x.m.rJ.v),(13,i6 t8.length),(14,i6 k)] f/\U w0 [B ni (O.enc x) 48] w/\k<=t8.length/\q=t8.length-k) (t8.length) ?_ ?_
 .
   exact⟨0,⟨(by first|rfl|(refine congrArg (Value.int .i64) ?_;first|omega|(simp[hI];done)|(rw[a];omega))),rfl,rfl,(by first|rfl|(refine congrArg (Value.int .i64) ?_;first|omega|(simp[hI];done)|(rw[a];omega))),trivial⟩,E,Nat.zero_le _,rfl⟩
 .
   rintro q f w ⟨k,h,E,t,e5⟩;refine il _ h (λg=>?_);clear h;refine eA 6 E<|om 0 0 (λj w E=>?_) (λj w E=>?_)
   .
     have i:k<t8.length:=by omega
     have d:k<cs.length:=b.1▸i;obtain⟨_,l,n⟩:=b.2 k i d;have a:=ZJ d;have uJ:=ZQ d;have c:=eB.le;simp only[maxLen]at c;have o:hI (cs.take k)+(cs[k].2.1.length+cs[k].2.2.length)<=hI cs:=by rw[<-a];exact eoK _ _
     refine eA 7 E ⟨⟨aj⟩,λ_=>rO 2 λu w E=>?_⟩;refine oE (iJ (r:=t8[k]) E rfl rfl .em rfl (tH .em λw E=>?_));have:=aL l;have:=aL n;refine ey 21 E ⟨ib,⟨ib,⟨ib,λw E=>?_⟩⟩⟩;exact⟨t8.length-(k+1),by omega,k+1,⟨(by first|rfl|(refine congrArg (Value.int .i64) ?_;first|omega|(simp[hI];done)|(rw[a];omega))),rfl,rfl,(by first|rfl|(refine congrArg (Value.int .i64) ?_;first|omega|(simp[hI];done)|(rw[a];omega))),trivial⟩,tN [0] E,by omega,rfl⟩
   .
     obtain rfl:k=t8.length:=by omega
     have p:cs.take t8.length=cs:=List.take_of_length_le (by rw[b.1];exact Nat.le_refl _);rw[p];refine eA 13 E λw E=>?_;exact⟨rfl,E.ee⟩
theorem eoX(a:ex w0 x.m.td.v ri)(eB:ex w0 x.m.rJ.v t8)(b:bN w0 t8 cs)(c:ri.length+hI cs<=1000000000):tS 163 #[.agg (O.enc x)] w0 (.bool (decide (((ri.length+hI cs:Nat):Int)<=64))):=by
 refine eN 9 (eY _) func163 ntmps163 results163 rfl λni w E=>?_;refine ev 6 E (WD (a.es E.ee) (eB.es E.ee) (b.es E.ee) c) λw E=>?_;exact⟨rfl,E.ee⟩
theorem D0{α:Type}(xs:List α)(q:α->Bool)(p:Nat->Bool)(h:∀k(h:k<xs.length),p k=q xs[k]):(List.range xs.length).any p=xs.any q:=by
 rw[Bool.eq_iff_iff,List.any_eq_true,List.any_eq_true];constructor
 .rintro⟨k,a,b⟩;have a:=List.mem_range.1 a;exact⟨xs[k],List.getElem_mem _,by rw[<-h k a];exact b⟩
 rintro⟨y,c,d⟩;obtain⟨k,a,rfl⟩:=List.getElem_of_mem c;exact⟨k,List.mem_range.2 a,by rw[h k a];exact d⟩
def D1(cs:List (Vector UInt8 32×List UInt8×List UInt8)):Bool:=cs.any λc=>decide (((c.2.1.length:Int)+(c.2.2.length:Int))=0)
def A3(cs:List (Vector UInt8 32×List UInt8×List UInt8))(k:Nat):Bool:=match cs[k]? with|some c=>decide (((c.2.1.length:Int)+(c.2.2.length:Int))=0)|none=>false
def SR(all td:Nat)(p:UInt8)(A2:List UInt8):Bool:=((decide ((p.toNat:Int)=0))||(decide ((td:Int)<=(p.toNat:Int))))||(A2.any λi=>decide ((all:Int)<=(i.toNat:Int)))
def SH(all td:Nat)(l7:List (UInt8×List UInt8×List UInt8))(k:Nat):Bool:=match l7[k]? with|some c=>SR all td c.1 c.2.1|none=>false
def SL(all td:Nat)(l7:List (UInt8×List UInt8×List UInt8)):Bool:=l7.any λc=>SR all td c.1 c.2.1
theorem eoJ(cs:List (Vector UInt8 32×List UInt8×List UInt8)):(List.range cs.length).any (A3 cs)=D1 cs:=D0 _ _ _ λk h=>by unfold A3;rw[List.getElem?_eq_getElem h]
theorem eoQ(all td:Nat)(l7:List (UInt8×List UInt8×List UInt8)):(List.range l7.length).any (SH all td l7)=SL all td l7:=D0 _ _ _ λk h=>by unfold SH;rw[List.getElem?_eq_getElem h]
def D2(yM tj tZ A4 A5 A6:Bool):Int:=if yM=false then 6 else if tj=false then 7 else if tZ=false then 10 else if A4=false then 3 else if A5=false then 8 else if A6=false then 9 else 0
def bB(h:ro)(ti:List sd)(ri:List ak)(cs:List (Vector UInt8 32×List UInt8×List UInt8))(l7:List (UInt8×List UInt8×List UInt8)):Int:=
 D2 ((decide (0<(h.rh.toNat:Int)))&&(decide ((ti.length:Int)=(h.rh.toNat:Int)))) ((decide ((h.fP.toNat:Int)<(h.rh.toNat:Int)))&&(decide (((h.rh.toNat:Int)+(h.uk.toNat:Int))<=(ri.length:Int))))
  (!(D1 cs)) (decide (((ri.length+hI cs:Nat):Int)<=64)) (!(SL (ri.length+hI cs) ri.length l7)) (decide ri.Nodup)
theorem eoZ(a:bN w0 t8 cs)(e:py 100000 cs):∀w,eV w0 w->∀k(h:k<t8.length),mN prog (.func (.func 231) #[] #[]) [.agg (O.enc t8[k])] w (λu w'=>u= .bool (A3 cs k)/\eV w w'):=by
 intro w hb k b;refine⟨231,[],[],rfl,inferInstance,?_⟩;have c:k<cs.length:=a.1▸b;obtain⟨_,f,g⟩:=a.2 k b c;have d:=e cs[k] (List.getElem_mem _);refine(eoV (f.es hb) (g.es hb) d.1 d.2).mono ?_;rintro _ pl ⟨rfl,Y⟩;exact⟨congrArg Value.bool (by unfold A3;rw[List.getElem?_eq_getElem c]),Y⟩
theorem eo0(eB:ex w0 x.m.rJ.v t8)(a:bN w0 t8 cs)(b:py 100000 cs):tS 162 #[.agg (O.enc x)] w0 (.bool (!(D1 cs))):=by
 refine eN 11 (eY _) func162 ntmps162 results162 rfl λni w E=>?_;refine ev 0 E (eoU (A3 cs) (eB.es E.ee) (eoZ (a.es E.ee) b)) λw E=>?_;rw[a.1,eoJ];refine ey 6 E λw E=>?_;exact⟨rfl,E.ee⟩
theorem eo1{b:Nat}(a:an w0 (N b) #[i6 all]):tS 235 #[.int .u8 (i.toNat:Int),N b] w0 (.bool (decide ((all:Int)<=(i.toNat:Int)))):=by
 have ew:=i.toNat_lt;have:=ir a;refine eN 16 (eY _) func235 ntmps235 results235 rfl ⟨ib,λw E=>?_⟩;exact⟨rfl,E.ee⟩
theorem eo2{b:Nat}(c:an w0 (N b) #[i6 all]):∀w,eV w0 w->∀k(h:k<xs.length),mN prog (.func (.func 235) #[] #[N b]) [.int .u8 (xs[k].toNat:Int)] w (λu w'=>u= .bool ((λk=>match xs[k]? with|some i=>decide ((all:Int)<=(i.toNat:Int))|none=>false) k)/\eV w w'):=
 λw hb k h=>⟨235,[],[N b],rfl,inferInstance,(eo1 (c.es hb)).mono λu w' a=>⟨by rw[a.1];simp only[List.getElem?_eq_getElem h],a.2⟩⟩
theorem eo3(all:Nat)(xs:List UInt8):((List.range xs.length).any λk=>match xs[k]? with|some i=>decide ((all:Int)<=(i.toNat:Int))|none=>false)=xs.any λi=>decide ((all:Int)<=(i.toNat:Int)):=
 D0 _ _ _ λk h=>by simp only[List.getElem?_eq_getElem h]
theorem eo4{c:Instr}(g:an w0 (N yk) #[i6 all])(h:an w0 (N nZ) #[i6 td])(ep:ex w0 c.cS.v A2):tS 234 #[.agg (O.enc c),N yk,N nZ] w0 (.bool (SR all td c.program A2)):=by
 have ew:=c.program.toNat_lt;refine eN 18 (eY _) func234 ntmps234 results234 rfl λt6 w E=>?_;refine ts.eQ _ 10 _ rfl rfl rfl rfl (λq=>o9 (b:=t6) (o:=0) rfl ⟨rfl,eV.refl _⟩) (λw d=>?_);replace E:=E.es d;refine ts.eQ _ 10 _ rfl rfl rfl rfl (λl=>ag (v:=.int .u8 (c.program.toNat:Int)) (by first|exact ov rfl l|rfl) (E.a6 .em (P8 c)) ⟨rfl,eV.refl _⟩) (λw d=>?_);replace E:=E.es d;refine ts.eQ _ 10 _ rfl rfl rfl rfl (λm=>J.conv (j:=.u8) (n:=(c.program.toNat:Int)) (by first|exact ov rfl m|rfl) (wrap_i64 (by omega)) ⟨rfl,eV.refl _⟩) (λw d=>?_);replace E:=E.es d;refine ts.eQ _ 10 _ rfl rfl rfl rfl (λr=>ag (v:=i6 td) rfl ((h.es E.ee).vA rfl) ⟨rfl,eV.refl _⟩) (λw d=>?_);replace E:=E.es d;refine ts.eQ _ 10 _ rfl rfl rfl rfl (λe=>J.geq (k:=.i64) (a:=(c.program.toNat:Int)) (b:=(td:Int)) (by first|exact ov rfl e|rfl) (by first|exact ov rfl e|rfl) ⟨rfl,eV.refl _⟩) (λw d=>?_);replace E:=E.es d;refine et (fe rfl rfl (by first|rfl) (ey 1 E λw E=>(ts.eQ _ 17 _ rfl rfl rfl rfl (λs=>o9 (b:=t6) (o:=0) rfl ⟨rfl,eV.refl _⟩) (λw d=>?_))));replace E:=E.es d;refine ts.eQ _ 17 _ rfl rfl rfl rfl (λp=>ag (v:=c.cS.v) (by first|exact ov rfl p|rfl) (E.a6 .em (Zg c)) ⟨rfl,eV.refl _⟩) (λw d=>?_);replace E:=E.es d;refine ts.eQ _ 17 _ rfl rfl rfl rfl (λt=>oI (v:=.func (.func 235) #[] #[N yk]) rfl ⟨rfl,eV.refl _⟩) (λw d=>?_);replace E:=E.es d;refine ts.eQ _ 17 (.bool (A2.any λi=>decide ((all:Int)<=(i.toNat:Int)))) rfl rfl rfl rfl (λf=>?_) (λw d=>?_)
 .refine J.call (eoG _ (ep.es E.ee) (eo2 (g.es E.ee))) (HV (by first|exact ov rfl f|rfl) (by first|exact ov rfl f|rfl)) ?_;rintro _ w ⟨rfl,d⟩;rw[eo3];replace E:=E.es d;exact⟨rfl,d⟩
 replace E:=E.es d;exact et (fe rfl rfl (by first|rfl) (ey 5 E λw E=>(⟨rfl,E.ee⟩)))
theorem eo5(ew:jJ w0 is l7)(c:an w0 (N yk) #[i6 all])(d:an w0 (N nZ) #[i6 td]):∀w,eV w0 w->∀k(h:k<is.length),mN prog (.func (.func 234) #[] #[N yk,N nZ]) [.agg (O.enc is[k])] w (λu w'=>u= .bool (SH all td l7 k)/\eV w w'):=by
 intro w hb k h;have a:k<l7.length:=ew.1▸h;obtain⟨G,Y,_⟩:=ew.2 k h a;refine⟨234,[],[N yk,N nZ],rfl,inferInstance,(eo4 (c.es hb) (d.es hb) (Y.es hb)).mono λu w' b=>⟨?_,b.2⟩⟩;rw[b.1];unfold SH;rw[List.getElem?_eq_getElem a,G]
theorem eo6(b:ex w0 x.m.td.v ri)(eB:ex w0 x.m.rJ.v t8)(d:bN w0 t8 cs)(f:ri.length+hI cs<=1000000000)(ew:ex w0 x.m.instrs.v is)(c:jJ w0 is l7):tS 164 #[.agg (O.enc x)] w0 (.bool (!(SL (ri.length+hI cs) ri.length l7))):=by
 refine eN 7 (eY _) func164 ntmps164 results164 rfl λni=>?_;have:=aL b;refine aC 5 8 (eX [0,1,2,3,4] (.sL [[5],[6],[7]] (oA [8,9] .nil))) [] λw E=>?_;refine e2.sL [λu e=>u=[(10,.int .i64 ((ri.length+hI cs:Nat):Int))]/\e=[],λu e=>∃(t6:Nat),u=[(3,N t6)]/\e=[B t6 #[i6 0] 3],λu e=>∃(aW:Nat),u=[(4,N aW)]/\e=[B aW #[i6 0] 3]] E (λw E=>E) (.cons ?_ (.cons ?_ (.cons ?_ .nil))) ?_
 .refine io.step rfl rfl (λX w E=>?_);simp only[List.nil_append,List.cons_append]at E;refine J.call (WD (b.es E.ee) (eB.es E.ee) (d.es E.ee) f) rfl ?_;rintro _ w ⟨rfl,a⟩;replace E:=E.es a;refine⟨[],E,?_⟩;exact .nil ⟨rfl,rfl⟩
 .refine io.step rfl rfl (λX w E=>?_);simp only[List.nil_append,List.cons_append]at E;refine jh (v:=i6 0) E rfl ?_;intro t6 w _ E;refine⟨[B t6 #[i6 0] 3],E,?_⟩;exact .nil ⟨t6,rfl,rfl⟩
 .refine io.step rfl rfl (λX w E=>?_);simp only[List.nil_append,List.cons_append]at E;refine jh (v:=i6 0) E rfl ?_;intro aW w _ E;refine⟨[B aW #[i6 0] 3],E,?_⟩;exact .nil ⟨aW,rfl,rfl⟩
 refine .cons λ_ _ g=>.cons λ_ _ h=>.cons λ_ _ i=>.nil λw E=>?_;obtain⟨rfl,rfl⟩:=g;obtain⟨t6,rfl,rfl⟩:=h;obtain⟨aW,rfl,rfl⟩:=i;simp only[List.nil_append,List.cons_append]at E;refine t7 10 E λw E=>?_;refine et (J.call (eoF _ (ew.es E.ee) (eo5 (all:=ri.length+hI cs) (td:=ri.length) (c.es E.ee) (E.tb en) (E.tb en))) rfl ?_);rintro _ w ⟨rfl,a⟩;rw[c.1,eoQ];replace E:=E.es a;refine ey 6 E λw E=>?_;exact⟨rfl,E.ee⟩
theorem D3{tn tx:Type}[DecidableEq tn]{k:tn}{v:tx}{l:List (tn×tx)}:(oC k v l).length=if k∈l.map Prod.fst then l.length else l.length+1:=by
 by_cases h:k∈l.map Prod.fst
 .rw[if_pos h];have G:tL k l≠none:=λe=>(zt.1 e) h;obtain⟨a,ep⟩:=Option.ne_none_iff_exists'.1 G;cases b:dE (λ_:tx=>undef) k l 0 with
  |none=>exact absurd (jf.1 b) G
  |some p=>
   obtain⟨j,u⟩:=p;obtain⟨m,c,_,_,_,_,au⟩:=k2 b;rw[(au v).1,List.length_set]
 rw[if_neg h,TL (zt.2 h),List.length_append];rfl
structure ql(eI:List (ak×Int))(l:List ak):Prop where
 mem:∀x,x∈eI.map Prod.fst↔x∈l
 dK:∀x,0<=(tL x eI).getD 0/\(tL x eI).getD 0<=(l.length:Int)
 le:eI.length<=l.length
 eq:eI.length=l.length↔l.Nodup
theorem ql.nil:ql [] []:=⟨λx=>by simp,λx=>by simp[tL],Nat.le_refl _,by simp⟩
theorem ql.step(h:ql eI l)(x:ak):ql (oC x ((tL x eI).getD 0+1) eI) (l++[x]):=by
 refine⟨λy=>?_,λy=>?_,?_,?_⟩
 .rw[HH,h.mem y,List.mem_append,List.mem_singleton];exact Or.comm
 .rw[mT,List.length_append];have G:=h.dK x;have Y:=h.dK y;split
  .show 0<=(tL x eI).getD 0+1/\(tL x eI).getD 0+1<=((l.length+1:Nat):Int);omega
  show _/\_<=((l.length+1:Nat):Int);omega
 .have:=h.le;rw[D3,List.length_append];show _<=l.length+1;split<;>omega
 have ej:=h.le;have e8:=h.eq;rw[D3,List.nodup_append];have c:(l++[x]).length=l.length+1:=by simp
 rw[c];by_cases Z:x∈l
 .rw[if_pos ((h.mem x).2 Z)];exact⟨λe=>absurd e (by omega),λ⟨_,_,hd⟩=>absurd rfl (hd x Z x (by simp))⟩
 rw[if_neg (λe=>Z ((h.mem x).1 e))];refine⟨λe=>⟨e8.1 (by omega),by simp,λa ep b hb=>?_⟩,λ⟨d,_,_⟩=>by rw[e8.2 d]⟩;simp at hb;subst hb;intro e;subst e;exact Z ep
theorem eo7(l:ex w0 x.m.td.v ri):tS 165 #[.agg (O.enc x)] w0 (.bool (decide ri.Nodup)):=by
 refine eN 8 (eY _) func165 ntmps165 results165 rfl λni w E=>?_;refine et (J.makeMap ak (Value.int .i64) E ?_);intro r w _ E;have:=aL l;refine ey 14 E λw E=>?_;refine ek.loop (λq f w=>∃(k:Nat)(eI:List (ak×Int)),oV [(1,N ni),(3,tA r),(9,x.m.td.v),(10,i6 ri.length),(11,i6 k)] f/\U w0 [tM r (Value.int .i64) eI,B ni (O.enc x) 48] w/\ql eI (ri.take k)/\k<=ri.length/\q=ri.length-k) (ri.length) ?_ ?_
 .
   exact⟨0,[],⟨rfl,rfl,rfl,rfl,rfl,trivial⟩,E,ql.nil,Nat.zero_le _,rfl⟩
 .
   rintro q f w ⟨k,eI,n,E,i,z,e5⟩;refine il _ n (λg=>?_);clear n;refine eA 6 E<|om 0 0 (λs w E=>?_) (λs w E=>?_)
   .
     have o:k<ri.length:=by omega
     have t:=l.le;simp only[maxLen]at t;have u:=i.dK ri[k];rw[List.length_take]at u;refine eA 7 E ⟨⟨by omega⟩,λ_ w E=>?_⟩;have:=lq o;refine ey 1 E λw E=>?_;refine et (sI E ?_);intro p w _ E;rw[<-iW 31]at E;refine ey 3 E λw E=>?_;refine vj 6 (eX [0,1,2,3] (.one 4 (.look 5 (.one 6 .nil)))) (by kernel_rfl) (λ_ _ _ h=>h) (λaB y=>?_);replace E:=E.es y;have A:=E;refine⟨λw=>∃c:List (ak×Int),(tL ri[k] c).getD 0=(tL ri[k] eI).getD 0/\U w0 [B p (O.enc ri[k]) 60,tM r (Value.int .i64) c,B ni (O.enc x) 48] w,⟨eI,rfl,E.sub aS⟩,?_⟩;refine e2.look rfl rfl rfl (λw a=>(by obtain⟨c,d,E⟩:=a;exact oI (v:=tA r) rfl ⟨rfl,rfl⟩)) ?_;refine e2.look rfl rfl rfl (λw a=>(by obtain⟨c,d,E⟩:=a;exact ag rfl (E.n5 (b:=p) en (O.ez ri[k])) ⟨rfl,rfl⟩)) ?_;refine e2.look rfl rfl rfl (λw a=>(by obtain⟨c,d,E⟩:=a;exact ym (e7:=Value.int .i64) (z0:=0) inferInstance (E.map en) rfl rfl d ⟨rfl,rfl⟩)) ?_;refine e2.look rfl rfl rfl (λw a=>(by obtain⟨c,d,E⟩:=a;exact J.add rfl rfl (wrap_i64 (by omega)) ⟨rfl,rfl⟩)) ?_;refine ol rfl (J.mapEntry (e7:=Value.int .i64) (z0:=0) inferInstance E en rfl rfl ?_);intro born w E;replace E:=E _ en;refine⟨⟨_,by rw[mT,if_pos rfl];rfl,E.HY (.ei .nW)⟩,?_⟩;refine e2.look rfl rfl rfl (λw a=>(by obtain⟨c,d,E⟩:=a;exact J.extract rfl rfl ⟨rfl,rfl⟩)) ?_;refine nH rfl (J.entryStore (k:=ri[k]) (e7:=Value.int .i64) E en rfl rfl rfl (tH en λw E=>(e2.nil ?_)));rw[IH]at E;refine s6 7 E ⟨ib,λw E=>?_⟩;refine⟨ri.length-(k+1),by omega,k+1,_,⟨rfl,rfl,rfl,rfl,congrArg (Value.int .i64) (by omega),trivial⟩,E.sub aS,?_,by omega,rfl⟩;rw[List.take_succ_eq_append_getElem o];exact i.step _
   .
     obtain rfl:k=ri.length:=by omega
     rw[List.take_length]at i;refine eA 8 E λw E=>?_;refine et (FC (E.map en) rfl (ey 10 E λw E=>?_));refine⟨congrArg Value.bool ?_,E.ee⟩;have h:=i.eq;by_cases j:ri.Nodup
     .rw[decide_eq_true j];exact decide_eq_true (by have:=h.2 j;omega)
     rw[decide_eq_false j];exact decide_eq_false (λe=>j (h.1 (by omega)))
structure D4 where
 g:Nat
 e:Int
variable{r:D4}
instance:O D4 where
 enc r:=#[.func (.func r.g) #[] #[],.int .i64 r.e]
 eo:=2
 pos:=by omega
 ez _:=rfl
 one r:=h2 rfl
theorem ur(h:(!b)=false):b=true:=by simpa using h
theorem ET(h:(!b)=true):b=false:=by simpa using h
theorem eo8(A:AR w0 x y is t8)(r:py 100000 y.m.nF)(z:y.m.td.length+hI y.m.nF<=1000000000):tS 87 #[.agg (O.enc x)] w0 (i6 (bB x.m.ic y.sigs y.m.td y.m.nF y.m.ad)):=by
 obtain⟨B,e5⟩:=A;have p:=e5.k;have eB:=e5.l;have s:=e5.LJ;have ew:=e5.i;have C:=e5.wU;refine eN 9 (eY _) func87 ntmps87 results87 rfl λni w E=>?_;refine af 0 E (c9 (#[.func (.func 160) #[] #[],i6 6])) λw E=>?_;refine af 0 E (c9 (#[.func (.func 161) #[] #[],i6 7])) λw E=>?_;refine af 0 E (c9 (#[.func (.func 162) #[] #[],i6 10])) λw E=>?_;refine af 0 E (c9 (#[.func (.func 163) #[] #[],i6 3])) λw E=>?_;refine af 0 E (c9 (#[.func (.func 164) #[] #[],i6 8])) λw E=>?_;refine af 0 E (c9 (#[.func (.func 165) #[] #[],i6 9])) λw E=>?_;refine rF 5 E (nB ([⟨160,6⟩,⟨161,7⟩,⟨162,10⟩,⟨163,3⟩,⟨164,8⟩,⟨165,9⟩]:List D4)) λJ w E=>?_;refine oL 40 (oc.step ?_);refine eA 2 E ?_;refine eU true 13 λaW w E=>?_;refine oE (iU (v:=.agg #[.func (.func 160) #[] #[],i6 6]) (iA:=#[.func (.func 160) #[] #[],i6 6]) E rfl rfl .em rfl (Nat.le_of_ble_eq_true rfl) (h2 rfl) rfl (tH .em λw E=>?_));refine ey 7 E λw E=>?_;refine ev 3 E (eoW (B.es E.ee))<|na 14 11 (λd b w E=>?_) (λd b w E=>?_)
 .
   exact⟨(congrArg (Value.int .i64) (by have a:=ET d;unfold bB;rw[a];rfl)),E.ee⟩
 .
   have q:=d;refine fc true 13 E λD w E=>?_;refine oE (iU (v:=.agg #[.func (.func 161) #[] #[],i6 7]) (iA:=#[.func (.func 161) #[] #[],i6 7]) E rfl rfl .em rfl (Nat.le_of_ble_eq_true rfl) (h2 rfl) rfl (tH .em λw E=>?_));refine ey 7 E λw E=>?_;refine ev 3 E (eoB (p.es E.ee))<|na 14 11 (λf b w E=>?_) (λf b w E=>?_)
   .
     exact⟨(congrArg (Value.int .i64) (by have a:=ur d;have c:=ET f;unfold bB;rw[a,c];rfl)),E.ee⟩
   .
     have q:=f;refine fc true 13 E λF w E=>?_;refine oE (iU (v:=.agg #[.func (.func 162) #[] #[],i6 10]) (iA:=#[.func (.func 162) #[] #[],i6 10]) E rfl rfl .em rfl (Nat.le_of_ble_eq_true rfl) (h2 rfl) rfl (tH .em λw E=>?_));refine ey 7 E λw E=>?_;refine ev 3 E (eo0 (eB.es E.ee) (s.es E.ee) r)<|na 14 11 (λg b w E=>?_) (λg b w E=>?_)
     .
       exact⟨(congrArg (Value.int .i64) (by have a:=ur d;have c:=ur f;have e:=ET g;unfold bB;rw[a,c,e];rfl)),E.ee⟩
     .
       have q:=g;refine fc true 13 E λG w E=>?_;refine oE (iU (v:=.agg #[.func (.func 163) #[] #[],i6 3]) (iA:=#[.func (.func 163) #[] #[],i6 3]) E rfl rfl .em rfl (Nat.le_of_ble_eq_true rfl) (h2 rfl) rfl (tH .em λw E=>?_));refine ey 7 E λw E=>?_;refine ev 3 E (eoX (p.es E.ee) (eB.es E.ee) (s.es E.ee) z)<|na 14 11 (λj b w E=>?_) (λj b w E=>?_)
       .
         exact⟨(congrArg (Value.int .i64) (by have a:=ur d;have c:=ur f;have e:=ur g;have h:=ET j;unfold bB;rw[a,c,e,h];rfl)),E.ee⟩
       .
         have q:=j;refine fc true 13 E λH w E=>?_;refine oE (iU (v:=.agg #[.func (.func 164) #[] #[],i6 8]) (iA:=#[.func (.func 164) #[] #[],i6 8]) E rfl rfl .em rfl (Nat.le_of_ble_eq_true rfl) (h2 rfl) rfl (tH .em λw E=>?_));refine ey 7 E λw E=>?_;refine ev 3 E (eo6 (p.es E.ee) (eB.es E.ee) (s.es E.ee) z (ew.es E.ee) (C.es E.ee))<|na 14 11 (λn b w E=>?_) (λn b w E=>?_)
         .
           exact⟨(congrArg (Value.int .i64) (by have a:=ur d;have c:=ur f;have e:=ur g;have h:=ur j;have o:=ET n;unfold bB;rw[a,c,e,h,o];rfl)),E.ee⟩
         .
           have q:=n;refine fc true 13 E λI w E=>?_;refine oE (iU (v:=.agg #[.func (.func 165) #[] #[],i6 9]) (iA:=#[.func (.func 165) #[] #[],i6 9]) E rfl rfl .em rfl (Nat.le_of_ble_eq_true rfl) (h2 rfl) rfl (tH .em λw E=>?_));refine ey 7 E λw E=>?_;refine ev 3 E (eo7 (p.es E.ee))<|na 14 11 (λt b w E=>?_) (λt b w E=>?_)
           .
             exact⟨(congrArg (Value.int .i64) (by have a:=ur d;have c:=ur f;have e:=ur g;have h:=ur j;have o:=ur n;have u:=ET t;unfold bB;rw[a,c,e,h,o,u];rfl)),E.ee⟩
           .
             refine fc false 16 E λw E=>?_;exact⟨(congrArg (Value.int .i64) (by have a:=ur d;have c:=ur f;have e:=ur g;have h:=ur j;have o:=ur n;have u:=ur t;unfold bB;rw[a,c,e,h,o,u];rfl)),E.ee⟩
end
section
open Go.Proofs Tryz
variable{S:List eH}{a ix:List UInt8}{k p r:Nat}{l xs ys:List ak}{v fu Ew ln:Value}{w w' w0 ea:World}{oU:Option Nat}
structure px where
 of:Option Nat
variable{x:px}
def px.parts(x:px):List (Array Value):=[#[.map x.of]]
theorem eis(x:px):x.parts.map Array.size=[1]:=by
 simp only[px.parts,List.map,O.ez];rfl
instance:O px where
 enc x:=eK x.parts
 eo:=1
 pos:=by omega
 ez x:=by rw[iw,eis];rfl
 one x:=rD (all_cons (ze _) rC)
instance(priority:=2000):nt (⟨oU⟩:px) [#[.map oU]]:=⟨rfl⟩
structure dl where
 r:Nat
 eI:List (ak×(Value×List ak))
variable{d:dl}
def SC:Value×List ak:=(eF,[])
def dl.find(d:dl)(k:ak):Option (List ak):=(tL k d.eI).map Prod.snd
def eir(d:dl):Prop:=∀k l,d.find k=some l->1<=l.length/\l.length<=256
@[irreducible] def qd (p:Nat) (d:dl):eH:=hC ([B p (O.enc (px.mk (some d.r))) 127,tM d.r Prod.fst d.eI]++fs 60 d.eI)
theorem U.eih(d:dl)(h:U w0 (B p (O.enc (px.mk (some d.r))) 127::tM d.r Prod.fst d.eI::(fs 60 d.eI++S)) w):U w0 (qd p d::S) w:=by
 unfold qd;exact U.closed (l:=[B p (O.enc (px.mk (some d.r))) 127,tM d.r Prod.fst d.eI]++fs 60 d.eI) h
def SU(w:World)(p:Nat)(d:dl):Prop:=an w (N p) (O.enc (px.mk (some d.r)))/\hV w d.r Prod.fst d.eI/\∀k x,tL k d.eI=some x->ex w x.1 x.2
theorem U.eil(h:U w0 S w)(a:tP (qd p d) S):SU w p d:=by
 have G:=h.get a;unfold qd at G;rw[p2]at G;refine⟨?_,?_,λk x Z=>?_⟩
 .have:=G.2 (B p (O.enc (px.mk (some d.r))) 127) (by simp);unfold B at this;exact an.dF this
 .have:=G.2 (tM d.r Prod.fst d.eI) (by simp);rw[mA]at this;exact this
 have Y:(k,x)∈d.eI:=(HJ Z).mem_iff.2 List.mem_cons_self;have:=G.2 (V x.1 60 x.2) (List.mem_append_right _ (List.mem_map_of_mem (f:=λp:ak×(Value×List ak)=>V p.2.1 60 p.2.2) Y));rw[df]at this;exact this.eu
def pick(l:List ak):List UInt8->Option (List ak)
 |[]=>some []
 |i::r=>match l[i.toNat]?,pick l r with
  |some k,some t=>some (k::t)
  |_,_=>none
theorem SM(l:List ak):∀a b:List UInt8,pick l (a++b)=match pick l a,pick l b with|some x,some y=>some (x++y)|_,_=>none
 |[],b=>by simp only[List.nil_append,pick];cases pick l b<;>rfl
 |i::r,b=>by
  simp only[List.cons_append,pick,SM l r b];cases l[i.toNat]? <;>cases pick l r<;>cases pick l b<;>rfl
theorem SF(l:List ak):∀(a:List UInt8)(x:List ak),pick l a=some x->x.length=a.length
 |[],x,h=>by simp[pick]at h;subst h;rfl
 |i::r,x,h=>by
  simp only[pick]at h;cases G:l[i.toNat]? with
  |none=>simp[G]at h
  |some k=>
   cases Y:pick l r with
   |none=>simp[G,Y]at h
   |some t=>simp[G,Y]at h;subst h;simp[SF l r t Y]
theorem eid(b:k<a.length)(h:pick l (a.take k)=some ys)(c:a[k].toNat<l.length):pick l (a.take (k+1))=some (ys++[l[a[k].toNat]]):=by
 rw[List.take_succ_eq_append_getElem b,SM,h];simp[pick,c]
theorem eic(b:k<a.length)(d:¬a[k].toNat<l.length):pick l a=none:=by
 have e:a=a.take (k+1)++a.drop (k+1):=(List.take_append_drop _ _).symm;have c:pick l (a.take (k+1))=none:=by
  rw[List.take_succ_eq_append_getElem b,SM];have:l[a[k].toNat]? =none:=List.getElem?_eq_none (by omega);cases pick l (a.take k)<;>simp[pick,this]
 rw[e,SM,c]
structure gl where
 table:ak
 ws:List UInt8
 aw:List UInt8
inductive eiu where
 |ok (a b:List ak)
 |g4 (e:Int)
def cP(find:ak->Option (List ak)):List gl->eiu
 |[]=>.ok [] []
 |x::r=>match find x.table with
  |none=>.g4 11
  |some l=>match pick l x.ws,pick l x.aw with
   |some a,some b=>match cP find r with
    | .ok c e=>.ok (a++c) (b++e)
    | .g4 e=>.g4 e
   |_,_=>.g4 8
theorem SP(find:ak->Option (List ak)):∀a b:List gl,cP find (a++b)=match cP find a with| .g4 e=>.g4 e| .ok x y=>match cP find b with| .g4 e=>.g4 e| .ok z u=>.ok (x++z) (y++u)
 |[],b=>by simp only[List.nil_append,cP];cases cP find b<;>rfl
 |x::r,b=>by
  simp only[List.cons_append,cP];cases find x.table with
  |none=>rfl
  |some l=>
   simp only;cases pick l x.ws<;>cases pick l x.aw<;>simp only;rw[SP find r b];cases cP find r<;>simp only;cases cP find b<;>simp[List.append_assoc]
def gd(l:List gl):Nat:=(l.map λx=>x.ws.length+x.aw.length).sum
theorem WF(a b:List gl):gd (a++b)=gd a+gd b:=by simp[gd]
theorem eim{l:List gl}:gd (l.take k)<=gd l:=by
 have:=WF (l.take k) (l.drop k);rw[List.take_append_drop]at this;omega
theorem eif{l:List gl}(a:k<l.length):gd (l.take (k+1))=gd (l.take k)+(l[k].ws.length+l[k].aw.length):=by
 rw[List.take_succ_eq_append_getElem a,WF];simp[gd]
theorem WP(find:ak->Option (List ak)):∀(l:List gl)(a b:List ak),cP find l= .ok a b->a.length+b.length<=gd l
 |[],a,b,h=>by simp[cP]at h;obtain⟨rfl,rfl⟩:=h;simp
 |x::r,a,b,h=>by
  simp only[cP]at h;cases G:find x.table with
  |none=>simp[G]at h
  |some l=>
   cases Y:pick l x.ws with
   |none=>simp[G,Y]at h
   |some y=>
    cases ej:pick l x.aw with
    |none=>simp[G,Y,ej]at h
    |some z=>
     cases e8:cP find r with
     |g4 e=>simp[G,Y,ej,e8]at h
     |ok c e=>
      simp[G,Y,ej,e8]at h;obtain⟨rfl,rfl⟩:=h;have:=WP find r c e e8;have no:=SF _ _ _ Y;have nd:=SF _ _ _ ej;simp[gd]at this⊢;omega
def g5(w:World):List iX->List gl->Prop
 |[],[]=>True
 |x::xs,m::lj=>(x.table=m.table/\ex w x.iY.v m.ws/\ex w x.p8.v m.aw)/\g5 w xs lj
 |_,_=>False
theorem g5.es{w w':World}(hb:eV w w'):∀{xs:List iX}{lj:List gl},g5 w xs lj->g5 w' xs lj
 |[],[],_=>trivial
 |x::xs,m::lj,h=>⟨⟨h.1.1,h.1.2.1.es hb,h.1.2.2.es hb⟩,g5.es hb h.2⟩
 |[],_::_,h=>h.elim
 |_::_,[],h=>h.elim
theorem g5.len{w:World}:∀{xs:List iX}{lj:List gl},g5 w xs lj->lj.length=xs.length
 |[],[],_=>rfl
 |x::xs,m::lj,h=>by simp[g5.len h.2]
 |[],_::_,h=>h.elim
 |_::_,[],h=>h.elim
theorem g5.at{w:World}:∀{xs:List iX}{lj:List gl}{i:Nat}(_:g5 w xs lj)(ew:i<xs.length)(e5:i<lj.length),(xs[i]'ew).table=(lj[i]'e5).table/\ex w (xs[i]'ew).iY.v (lj[i]'e5).ws/\ex w (xs[i]'ew).p8.v (lj[i]'e5).aw
 |x::xs,m::lj,0,h,_,_=>h.1
 |x::xs,m::lj,i+1,h,ew,e5=>g5.at (xs:=xs) (lj:=lj) (i:=i) h.2 (by simpa using ew) (by simpa using e5)
def WG(find:ak->Option (List ak))(t8:List gl)(e:Int)(a b:List ak):Prop:=(cP find t8= .ok a b/\e=0)∨(cP find t8= .g4 e/\e≠0/\a=[]/\b=[])
theorem D8(a:an w0 (N p) (O.enc (px.mk (some r)))):tS 81 #[N p] w0 (.bool true):=by
 have:=ir a;refine eN 21 (eY _) func81 ntmps81 results81 rfl λw E=>?_;exact⟨rfl,E.ee⟩
theorem eip:eJ 9 #[] w0 (λu w'=>∃p d,u=N p/\(∀k,d.find k=none)/\jk w0 w' (qd p d)/\eV w0 w'):=by
 refine eN 7 (eY _) func9 ntmps9 results9 rfl λw E=>?_;refine et (J.makeMap ak (Prod.fst:Value×List ak->Value) E ?_);intro tj w _ E;refine af 6 E (p5 ((px.mk (some tj)):px)) λt6 w E=>?_;exact⟨t6,⟨tj,[]⟩,rfl,λk=>rfl,(E.eih (S:=[]) ⟨tj,[]⟩).zi .nW,E.ee⟩
theorem eig(Z:ex w0 v l)(eB:l.length<=100000):eJ 82 #[v] w0 (λu w'=>sH w0 w' u 60 l/\eV w0 w'):=by
 have:=aL Z;refine eN 9 (eY _) func82 ntmps82 results82 rfl λw E=>?_;refine et (dt (α:=Vector UInt8 32) (n:=l.length) (aO 32) (by rw[iW];rfl) E rfl rfl (by omega) (by simp only[maxLen];omega) ?_);intro a w _ E;refine ey 7 E λw E=>?_;exact et (IK (ys:=l) E en rfl (Z.es E.ee) (by simp) (tH en λw E=>(ey 10 E λw E=>(⟨E.cZ en,E.ee⟩))))
theorem WW(eC:U ea (V ln 60 xs::S) w0)(eB:∀w,U ea S w->ex w Ew l)(ep:∀w,U ea S w->ex w fu ix)(hb:xs.length+ix.length<=100000):eJ 88 #[ln,Ew,fu] w0 (λu w'=>∃d b e,u= .tuple #[d,.bool b]/\U ea (V d 60 e::S) w'/\((∃ys,pick l ix=some ys/\b=true/\e=xs++ys)∨(pick l ix=none/\b=false/\d=eF/\e=[]))):=by
 refine eN 10 eC func88 ntmps88 results88 rfl λw E=>?_;refine et (J.hD rfl ((ep _ E.nS)) (ey 4 E λw E=>?_));refine ek.loop (λq f w=>∃(k:Nat)(a:Value)(ys:List ak),oV [(0,a),(1,Ew),(10,fu),(11,i6 ix.length),(12,i6 k)] f/\U ea (V a 60 (xs++ys)::S) w/\pick l (ix.take k)=some ys/\k<=ix.length/\q=ix.length-k) (ix.length) ?_ ?_
 .
   exact⟨0,ln,[],⟨rfl,rfl,rfl,rfl,rfl,trivial⟩,by rw[List.append_nil];exact E,rfl,Nat.zero_le _,rfl⟩
 .
   rintro q f w ⟨k,a,ys,j,E,c,t,e5⟩;refine il _ j (λg=>?_);clear j;refine eA 6 E<|om 0 14 (λn w E=>?_) (λn w E=>?_)
   .
     have h:k<ix.length:=by omega
     have i:=SF _ _ _ c;simp only[List.length_take]at i;have o:=wb ix[k];refine eA 6 E λw E=>?_;refine et (nX rfl ((ep _ E.nS)) rfl (by omega) ?_);refine et (ag rfl (((ep _ E.nS).sm h).ab rfl) ?_);refine ey 7 E λw E=>?_;refine et (J.conv rfl (wrap_i64 (by omega)) ?_);refine ey 1 E λw E=>?_;refine et (J.hD rfl ((eB _ E.nS)) ?_);refine ey 3 E<|om 14 0 (λp w E=>?_) (λp w E=>?_)
     .
       exact⟨_,_,[],rfl,E.nS.lR _,.inr ⟨eic h (by omega),rfl,rfl,rfl⟩⟩
     .
       have m:ix[k].toNat<l.length:=by omega
       refine eA 6 E λw E=>?_;refine et (nX rfl ((eB _ E.nS)) rfl (by omega) ?_);refine af 0 E (hA λw E=>((eB _ E.nS).sm m).n5 (O.ez l[ix[k].toNat])) λw E=>?_;refine et (n7 E (([l[ix[k].toNat]]:List ak)) [.agg (O.enc l[ix[k].toNat])] rfl rfl rfl rfl (by decide) ?_);intro v w x E;refine et (dj (α:=Vector UInt8 32) rfl E rfl en (E.eu en) (by simp only[List.length_append,List.length_cons,List.length_nil];omega) (by simp only[maxLen];simp only[List.length_append,List.length_cons,List.length_nil];omega) ?_);intro r w E;replace E:=E _ en;refine ey 9 E ⟨ib,λw E=>?_⟩;rw[List.append_assoc]at E;exact⟨ix.length-(k+1),by omega,k+1,r,_,⟨rfl,rfl,rfl,rfl,congrArg (Value.int .i64) (by omega),trivial⟩,E.sub aS,eid h c m,by omega,rfl⟩
   .
     have s:k=ix.length:=by omega
     rw[s,List.take_length]at c;exact⟨a,true,_,rfl,E,.inl ⟨ys,c,rfl,rfl⟩⟩
variable{k:ak}{t8:List gl}{xs:List iX}
theorem eiy(ep:SU w0 p d)(j:eir d):eJ 26 #[N p,.agg (O.enc k)] w0 (λu w'=>∃v e l,u= .tuple #[v,.int .i64 e]/\((d.find k=some l/\e=0)∨(d.find k=none/\e=11/\l=[]))/\sH w0 w' v 60 l/\eV w0 w'):=by
 refine eN 11 (eY _) func26 ntmps26 results26 rfl λt6 w E=>?_;refine ev 3 E (D8 (ep.1.es E.ee))<|na 0 3 (λm n w E=>?_) (λ_ n w E=>?_)
 .
   simp at m
 .
   refine nC 0 11 (eX [0,1,2,3,4,5,6,7,8,9,10] .nil) [] E λw E=>?_;generalize b:(tL k d.eI).getD SC=X;have:=ir ep.1;refine t7 5 E λw E=>?_;refine tl rfl (λw E=>zn (tn:=ak) (tx:=Value×List ak) (k:=k) (e7:=Prod.fst) (z0:=SC) (u:=X) inferInstance (ep.2.1.es E.ee) rfl rfl b eG) (t7 14 E<|na 9 0 (λa o w E=>?_) (λa o w E=>?_))
   .
     have q:tL k d.eI=none:=by simpa using a
     exact⟨_,_,[],rfl,.inr ⟨by unfold dl.find;rw[q];rfl,rfl,rfl⟩,sH.nil _ _ _,E.ee⟩
   .
     have c:(tL k d.eI).isSome=true:=by simpa using a
     have f:tL k d.eI=some X:=by
      rw[<-b];cases h:tL k d.eI with
      |none=>rw[h]at c;simp at c
      |some x=>rfl
     have g:d.find k=some X.2:=by unfold dl.find;rw[f];rfl
     have hlen:=j _ _ g;refine eA 5 E λw E=>?_;refine et (J.call (eig ((ep.2.2 _ _ f).es E.ee) (by omega)) rfl ?_);rintro s w ⟨i,r⟩;replace E:=E.pB r i.1 i.2;refine ey 6 E λw E=>?_;exact⟨_,_,X.2,rfl,.inl ⟨g,rfl⟩,E.cZ en,E.ee⟩
theorem WB(ep:SU w0 p d)(Z:ex w0 v xs)(o:g5 w0 xs t8)(hb:gd t8<=50000):eJ 30 #[N p,v] w0 (λu w'=>∃am cT e a b,u= .tuple #[am,cT,.int .i64 e]/\U w0 [V am 60 a,V cT 60 b] w'/\WG d.find t8 e a b):=by
 refine eN 11 (eY _) func30 ntmps30 results30 rfl λw E=>?_;refine ev 3 E (D8 (ep.1.es E.ee))<|have:=aL Z;na 0 11 (λT tz w E=>?_) (λ_ tz w E=>?_)
 .
   simp at T
 .
   refine ek.loop (λq f w=>∃(k:Nat)(j xH:Value)(W Rd:List ak),oV [(0,N p),(4,j),(5,xH),(16,v),(17,i6 xs.length),(18,i6 k)] f/\U w0 [V j 60 W,V xH 60 Rd] w/\cP d.find (t8.take k)= .ok W Rd/\k<=xs.length/\q=xs.length-k) (xs.length) ?_ ?_
   .
     exact⟨0,_,_,[],[],⟨rfl,rfl,rfl,rfl,rfl,rfl,trivial⟩,(E.lR 60).lR 60,rfl,Nat.zero_le _,rfl⟩
   .
     rintro q f w ⟨k,j,xH,W,Rd,D,E,i,rP,e5⟩;refine il _ D (λg=>?_);clear D;refine eA 6 E<|om 0 0 (λah w E=>?_) (λah w E=>?_)
     .
       have F:k<xs.length:=by omega
       have hlen:=o.len;have m:k<t8.length:=by omega
       obtain⟨H,dh,GY⟩:=o.at F m;have nq:=Z.le;simp only[maxLen]at nq;have rZ:=eif m;have hlt:=eim (l:=t8) (k:=(k+1));have AY:=WP _ _ _ _ i;refine eA 7 E ⟨⟨by omega⟩,λ_ w E=>?_⟩;have:=lq F;refine ey 2 E λnP w E=>?_;refine oE (iJ E rfl rfl en (by first|rfl|exact O.ez _) (tH en λw E=>(ey 3 E ?_)));refine aC 0 12 (eX [0,1,2,3,4,5,6,7,8,9,10,11] .nil) [] λw E=>?_;generalize I:(tL xs[k].table d.eI).getD SC=X;have:=ir ep.1;refine t7 6 E λw E=>?_;refine tl rfl (λw E=>zn (tn:=ak) (tx:=Value×List ak) (k:=xs[k].table) (e7:=Prod.fst) (z0:=SC) (u:=X) inferInstance (ep.2.1.es E.ee) rfl rfl I eG) (t7 14 E<|na 15 0 (λr a8 w E=>?_) (λr a8 w E=>?_))
       .
         have nE:tL xs[k].table d.eI=none:=by simpa using r
         refine⟨_,_,_,[],[],rfl,((E.sub (tp:=[]) (List.nil_sublist _)).lR 60).lR 60,.inr ⟨?_,by decide,rfl,rfl⟩⟩;rw[show t8=t8.take k++t8.drop k from(List.take_append_drop _ _).symm,SP,i,List.drop_eq_getElem_cons m];simp only[cP];rw[<-H];unfold dl.find;rw[nE];rfl
       .
         have K:(tL xs[k].table d.eI).isSome=true:=by simpa using r
         have L:tL xs[k].table d.eI=some X:=by
          rw[<-I];cases h:tL xs[k].table d.eI with
          |none=>rw[h]at K;simp at K
          |some x=>rfl
         have M:d.find t8[k].table=some X.2:=by rw[<-H];unfold dl.find;rw[L];rfl
         have P:=ep.2.2 _ _ L;refine eA 14 E λw E=>?_;refine et (J.call (WW (E.pick en) (λw h=>P.es h.ee) (λw h=>dh.es h.ee) (by omega)) rfl ?_);rintro _ w ⟨v39,s,t,rfl,E,Q⟩;refine ey 13 E λw E=>?_;refine et (J.call (WW (E.pick en) (λw h=>P.es h.ee) (λw h=>GY.es h.ee) (by omega)) rfl ?_);rintro _ w ⟨R,WJ,y,rfl,E,S⟩;refine ey 12 E λw E=>?_;refine ts.eQ _ 52 _ rfl rfl rfl rfl (λDF=>u0 rfl ⟨rfl,eV.refl _⟩) (λw c=>?_);replace E:=E.es c;refine ts.eQ _ 52 _ rfl rfl rfl rfl (λz=>J.not (by first|exact ov rfl z|rfl) ⟨rfl,eV.refl _⟩) (λw c=>?_);replace E:=E.es c;refine et (fe rfl rfl (by first|rfl) (ey 2 E<|na 14 0 (λn nD w E=>?_) (λn nD w E=>?_)))
         .
           refine⟨_,_,_,[],[],rfl,((E.sub (tp:=[]) (List.nil_sublist _)).lR 60).lR 60,.inr ⟨?_,by decide,rfl,rfl⟩⟩;rw[show t8=t8.take k++t8.drop k from(List.take_append_drop _ _).symm,SP,i,List.drop_eq_getElem_cons m];simp only[cP];rw[M];rcases Q with⟨ys,G,rfl,rfl⟩|⟨G,rfl,_⟩
           .rcases S with⟨zs,Y,rfl,rfl⟩|⟨Y,rfl,_⟩
            .simp at n
            simp only[G,Y]
           simp only[G]
         .
           obtain⟨ys,G,rfl,rfl⟩:∃ys,pick X.2 t8[k].ws=some ys/\s=true/\t=W++ys:=by
            rcases Q with h|⟨_,rfl,_⟩
            .exact h
            simp at n
           obtain⟨zs,Y,rfl,rfl⟩:∃zs,pick X.2 t8[k].aw=some zs/\WJ=true/\y=Rd++zs:=by
            rcases S with h|⟨_,rfl,_⟩
            .exact h
            simp at n
           have A:cP d.find (t8.take (k+1))= .ok (W++ys) (Rd++zs):=by
            rw[List.take_succ_eq_append_getElem m,SP,i];simp only[cP];rw[M];simp only[G,Y,List.append_nil]
           replace E:=(E.swap).sub (tp:=[V v39 60 (W++ys),V R 60 (Rd++zs)]) aS;refine eA 8 E ⟨ib,λw E=>?_⟩;exact⟨xs.length-(k+1),by omega,k+1,v39,R,_,_,⟨rfl,rfl,rfl,rfl,rfl,congrArg (Value.int .i64) (by omega),trivial⟩,E,A,by omega,rfl⟩
     .
       have dN:k=xs.length:=by omega
       rw[List.take_of_length_le (by rw[o.len];omega)]at i;refine eA 8 E λw E=>?_;refine et (J.call (Dp (E.eu en)) rfl ?_);rintro eyk w ⟨B,c⟩;replace E:=E.es c;refine ey 1 E λw E=>?_;refine et (J.call (Dp (E.eu en)) rfl ?_);rintro eyx w ⟨C,c⟩;replace E:=E.es c;refine ey 7 E λw E=>?_;subst B;subst C;replace E:=E.bS (tp:=[V (nz j 0 W.length W.length (O.eo (Vector UInt8 32))) 60 W,V xH 60 Rd]) .nW;replace E:=E.bS (tp:=[V (nz j 0 W.length W.length (O.eo (Vector UInt8 32))) 60 W,V (nz xH 0 Rd.length Rd.length (O.eo (Vector UInt8 32))) 60 Rd]) (.ei .nW);exact⟨_,_,_,W,Rd,rfl,E,.inl ⟨i,rfl⟩⟩
end
end Go.Fer
