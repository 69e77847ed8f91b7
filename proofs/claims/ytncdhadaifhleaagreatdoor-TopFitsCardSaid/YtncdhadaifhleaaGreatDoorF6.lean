import Derived.Test.YtncdhadaifhleaaGreatDoorF5
set_option linter.all false
set_option synthInstance.maxSize 100000
set_option synthInstance.maxHeartbeats 400000
set_option maxHeartbeats 8000000
set_option maxRecDepth 100000
namespace Go.Fer
open Go Go.RowKit
section
open Go.Proofs Tryz
variable{h:rr}{k:Nat}{tu:List av}{m:oe}{w0:World}
def hZ:av:=oc 32
def dx:av:=(oc 32).set 0 3
def j8(h:rr)(n i:Nat)(k:av):o1:=
 ⟨k,decide ((i:Int)<(h.rf.toNat:Int)),decide ((i:Int)<(if(i:Int)<(h.rf.toNat:Int)then(h.rf.toNat:Int)else(n:Int)) -(if(i:Int)<(h.rf.toNat:Int)then(h.fV.toNat:Int)else(h.uS.toNat:Int)))⟩
def uL(h:rr)(tu:List av):List o1:=tu.mapIdx (j8 h tu.length)
theorem SL(h:rr)(tu:List av):(uL h tu).length=tu.length:=by simp[uL]
theorem eth(a:k<tu.length):(uL h tu).take (k+1)=(uL h tu).take k++[j8 h tu.length k tu[k]]:=by
 rw[List.take_succ_eq_append_getElem (by rw[SL];exact a)];simp[uL]
theorem etl:tN 166 #[] w0 (.agg (O.enc hZ)):=by
 refine eH 7 (eG _) func166 ntmps166 results166 rfl λb w E=>?_;exact ea (yg (k:=hZ) (by first|rfl|(simp only[hZ,dx,sM,nn];rfl)) (by intro p a;first|(exfalso;simp at a;done)|(simp only[List.map_cons,List.map_nil,List.mem_cons,List.not_mem_nil,or_false]at a;rcases a with rfl|rfl|rfl|rfl<;>exact⟨by simp,rfl⟩)) (ew 5 E λw E=>(⟨rfl,E.J⟩)))
theorem Wr:tN 167 #[] w0 (.agg (O.enc dx)):=by
 refine eH 7 (eG _) func167 ntmps167 results167 rfl λb w E=>?_;exact ea (yg (k:=dx) (by first|rfl|(simp only[hZ,dx,sM,nn];rfl)) (by intro p a;first|(exfalso;simp at a;done)|(simp only[List.map_cons,List.map_nil,List.mem_cons,List.not_mem_nil,or_false]at a;rcases a with rfl|rfl|rfl|rfl<;>exact⟨by simp,rfl⟩)) (ew 5 E λw E=>(⟨rfl,E.J⟩)))
theorem etd(d:ev w0 m.tu.v tu)(eM:tu.length<=1000):eJ 90 #[.agg (O.enc m)] w0 (λu w'=>sN w0 w' u 66 (uL m.ii tu)/\eB w0 w'):=by
 have iG:=wj m.ii.rf;have iY:=wj m.ii.fV;have o:=wj m.ii.uS;have:=aS d;refine eH 25 (eG _) func90 ntmps90 results90 rfl λiZ=>⟨iA,λw E=>?_⟩;refine ex.loop (λq f w=>∃(k:Nat)(lr:Value),oW [(1,N iZ),(2,lr),(3,i6 m.ii.rf.toNat),(13,m.tu.v),(14,i6 tu.length),(15,i6 k)] f/\U w0 [B lr 66 ((uL m.ii tu).take k),V iZ (O.enc m) 46] w/\k<=tu.length/\q=tu.length-k) (tu.length) ?_ ?_
 .
   exact⟨0,eF,⟨rfl,rfl,rfl,rfl,rfl,rfl,trivial⟩,E.lD _,Nat.zero_le _,rfl⟩
 .
   rintro q f w ⟨k,lr,a,E,p,th⟩;refine io _ a (λg=>?_);clear a;refine eI 6 E<|om 0 13 (λe w E=>?_) (λe w E=>?_)
   .
     have b:k<tu.length:=by omega
     have h:=SL m.ii tu;refine eI 8 E ⟨⟨by omega⟩,λ_ w E=>?_⟩;have:=lC b;refine ew 7 E λc=>?_;refine ow 11 9 (e5 [0,1,2,3,4,5,6,7,8] .nil) [] ⟨iA,λw E=>?_⟩;refine lK (λf w=>oW [(1,N iZ),(2,lr),(3,i6 m.ii.rf.toNat),(4,i6 k),(5,N c),(6,.int .i64 (if(k:Int)<(m.ii.rf.toNat:Int)then(m.ii.rf.toNat:Int)else(tu.length:Int))),(7,.int .i64 (if(k:Int)<(m.ii.rf.toNat:Int)then(m.ii.fV.toNat:Int)else(m.ii.uS.toNat:Int))),(13,m.tu.v),(14,i6 tu.length),(15,i6 k)] f/\U w0 [V c (O.enc tu[k]) 60,B lr 66 ((uL m.ii tu).take k),V iZ (O.enc m) 46] w) ?_ ?_
     .
       refine eI 7 E<|om 0 2 (λi w E=>?_) (λi w E=>?_)
       .
         refine nV 9 7 (e5 [0,1,2,3,4,5,6] .nil) [] E ⟨iA,λw E=>?_⟩;exact⟨⟨rfl,rfl,rfl,rfl,rfl,congrArg (Value.int .i64) (by rw[if_pos (by omega)]),congrArg (Value.int .i64) (by rw[if_pos (by omega)]),rfl,rfl,rfl,trivial⟩,E⟩
       .
         exact⟨⟨rfl,rfl,rfl,rfl,rfl,congrArg (Value.int .i64) (by rw[if_neg (by omega)]),congrArg (Value.int .i64) (by rw[if_neg (by omega)]),rfl,rfl,rfl,trivial⟩,E⟩
     .
       rintro f w ⟨a,E⟩;refine io _ a (λg=>?_);clear a;refine eI 11 E ⟨iA,λw E=>?_⟩;refine ea (rV (r:=((j8 m.ii tu.length k tu[k]):o1)) (ps:=o1.parts ((j8 m.ii tu.length k tu[k]):o1)) (Dl _) (by first|(simp only[hZ,dx,sM,nn,Dl,o1.parts];rfl)|rfl) (by(repeat' (first|exact trivial|refine And.intro ?_ ?_))<;>first|rfl|exact O.eT _|(simp;done)) ?_);refine ea (n4 E (([(j8 m.ii tu.length k tu[k])]:List o1)) [.agg (O.enc (j8 m.ii tu.length k tu[k]))] rfl rfl rfl rfl (by decide) ?_);intro j w s E;refine ea (dS (α:=o1) rfl E rfl es (E.ef es) (by simp;omega) (by simp only[maxLen];simp;omega) ?_);intro l w E;replace E:=E _ es;refine ew 9 E ⟨iA,λw E=>?_⟩;refine⟨tu.length-(k+1),by omega,k+1,l,⟨rfl,rfl,rfl,rfl,rfl,congrArg (Value.int .i64) (by omega),trivial⟩,?_,by omega,rfl⟩;rw[eth b];exact E.sub aI
   .
     have n:k=tu.length:=by omega
     subst n;rw[List.take_of_length_le (by rw[SL];exact Nat.le_refl _)]at E;have G:=E.ut es;exact⟨G,E.J⟩
def DF(k:av):Bool:=decide (k=hZ)||decide (k=dx)
theorem etu{k:av}:tN 91 #[.agg (O.enc k)] w0 (.bool (DF k)):=by
 refine eH 7 (eG _) func91 ntmps91 results91 rfl λiZ w E=>?_;refine gU 9 (.look 0 (.one 1 (e5 [2,3,4] (.one 5 (e5 [6,7,8] .nil))))) (by kernel_rfl) (λ_ _ _ h=>h) (λaM e=>?_);replace E:=E.ei e;have a:=E;have b:=eG aM;refine hi 1 a ?_;refine ol rfl (Z.call (etl) rfl ?_);rintro v w ⟨rfl,c⟩;replace b:=b.ei c;refine⟨b.J,?_⟩;have E:=ik a b;refine si a rfl (λw E=>vT rfl rfl eY) (hi 1 a (du a rfl rfl (λf w E=>ap rfl (by first|exact E.nZ es (by first|rfl|exact O.eT _)|exact E.aV es rfl) eY) ?_));refine HV (.agg (O.enc dx)) _ 6 b.J rfl rfl rfl rfl rfl rfl (λg=>Z.call (Wr) rfl (λ_ _ h=>h)) (λw c=>?_);replace b:=b.ei c;have E:=ik a b;exact du a rfl rfl (λd w E=>vT (by first|exact a7 rfl d|rfl) (by first|exact a7 rfl d|rfl) eY) (si a rfl (λw E=>m8 rfl rfl (by first|rfl) eY) (hi 1 a (e3.nil (s4 3 E λw E=>(⟨rfl,E.J⟩)))))
variable{aw ws:List av}{eS:List (av×Int)}{l xs:List o1}{r:o1}{v ab cD:Value}
theorem etm(a:ev w0 v xs):tN 92 #[v] w0 (nT v 0 xs.length xs.length (O.eo (o1))):=by
 have:=aS a;refine eH 12 (eG _) func92 ntmps92 results92 rfl λw E=>?_;exact ea (hq (a.ei E.J) ⟨⟨_,rfl⟩,a.cap⟩ ⟨⟨_,rfl⟩,Nat.le_refl _⟩ ⟨rfl,Nat.zero_le _⟩ (ew 5 E λw E=>(⟨rfl,E.J⟩)))
def v1(m:oe)(tu ws aw:List av):List o1:=uL m.ii tu++ws.map (λk=>⟨k,false,true⟩)++aw.map (λk=>⟨k,false,false⟩)
def qe(r:o1):o1:={r with iO:=r.iO&& !DF r.key}
def Wl(w0 w':World)(m:oe)(tu ws aw:List av)(v:Value)(e:Int):Prop:=
 ((((v1 m tu ws aw).map o1.key).Nodup/\e=0/\sN w0 w' v 66 ((v1 m tu ws aw).map qe))∨(¬((v1 m tu ws aw).map o1.key).Nodup/\e=9/\v=eF))
def uf(l:List o1)(k:Nat):List o1:=(l.take k).map qe++l.drop k
theorem etf:(uf l k).length=l.length:=by simp[uf];omega
theorem etp(a:k<l.length):(uf l k)[k]? =some l[k]:=by
 unfold uf;rw[List.getElem?_append_right (by simp;omega)];simp[Nat.min_eq_left (Nat.le_of_lt a)]
theorem etg(a:k<l.length):(uf l k).set k (qe l[k])=uf l (k+1):=by
 unfold uf;have eM:((l.take k).map qe).length=k:=by simp;omega
 rw[List.set_append_right _ _ (by omega),eM,Nat.sub_self,List.drop_eq_getElem_cons a,List.set_cons_zero,List.take_succ_eq_append_getElem a,List.map_append,List.append_assoc];rfl
def qt(eS:List (av×Int))(l:List av):Prop:=∀x:av,(tR x eS).getD 0=(l.count x:Int)
theorem qt.nil:qt [] []:=λx=>by simp[tR]
theorem qt.step{l:List av}(h:qt eS l)(x:av):qt (oH x ((l.count x:Int)+1) eS) (l++[x]):=by
 intro y;rw[mI];by_cases a:y=x
 .subst a;simp[List.count_append]
 rw[if_neg a,h y,List.count_append];simp[Ne.symm a]
theorem etw(R:ev w0 m.tu.v tu)(s:ev w0 ab ws)(S:ev w0 cD aw)(T:tu.length<=1000)(lP:ws.length<=1000)(Wd:aw.length<=1000):eJ 31 #[.agg (O.enc m),ab,cD] w0 (λu w'=>∃v e,u= .tuple #[v,.int .i64 e]/\Wl w0 w' m tu ws aw v e/\eB w0 w'):=by
 refine eH 10 (eG _) func31 ntmps31 results31 rfl λtZ w E=>?_;refine ea (Z.call (etd (R.ei E.J) T) rfl ?_);rintro V w ⟨H,c⟩;replace E:=E.pD c H.1 H.2;have:=aS s;refine ew 12 E λw E=>?_;refine ex.loop (λq f w=>∃(k:Nat)(lr:Value),oW [(2,cD),(8,lr),(17,ab),(18,i6 ws.length),(19,i6 k)] f/\U w0 [B lr 66 (uL m.ii tu++(ws.take k).map (λk=>(⟨k,false,true⟩:o1)))] w/\k<=ws.length/\q=ws.length-k) (ws.length) ?_ ?_
 .
   exact⟨0,V,⟨rfl,rfl,rfl,rfl,rfl,trivial⟩,by simpa using E.sub aI,Nat.zero_le _,rfl⟩
 .
   rintro q f w ⟨k,lr,o,E,I,th⟩;refine io _ o (λg=>?_);clear o;refine eI 6 E<|om 0 0 (λt w E=>?_) (λt w E=>?_)
   .
     have d:k<ws.length:=by omega
     refine eI 7 E ⟨⟨by omega⟩,λ_ w E=>?_⟩;have:=lC d;refine ew 8 E λsJ w E=>?_;refine ag 0 E (p0 ((⟨ws[k],false,true⟩:o1):o1)) λw E=>?_;refine ea (n4 E (([⟨ws[k],false,true⟩]:List o1)) [.agg (O.enc (⟨ws[k],false,true⟩:o1))] rfl rfl rfl rfl (by decide) ?_);intro uD w c E;refine ea (dS (α:=o1) rfl E rfl es (E.ef es) (by simp[uL];omega) (by simp only[maxLen];simp[uL];omega) ?_);intro W w E;replace E:=E _ es;refine ew 9 E ⟨iA,λw E=>?_⟩;refine⟨ws.length-(k+1),by omega,k+1,W,⟨rfl,rfl,rfl,rfl,congrArg (Value.int .i64) (by omega),trivial⟩,?_,by omega,rfl⟩;rw[List.take_succ_eq_append_getElem d,List.map_append,List.map_cons,List.map_nil,<-List.append_assoc];exact E.sub aI
   .
     have X:k=ws.length:=by omega
     subst X;rw[List.take_length]at E;have:=aS S;refine eI 14 E λw E=>?_;refine ex.loop (λq f w=>∃(k:Nat)(lr:Value),oW [(8,lr),(29,cD),(30,i6 aw.length),(31,i6 k)] f/\U w0 [B lr 66 ((uL m.ii tu++ws.map (λk=>(⟨k,false,true⟩:o1)))++(aw.take k).map (λk=>(⟨k,false,false⟩:o1)))] w/\k<=aw.length/\q=aw.length-k) (aw.length) ?_ ?_
     .
       exact⟨0,lr,⟨rfl,rfl,rfl,rfl,trivial⟩,by simpa using E.sub aI,Nat.zero_le _,rfl⟩
     .
       rintro q f w ⟨k,lr,o,E,I,th⟩;refine io _ o (λg=>?_);clear o;refine eI 6 E<|om 0 0 (λal w E=>?_) (λal w E=>?_)
       .
         have d:k<aw.length:=by omega
         refine eI 7 E ⟨⟨by omega⟩,λ_ w E=>?_⟩;have:=lC d;refine ew 8 E λln w E=>?_;refine ag 0 E (p0 ((⟨aw[k],false,false⟩:o1):o1)) λw E=>?_;refine ea (n4 E (([⟨aw[k],false,false⟩]:List o1)) [.agg (O.enc (⟨aw[k],false,false⟩:o1))] rfl rfl rfl rfl (by decide) ?_);intro ewT w c E;refine ea (dS (α:=o1) rfl E rfl es (E.ef es) (by simp[uL];omega) (by simp only[maxLen];simp[uL];omega) ?_);intro v39 w E;replace E:=E _ es;refine ew 9 E ⟨iA,λw E=>?_⟩;refine⟨aw.length-(k+1),by omega,k+1,v39,⟨rfl,rfl,rfl,congrArg (Value.int .i64) (by omega),trivial⟩,?_,by omega,rfl⟩;rw[List.take_succ_eq_append_getElem d,List.map_append,List.map_cons,List.map_nil,<-List.append_assoc];exact E.sub aI
       .
         have v6:k=aw.length:=by omega
         subst v6;rw[List.take_length]at E;replace E:U w0 [B lr 66 (v1 m tu ws aw)] w:=E;have DG:(v1 m tu ws aw).length<=3000:=by simp[v1,uL];omega
         generalize x:v1 m tu ws aw=L at E DG;refine eI 7 E λw E=>?_;refine ea (Z.makeMap av (Value.int .i64) E ?_);intro r w _ E;refine ew 12 E λw E=>?_;refine ex.loop (λq f w=>∃(k:Nat)(eS:List (av×Int)),oW [(8,lr),(13,tz r),(43,i6 L.length),(44,i6 k)] f/\U w0 [tW r (Value.int .i64) eS,B lr 66 (uf L k)] w/\qt eS ((L.take k).map o1.key)/\((L.take k).map o1.key).Nodup/\k<=L.length/\q=L.length-k) (L.length) ?_ ?_
         .
           exact⟨0,[],⟨rfl,rfl,rfl,rfl,trivial⟩,by simpa[uf]using E.sub aI,by simpa using qt.nil,by simp,Nat.zero_le _,rfl⟩
         .
           rintro q f w ⟨k,eS,o,E,K,y,I,th⟩;refine io _ o (λg=>?_);clear o;refine eI 6 E<|om 0 0 (λaJ w E=>?_) (λaJ w E=>?_)
           .
             have d:k<L.length:=by omega
             have HI:=etf (l:=L) (k:=k);have p:=etp d;have mh:=List.count_le_length (a:=L[k].key) (l:=(L.take k).map o1.key);simp only[List.length_map,List.length_take]at mh;have M:=K L[k].key;refine eI 12 E λw E=>?_;refine vz 10 (e5 [0,1,2,3,4,5,6,7] (.one 8 (.look 9 (.one 10 .nil)))) (by kernel_rfl) (λ_ _ _ h=>h) (λaM iS=>?_);replace E:=E.ei iS;have tI:=E;refine⟨λw=>∃j:List (av×Int),(tR L[k].key j).getD 0=(((L.take k).map o1.key).count L[k].key:Int)/\U w0 [tW r (Value.int .i64) j,B lr 66 (uf L k)] w,⟨eS,M,E⟩,?_⟩;refine e3.look rfl rfl rfl (λw c=>(by obtain⟨j,n,E⟩:=c;exact oM (v:=tz r) rfl ⟨rfl,rfl⟩)) ?_;refine e3.look rfl rfl rfl (λw c=>(by obtain⟨j,n,E⟩:=c;exact oM (v:=lr) rfl ⟨rfl,rfl⟩)) ?_;refine e3.look rfl rfl rfl (λw c=>(by obtain⟨j,n,E⟩:=c;exact oD rfl ⟨rfl,rfl⟩)) ?_;refine e3.look rfl rfl rfl (λw c=>(by obtain⟨j,n,E⟩:=c;exact nL rfl ((E.ef (xs:=uf L k) es)) rfl (by omega) ⟨rfl,rfl⟩)) ?_;refine e3.look rfl rfl rfl (λw c=>(by obtain⟨j,n,E⟩:=c;exact Z.fieldAddr rfl ((E.ef (xs:=uf L k) es).sv (by omega)) ⟨rfl,rfl⟩)) ?_;refine e3.look rfl rfl rfl (λw c=>(by obtain⟨j,n,E⟩:=c;exact ap rfl (s0.wc ((E.ef (xs:=uf L k) es).tU p) 0 (AP _) (by rw[O.eT];decide)) ⟨rfl,rfl⟩)) ?_;refine e3.look rfl rfl rfl (λw c=>(by obtain⟨j,n,E⟩:=c;exact vI (ti:=Value.int .i64) (z0:=0) inferInstance (E.map es) rfl rfl n ⟨rfl,rfl⟩)) ?_;refine e3.look rfl rfl rfl (λw c=>(by obtain⟨j,n,E⟩:=c;exact Z.add rfl rfl (wrap_i64 (by omega)) ⟨rfl,rfl⟩)) ?_;refine ol rfl (Z.mapEntry (ti:=Value.int .i64) (z0:=0) inferInstance E es rfl rfl ?_);intro born w E;replace E:=E _ es;refine⟨⟨_,by rw[mI,if_pos rfl];exact M,E.Ls (.nU)⟩,?_⟩;refine e3.look rfl rfl rfl (λw c=>(by obtain⟨j,n,E⟩:=c;exact Z.extract rfl rfl ⟨rfl,rfl⟩)) ?_;refine nP rfl (Z.entryStore (k:=L[k].key) (ti:=Value.int .i64) E es rfl rfl rfl (tA es λw E=>(e3.nil ?_)));rw[Nt]at E;refine s4 7 E ⟨⟨by omega⟩,λ_=>rL 1 λw E=>?_⟩;refine ea (ap rfl (s0.wc ((E.ef (xs:=uf L k) es).tU p) 0 (AP _) (by rw[O.eT];decide)) (ea (vI (ti:=Value.int .i64) (z0:=0) (u:=(((L.take k).map o1.key).count L[k].key:Int)+1) inferInstance (E.map es) rfl rfl (by simp[mI]) (ew 3 E<|om 14 0 (λnl w E=>?_) (λnl w E=>?_)))))
             .
               refine⟨_,_,rfl,.inr ⟨?_,rfl,rfl⟩,E.J⟩;rw[x];intro N;rw[<-List.take_append_drop (k+1) L,List.map_append]at N;have Y:=(List.nodup_append.1 N).1;rw[List.take_succ_eq_append_getElem d,List.map_append,List.map_cons,List.map_nil]at Y;have ez:=List.nodup_iff_count.1 Y L[k].key;rw[List.count_append,List.count_singleton_self]at ez;omega
             .
               have t:((L.take k).map o1.key).count L[k].key=0:=by omega
               have z:=K.step L[k].key;have Nr:((L.take k).map o1.key++[L[k].key]).Nodup:=by
                refine List.nodup_append.2 ⟨y,by simp,λa ep b P=>?_⟩;simp at P;subst P;intro e;subst e;exact List.count_eq_zero.1 t ep
               refine eI 11 E λw E=>?_;refine tn.eV _ 72 _ rfl rfl rfl rfl (λewA=>oM (v:=lr) rfl ⟨rfl,eB.refl _⟩) (λw c=>?_);replace E:=E.ei c;refine tn.eV _ 72 _ rfl rfl rfl rfl (λewO=>oD rfl ⟨rfl,eB.refl _⟩) (λw c=>?_);replace E:=E.ei c;refine tn.eV _ 72 _ rfl rfl rfl rfl (λQ=>nL (by first|exact a7 rfl Q|rfl) ((E.ef (xs:=uf L k) es)) (by first|exact a7 rfl Q|rfl) (by omega) ⟨rfl,eB.refl _⟩) (λw c=>?_);replace E:=E.ei c;refine tn.eV _ 72 _ rfl rfl rfl rfl (λA=>Z.fieldAddr (by first|exact a7 rfl A|rfl) ((E.ef (xs:=uf L k) es).sv (by omega)) ⟨rfl,eB.refl _⟩) (λw c=>?_);replace E:=E.ei c;refine tn.eV _ 72 _ rfl rfl rfl rfl (λC=>ap (by first|exact a7 rfl C|rfl) (s0.wc ((E.ef (xs:=uf L k) es).tU p) 0 (AP _) (by rw[O.eT];decide)) ⟨rfl,eB.refl _⟩) (λw c=>?_);replace E:=E.ei c;refine tn.eV _ 72 (.bool (DF L[k].key)) rfl rfl rfl rfl (λD=>?_) (λw c=>?_)
               .refine Z.call (etu) (JN (by first|exact a7 rfl D|rfl)) ?_;rintro v w ⟨rfl,c⟩;replace E:=E.ei c;exact⟨rfl,‹_›⟩
               replace E:=E.ei c;refine tn.eV _ 72 _ rfl rfl rfl rfl (λF=>Z.not (by first|exact a7 rfl F|rfl) ⟨rfl,eB.refl _⟩) (λw c=>?_);replace E:=E.ei c;refine ea (fN rfl (by first|rfl) rfl ?_);refine ew 1 E λw E=>?_;refine ea (Z.fieldAddr rfl ((E.ef (xs:=uf L k) es).sv (by omega)) ?_);refine oA (pr (eo:=1) (v:=lr) (xs:=uf L k) (i:=k) (off:=33) (ds:=qe L[k]) E es (by omega) rfl rfl rfl (by decide) (O.one (α:=Bool) _) (by rw[(List.getElem?_eq_some_iff.1 p).2];exact Zj _ _) (tA es λw E=>?_));rw[etg d]at E;refine ew 8 E ⟨iA,λw E=>?_⟩;refine⟨L.length-(k+1),by omega,k+1,_,⟨rfl,rfl,rfl,congrArg (Value.int .i64) (by omega),trivial⟩,E.sub aI,?_,?_,by omega,rfl⟩
               .rw[List.take_succ_eq_append_getElem d,List.map_append];exact z
               rw[List.take_succ_eq_append_getElem d,List.map_append];exact Nr
           .
             have dj:k=L.length:=by omega
             subst dj;have DW:uf L L.length=L.map qe:=by simp[uf]
             rw[DW]at E;rw[List.take_length]at y;refine eI 8 E λw E=>?_;refine ea (Z.call (etm (E.ef es)) rfl ?_);rintro ewI w ⟨G,c⟩;replace E:=E.ei c;refine ew 6 E λw E=>?_;refine⟨_,_,rfl,.inl ⟨by rw[x];exact y,rfl,?_⟩,E.J⟩;rw[x];subst G;exact sN.cut (v:=lr) (α:=o1) (E.ut es)
theorem DY{xs:List av}(a:ev w0 v xs):tN 89 #[v] w0 (nT v 0 xs.length xs.length (O.eo (av))):=by
 have:=aS a;refine eH 12 (eG _) func89 ntmps89 results89 rfl λw E=>?_;exact ea (hq (a.ei E.J) ⟨⟨_,rfl⟩,a.cap⟩ ⟨⟨_,rfl⟩,Nat.le_refl _⟩ ⟨rfl,Nat.zero_le _⟩ (ew 5 E λw E=>(⟨rfl,E.J⟩)))
def rQ(l:List o1):List av:=(l.filter o1.iO).map o1.key
theorem etz(a:k<l.length):rQ (l.take (k+1))=rQ (l.take k)++(if l[k].iO=true then[l[k].key]else[]):=by
 rw[List.take_succ_eq_append_getElem a];unfold rQ;rw[List.filter_append,List.map_append];cases h:l[k].iO<;>simp[h]
theorem etE:(rQ l).length<=l.length:=by simp[rQ];exact List.length_filter_le _ _
theorem etT(j:ev w0 v xs)(eM:xs.length<=100000):eJ 37 #[v] w0 (λu w'=>sN w0 w' u 60 (rQ xs)/\eB w0 w'):=by
 have:=aS j;refine eH 14 (eG _) func37 ntmps37 results37 rfl λw E=>?_;refine ex.loop (λq f w=>∃(k:Nat)(lr:Value),oW [(2,lr),(5,v),(6,i6 xs.length),(7,i6 k)] f/\U w0 [B lr 60 (rQ (xs.take k))] w/\k<=xs.length/\q=xs.length-k) (xs.length) ?_ ?_
 .
   exact⟨0,eF,⟨rfl,rfl,rfl,rfl,trivial⟩,E.lD _,Nat.zero_le _,rfl⟩
 .
   rintro q f w ⟨k,lr,a,E,t,th⟩;refine io _ a (λg=>?_);clear a;refine eI 6 E<|om 0 0 (λm w E=>?_) (λm w E=>?_)
   .
     have e:k<xs.length:=by omega
     have h:=etz e;have n:=etE (l:=(xs.take k));simp only[List.length_take]at n;refine eI 2 E λw E=>?_;refine lK (λf w=>∃b:Value,oW [(2,b),(5,v),(6,i6 xs.length),(7,i6 k)] f/\U w0 [B b 60 (rQ (xs.take (k+1)))] w) ?_ ?_
     .
       refine eI 4 E ⟨⟨by omega⟩,λ_ w E=>?_⟩;have:=lC e;refine ew 2 E λaF w E=>?_;refine oA (iV E rfl rfl es (by first|rfl|exact O.eT _) (tA es λw E=>(ew 8 E<|na 4 3 (λc o w E=>?_) (λc o w E=>?_))))
       .
         refine ea (n4 E (([xs[k].key]:List av)) [.agg (O.enc xs[k].key)] rfl rfl rfl rfl (by decide) ?_);intro x w i E;refine ea (dS (α:=Vector UInt8 32) rfl E rfl es (E.ef es) (by simp only[List.length_cons,List.length_nil];omega) (by simp only[maxLen];simp only[List.length_cons,List.length_nil];omega) ?_);intro p w E;replace E:=E _ es;refine ew 4 E λw E=>?_;rw[h]
         (rw[if_pos (show xs[k].iO=true from c)];exact⟨p,⟨rfl,rfl,rfl,rfl,trivial⟩,E.sub aI⟩)
       .
         rw[h]
         (rw[if_neg (by rw[show xs[k].iO=false from c];decide),List.append_nil];exact⟨lr,⟨rfl,rfl,rfl,rfl,trivial⟩,E.sub aI⟩)
     .
       rintro f w ⟨b,a,E⟩;refine io _ a (λg=>?_);clear a;refine eI 5 E ⟨iA,λw E=>?_⟩;exact⟨xs.length-(k+1),by omega,k+1,b,⟨rfl,rfl,rfl,congrArg (Value.int .i64) (by omega),trivial⟩,E,by omega,rfl⟩
   .
     have r:k=xs.length:=by omega
     subst r;rw[List.take_length]at E;refine eI 8 E λw E=>?_;refine ea (Z.call (DY (E.ef es)) rfl ?_);rintro s w ⟨d,i⟩;replace E:=E.ei i;refine ew 5 E λw E=>?_;subst d;exact⟨sN.cut (v:=lr) (α:=Vector UInt8 32) (E.ut es),E.J⟩
variable{b l:List UInt8}{c p:UInt8}{i fm m n yq:Nat}{au:List Instr}{wm sp:Int}{tu:List (Vector UInt8 32)}{w:Bool}{w':World}
def hN:List UInt8->Nat
 |[]=>0
 |c::r=>c.toNat+256*hN r
theorem etO(a b:List UInt8):hN (a++b)=hN a+2^(8*a.length)*hN b:=by
 induction a with
 |nil=>simp[hN]
 |cons c r d=>
  simp only[List.cons_append,hN,d,List.length_cons];rw[show 8*(r.length+1)=8*r.length+8 by omega,Nat.pow_add,Nat.mul_add];have:256*(2^(8*r.length)*hN b)=2^(8*r.length)*2^8*hN b:=by rw[<-Nat.mul_assoc,Nat.mul_comm 256]
  omega
theorem Wu:hN l<2^(8*l.length):=by
 induction l with
 |nil=>simp[hN]
 |cons c r a=>
  have:=wj c;simp only[hN,List.length_cons];rw[show 8*(r.length+1)=8*r.length+8 by omega,Nat.pow_add];omega
theorem etI(a:k<b.length):hN (b.take (k+1))=hN (b.take k)+b[k].toNat*2^(8*k):=by
 rw[List.take_succ_eq_append_getElem a,etO,List.length_take,Nat.min_eq_left (by omega)];simp[hN,Nat.mul_comm]
theorem Wm:hN (b.take k)<2^(8*k):=
 Nat.lt_of_lt_of_le (Wu) (Nat.pow_le_pow_right (by omega) (by simp;omega))
theorem etN(a:k<=7):IntKind.u64.wrap ((c.toNat:Int)*2^(min (Int.toNat (8*(k:Int))) IntKind.u64.bits))=((c.toNat*2^(8*k):Nat):Int):=by
 have e:(8*(k:Int))=((8*k:Nat):Int):=by omega
 rw[e];have:=wj c;have b:c.toNat*2^(8*k)<=255*2^56:=Nat.mul_le_mul (by omega) (Nat.pow_le_pow_right (by omega) (by omega));exact FG (by omega) (by simp) (by omega)
theorem etS(b:k<=7)(a:n<2^(8*k)):hH .or .u64 (n:Int) ((c.toNat*2^(8*k):Nat):Int)=((n+c.toNat*2^(8*k):Nat):Int):=by
 have:=wj c;have d:c.toNat*2^(8*k)<=255*2^56:=Nat.mul_le_mul (by omega) (Nat.pow_le_pow_right (by omega) (by omega));have e:2^(8*k)<=2^56:=Nat.pow_le_pow_right (by omega) (by omega);rw[I1 _ _ (by omega) (by omega),H5 _ _ _ a]
def qa(b:List UInt8)(m:Int):Nat×Int:=if m<1∨8<m then(0,1)else if(b.length:Int)<m then(0,5)else(hN (b.take m.toNat),0)
theorem DV(G:1<=m)(nE:m<=8)(eM:m<=b.length):qa b m=(hN (b.take m),0):=by
 unfold qa;rw[if_neg (by omega),if_neg (by omega)];simp
theorem Wf(h:ev w0 v b):tN 168 #[v,.int .i64 sp] w0 (.tuple #[.int .u64 ((qa b sp).1:Int),i6 (qa b sp).2]):=by
 refine nk.enter (args:=[v,.int .i64 sp]) func168 rfl ntmps168 results168 rfl ?_;have E:=eG w0;refine ex.seq (λK p=>(ex.region (ea (iM rfl (ea (iM rfl ?_))))));refine tn.nil ?_;refine aE (p _ _ (ex.seq (λL q=>?_)));refine ex.block ?_;refine ex.seq (λM r=>(ex.region (ea (oD rfl (ea (Z.lss rfl rfl (ea (di rfl (tn.eV _ 10 _ rfl rfl rfl rfl (λN=>oD rfl ⟨rfl,eB.refl _⟩) (λw i=>?_))))))))));replace E:=E.ei i;refine tn.eV _ 10 _ rfl rfl rfl rfl (λs=>Z.gtr (by first|exact a7 rfl s|rfl) rfl ⟨rfl,eB.refl _⟩) (λw i=>?_);replace E:=E.ei i;refine ea (m8 rfl rfl (by first|rfl) (ea (ww rfl ?_)));refine tn.nil ?_;refine aE (r _ _ ?_);refine ex.cond _ rfl (λc=>?_) (λc=>?_)
 .
   have t:=c
   try simp only[rs]at c
   refine ex.seq (λO u=>(ex.region (ea (iM rfl (ea (iM rfl ?_))))));refine tn.nil ?_;refine aE (u _ _ ?_);refine ex.ret ?_;refine kC ?_;refine pP ?_;refine cI (.hB rfl (.hB rfl .nil)) ?_;refine⟨?_,E.J⟩;rw[show qa b sp=(0,1)from if_pos c];rfl
 .
   have t:=c
   try simp only[rs]at c
   refine ex.seq (λP x=>(ex.region (ea (oM (v:=v) rfl (ea (Z.hL rfl ((h.ei E.J)) (ea (oD rfl (ea (Z.lss rfl rfl (ea (ww rfl ?_))))))))))));refine tn.nil ?_;refine aE (x _ _ ?_);refine ex.cond _ rfl (λd=>?_) (λd=>?_)
   .
     have y:=d
     try simp only[rs]at d
     refine ex.seq (λQ z=>(ex.region (ea (iM rfl (ea (iM rfl ?_))))));refine tn.nil ?_;refine aE (z _ _ ?_);refine ex.ret ?_;refine kC ?_;refine pP ?_;refine cI (.hB rfl (.hB rfl .nil)) ?_;refine⟨?_,E.J⟩;rw[show qa b sp=(0,5)from by unfold qa;rw[if_neg (by omega),if_pos d]];rfl
   .
     have y:=d
     try simp only[rs]at d
     obtain⟨a,rfl⟩:∃a:Nat,sp=(a:Int):=⟨sp.toNat,by omega⟩;have j:=DV (b:=b) (m:=a) (by omega) (by omega) (by omega);rw[j];refine ex.skip ?_;refine m7 (aE (q _ _ (ex.seq (λR A=>(ex.seq (λS B=>(ex.region (ea (oD rfl (ea (oD rfl ?_)))))))))));refine tn.nil ?_;refine aE (B _ _ ?_);refine ex.block ?_;refine ex.loop (λm f w=>∃k:Nat,oW [(0,v),(4,.int .u64 (hN (b.take k):Int)),(19,i6 a),(20,i6 k)] f/\U w0 [] w/\k<=a/\m=a-k) (a) ?_ ?_
     .
       exact⟨0,⟨rfl,rfl,rfl,rfl,trivial⟩,E,Nat.zero_le _,rfl⟩
     .
       rintro m f w ⟨k,l,E,T,th⟩;refine io _ l (λg=>?_);clear l;refine ex.seq (λV C=>(ex.region (ea (Z.lss rfl rfl ?_))));refine tn.nil ?_;refine aE (C _ _ (ex.seq (λW D=>?_)));refine ex.cond _ rfl (λe=>?_) (λe=>?_)
       .
         have F:=e
         try simp only[rs]at e
         have o:k<b.length:=by omega
         have X:=wj b[k];refine ex.skip ?_;refine aE (D _ _ (ex.seq (λY G=>?_)));refine ex.block ?_;refine ex.seq (λSA H=>(ex.region (ea (oD rfl (ea (iM rfl ?_))))));refine tn.nil ?_;refine aE (H _ _ (ex.region (ea (oD rfl (ea (oM (v:=v) rfl (ea (oD rfl (ea (nL rfl ((h.ei E.J)) rfl (by omega) (ea (ap rfl (((h.ei E.J).se o).ax rfl) (ea (Z.conv rfl (wrap_u64 (by omega)) (ea (oD rfl (ea (Z.mul rfl rfl (wrap_i64 (by omega)) (ea (Z.shl rfl rfl (by omega) (etN (by omega)) (ea (Z.or rfl rfl (etS (by omega) (Wm)) (ea (iM rfl ?_))))))))))))))))))))))));refine tn.nil ?_;refine m7 (aE (G _ _ (ex.region (ea (Z.add rfl rfl (wrap_i64 (by omega)) (ea (oD rfl ?_)))))));refine tn.nil ?_;refine aE ?_;exact⟨a-(k+1),by omega,k+1,⟨rfl,congrArg (λn:Nat=>Value.int .u64 (n:Int)) (etI o).symm,rfl,congrArg (Value.int .i64) (by omega),trivial⟩,E,by omega,rfl⟩
       .
         have F:=e
         try simp only[rs]at e
         refine ex.exit ?_;refine u4 ?_;refine u4 ?_;refine yl (aE (A _ _ (ex.seq (λSO I=>(ex.region (ea (oD rfl (ea (iM rfl (ea (iM rfl ?_)))))))))));refine tn.nil ?_;refine aE (I _ _ ?_);refine ex.ret ?_;refine cI (.hB rfl (.hB rfl .nil)) ?_;have:k=a:=by omega
         subst this;refine⟨?_,E.J⟩;rw[j];rfl
def SF:Vector UInt8 32:=(oc 32).set 0 3
def wW(k:Nat):Nat:=if k=0 then 4 else 8
def DX(k:Nat):Nat:=if k=0 then 2 else 3
def Wp:Array Value:=#[i6 4,i6 8]
def Wg:Array Value:=#[.int .u8 2,.int .u8 3]
theorem Ww(h:k<2):Wp[0+k*1]? =some (.int .i64 ((wW k:Nat):Int)):=by
 match k,h with
 |0,_=>rfl
 |1,_=>rfl
theorem etR(h:k<2):Wg[0+k*1]? =some (.int .u8 ((DX k:Nat):Int)):=by
 match k,h with
 |0,_=>rfl
 |1,_=>rfl
def Laid(w:World):Prop:=ar w (N 0) Wp/\ar w (N 1) Wg
theorem Laid.ei{w:World}(h:Laid w)(a:eB w w'):Laid w':=⟨h.1.ei a,h.2.ei a⟩
def g3(b:List UInt8)(k:Nat):Bool:=decide (b.length=wW k+1)&&decide ((b.getD 0 0).toNat=DX k)
def Eu(b:List UInt8)(k:Nat):Nat:=hN ((b.drop 1).take (wW k))
def up(b:List UInt8):Int×Nat:=if g3 b 0=true then(0,Eu b 0)else if g3 b 1=true then(1,Eu b 1)else(-1,0)
theorem etH(a:k<2)(c:∀j,j<k->g3 b j=false)(h:g3 b k=true):up b=((k:Int),Eu b k):=by
 unfold up
 match k,a with
 |0,_=>rw[if_pos h];rfl
 |1,_=>rw[if_neg (by rw[c 0 (by decide)];decide),if_pos h];rfl
theorem etL(a:∀j,j<2->g3 b j=false):up b=(-1,0):=by
 unfold up;rw[if_neg (by rw[a 0 (by decide)];decide),if_neg (by rw[a 1 (by decide)];decide)]
theorem etD:(up b).1= -1∨(up b).1=0∨(up b).1=1:=by
 unfold up;split
 .exact .inr (.inl rfl)
 split
 .exact .inr (.inr rfl)
 exact .inl rfl
theorem Wy:1<=wW k/\wW k<=8:=by unfold wW;split<;>omega
theorem etC(h:0<b.length):b[0]=b.getD 0 0:=by simp[List.getD,h]
theorem Wb:(up b).2<18446744073709551616:=by
 have h:∀k,Eu b k<18446744073709551616:=by
  intro k;have G:=Wu (l:=((b.drop 1).take (wW k)));have Y:=(Wy (k:=k)).2;have ez:2^(8*((b.drop 1).take (wW k)).length)<=2^64:=Nat.pow_le_pow_right (by decide) (by rw[List.length_take];omega);unfold Eu;omega
 unfold up;split
 .exact h 0
 split
 .exact h 1
 decide
def xH(tu:List (Vector UInt8 32))(p:UInt8):Bool:=decide ((p.toNat:Int)<(tu.length:Int))&&decide (tu.getD p.toNat (oc 32)=SF)
theorem etU:(decide ((p.toNat:Int)<(tu.length:Int))&&decide (tu.getD p.toNat (oc 32)=SF))=xH tu p:=rfl
structure Em where
 others:Nat
 S:Nat->Option Nat
 dJ:Int
variable{s:Em}
def p7(s:Em)(i:Nat)(w:Bool)(b:List UInt8):Em:=
 if w=false then{s with others:=s.others+1}else if 0<=s.dJ then s else if(up b).1<0∨(s.S (up b).1.toNat).isSome=true then{s with dJ:=i}else{s with S:=λj=>if j=(up b).1.toNat then some (up b).2 else s.S j}
def dF(w:Nat->Bool)(b:Nat->List UInt8):Nat->Em
 |0=>⟨0,λ_=>none,-1⟩
 |n+1=>p7 (dF w b n) n (w n) (b n)
def DJ(s:Em):sD:=⟨min ((s.S 0).getD (s.others*200000)) 1400000,(s.S 1).getD 0,s.dJ⟩
def lG(tu:List (Vector UInt8 32))(au:List Instr)(i:Nat):Bool:=xH tu ((au.map Instr.program).getD i 0)
theorem etM(h:i<au.length):lG tu au i=xH tu au[i].program:=by simp[lG,List.getD,h]
theorem etF:p7 s i false b={s with others:=s.others+1}:=rfl
theorem etP(h:0<=s.dJ):p7 s i true b=s:=by unfold p7;rw[if_neg (by decide),if_pos h]
theorem Wv(h:¬0<=s.dJ)(a:up b=(wm,yq))(Y:wm<0∨(s.S wm.toNat).isSome=true):p7 s i true b={s with dJ:=i}:=by
 unfold p7;rw[if_neg (by decide),if_neg h,a,if_pos Y]
theorem etG(h:¬0<=s.dJ)(a:up b=((fm:Int),yq))(Y:(s.S fm).isSome=false):p7 s i true b={s with S:=λj=>if j=fm then some yq else s.S j}:=by
 have c:¬((fm:Int)<0∨(s.S (fm:Int).toNat).isSome=true):=by
  rintro(ez|ez)
  .omega
  rw[show(fm:Int).toNat=fm from rfl,Y]at ez;cases ez
 unfold p7;rw[if_neg (by decide),if_neg h,a,if_neg c];rfl
theorem etW:(p7 s i w b).others<=s.others+1:=by
 unfold p7;split
 .exact Nat.le_refl _
 split
 .omega
 split
 .exact Nat.le_succ _
 exact Nat.le_succ _
theorem DQ(w:Nat->Bool)(b:Nat->List UInt8):∀n,(dF w b n).others<=n
 |0=>Nat.le_refl _
 |n+1=>by
  have G:=DQ w b n;have Y:=etW (s:=(dF w b n)) (i:=n) (w:=(w n)) (b:=(b n));show(p7 (dF w b n) n (w n) (b n)).others<=n+1;omega
def DZ(s:Em):Prop:=(∀j n,s.S j=some n->n<18446744073709551616)/\-1<=s.dJ
theorem etY(h:DZ s):DZ (p7 s i w b):=by
 unfold p7;split
 .exact h
 split
 .exact h
 split
 .exact⟨h.1,by show(-1:Int)<=(i:Int);omega⟩
 refine⟨λj n a=>?_,h.2⟩;have a:(if j=(up b).1.toNat then some (up b).2 else s.S j)=some n:=a;split at a
 .cases a;exact Wb
 exact h.1 j n a
theorem SP(w:Nat->Bool)(b:Nat->List UInt8):∀n,DZ (dF w b n)
 |0=>⟨λj n h=>(by cases h),Int.le_refl _⟩
 |n+1=>etY (SP w b n)
def bP(S:Nat->Option Nat):Array Value:=#[.int .u64 (((S 0).getD 0:Nat):Int),.int .u64 (((S 1).getD 0:Nat):Int)]
def Ef(S:Nat->Option Nat):Array Value:=#[.bool (S 0).isSome,.bool (S 1).isSome]
theorem Wk(S:Nat->Option Nat)(h:k<2):(Ef S)[0+k*1]? =some (.bool (S k).isSome):=by
 match k,h with
 |0,_=>rfl
 |1,_=>rfl
theorem Wx(S:Nat->Option Nat)(h:k<2):iH (bP S) (0+k*1) #[eb n]=bP (λj=>if j=k then some n else S j):=by
 match k,h with
 |0,_=>rfl
 |1,_=>rfl
theorem etB(S:Nat->Option Nat)(h:k<2):iH (Ef S) (0+k*1) #[.bool true]=Ef (λj=>if j=k then some n else S j):=by
 match k,h with
 |0,_=>rfl
 |1,_=>rfl
theorem etV(a:ev w0 v b)(n:Laid w0):tN 93 #[v] w0 (.tuple #[i6 (up b).1,.int .u64 (((up b).2:Nat):Int)]):=by
 refine nk.enter (args:=[v]) func93 rfl ntmps93 results93 rfl ?_;have E:=eG w0;refine ex.seq (λV B=>(ex.region (ea (iM rfl (ea (iM rfl ?_))))));refine tn.nil ?_;refine aE (B _ _ (ex.seq (λW C=>(ex.seq (λX D=>(ex.region (ea (oD rfl ?_))))))));refine tn.nil ?_;refine aE (D _ _ ?_);refine ex.block ?_;refine ex.loop (λq f w=>∃k:Nat,oW [(0,v),(7,i6 k)] f/\U w0 [] w/\(∀j,j<k->g3 b j=false)/\k<=2/\q=2-k) (2) ?_ ?_
 .
   exact⟨0,⟨rfl,rfl,trivial⟩,E,λj h=>by omega,Nat.zero_le _,rfl⟩
 .
   rintro q f w ⟨k,t,E,o,fF,th⟩;refine io _ t (λg=>?_);clear t;refine ex.seq (λbC F=>(ex.region (ea (Z.lss rfl rfl ?_))));refine tn.nil ?_;refine aE (F _ _ (ex.seq (λbU G=>?_)));refine ex.cond _ rfl (λc=>?_) (λc=>?_)
   .
     have H:=c
     try simp only[rs]at c
     have e:k<2:=by omega
     have u:=Wy (k:=k);have I:=a.le;simp only[maxLen]at I;refine ex.skip ?_;refine aE (G _ _ (ex.seq (λwP K=>?_)));refine ex.block ?_;refine ex.seq (λyH L=>(ex.region (ea (oD rfl (ea (iM rfl ?_))))));refine tn.nil ?_;refine aE (L _ _ (ex.seq (λxR M=>?_)));refine nV 0 16 (e5 [0,1,2,3,4,5,6,7,8,9,10,11,12,13,14,15] .nil) [] E λw E=>?_;refine tw rfl (λw E=>oM (v:=v) rfl eY) (tw rfl (λw E=>Z.hL rfl ((a.ei E.J)) eY) (tw rfl (λw E=>oD rfl eY) (tw rfl (λw E=>ph rfl rfl (by omega) eY) (tw rfl (λw E=>ap rfl ((n.1.ei E.J).vS (Ww (k:=k) e)) eY) (tw rfl (λw E=>Z.add rfl rfl (show IntKind.i64.wrap _=((wW k+1:Nat):Int)from(wrap_i64 (by omega)).trans (by omega)) eY) (tw rfl (λw E=>Z.eql rfl rfl eY) (tw rfl (λw E=>di rfl eY) (uc (ek:=v) rfl rfl (λwU w E=>oM (v:=v) rfl eY) ?_))))))));refine TB (ek:=(oK v 0 1)) _ 17 rfl rfl rfl rfl rfl rfl (λx w E=>(by have E:U _ _ w:=E;have N:(b.length:Int)=((wW k+1:Nat):Int):=(by simpa using x);exact nL (by first|exact a7 rfl x|rfl) ((a.ei E.J)) rfl (by omega) ⟨rfl,rfl⟩)) ?_;refine uc (ek:=(.int .u8 ((b.getD 0 0).toNat:Int))) rfl rfl (λy w E=>ap (by first|exact a7 rfl y|rfl) ((by have em:0<b.length:=(by have N:(b.length:Int)=((wW k+1:Nat):Int):=(by simpa using y);omega);have Y:=(a.ei E.J).se em;rw[etC em]at Y;exact Y.ax rfl)) eY) (uc rfl rfl (λjX w E=>oD rfl eY) (uc rfl rfl (λO w E=>ph rfl (by first|exact a7 rfl O|rfl) (by omega) eY) (uc (ek:=(.int .u8 ((DX k:Nat):Int))) rfl rfl (λP w E=>ap (by first|exact a7 rfl P|rfl) ((n.2.ei E.J).vS (etR (k:=k) e)) eY) (uc rfl rfl (λz w E=>Z.eql (by first|exact a7 rfl z|rfl) (by first|exact a7 rfl z|rfl) eY) (tw rfl (λw E=>fN rfl (by first|rfl) rfl eY) (e3.nil (aE (M _ _ ?_))))))));refine ex.cond _ rfl (λd=>?_) (λd=>?_)
     .
       have p:=d
       try simp only[rs]at d
       have i:g3 b k=true:=by
        rw[<-p];unfold g3;congr 1
        .rw[Bool.eq_iff_iff,decide_eq_true_eq,decide_eq_true_eq];omega
        rw[Bool.eq_iff_iff,decide_eq_true_eq,decide_eq_true_eq];omega
       have r:=etH e o i;have hlen:b.length=wW k+1:=by unfold g3 at i;simp at i;exact i.1
       have A:=a.cap;refine ex.seq (λEl Q=>?_);refine nV 0 11 (e5 [0,1,2,3,4] (.one 5 (e5 [6,7,8,9,10] .nil))) [] E λw E=>?_;refine tw rfl (λw E=>oM (v:=v) rfl eY) (tw rfl (λw E=>hq (l:=1) (h':=b.length) (m:=s1 v) (a.ei E.J) ⟨rfl,Nat.le_refl _⟩ ⟨⟨rfl,rfl⟩,A⟩ ⟨⟨_,rfl⟩,by omega⟩ eY) (tw rfl (λw E=>oD rfl eY) (tw rfl (λw E=>ph rfl rfl (by omega) eY) (tw rfl (λw E=>ap rfl ((n.1.ei E.J).vS (Ww (k:=k) e)) eY) (ol rfl (Z.call (Wf (by have h:=(a.ei E.J).cut (l:=1) (h:=b.length) (m:=s1 v) (by omega) (Nat.le_refl _) A (Nat.le_refl _);rw[List.take_length]at h;exact h)) rfl ?_))))));rintro _ w ⟨rfl,R⟩;replace E:=E.ei R;rw[DV u.1 u.2 (by rw[List.length_drop];omega)];refine⟨pm E,?_⟩;refine tw rfl (λw E=>oM (v:=.tuple #[.int .u64 ((Eu b k:Nat):Int),i6 0]) rfl eY) (tw rfl (λw E=>Z.extract rfl rfl eY) (tw rfl (λw E=>Z.extract rfl rfl eY) (tw rfl (λw E=>iM rfl eY) (tw rfl (λw E=>iM rfl eY) (e3.nil (aE (Q _ _ (ex.seq (λEd S=>(ex.region (ea (oD rfl (ea (oD rfl (ea (iM rfl (ea (iM rfl ?_))))))))))))))))));refine tn.nil ?_;refine aE (S _ _ ?_);refine ex.ret ?_;refine kC ?_;refine pP ?_;refine pP ?_;refine kC ?_;refine pP ?_;refine cI (.hB rfl (.hB rfl .nil)) ?_;rw[r];exact⟨rfl,E.J⟩
     .
       have p:=d
       try simp only[rs]at d
       have s:g3 b k=false:=by
        rw[<-p];unfold g3;congr 1
        .rw[Bool.eq_iff_iff,decide_eq_true_eq,decide_eq_true_eq];omega
        rw[Bool.eq_iff_iff,decide_eq_true_eq,decide_eq_true_eq];omega
       refine ex.skip ?_;refine m7 (aE (K _ _ (ex.region (ea (Z.add rfl rfl (wrap_i64 (by omega)) (ea (oD rfl ?_)))))));refine tn.nil ?_;exact aE (⟨2-(k+1),by omega,k+1,⟨rfl,congrArg (Value.int .i64) (by omega),trivial⟩,E,(λj tM=>(Nat.lt_or_ge j k).elim (λh=>o j h) (λh=>(show j=k by omega)▸s)),by omega,rfl⟩)
   .
     have H:=c
     try simp only[rs]at c
     obtain rfl:k=2:=by omega
     refine ex.exit ?_;refine u4 ?_;refine u4 ?_;refine yl (aE (C _ _ (ex.seq (λEc T=>(ex.region (ea (iM rfl (ea (iM rfl ?_)))))))));refine tn.nil ?_;refine aE (T _ _ ?_);refine ex.ret ?_;refine cI (.hB rfl (.hB rfl .nil)) ?_;rw[etL o];exact⟨rfl,E.J⟩
theorem etJ{m:oe}{i:Instr}(c:ev w0 m.tu.v tu):tN 94 #[.agg (O.enc m),.agg (O.enc i)] w0 (.bool (xH tu i.program)):=by
 refine eH 8 (eG _) func94 ntmps94 results94 rfl λaa tZ w E=>?_;refine gU 18 (e5 [0,1,2,3,4,5,6,7,8,9,10,11,12,13] (.one 14 (e5 [15,16,17] .nil))) (by kernel_rfl) (λ_ _ _ h=>h) (λaM g=>?_);replace E:=E.ei g;have a:=E;have b:=eG aM;have p:=wj i.program;refine hi 2 a ?_;refine si a rfl (λw E=>Z.conv rfl (show IntKind.i64.wrap _=(i.program.toNat:Int)from wrap_i64 (by omega)) eY) ?_;have:=aS c;refine hi 5 a ?_;refine du a rfl rfl (λq w E=>o9 rfl eY) (du (ek:=m.tu.v) a rfl rfl (λj w E=>ap (by first|exact a7 rfl j|rfl) (E.aV es (GN m)) eY) (du a rfl rfl (λr w E=>o9 rfl eY) (du (ek:=(.int .u8 (i.program.toNat:Int))) a rfl rfl (λl w E=>ap (by first|exact a7 rfl l|rfl) (E.aV es (GO i)) eY) (du (ek:=(oK m.tu.v i.program.toNat (O.eo (Vector UInt8 32)))) a rfl rfl (λd w E=>by have n:(i.program.toNat:Int)<(tu.length:Int):=(by simpa using d);exact nL (by first|exact a7 rfl d|rfl) ((c.ei E.J)) (by first|exact a7 rfl d|rfl) (by omega) (k:=.u8) (i:=(i.program.toNat:Int)) (v:=m.tu.v) eY) (du (ek:=(.agg (O.enc (tu.getD i.program.toNat (oc 32))))) a rfl rfl (λe w E=>ap (by first|exact a7 rfl e|rfl) ((by have em:i.program.toNat<tu.length:=(by have n:(i.program.toNat:Int)<(tu.length:Int):=(by simpa using e);omega);have Y:=(c.ei E.J).se em;rw[show tu[i.program.toNat]=tu.getD i.program.toNat (oc 32) by simp[List.getD,em]]at Y;exact Y.nZ (O.eT _))) eY) ?_)))));refine HV (.agg (O.enc SF)) _ 12 b.J rfl rfl rfl rfl rfl rfl (λs=>Z.call (Wr) rfl (λ_ _ h=>h)) (λw o=>?_);replace b:=b.ei o;have E:=ik a b;exact du (ek:=(.bool (decide (tu.getD i.program.toNat (oc 32)=SF)))) a rfl rfl (λf w E=>vT (by first|exact a7 rfl f|rfl) (by first|exact a7 rfl f|rfl) eY) (si a rfl (λw E=>fN rfl (by first|rfl) rfl eY) (hi 1 a (e3.nil (s4 3 E λw E=>(⟨congrArg Value.bool (etU),E.J⟩)))))
variable{m:oe}
theorem etQ(b:Nat->List UInt8)(P:Laid w0)(Q:ev w0 m.tu.v tu)(R:ev w0 m.instrs.v au)(dn:au.length<=1000000)(T:∀i(ey:i<au.length),ev w0 (au[i]'ey).data.v (b i)):tN 34 #[.agg (O.enc m)] w0 (.agg (O.enc (DJ (dF (lG tu au) b au.length)))):=by
 refine eH 8 (eG _) func34 ntmps34 results34 rfl λiZ aa w E=>?_;refine ag 1 E (p0 ((sD.mk 0 0 (-1)):sD)) λtZ w E=>?_;refine oA (iV E rfl rfl es (by first|rfl|exact O.eT _) (tA es λw E=>?_));have:=aS R;refine ew 27 E λaF t w E=>?_;refine ex.loop (λq f w=>∃k:Nat,oW [(1,N iZ),(2,N aa),(3,N tZ),(4,N aF),(5,N t),(6,.int .u64 (((dF (lG tu au) b k).others:Nat):Int)),(13,m.instrs.v),(14,i6 au.length),(15,i6 k)] f/\U w0 [V t (Ef (dF (lG tu au) b k).S) 228,V aF (bP (dF (lG tu au) b k).S) 227,V tZ (O.enc (sD.mk 0 0 (dF (lG tu au) b k).dJ)) 51,V aa (O.enc (sD.mk 0 0 0)) 51,V iZ (O.enc m) 46] w/\k<=au.length/\q=au.length-k) (au.length) ?_ ?_
 .
   exact⟨0,⟨rfl,rfl,rfl,rfl,rfl,rfl,rfl,rfl,rfl,trivial⟩,E,Nat.zero_le _,rfl⟩
 .
   rintro q f w ⟨k,e,E,rU,th⟩;refine io _ e (λg=>?_);clear e;refine eI 6 E<|om 0 0 (λW w E=>?_) (λW w E=>?_)
   .
     have y:k<au.length:=by omega
     have z:=DQ (lG tu au) b k;obtain⟨K,A⟩:=SP (lG tu au) b k;have X:=etM (tu:=tu) y;have d:(dF (lG tu au) b (k+1))=p7 (dF (lG tu au) b k) k (lG tu au k) (b k):=rfl;have B:=etD (b:=(b k));have Y:=Wb (b:=(b k));obtain⟨wm,yq,l⟩:∃wm yq,up (b k)=(wm,yq):=⟨_,_,rfl⟩;rw[l]at B Y;refine eI 2 E λw E=>?_;refine lK (λf w=>oW [(1,N iZ),(2,N aa),(3,N tZ),(4,N aF),(5,N t),(6,.int .u64 (((dF (lG tu au) b (k+1)).others:Nat):Int)),(13,m.instrs.v),(14,i6 au.length),(15,i6 k)] f/\U w0 [V t (Ef (dF (lG tu au) b (k+1)).S) 228,V aF (bP (dF (lG tu au) b (k+1)).S) 227,V tZ (O.enc (sD.mk 0 0 (dF (lG tu au) b (k+1)).dJ)) 51,V aa (O.enc (sD.mk 0 0 0)) 51,V iZ (O.enc m) 46] w) ?_ ?_
     .
       refine eI 5 E ⟨⟨by omega⟩,λ_ w E=>?_⟩;have:=lC y;refine ew 3 E λnX w E=>?_;refine oA (iV E rfl rfl es (by first|rfl|exact O.eT _) (tA es λw E=>?_));refine ew 6 E λw E=>?_;refine ej 0 E (etV ((T k y).ei E.J) (P.ei E.J)) λw E=>?_;rw[l];refine ew 12 E λw E=>?_;refine ej 0 E (etJ (Q.ei E.J)) λw E=>?_;rw[<-X];refine ew 4 E<|na 0 0 (λC Z w E=>?_) (λC Z w E=>?_)
       .
         have D:lG tu au k=false:=by simpa using C
         rw[D,etF]at d;refine eI 8 E ⟨iA,λw E=>?_⟩;rw[d];exact⟨⟨rfl,rfl,rfl,rfl,rfl,rfl,rfl,rfl,rfl,trivial⟩,E.sub aI⟩
       .
         have D:lG tu au k=true:=by simpa using C
         rw[D]at d;refine eI 8 E<|om 0 0 (λaJ w E=>?_) (λaJ w E=>?_)
         .
           rw[etP (by omega)]at d;refine eI 4 E λw E=>?_;rw[d];exact⟨⟨rfl,rfl,rfl,rfl,rfl,rfl,rfl,rfl,rfl,trivial⟩,E.sub aI⟩
         .
           have F:¬0<=(dF (lG tu au) b k).dJ:=by omega
           refine eI 5 E λw E=>?_;cases L:(decide (wm<(0:Int)))with
           |true=>
            refine ew 7 E<|na 0 0 (λ_ G w E=>?_) (λo G w E=>?_)
            .
              rw[Wv F l (.inl (of_decide_eq_true L))]at d;refine eI 8 E λw E=>?_;rw[d];exact⟨⟨rfl,rfl,rfl,rfl,rfl,rfl,rfl,rfl,rfl,trivial⟩,E.sub aI⟩
            .
              simp at o
           |false=>
            refine ew 1 E λw E=>?_;have ee8:=of_decide_eq_false L;obtain⟨fm,rfl⟩:∃fm:Nat,wm=(fm:Int):=⟨wm.toNat,by omega⟩;have H:fm<2:=by omega
            refine sk 45 rfl rfl rfl (ea (ph rfl rfl (by omega) ?_));refine ag 4 E (hT λw E=>E.aV es (Wk (dF (lG tu au) b k).S H))<|na 0 0 (λo G w E=>?_) (λo G w E=>?_)
            .
              rw[Wv F l (.inr (by simpa using o))]at d;refine eI 8 E λw E=>?_;rw[d];exact⟨⟨rfl,rfl,rfl,rfl,rfl,rfl,rfl,rfl,rfl,trivial⟩,E.sub aI⟩
            .
              rw[etG F l (by simpa using o)]at d;refine eI 4 E λw E=>?_;refine ea (ph rfl rfl (by omega) (oA (iU (v:=.int .u64 ((yq:Nat):Int)) (eo:=1) (iR:=bP (λj=>if j=fm then some yq else(dF (lG tu au) b k).S j)) E rfl rfl es rfl (by show 0+fm*1+1<=2;omega) (o0 _ _) (Wx (dF (lG tu au) b k).S H) (tA es λw E=>(ea (ph rfl rfl (by omega) (oA (iU (v:=.bool true) (eo:=1) (iR:=Ef (λj=>if j=fm then some yq else(dF (lG tu au) b k).S j)) E rfl rfl es rfl (by show 0+fm*1+1<=2;omega) (O.one true) (etB (dF (lG tu au) b k).S H) (tA es λw E=>(ew 4 E λw E=>?_))))))))));rw[d];exact⟨⟨rfl,rfl,rfl,rfl,rfl,rfl,rfl,rfl,rfl,trivial⟩,E.sub aI⟩
     .
       rintro f w ⟨e,E⟩;refine io _ e (λg=>?_);clear e;refine eI 5 E ⟨iA,λw E=>?_⟩;exact⟨au.length-(k+1),by omega,k+1,⟨rfl,rfl,rfl,rfl,rfl,rfl,rfl,rfl,congrArg (Value.int .i64) (by omega),trivial⟩,E,by omega,rfl⟩
   .
     obtain rfl:k=au.length:=by omega
     have z:=DQ (lG tu au) b au.length;obtain⟨K,A⟩:=SP (lG tu au) b au.length;generalize(dF (lG tu au) b au.length)=s at*;refine eI 5 E λw E=>?_;refine lK (λf w=>∃a:Nat->Option Nat,oW [(2,N aa),(3,N tZ),(4,N aF)] f/\U w0 [V aF (bP a) 227,V tZ (O.enc (sD.mk 0 0 s.dJ)) 51,V aa (O.enc (sD.mk 0 0 0)) 51] w/\(a 0).getD 0=(s.S 0).getD (s.others*200000)/\(a 1).getD 0=(s.S 1).getD 0/\(a 0).getD 0<18446744073709551616/\(a 1).getD 0<18446744073709551616) ?_ ?_
     .
       refine eI 2 E λw E=>?_;have eM:∀j,(s.S j).getD 0<18446744073709551616:=by
        intro j;cases p:s.S j with
        |none=>decide
        |some n=>exact K j n p
       have h9:=eM 0;have M:=eM 1;have fH:∀x:Nat,(!(s.S 0).isSome)=true->x=(s.S 0).getD x:=by
        intro x h;cases p:s.S 0 with
        |none=>rfl
        |some n=>rw[p]at h;cases h
       have SW:(!(s.S 0).isSome)=false->(s.S 0).getD 0=(s.S 0).getD (s.others*200000):=by
        intro h;cases p:s.S 0 with
        |none=>rw[p]at h;cases h
        |some n=>rfl
       refine ew 1 E λw E=>?_;refine ag 3 E (hT λw E=>E.aV es (Wk s.S (k:=0) (by decide))) λw E=>?_;refine ex.cond _ rfl (λr=>?_) (λr=>?_)
       .
         have I:=r
         try simp only[rs]at r
         refine eI 4 E ⟨iA,λw E=>?_⟩;exact oA (iU (v:=.int .u64 ((s.others*200000:Nat):Int)) (eo:=1) (iR:=bP (λj=>if j=0 then some (s.others*200000)else s.S j)) E rfl rfl es rfl (by show 0+0*1+1<=2;decide) (o0 _ _) (Wx s.S (k:=0) (by decide)) (tA es λw E=>(ew 2 E λw E=>(⟨λj=>if j=0 then some (s.others*200000)else s.S j,⟨rfl,rfl,rfl,trivial⟩,E.sub aI,fH _ I,rfl,(show s.others*200000<18446744073709551616 by omega),M⟩))))
       .
         have I:=r
         try simp only[rs]at r
         refine eI 2 E λw E=>?_;exact⟨s.S,⟨rfl,rfl,rfl,trivial⟩,E.sub aI,SW I,rfl,h9,M⟩
     .
       rintro f w ⟨a,e,E,Ew,vD,fP,wN⟩;refine io _ e (λg=>?_);clear e;refine eI 1 E λw E=>?_;refine vz 8 (e5 [0,1,2,3,4,5] (.one 6 (.look 7 (.one 8 .nil)))) (by kernel_rfl) (λ_ _ _ h=>h) (λaM iS=>?_);replace E:=E.ei iS;have tI:=E;refine⟨λw=>∃u:Nat,U w0 [V aF (bP a) 227,V tZ (O.enc (sD.mk u 0 s.dJ)) 51,V aa (O.enc (sD.mk 0 0 0)) 51] w,⟨0,E⟩,?_⟩;refine e3.look rfl rfl rfl (λw c=>(by obtain⟨u,E⟩:=c;exact ph rfl rfl (by omega) ⟨rfl,rfl⟩)) ?_;refine e3.look rfl rfl rfl (λw c=>(by obtain⟨u,E⟩:=c;exact ap rfl (E.aV es (show(bP a)[0+0*1]? =some _ from rfl)) ⟨rfl,rfl⟩)) ?_;refine e3.look rfl rfl rfl (λw c=>(by obtain⟨u,E⟩:=c;exact HH rfl rfl (show(if((1400000:Int))<(((a 0).getD 0:Nat):Int)then(1400000:Int)else(((a 0).getD 0:Nat):Int))=((min ((a 0).getD 0) 1400000:Nat):Int)from by split<;>omega) ⟨rfl,rfl⟩)) ?_;refine e3.look rfl rfl rfl (λw c=>(by obtain⟨u,E⟩:=c;exact ph rfl rfl (by omega) ⟨rfl,rfl⟩)) ?_;refine e3.look rfl rfl rfl (λw c=>(by obtain⟨u,E⟩:=c;exact ap rfl (E.aV es (show(bP a)[0+1*1]? =some _ from rfl)) ⟨rfl,rfl⟩)) ?_;refine e3.look rfl rfl rfl (λw c=>(by obtain⟨u,E⟩:=c;exact o9 rfl ⟨rfl,rfl⟩)) ?_;refine n5 rfl rfl (iU (v:=.int .u64 ((min ((a 0).getD 0) 1400000:Nat):Int)) (eo:=1) (iR:=O.enc (sD.mk (min ((a 0).getD 0) 1400000) 0 s.dJ)) E rfl rfl es rfl (by rw[O.eT];decide) (o0 _ _) (ZF (sD.mk 0 0 s.dJ) _) (tA es λw E=>?_));refine⟨⟨min ((a 0).getD 0) 1400000,E⟩,?_⟩;refine e3.look rfl rfl rfl (λw c=>(by obtain⟨u,E⟩:=c;exact o9 rfl ⟨rfl,rfl⟩)) ?_;refine nP rfl (iU (v:=.int .u64 (((a 1).getD 0:Nat):Int)) (eo:=1) (iR:=O.enc (sD.mk (min ((a 0).getD 0) 1400000) ((a 1).getD 0) s.dJ)) E rfl rfl es rfl (by rw[O.eT];decide) (o0 _ _) (ZP (sD.mk (min ((a 0).getD 0) 1400000) 0 s.dJ) _) (tA es λw E=>(e3.nil (s4 9 E λw E=>?_))));refine⟨?_,E.J⟩;rw[Ew,vD];rfl
end
section
open Go.Proofs Tryz
variable{S:List eL}{a ix:List UInt8}{k p r:Nat}{l xs ys:List av}{v fl Ey lr:Value}{w w' w0 en:World}{oL:Option Nat}
structure pb where
 of:Option Nat
variable{x:pb}
def pb.parts(x:pb):List (Array Value):=[#[.map x.of]]
theorem eig(x:pb):x.parts.map Array.size=[1]:=by
 simp only[pb.parts,List.map,O.eT];rfl
instance:O pb where
 enc x:=eK x.parts
 eo:=1
 pos:=by omega
 eT x:=by rw[iw,eig];rfl
 one x:=rY (all_cons (q9 _) rB)
instance(priority:=2000):nt (⟨oL⟩:pb) [#[.map oL]]:=⟨rfl⟩
structure ca where
 r:Nat
 eS:List (av×(Value×List av))
variable{d:ca}
def Rt:Value×List av:=(eF,[])
def ca.find(d:ca)(k:av):Option (List av):=(tR k d.eS).map Prod.snd
def eiw(d:ca):Prop:=∀k l,d.find k=some l->1<=l.length/\l.length<=256
@[irreducible] def qc (p:Nat) (d:ca):eL:=hD ([V p (O.enc (pb.mk (some d.r))) 127,tW d.r Prod.fst d.eS]++pl 60 d.eS)
theorem U.eiy(d:ca)(h:U w0 (V p (O.enc (pb.mk (some d.r))) 127::tW d.r Prod.fst d.eS::(pl 60 d.eS++S)) w):U w0 (qc p d::S) w:=by
 unfold qc;exact U.closed (l:=[V p (O.enc (pb.mk (some d.r))) 127,tW d.r Prod.fst d.eS]++pl 60 d.eS) h
def Ra(w:World)(p:Nat)(d:ca):Prop:=ar w (N p) (O.enc (pb.mk (some d.r)))/\hV w d.r Prod.fst d.eS/\∀k x,tR k d.eS=some x->ev w x.1 x.2
theorem U.eib(h:U w0 S w)(a:tX (qc p d) S):Ra w p d:=by
 have G:=h.get a;unfold qc at G;rw[pK]at G;refine⟨?_,?_,λk x b=>?_⟩
 .have:=G.2 (V p (O.enc (pb.mk (some d.r))) 127) (by simp);unfold V at this;exact ar.dV this
 .have:=G.2 (tW d.r Prod.fst d.eS) (by simp);rw[mN]at this;exact this
 have Y:(k,x)∈d.eS:=(Lc b).mem_iff.2 List.mem_cons_self;have:=G.2 (B x.1 60 x.2) (List.mem_append_right _ (List.mem_map_of_mem (f:=λp:av×(Value×List av)=>B p.2.1 60 p.2.2) Y));rw[dv]at this;exact this.ef
def pick(l:List av):List UInt8->Option (List av)
 |[]=>some []
 |i::r=>match l[i.toNat]?,pick l r with
  |some k,some t=>some (k::t)
  |_,_=>none
theorem Ro(l:List av):∀a b:List UInt8,pick l (a++b)=match pick l a,pick l b with|some x,some y=>some (x++y)|_,_=>none
 |[],b=>by simp only[List.nil_append,pick];cases pick l b<;>rfl
 |i::r,b=>by
  simp only[List.cons_append,pick,Ro l r b];cases l[i.toNat]? <;>cases pick l r<;>cases pick l b<;>rfl
theorem Ri(l:List av):∀(a:List UInt8)(x:List av),pick l a=some x->x.length=a.length
 |[],x,h=>by simp[pick]at h;subst h;rfl
 |i::r,x,h=>by
  simp only[pick]at h;cases G:l[i.toNat]? with
  |none=>simp[G]at h
  |some k=>
   cases Y:pick l r with
   |none=>simp[G,Y]at h
   |some t=>simp[G,Y]at h;subst h;simp[Ri l r t Y]
theorem eiv(b:k<a.length)(h:pick l (a.take k)=some ys)(c:a[k].toNat<l.length):pick l (a.take (k+1))=some (ys++[l[a[k].toNat]]):=by
 rw[List.take_succ_eq_append_getElem b,Ro,h];simp[pick,c]
theorem eik(b:k<a.length)(d:¬a[k].toNat<l.length):pick l a=none:=by
 have e:a=a.take (k+1)++a.drop (k+1):=(List.take_append_drop _ _).symm;have c:pick l (a.take (k+1))=none:=by
  rw[List.take_succ_eq_append_getElem b,Ro];have:l[a[k].toNat]? =none:=List.getElem?_eq_none (by omega);cases pick l (a.take k)<;>simp[pick,this]
 rw[e,Ro,c]
structure ge where
 table:av
 ws:List UInt8
 aw:List UInt8
inductive eix where
 |ok (a b:List av)
 |g6 (e:Int)
def cX(find:av->Option (List av)):List ge->eix
 |[]=>.ok [] []
 |x::r=>match find x.table with
  |none=>.g6 11
  |some l=>match pick l x.ws,pick l x.aw with
   |some a,some b=>match cX find r with
    | .ok c e=>.ok (a++c) (b++e)
    | .g6 e=>.g6 e
   |_,_=>.g6 8
theorem Rn(find:av->Option (List av)):∀a b:List ge,cX find (a++b)=match cX find a with| .g6 e=>.g6 e| .ok x y=>match cX find b with| .g6 e=>.g6 e| .ok z u=>.ok (x++z) (y++u)
 |[],b=>by simp only[List.nil_append,cX];cases cX find b<;>rfl
 |x::r,b=>by
  simp only[List.cons_append,cX];cases find x.table with
  |none=>rfl
  |some l=>
   simp only;cases pick l x.ws<;>cases pick l x.aw<;>simp only;rw[Rn find r b];cases cX find r<;>simp only;cases cX find b<;>simp[List.append_assoc]
def ga(l:List ge):Nat:=(l.map λx=>x.ws.length+x.aw.length).sum
theorem Yh(a b:List ge):ga (a++b)=ga a+ga b:=by simp[ga]
theorem eij{l:List ge}:ga (l.take k)<=ga l:=by
 have:=Yh (l.take k) (l.drop k);rw[List.take_append_drop]at this;omega
theorem eiq{l:List ge}(a:k<l.length):ga (l.take (k+1))=ga (l.take k)+(l[k].ws.length+l[k].aw.length):=by
 rw[List.take_succ_eq_append_getElem a,Yh];simp[ga]
theorem Yl(find:av->Option (List av)):∀(l:List ge)(a b:List av),cX find l= .ok a b->a.length+b.length<=ga l
 |[],a,b,h=>by simp[cX]at h;obtain⟨rfl,rfl⟩:=h;simp
 |x::r,a,b,h=>by
  simp only[cX]at h;cases G:find x.table with
  |none=>simp[G]at h
  |some l=>
   cases Y:pick l x.ws with
   |none=>simp[G,Y]at h
   |some y=>
    cases ez:pick l x.aw with
    |none=>simp[G,Y,ez]at h
    |some z=>
     cases e6:cX find r with
     |g6 e=>simp[G,Y,ez,e6]at h
     |ok c e=>
      simp[G,Y,ez,e6]at h;obtain⟨rfl,rfl⟩:=h;have:=Yl find r c e e6;have iG:=Ri _ _ _ Y;have iY:=Ri _ _ _ ez;simp[ga]at this⊢;omega
def g7(w:World):List iW->List ge->Prop
 |[],[]=>True
 |x::xs,m::lz=>(x.table=m.table/\ev w x.iO.v m.ws/\ev w x.p3.v m.aw)/\g7 w xs lz
 |_,_=>False
theorem g7.ei{w w':World}(a:eB w w'):∀{xs:List iW}{lz:List ge},g7 w xs lz->g7 w' xs lz
 |[],[],_=>trivial
 |x::xs,m::lz,h=>⟨⟨h.1.1,h.1.2.1.ei a,h.1.2.2.ei a⟩,g7.ei a h.2⟩
 |[],_::_,h=>h.elim
 |_::_,[],h=>h.elim
theorem g7.len{w:World}:∀{xs:List iW}{lz:List ge},g7 w xs lz->lz.length=xs.length
 |[],[],_=>rfl
 |x::xs,m::lz,h=>by simp[g7.len h.2]
 |[],_::_,h=>h.elim
 |_::_,[],h=>h.elim
theorem g7.at{w:World}:∀{xs:List iW}{lz:List ge}{i:Nat}(_:g7 w xs lz)(ey:i<xs.length)(th:i<lz.length),(xs[i]'ey).table=(lz[i]'th).table/\ev w (xs[i]'ey).iO.v (lz[i]'th).ws/\ev w (xs[i]'ey).p3.v (lz[i]'th).aw
 |x::xs,m::lz,0,h,_,_=>h.1
 |x::xs,m::lz,i+1,h,ey,th=>g7.at (xs:=xs) (lz:=lz) (i:=i) h.2 (by simpa using ey) (by simpa using th)
def Yd(find:av->Option (List av))(t8:List ge)(e:Int)(a b:List av):Prop:=(cX find t8= .ok a b/\e=0)∨(cX find t8= .g6 e/\e≠0/\a=[]/\b=[])
theorem CI(a:ar w0 (N p) (O.enc (pb.mk (some r)))):tN 81 #[N p] w0 (.bool true):=by
 have:=iu a;refine eH 21 (eG _) func81 ntmps81 results81 rfl λw E=>?_;exact⟨rfl,E.J⟩
theorem eiz:eJ 9 #[] w0 (λu w'=>∃p d,u=N p/\(∀k,d.find k=none)/\jv w0 w' (qc p d)/\eB w0 w'):=by
 refine eH 7 (eG _) func9 ntmps9 results9 rfl λw E=>?_;refine ea (Z.makeMap av (Prod.fst:Value×List av->Value) E ?_);intro tD w _ E;refine ag 6 E (p0 ((pb.mk (some tD)):pb)) λtZ w E=>?_;exact⟨tZ,⟨tD,[]⟩,rfl,λk=>rfl,(E.eiy (S:=[]) ⟨tD,[]⟩).zn .nU,E.J⟩
theorem eiE(a:ev w0 v l)(eM:l.length<=100000):eJ 82 #[v] w0 (λu w'=>sN w0 w' u 60 l/\eB w0 w'):=by
 have:=aS a;refine eH 9 (eG _) func82 ntmps82 results82 rfl λw E=>?_;refine ea (lj (α:=Vector UInt8 32) (n:=l.length) (oc 32) (by rw[nn];rfl) E rfl rfl (by omega) (by simp only[maxLen];omega) ?_);intro b w _ E;refine ew 7 E λw E=>?_;exact ea (jk (ys:=l) E es rfl (a.ei E.J) (by simp) (tA es λw E=>(ew 10 E λw E=>(⟨E.ut es,E.J⟩))))
theorem Yc(n:U en (B lr 60 xs::S) w0)(eM:∀w,U en S w->ev w Ey l)(ep:∀w,U en S w->ev w fl ix)(v:xs.length+ix.length<=100000):eJ 88 #[lr,Ey,fl] w0 (λu w'=>∃d b e,u= .tuple #[d,.bool b]/\U en (B d 60 e::S) w'/\((∃ys,pick l ix=some ys/\b=true/\e=xs++ys)∨(pick l ix=none/\b=false/\d=eF/\e=[]))):=by
 refine eH 10 n func88 ntmps88 results88 rfl λw E=>?_;refine ea (Z.hL rfl ((ep _ E.nF)) (ew 4 E λw E=>?_));refine ex.loop (λq f w=>∃(k:Nat)(a:Value)(ys:List av),oW [(0,a),(1,Ey),(10,fl),(11,i6 ix.length),(12,i6 k)] f/\U en (B a 60 (xs++ys)::S) w/\pick l (ix.take k)=some ys/\k<=ix.length/\q=ix.length-k) (ix.length) ?_ ?_
 .
   exact⟨0,lr,[],⟨rfl,rfl,rfl,rfl,rfl,trivial⟩,by rw[List.append_nil];exact E,rfl,Nat.zero_le _,rfl⟩
 .
   rintro q f w ⟨k,a,ys,j,E,c,x,th⟩;refine io _ j (λg=>?_);clear j;refine eI 6 E<|om 0 14 (λo w E=>?_) (λo w E=>?_)
   .
     have h:k<ix.length:=by omega
     have i:=Ri _ _ _ c;simp only[List.length_take]at i;have p:=wj ix[k];refine eI 6 E λw E=>?_;refine ea (nL rfl ((ep _ E.nF)) rfl (by omega) ?_);refine ea (ap rfl (((ep _ E.nF).se h).ax rfl) ?_);refine ew 7 E λw E=>?_;refine ea (Z.conv rfl (wrap_i64 (by omega)) ?_);refine ew 1 E λw E=>?_;refine ea (Z.hL rfl ((eM _ E.nF)) ?_);refine ew 3 E<|om 14 0 (λr w E=>?_) (λr w E=>?_)
     .
       exact⟨_,_,[],rfl,E.nF.lD _,.inr ⟨eik h (by omega),rfl,rfl,rfl⟩⟩
     .
       have m:ix[k].toNat<l.length:=by omega
       refine eI 6 E λw E=>?_;refine ea (nL rfl ((eM _ E.nF)) rfl (by omega) ?_);refine ag 0 E (hT λw E=>((eM _ E.nF).se m).nZ (O.eT l[ix[k].toNat])) λw E=>?_;refine ea (n4 E (([l[ix[k].toNat]]:List av)) [.agg (O.enc l[ix[k].toNat])] rfl rfl rfl rfl (by decide) ?_);intro y w z E;refine ea (dS (α:=Vector UInt8 32) rfl E rfl es (E.ef es) (by simp only[List.length_append,List.length_cons,List.length_nil];omega) (by simp only[maxLen];simp only[List.length_append,List.length_cons,List.length_nil];omega) ?_);intro s w E;replace E:=E _ es;refine ew 9 E ⟨iA,λw E=>?_⟩;rw[List.append_assoc]at E;exact⟨ix.length-(k+1),by omega,k+1,s,_,⟨rfl,rfl,rfl,rfl,congrArg (Value.int .i64) (by omega),trivial⟩,E.sub aI,eiv h c m,by omega,rfl⟩
   .
     have t:k=ix.length:=by omega
     rw[t,List.take_length]at c;exact⟨a,true,_,rfl,E,.inl ⟨ys,c,rfl,rfl⟩⟩
variable{k:av}{t8:List ge}{xs:List iW}
theorem eiA(ep:Ra w0 p d)(j:eiw d):eJ 26 #[N p,.agg (O.enc k)] w0 (λu w'=>∃v e l,u= .tuple #[v,.int .i64 e]/\((d.find k=some l/\e=0)∨(d.find k=none/\e=11/\l=[]))/\sN w0 w' v 60 l/\eB w0 w'):=by
 refine eH 11 (eG _) func26 ntmps26 results26 rfl λtZ w E=>?_;refine ej 3 E (CI (ep.1.ei E.J))<|na 0 3 (λm n w E=>?_) (λ_ n w E=>?_)
 .
   simp at m
 .
   refine nV 0 11 (e5 [0,1,2,3,4,5,6,7,8,9,10] .nil) [] E λw E=>?_;generalize b:(tR k d.eS).getD Rt=X;have:=iu ep.1;refine ao 5 E λw E=>?_;refine tw rfl (λw E=>zr (tl:=av) (tx:=Value×List av) (k:=k) (ti:=Prod.fst) (z0:=Rt) (u:=X) inferInstance (ep.2.1.ei E.J) rfl rfl b eY) (ao 14 E<|na 9 0 (λa o w E=>?_) (λa o w E=>?_))
   .
     have q:tR k d.eS=none:=by simpa using a
     exact⟨_,_,[],rfl,.inr ⟨by unfold ca.find;rw[q];rfl,rfl,rfl⟩,sN.nil _ _ _,E.J⟩
   .
     have c:(tR k d.eS).isSome=true:=by simpa using a
     have f:tR k d.eS=some X:=by
      rw[<-b];cases h:tR k d.eS with
      |none=>rw[h]at c;simp at c
      |some x=>rfl
     have g:d.find k=some X.2:=by unfold ca.find;rw[f];rfl
     have hlen:=j _ _ g;refine eI 5 E λw E=>?_;refine ea (Z.call (eiE ((ep.2.2 _ _ f).ei E.J) (by omega)) rfl ?_);rintro s w ⟨i,r⟩;replace E:=E.pD r i.1 i.2;refine ew 6 E λw E=>?_;exact⟨_,_,X.2,rfl,.inl ⟨g,rfl⟩,E.ut es,E.J⟩
theorem Ym(ep:Ra w0 p d)(F:ev w0 v xs)(o:g7 w0 xs t8)(er:ga t8<=50000):eJ 30 #[N p,v] w0 (λu w'=>∃ab cD e a b,u= .tuple #[ab,cD,.int .i64 e]/\U w0 [B ab 60 a,B cD 60 b] w'/\Yd d.find t8 e a b):=by
 refine eH 11 (eG _) func30 ntmps30 results30 rfl λw E=>?_;refine ej 3 E (CI (ep.1.ei E.J))<|have:=aS F;na 0 11 (λia tj w E=>?_) (λ_ tj w E=>?_)
 .
   simp at ia
 .
   refine ex.loop (λq f w=>∃(k:Nat)(j xD:Value)(W Rd:List av),oW [(0,N p),(4,j),(5,xD),(16,v),(17,i6 xs.length),(18,i6 k)] f/\U w0 [B j 60 W,B xD 60 Rd] w/\cX d.find (t8.take k)= .ok W Rd/\k<=xs.length/\q=xs.length-k) (xs.length) ?_ ?_
   .
     exact⟨0,_,_,[],[],⟨rfl,rfl,rfl,rfl,rfl,rfl,trivial⟩,(E.lD 60).lD 60,rfl,Nat.zero_le _,rfl⟩
   .
     rintro q f w ⟨k,j,xD,W,Rd,H,E,i,rU,th⟩;refine io _ H (λg=>?_);clear H;refine eI 6 E<|om 0 0 (λal w E=>?_) (λal w E=>?_)
     .
       have I:k<xs.length:=by omega
       have hlen:=o.len;have m:k<t8.length:=by omega
       obtain⟨K,lP,Wd⟩:=o.at I m;have nI:=F.le;simp only[maxLen]at nI;have r3:=eiq m;have oT:=eij (l:=t8) (k:=(k+1));have Od:=Yl _ _ _ _ i;refine eI 7 E ⟨⟨by omega⟩,λ_ w E=>?_⟩;have:=lC I;refine ew 2 E λnX w E=>?_;refine oA (iV E rfl rfl es (by first|rfl|exact O.eT _) (tA es λw E=>(ew 3 E ?_)));refine ow 0 12 (e5 [0,1,2,3,4,5,6,7,8,9,10,11] .nil) [] λw E=>?_;generalize L:(tR xs[k].table d.eS).getD Rt=X;have:=iu ep.1;refine ao 6 E λw E=>?_;refine tw rfl (λw E=>zr (tl:=av) (tx:=Value×List av) (k:=xs[k].table) (ti:=Prod.fst) (z0:=Rt) (u:=X) inferInstance (ep.2.1.ei E.J) rfl rfl L eY) (ao 14 E<|na 15 0 (λr aJ w E=>?_) (λr aJ w E=>?_))
       .
         have nA:tR xs[k].table d.eS=none:=by simpa using r
         refine⟨_,_,_,[],[],rfl,((E.sub (tg:=[]) (List.nil_sublist _)).lD 60).lD 60,.inr ⟨?_,by decide,rfl,rfl⟩⟩;rw[show t8=t8.take k++t8.drop k from(List.take_append_drop _ _).symm,Rn,i,List.drop_eq_getElem_cons m];simp only[cX];rw[<-K];unfold ca.find;rw[nA];rfl
       .
         have M:(tR xs[k].table d.eS).isSome=true:=by simpa using r
         have P:tR xs[k].table d.eS=some X:=by
          rw[<-L];cases h:tR xs[k].table d.eS with
          |none=>rw[h]at M;simp at M
          |some x=>rfl
         have Q:d.find t8[k].table=some X.2:=by rw[<-K];unfold ca.find;rw[P];rfl
         have R:=ep.2.2 _ _ P;refine eI 14 E λw E=>?_;refine ea (Z.call (Yc (E.pick es) (λw h=>R.ei h.J) (λw h=>lP.ei h.J) (by omega)) rfl ?_);rintro _ w ⟨v39,s,t,rfl,E,S⟩;refine ew 13 E λw E=>?_;refine ea (Z.call (Yc (E.pick es) (λw h=>R.ei h.J) (λw h=>Wd.ei h.J) (by omega)) rfl ?_);rintro _ w ⟨T,Yw,y,rfl,E,V⟩;refine ew 12 E λw E=>?_;refine tn.eV _ 52 _ rfl rfl rfl rfl (λCh=>di rfl ⟨rfl,eB.refl _⟩) (λw c=>?_);replace E:=E.ei c;refine tn.eV _ 52 _ rfl rfl rfl rfl (λz=>Z.not (by first|exact a7 rfl z|rfl) ⟨rfl,eB.refl _⟩) (λw c=>?_);replace E:=E.ei c;refine ea (m8 rfl rfl (by first|rfl) (ew 2 E<|na 14 0 (λn nl w E=>?_) (λn nl w E=>?_)))
         .
           refine⟨_,_,_,[],[],rfl,((E.sub (tg:=[]) (List.nil_sublist _)).lD 60).lD 60,.inr ⟨?_,by decide,rfl,rfl⟩⟩;rw[show t8=t8.take k++t8.drop k from(List.take_append_drop _ _).symm,Rn,i,List.drop_eq_getElem_cons m];simp only[cX];rw[Q];rcases S with⟨ys,G,rfl,rfl⟩|⟨G,rfl,_⟩
           .rcases V with⟨zs,Y,rfl,rfl⟩|⟨Y,rfl,_⟩
            .simp at n
            simp only[G,Y]
           simp only[G]
         .
           obtain⟨ys,G,rfl,rfl⟩:∃ys,pick X.2 t8[k].ws=some ys/\s=true/\t=W++ys:=by
            rcases S with h|⟨_,rfl,_⟩
            .exact h
            simp at n
           obtain⟨zs,Y,rfl,rfl⟩:∃zs,pick X.2 t8[k].aw=some zs/\Yw=true/\y=Rd++zs:=by
            rcases V with h|⟨_,rfl,_⟩
            .exact h
            simp at n
           have A:cX d.find (t8.take (k+1))= .ok (W++ys) (Rd++zs):=by
            rw[List.take_succ_eq_append_getElem m,Rn,i];simp only[cX];rw[Q];simp only[G,Y,List.append_nil]
           replace E:=(E.swap).sub (tg:=[B v39 60 (W++ys),B T 60 (Rd++zs)]) aI;refine eI 8 E ⟨iA,λw E=>?_⟩;exact⟨xs.length-(k+1),by omega,k+1,v39,T,_,_,⟨rfl,rfl,rfl,rfl,rfl,congrArg (Value.int .i64) (by omega),trivial⟩,E,A,by omega,rfl⟩
     .
       have dj:k=xs.length:=by omega
       rw[List.take_of_length_le (by rw[o.len];omega)]at i;refine eI 8 E λw E=>?_;refine ea (Z.call (DY (E.ef es)) rfl ?_);rintro eyi w ⟨C,c⟩;replace E:=E.ei c;refine ew 1 E λw E=>?_;refine ea (Z.call (DY (E.ef es)) rfl ?_);rintro eyn w ⟨D,c⟩;replace E:=E.ei c;refine ew 7 E λw E=>?_;subst C;subst D;replace E:=E.bL (tg:=[B (nT j 0 W.length W.length (O.eo (Vector UInt8 32))) 60 W,B xD 60 Rd]) .nU;replace E:=E.bL (tg:=[B (nT j 0 W.length W.length (O.eo (Vector UInt8 32))) 60 W,B (nT xD 0 Rd.length Rd.length (O.eo (Vector UInt8 32))) 60 Rd]) (.ee .nU);exact⟨_,_,_,W,Rd,rfl,E,.inl ⟨i,rfl⟩⟩
end
end Go.Fer
