import Derived.Test.YtncdhadaifhleaaGreatDoorF5
set_option linter.all false
set_option synthInstance.maxSize 100000
set_option synthInstance.maxHeartbeats 400000
set_option maxHeartbeats 8000000
set_option maxRecDepth 100000
namespace Go.Fer
open Go Go.RowKit
section
open Go.Proofs Tryz
variable{Ox aw ws xs:List UInt8}{all yj hF tu:Nat}{b:Bool}{c:iW}{cs:List (Vector UInt8 32×List UInt8×List UInt8)}{hs v:Value}{i:UInt8}{is:List Instr}{rh l:List av}{eS:List (av×Int)}{t8:List iW}{da:List (UInt8×List UInt8×List UInt8)}{tk:List hO}{w0:World}{x:oF}{y:nD}
theorem eoK{xs:List iW}(p:Nat->Bool)(c:ev w0 v xs)(i:∀w,eB w0 w->∀k(h:k<xs.length),mH prog hs [.agg (O.enc xs[k])] w (λu w'=>u= .bool (p k)/\eB w w')):eJ 303 #[v,hs] w0 (λu w'=>∃n:Int,u= .int .i64 n/\decide (0<=n)=(List.range xs.length).any p/\eB w0 w'):=by
 have:=aS c;refine eH 14 (eG _) func303 ntmps303 results303 rfl λw E=>?_;refine ex.loop (λq f w=>∃k:Nat,oW [(0,v),(1,hs),(7,i6 xs.length),(8,i6 k)] f/\U w0 [] w/\(∀j,j<k->p j=false)/\k<=xs.length/\q=xs.length-k) (xs.length) ?_ ?_
 .
   exact⟨0,⟨rfl,rfl,rfl,rfl,trivial⟩,E,λj h=>absurd h (by omega),Nat.zero_le _,rfl⟩
 .
   rintro q f w ⟨k,d,E,e,t,th⟩;refine io _ d (λg=>?_);clear d;refine eI 6 E<|om 0 12 (λl w E=>?_) (λl w E=>?_)
   .
     have a:k<xs.length:=by omega
     have m:=c.le;simp only[maxLen]at m;refine eI 16 E ⟨⟨by omega⟩,λ_ w E=>?_⟩;have:=lC a;refine ew 1 E λw E=>?_;refine ea (bw rfl (i _ E.J k a) rfl ?_);rintro _ w ⟨rfl,o⟩;replace E:=E.ei o;refine ew 2 E<|na 13 8 (λb r w E=>?_) (λb r=>⟨iA,λw E=>?_⟩)
     .
       exact⟨_,rfl,by rw[List.any_eq_true.2 ⟨k,List.mem_range.2 a,b⟩];exact decide_eq_true (by omega),E.J⟩
     .
       exact⟨xs.length-(k+1),by omega,k+1,⟨rfl,rfl,rfl,congrArg (Value.int .i64) (by omega),trivial⟩,E,λj Y=>(by rcases Nat.lt_or_ge j k with h|h;exact e j h;obtain rfl:j=k:=(by omega);exact b),by omega,rfl⟩
   .
     refine⟨_,rfl,?_,E.J⟩;rw[List.any_eq_false.2 (λj s=>by have:=List.mem_range.1 s;rw[e j (by omega)];decide)];rfl
theorem eoX{xs:List iW}(p:Nat->Bool)(a:ev w0 v xs)(b:∀w,eB w0 w->∀k(h:k<xs.length),mH prog hs [.agg (O.enc xs[k])] w (λu w'=>u= .bool (p k)/\eB w w')):tN 230 #[v,hs] w0 (.bool ((List.range xs.length).any p)):=by
 refine eH 9 (eG _) func230 ntmps230 results230 rfl λw E=>?_;refine ej 6 E (eoK p (a.ei E.J) (λw h=>b w (E.J.trans h))) λn c w E=>?_;exact⟨congrArg Value.bool c,E.J⟩
theorem eoJ{xs:List Instr}(p:Nat->Bool)(c:ev w0 v xs)(i:∀w,eB w0 w->∀k(h:k<xs.length),mH prog hs [.agg (O.enc xs[k])] w (λu w'=>u= .bool (p k)/\eB w w')):eJ 304 #[v,hs] w0 (λu w'=>∃n:Int,u= .int .i64 n/\decide (0<=n)=(List.range xs.length).any p/\eB w0 w'):=by
 have:=aS c;refine eH 14 (eG _) func304 ntmps304 results304 rfl λw E=>?_;refine ex.loop (λq f w=>∃k:Nat,oW [(0,v),(1,hs),(7,i6 xs.length),(8,i6 k)] f/\U w0 [] w/\(∀j,j<k->p j=false)/\k<=xs.length/\q=xs.length-k) (xs.length) ?_ ?_
 .
   exact⟨0,⟨rfl,rfl,rfl,rfl,trivial⟩,E,λj h=>absurd h (by omega),Nat.zero_le _,rfl⟩
 .
   rintro q f w ⟨k,d,E,e,t,th⟩;refine io _ d (λg=>?_);clear d;refine eI 6 E<|om 0 12 (λl w E=>?_) (λl w E=>?_)
   .
     have a:k<xs.length:=by omega
     have m:=c.le;simp only[maxLen]at m;refine eI 16 E ⟨⟨by omega⟩,λ_ w E=>?_⟩;have:=lC a;refine ew 1 E λw E=>?_;refine ea (bw rfl (i _ E.J k a) rfl ?_);rintro _ w ⟨rfl,o⟩;replace E:=E.ei o;refine ew 2 E<|na 13 8 (λb r w E=>?_) (λb r=>⟨iA,λw E=>?_⟩)
     .
       exact⟨_,rfl,by rw[List.any_eq_true.2 ⟨k,List.mem_range.2 a,b⟩];exact decide_eq_true (by omega),E.J⟩
     .
       exact⟨xs.length-(k+1),by omega,k+1,⟨rfl,rfl,rfl,congrArg (Value.int .i64) (by omega),trivial⟩,E,λj Y=>(by rcases Nat.lt_or_ge j k with h|h;exact e j h;obtain rfl:j=k:=(by omega);exact b),by omega,rfl⟩
   .
     refine⟨_,rfl,?_,E.J⟩;rw[List.any_eq_false.2 (λj s=>by have:=List.mem_range.1 s;rw[e j (by omega)];decide)];rfl
theorem eoQ{xs:List Instr}(p:Nat->Bool)(a:ev w0 v xs)(b:∀w,eB w0 w->∀k(h:k<xs.length),mH prog hs [.agg (O.enc xs[k])] w (λu w'=>u= .bool (p k)/\eB w w')):tN 233 #[v,hs] w0 (.bool ((List.range xs.length).any p)):=by
 refine eH 9 (eG _) func233 ntmps233 results233 rfl λw E=>?_;refine ej 6 E (eoJ p (a.ei E.J) (λw h=>b w (E.J.trans h))) λn c w E=>?_;exact⟨congrArg Value.bool c,E.J⟩
theorem eoZ(p:Nat->Bool)(c:ev w0 v xs)(i:∀w,eB w0 w->∀k(h:k<xs.length),mH prog hs [.int .u8 (xs[k].toNat:Int)] w (λu w'=>u= .bool (p k)/\eB w w')):eJ 305 #[v,hs] w0 (λu w'=>∃n:Int,u= .int .i64 n/\decide (0<=n)=(List.range xs.length).any p/\eB w0 w'):=by
 have:=aS c;refine eH 14 (eG _) func305 ntmps305 results305 rfl λw E=>?_;refine ex.loop (λq f w=>∃k:Nat,oW [(0,v),(1,hs),(7,i6 xs.length),(8,i6 k)] f/\U w0 [] w/\(∀j,j<k->p j=false)/\k<=xs.length/\q=xs.length-k) (xs.length) ?_ ?_
 .
   exact⟨0,⟨rfl,rfl,rfl,rfl,trivial⟩,E,λj h=>absurd h (by omega),Nat.zero_le _,rfl⟩
 .
   rintro q f w ⟨k,d,E,e,t,th⟩;refine io _ d (λg=>?_);clear d;refine eI 6 E<|om 0 12 (λl w E=>?_) (λl w E=>?_)
   .
     have a:k<xs.length:=by omega
     have m:=c.le;simp only[maxLen]at m;refine eI 16 E ⟨⟨by omega⟩,λ_ w E=>?_⟩;have:=lC a;refine ew 1 E λw E=>?_;refine ea (bw rfl (i _ E.J k a) rfl ?_);rintro _ w ⟨rfl,o⟩;replace E:=E.ei o;refine ew 2 E<|na 13 8 (λb r w E=>?_) (λb r=>⟨iA,λw E=>?_⟩)
     .
       exact⟨_,rfl,by rw[List.any_eq_true.2 ⟨k,List.mem_range.2 a,b⟩];exact decide_eq_true (by omega),E.J⟩
     .
       exact⟨xs.length-(k+1),by omega,k+1,⟨rfl,rfl,rfl,congrArg (Value.int .i64) (by omega),trivial⟩,E,λj Y=>(by rcases Nat.lt_or_ge j k with h|h;exact e j h;obtain rfl:j=k:=(by omega);exact b),by omega,rfl⟩
   .
     refine⟨_,rfl,?_,E.J⟩;rw[List.any_eq_false.2 (λj s=>by have:=List.mem_range.1 s;rw[e j (by omega)];decide)];rfl
theorem eo0(p:Nat->Bool)(a:ev w0 v xs)(b:∀w,eB w0 w->∀k(h:k<xs.length),mH prog hs [.int .u8 (xs[k].toNat:Int)] w (λu w'=>u= .bool (p k)/\eB w w')):tN 236 #[v,hs] w0 (.bool ((List.range xs.length).any p)):=by
 refine eH 9 (eG _) func236 ntmps236 results236 rfl λw E=>?_;refine ej 6 E (eoZ p (a.ei E.J) (λw h=>b w (E.J.trans h))) λn c w E=>?_;exact⟨congrArg Value.bool c,E.J⟩
theorem eo1(d:ev w0 x.sigs.v tk):tN 160 #[.agg (O.enc x)] w0 (.bool ((decide (0<(x.m.ii.rf.toNat:Int)))&&(decide ((tk.length:Int)=(x.m.ii.rf.toNat:Int))))):=by
 have f:=x.m.ii.rf.toNat_lt;have g:=d.le;refine eH 0 (eG _) func160 ntmps160 results160 rfl λw E=>?_;simp only[maxLen]at g;refine eI 14 E λiZ w E=>?_;refine tn.eV _ 8 _ rfl rfl rfl rfl (λt=>o9 (b:=iZ) (o:=0) rfl ⟨rfl,eB.refl _⟩) (λw c=>?_);replace E:=E.ei c;refine tn.eV _ 8 _ rfl rfl rfl rfl (λh=>ap (v:=x.sigs.v) (by first|exact a7 rfl h|rfl) (E.aV .em (Du x)) ⟨rfl,eB.refl _⟩) (λw c=>?_);replace E:=E.ei c;refine tn.eV _ 8 _ rfl rfl rfl rfl (λl=>Z.hL (v:=x.sigs.v) (xs:=tk) (by first|exact a7 rfl l|rfl) (d.ei E.J) ⟨rfl,eB.refl _⟩) (λw c=>?_);replace E:=E.ei c;refine tn.eV _ 8 _ rfl rfl rfl rfl (λu=>o9 (b:=iZ) (o:=0) rfl ⟨rfl,eB.refl _⟩) (λw c=>?_);replace E:=E.ei c;refine tn.eV _ 8 _ rfl rfl rfl rfl (λp=>o9 (b:=iZ) (o:=1) (by first|exact a7 rfl p|rfl) ⟨rfl,eB.refl _⟩) (λw c=>?_);replace E:=E.ei c;refine tn.eV _ 8 _ rfl rfl rfl rfl (λq=>o9 (b:=iZ) (o:=2) (by first|exact a7 rfl q|rfl) ⟨rfl,eB.refl _⟩) (λw c=>?_);replace E:=E.ei c;refine tn.eV _ 8 _ rfl rfl rfl rfl (λr=>ap (v:=.int .u8 (x.m.ii.rf.toNat:Int)) (by first|exact a7 rfl r|rfl) (E.aV .em (vE (i:=1) (zV x) (vE (i:=0) (Ss x.m) (GI x.m.ii) (by decide)) (by decide))) ⟨rfl,eB.refl _⟩) (λw c=>?_);replace E:=E.ei c;refine tn.eV _ 8 _ rfl rfl rfl rfl (λs=>Z.conv (j:=.u8) (n:=(x.m.ii.rf.toNat:Int)) (by first|exact a7 rfl s|rfl) (wrap_i64 (by omega)) ⟨rfl,eB.refl _⟩) (λw c=>?_);replace E:=E.ei c;refine tn.eV _ 8 _ rfl rfl rfl rfl (λe=>Z.eql (k:=.i64) (a:=(tk.length:Int)) (b:=(x.m.ii.rf.toNat:Int)) (by first|exact a7 rfl e|rfl) (by first|exact a7 rfl e|rfl) ⟨rfl,eB.refl _⟩) (λw c=>?_);replace E:=E.ei c;exact ea (fN rfl (by first|rfl) rfl (ew 5 E λw E=>(⟨rfl,E.J⟩)))
theorem eo3(d:ev w0 x.m.tu.v rh):tN 161 #[.agg (O.enc x)] w0 (.bool ((decide ((x.m.ii.fV.toNat:Int)<(x.m.ii.rf.toNat:Int)))&&(decide (((x.m.ii.rf.toNat:Int)+(x.m.ii.uS.toNat:Int))<=(rh.length:Int))))):=by
 have g:=x.m.ii.rf.toNat_lt;have h:=x.m.ii.uS.toNat_lt;have l:=d.le;refine eH 0 (eG _) func161 ntmps161 results161 rfl λw E=>?_;simp only[maxLen]at l;refine eI 12 E λiZ tZ w E=>?_;refine oA (iV (r:=x.m.ii) E rfl rfl .em rfl (tA .em λw E=>(ew 10 E λw E=>(tn.eV _ 12 _ rfl rfl rfl rfl (λA=>o9 (b:=tZ) (o:=0) rfl ⟨rfl,eB.refl _⟩) (λw c=>?_)))));replace E:=E.ei c;refine tn.eV _ 12 _ rfl rfl rfl rfl (λp=>ap (v:=.int .u8 (x.m.ii.rf.toNat:Int)) (by first|exact a7 rfl p|rfl) (E.aV .em (GI x.m.ii)) ⟨rfl,eB.refl _⟩) (λw c=>?_);replace E:=E.ei c;refine tn.eV _ 12 _ rfl rfl rfl rfl (λq=>Z.conv (j:=.u8) (n:=(x.m.ii.rf.toNat:Int)) (by first|exact a7 rfl q|rfl) (wrap_i64 (by omega)) ⟨rfl,eB.refl _⟩) (λw c=>?_);replace E:=E.ei c;refine tn.eV _ 12 _ rfl rfl rfl rfl (λB=>o9 (b:=tZ) (o:=0) rfl ⟨rfl,eB.refl _⟩) (λw c=>?_);replace E:=E.ei c;refine tn.eV _ 12 _ rfl rfl rfl rfl (λs=>ap (v:=.int .u8 (x.m.ii.uS.toNat:Int)) (by first|exact a7 rfl s|rfl) (E.aV .em (ZT x.m.ii)) ⟨rfl,eB.refl _⟩) (λw c=>?_);replace E:=E.ei c;refine tn.eV _ 12 _ rfl rfl rfl rfl (λt=>Z.conv (j:=.u8) (n:=(x.m.ii.uS.toNat:Int)) (by first|exact a7 rfl t|rfl) (wrap_i64 (by omega)) ⟨rfl,eB.refl _⟩) (λw c=>?_);replace E:=E.ei c;refine tn.eV _ 12 _ rfl rfl rfl rfl (λe=>Z.add (k:=.i64) (a:=(x.m.ii.rf.toNat:Int)) (b:=(x.m.ii.uS.toNat:Int)) (by first|exact a7 rfl e|rfl) (by first|exact a7 rfl e|rfl) (wrap_i64 (by omega)) ⟨rfl,eB.refl _⟩) (λw c=>?_);replace E:=E.ei c;refine tn.eV _ 12 _ rfl rfl rfl rfl (λC=>o9 (b:=iZ) (o:=0) rfl ⟨rfl,eB.refl _⟩) (λw c=>?_);replace E:=E.ei c;refine tn.eV _ 12 _ rfl rfl rfl rfl (λu=>o9 (b:=iZ) (o:=1) (by first|exact a7 rfl u|rfl) ⟨rfl,eB.refl _⟩) (λw c=>?_);replace E:=E.ei c;refine tn.eV _ 12 _ rfl rfl rfl rfl (λy=>ap (v:=x.m.tu.v) (by first|exact a7 rfl y|rfl) (E.aV .G (vE (i:=4) (zV x) (GN x.m) (by decide))) ⟨rfl,eB.refl _⟩) (λw c=>?_);replace E:=E.ei c;refine tn.eV _ 12 _ rfl rfl rfl rfl (λz=>Z.hL (v:=x.m.tu.v) (xs:=rh) (by first|exact a7 rfl z|rfl) (d.ei E.J) ⟨rfl,eB.refl _⟩) (λw c=>?_);replace E:=E.ei c;refine tn.eV _ 12 _ rfl rfl rfl rfl (λf=>Z.leq (k:=.i64) (a:=((x.m.ii.rf.toNat:Int)+(x.m.ii.uS.toNat:Int))) (b:=(rh.length:Int)) (by first|exact a7 rfl f|rfl) (by first|exact a7 rfl f|rfl) ⟨rfl,eB.refl _⟩) (λw c=>?_);replace E:=E.ei c;exact ea (fN rfl (by first|rfl) rfl (ew 5 E λw E=>(⟨rfl,E.J⟩)))
theorem eo4(a:ev w0 c.iO.v ws)(b:ev w0 c.p3.v aw)(G:ws.length<=100000)(Y:aw.length<=100000):tN 231 #[.agg (O.enc c)] w0 (.bool (decide (((ws.length:Int)+(aw.length:Int))=0))):=by
 have:=aS a;have:=aS b;refine eH 21 (eG _) func231 ntmps231 results231 rfl λiZ=>⟨iA,λw E=>?_⟩;exact⟨rfl,E.J⟩
theorem eo5{α:Type}(l:List (α×List UInt8×List UInt8))(k:Nat):hI (l.take k)<=hI l:=by
 unfold hI;induction l generalizing k with
 |nil=>simp
 |cons x l a=>
  cases k with
  |zero=>simp
  |succ k=>have:=a k;simp only[List.take_succ_cons,List.map_cons,List.sum_cons];omega
theorem Yi(e:ev w0 x.m.tu.v rh)(eM:ev w0 x.m.r1.v t8)(b:bH w0 t8 cs)(s:rh.length+hI cs<=1000000000):tN 232 #[.agg (O.enc x)] w0 (.int .i64 ((rh.length+hI cs:Nat):Int)):=by
 have c:=e.le;refine eH 0 (eG _) func232 ntmps232 results232 rfl λw E=>?_;simp only[maxLen]at c;have:=aS e;have:=aS eM;refine eI 26 E λiZ w E=>?_;refine ex.loop (λq f w=>∃k:Nat,oW [(3,.int .i64 ((rh.length+hI (cs.take k):Nat):Int)),(12,x.m.r1.v),(13,i6 t8.length),(14,i6 k)] f/\U w0 [V iZ (O.enc x) 48] w/\k<=t8.length/\q=t8.length-k) (t8.length) ?_ ?_
 .
   exact⟨0,⟨(by first|rfl|(refine congrArg (Value.int .i64) ?_;first|omega|(simp[hI];done)|(rw[a];omega))),rfl,rfl,(by first|rfl|(refine congrArg (Value.int .i64) ?_;first|omega|(simp[hI];done)|(rw[a];omega))),trivial⟩,E,Nat.zero_le _,rfl⟩
 .
   rintro q f w ⟨k,h,E,t,th⟩;refine io _ h (λg=>?_);clear h;refine eI 6 E<|om 0 0 (λj w E=>?_) (λj w E=>?_)
   .
     have i:k<t8.length:=by omega
     have d:k<cs.length:=b.1▸i;obtain⟨_,l,n⟩:=b.2 k i d;have a:=Z7 d;have u:=Z8 d;have c:=eM.le;simp only[maxLen]at c;have o:hI (cs.take k)+(cs[k].2.1.length+cs[k].2.2.length)<=hI cs:=by rw[<-a];exact eo5 _ _
     refine eI 7 E ⟨⟨ay⟩,λ_=>rL 2 λy w E=>?_⟩;refine oA (iV (r:=t8[k]) E rfl rfl .em rfl (tA .em λw E=>?_));have:=aS l;have:=aS n;refine ew 21 E ⟨iA,⟨iA,⟨iA,λw E=>?_⟩⟩⟩;exact⟨t8.length-(k+1),by omega,k+1,⟨(by first|rfl|(refine congrArg (Value.int .i64) ?_;first|omega|(simp[hI];done)|(rw[a];omega))),rfl,rfl,(by first|rfl|(refine congrArg (Value.int .i64) ?_;first|omega|(simp[hI];done)|(rw[a];omega))),trivial⟩,tF [0] E,by omega,rfl⟩
   .
     obtain rfl:k=t8.length:=by omega
     have p:cs.take t8.length=cs:=List.take_of_length_le (by rw[b.1];exact Nat.le_refl _);rw[p];refine eI 13 E λw E=>?_;exact⟨rfl,E.J⟩
theorem eo6(a:ev w0 x.m.tu.v rh)(eM:ev w0 x.m.r1.v t8)(b:bH w0 t8 cs)(c:rh.length+hI cs<=1000000000):tN 163 #[.agg (O.enc x)] w0 (.bool (decide (((rh.length+hI cs:Nat):Int)<=64))):=by
 refine eH 9 (eG _) func163 ntmps163 results163 rfl λiZ w E=>?_;refine ej 6 E (Yi (a.ei E.J) (eM.ei E.J) (b.ei E.J) c) λw E=>?_;exact⟨rfl,E.J⟩
theorem Cv{α:Type}(xs:List α)(q:α->Bool)(p:Nat->Bool)(h:∀k(h:k<xs.length),p k=q xs[k]):(List.range xs.length).any p=xs.any q:=by
 rw[Bool.eq_iff_iff,List.any_eq_true,List.any_eq_true];constructor
 .rintro⟨k,a,b⟩;have a:=List.mem_range.1 a;exact⟨xs[k],List.getElem_mem _,by rw[<-h k a];exact b⟩
 rintro⟨y,c,d⟩;obtain⟨k,a,rfl⟩:=List.getElem_of_mem c;exact⟨k,List.mem_range.2 a,by rw[h k a];exact d⟩
def Ck(cs:List (Vector UInt8 32×List UInt8×List UInt8)):Bool:=cs.any λc=>decide (((c.2.1.length:Int)+(c.2.2.length:Int))=0)
def Oj(cs:List (Vector UInt8 32×List UInt8×List UInt8))(k:Nat):Bool:=match cs[k]? with|some c=>decide (((c.2.1.length:Int)+(c.2.2.length:Int))=0)|none=>false
def S7(all tu:Nat)(p:UInt8)(Ox:List UInt8):Bool:=((decide ((p.toNat:Int)=0))||(decide ((tu:Int)<=(p.toNat:Int))))||(Ox.any λi=>decide ((all:Int)<=(i.toNat:Int)))
def S8(all tu:Nat)(da:List (UInt8×List UInt8×List UInt8))(k:Nat):Bool:=match da[k]? with|some c=>S7 all tu c.1 c.2.1|none=>false
def S9(all tu:Nat)(da:List (UInt8×List UInt8×List UInt8)):Bool:=da.any λc=>S7 all tu c.1 c.2.1
theorem eo7(cs:List (Vector UInt8 32×List UInt8×List UInt8)):(List.range cs.length).any (Oj cs)=Ck cs:=Cv _ _ _ λk h=>by unfold Oj;rw[List.getElem?_eq_getElem h]
theorem eo8(all tu:Nat)(da:List (UInt8×List UInt8×List UInt8)):(List.range da.length).any (S8 all tu da)=S9 all tu da:=Cv _ _ _ λk h=>by unfold S8;rw[List.getElem?_eq_getElem h]
def Cx(yG tD t6 Oq Oz OE:Bool):Int:=if yG=false then 6 else if tD=false then 7 else if t6=false then 10 else if Oq=false then 3 else if Oz=false then 8 else if OE=false then 9 else 0
def bK(h:rr)(tk:List hO)(rh:List av)(cs:List (Vector UInt8 32×List UInt8×List UInt8))(da:List (UInt8×List UInt8×List UInt8)):Int:=
 Cx ((decide (0<(h.rf.toNat:Int)))&&(decide ((tk.length:Int)=(h.rf.toNat:Int)))) ((decide ((h.fV.toNat:Int)<(h.rf.toNat:Int)))&&(decide (((h.rf.toNat:Int)+(h.uS.toNat:Int))<=(rh.length:Int))))
  (!(Ck cs)) (decide (((rh.length+hI cs:Nat):Int)<=64)) (!(S9 (rh.length+hI cs) rh.length da)) (decide rh.Nodup)
theorem eo9(a:bH w0 t8 cs)(f:pp 100000 cs):∀w,eB w0 w->∀k(h:k<t8.length),mH prog (.func (.func 231) #[] #[]) [.agg (O.enc t8[k])] w (λu w'=>u= .bool (Oj cs k)/\eB w w'):=by
 intro w b k c;refine⟨231,[],[],rfl,inferInstance,?_⟩;have d:k<cs.length:=a.1▸c;obtain⟨_,g,i⟩:=a.2 k c d;have e:=f cs[k] (List.getElem_mem _);refine(eo4 (g.ei b) (i.ei b) e.1 e.2).mono ?_;rintro _ pn ⟨rfl,Y⟩;exact⟨congrArg Value.bool (by unfold Oj;rw[List.getElem?_eq_getElem d]),Y⟩
theorem eie(eM:ev w0 x.m.r1.v t8)(a:bH w0 t8 cs)(b:pp 100000 cs):tN 162 #[.agg (O.enc x)] w0 (.bool (!(Ck cs))):=by
 refine eH 11 (eG _) func162 ntmps162 results162 rfl λiZ w E=>?_;refine ej 0 E (eoX (Oj cs) (eM.ei E.J) (eo9 (a.ei E.J) b)) λw E=>?_;rw[a.1,eo7];refine ew 6 E λw E=>?_;exact⟨rfl,E.J⟩
theorem eit{b:Nat}(a:ar w0 (N b) #[i6 all]):tN 235 #[.int .u8 (i.toNat:Int),N b] w0 (.bool (decide ((all:Int)<=(i.toNat:Int)))):=by
 have ey:=i.toNat_lt;have:=iu a;refine eH 16 (eG _) func235 ntmps235 results235 rfl ⟨iA,λw E=>?_⟩;exact⟨rfl,E.J⟩
theorem eia{b:Nat}(c:ar w0 (N b) #[i6 all]):∀w,eB w0 w->∀k(h:k<xs.length),mH prog (.func (.func 235) #[] #[N b]) [.int .u8 (xs[k].toNat:Int)] w (λu w'=>u= .bool ((λk=>match xs[k]? with|some i=>decide ((all:Int)<=(i.toNat:Int))|none=>false) k)/\eB w w'):=
 λw d k h=>⟨235,[],[N b],rfl,inferInstance,(eit (c.ei d)).mono λu w' a=>⟨by rw[a.1];simp only[List.getElem?_eq_getElem h],a.2⟩⟩
theorem eio(all:Nat)(xs:List UInt8):((List.range xs.length).any λk=>match xs[k]? with|some i=>decide ((all:Int)<=(i.toNat:Int))|none=>false)=xs.any λi=>decide ((all:Int)<=(i.toNat:Int)):=
 Cv _ _ _ λk h=>by simp only[List.getElem?_eq_getElem h]
theorem eii{c:Instr}(g:ar w0 (N yj) #[i6 all])(h:ar w0 (N hF) #[i6 tu])(ep:ev w0 c.cG.v Ox):tN 234 #[.agg (O.enc c),N yj,N hF] w0 (.bool (S7 all tu c.program Ox)):=by
 have ey:=c.program.toNat_lt;refine eH 18 (eG _) func234 ntmps234 results234 rfl λtZ w E=>?_;refine tn.eV _ 10 _ rfl rfl rfl rfl (λq=>o9 (b:=tZ) (o:=0) rfl ⟨rfl,eB.refl _⟩) (λw d=>?_);replace E:=E.ei d;refine tn.eV _ 10 _ rfl rfl rfl rfl (λl=>ap (v:=.int .u8 (c.program.toNat:Int)) (by first|exact a7 rfl l|rfl) (E.aV .em (GO c)) ⟨rfl,eB.refl _⟩) (λw d=>?_);replace E:=E.ei d;refine tn.eV _ 10 _ rfl rfl rfl rfl (λm=>Z.conv (j:=.u8) (n:=(c.program.toNat:Int)) (by first|exact a7 rfl m|rfl) (wrap_i64 (by omega)) ⟨rfl,eB.refl _⟩) (λw d=>?_);replace E:=E.ei d;refine tn.eV _ 10 _ rfl rfl rfl rfl (λr=>ap (v:=i6 tu) rfl ((h.ei E.J).vS rfl) ⟨rfl,eB.refl _⟩) (λw d=>?_);replace E:=E.ei d;refine tn.eV _ 10 _ rfl rfl rfl rfl (λe=>Z.geq (k:=.i64) (a:=(c.program.toNat:Int)) (b:=(tu:Int)) (by first|exact a7 rfl e|rfl) (by first|exact a7 rfl e|rfl) ⟨rfl,eB.refl _⟩) (λw d=>?_);replace E:=E.ei d;refine ea (m8 rfl rfl (by first|rfl) (ew 1 E λw E=>(tn.eV _ 17 _ rfl rfl rfl rfl (λs=>o9 (b:=tZ) (o:=0) rfl ⟨rfl,eB.refl _⟩) (λw d=>?_))));replace E:=E.ei d;refine tn.eV _ 17 _ rfl rfl rfl rfl (λp=>ap (v:=c.cG.v) (by first|exact a7 rfl p|rfl) (E.aV .em (Zz c)) ⟨rfl,eB.refl _⟩) (λw d=>?_);replace E:=E.ei d;refine tn.eV _ 17 _ rfl rfl rfl rfl (λt=>oM (v:=.func (.func 235) #[] #[N yj]) rfl ⟨rfl,eB.refl _⟩) (λw d=>?_);replace E:=E.ei d;refine tn.eV _ 17 (.bool (Ox.any λi=>decide ((all:Int)<=(i.toNat:Int)))) rfl rfl rfl rfl (λf=>?_) (λw d=>?_)
 .refine Z.call (eo0 _ (ep.ei E.J) (eia (g.ei E.J))) (Lh (by first|exact a7 rfl f|rfl) (by first|exact a7 rfl f|rfl)) ?_;rintro _ w ⟨rfl,d⟩;rw[eio];replace E:=E.ei d;exact⟨rfl,d⟩
 replace E:=E.ei d;exact ea (m8 rfl rfl (by first|rfl) (ew 5 E λw E=>(⟨rfl,E.J⟩)))
theorem ein(ey:jQ w0 is da)(d:ar w0 (N yj) #[i6 all])(e:ar w0 (N hF) #[i6 tu]):∀w,eB w0 w->∀k(h:k<is.length),mH prog (.func (.func 234) #[] #[N yj,N hF]) [.agg (O.enc is[k])] w (λu w'=>u= .bool (S8 all tu da k)/\eB w w'):=by
 intro w a k h;have b:k<da.length:=ey.1▸h;obtain⟨G,Y,_⟩:=ey.2 k h b;refine⟨234,[],[N yj,N hF],rfl,inferInstance,(eii (d.ei a) (e.ei a) (Y.ei a)).mono λu w' c=>⟨?_,c.2⟩⟩;rw[c.1];unfold S8;rw[List.getElem?_eq_getElem b,G]
theorem eis(b:ev w0 x.m.tu.v rh)(eM:ev w0 x.m.r1.v t8)(d:bH w0 t8 cs)(f:rh.length+hI cs<=1000000000)(ey:ev w0 x.m.instrs.v is)(c:jQ w0 is da):tN 164 #[.agg (O.enc x)] w0 (.bool (!(S9 (rh.length+hI cs) rh.length da))):=by
 refine eH 7 (eG _) func164 ntmps164 results164 rfl λiZ=>?_;have:=aS b;refine ow 5 8 (e5 [0,1,2,3,4] (.sx [[5],[6],[7]] (oJ [8,9] .nil))) [] λw E=>?_;refine e3.sx [λu e=>u=[(10,.int .i64 ((rh.length+hI cs:Nat):Int))]/\e=[],λu e=>∃(tZ:Nat),u=[(3,N tZ)]/\e=[V tZ #[i6 0] 3],λu e=>∃(aF:Nat),u=[(4,N aF)]/\e=[V aF #[i6 0] 3]] E (λw E=>E) (.cons ?_ (.cons ?_ (.cons ?_ .nil))) ?_
 .refine o5.step rfl rfl (λX w E=>?_);simp only[List.nil_append,List.cons_append]at E;refine Z.call (Yi (b.ei E.J) (eM.ei E.J) (d.ei E.J) f) rfl ?_;rintro _ w ⟨rfl,a⟩;replace E:=E.ei a;refine⟨[],E,?_⟩;exact .nil ⟨rfl,rfl⟩
 .refine o5.step rfl rfl (λX w E=>?_);simp only[List.nil_append,List.cons_append]at E;refine jh (v:=i6 0) E rfl ?_;intro tZ w _ E;refine⟨[V tZ #[i6 0] 3],E,?_⟩;exact .nil ⟨tZ,rfl,rfl⟩
 .refine o5.step rfl rfl (λX w E=>?_);simp only[List.nil_append,List.cons_append]at E;refine jh (v:=i6 0) E rfl ?_;intro aF w _ E;refine⟨[V aF #[i6 0] 3],E,?_⟩;exact .nil ⟨aF,rfl,rfl⟩
 refine .cons λ_ _ g=>.cons λ_ _ h=>.cons λ_ _ i=>.nil λw E=>?_;obtain⟨rfl,rfl⟩:=g;obtain⟨tZ,rfl,rfl⟩:=h;obtain⟨aF,rfl,rfl⟩:=i;simp only[List.nil_append,List.cons_append]at E;refine ao 10 E λw E=>?_;refine ea (Z.call (eoQ _ (ey.ei E.J) (ein (all:=rh.length+hI cs) (tu:=rh.length) (c.ei E.J) (E.tU es) (E.tU es))) rfl ?_);rintro _ w ⟨rfl,a⟩;rw[c.1,eo8];replace E:=E.ei a;refine ew 6 E λw E=>?_;exact⟨rfl,E.J⟩
theorem Cj{tl tx:Type}[DecidableEq tl]{k:tl}{v:tx}{l:List (tl×tx)}:(oH k v l).length=if k∈l.map Prod.fst then l.length else l.length+1:=by
 by_cases h:k∈l.map Prod.fst
 .rw[if_pos h];have G:tR k l≠none:=λe=>(za.1 e) h;obtain⟨a,ep⟩:=Option.ne_none_iff_exists'.1 G;cases b:dL (λ_:tx=>undef) k l 0 with
  |none=>exact absurd (jm.1 b) G
  |some p=>
   obtain⟨j,u⟩:=p;obtain⟨m,c,_,_,_,_,ac⟩:=k2 b;rw[(ac v).1,List.length_set]
 rw[if_neg h,T7 (za.2 h),List.length_append];rfl
structure qd(eS:List (av×Int))(l:List av):Prop where
 mem:∀x,x∈eS.map Prod.fst↔x∈l
 ct:∀x,0<=(tR x eS).getD 0/\(tR x eS).getD 0<=(l.length:Int)
 le:eS.length<=l.length
 eq:eS.length=l.length↔l.Nodup
theorem qd.nil:qd [] []:=⟨λx=>by simp,λx=>by simp[tR],Nat.le_refl _,by simp⟩
theorem qd.step(h:qd eS l)(x:av):qd (oH x ((tR x eS).getD 0+1) eS) (l++[x]):=by
 refine⟨λy=>?_,λy=>?_,?_,?_⟩
 .rw[H9,h.mem y,List.mem_append,List.mem_singleton];exact Or.comm
 .rw[mI,List.length_append];have G:=h.ct x;have Y:=h.ct y;split
  .show 0<=(tR x eS).getD 0+1/\(tR x eS).getD 0+1<=((l.length+1:Nat):Int);omega
  show _/\_<=((l.length+1:Nat):Int);omega
 .have:=h.le;rw[Cj,List.length_append];show _<=l.length+1;split<;>omega
 have ez:=h.le;have e6:=h.eq;rw[Cj,List.nodup_append];have f:(l++[x]).length=l.length+1:=by simp
 rw[f];by_cases c:x∈l
 .rw[if_pos ((h.mem x).2 c)];exact⟨λe=>absurd e (by omega),λ⟨_,_,hd⟩=>absurd rfl (hd x c x (by simp))⟩
 rw[if_neg (λe=>c ((h.mem x).1 e))];refine⟨λe=>⟨e6.1 (by omega),by simp,λa ep b d=>?_⟩,λ⟨g,_,_⟩=>by rw[e6.2 g]⟩;simp at d;subst d;intro e;subst e;exact c ep
theorem eir(l:ev w0 x.m.tu.v rh):tN 165 #[.agg (O.enc x)] w0 (.bool (decide rh.Nodup)):=by
 refine eH 8 (eG _) func165 ntmps165 results165 rfl λiZ w E=>?_;refine ea (Z.makeMap av (Value.int .i64) E ?_);intro r w _ E;have:=aS l;refine ew 14 E λw E=>?_;refine ex.loop (λq f w=>∃(k:Nat)(eS:List (av×Int)),oW [(1,N iZ),(3,tz r),(9,x.m.tu.v),(10,i6 rh.length),(11,i6 k)] f/\U w0 [tW r (Value.int .i64) eS,V iZ (O.enc x) 48] w/\qd eS (rh.take k)/\k<=rh.length/\q=rh.length-k) (rh.length) ?_ ?_
 .
   exact⟨0,[],⟨rfl,rfl,rfl,rfl,rfl,trivial⟩,E,qd.nil,Nat.zero_le _,rfl⟩
 .
   rintro q f w ⟨k,eS,n,E,i,z,th⟩;refine io _ n (λg=>?_);clear n;refine eI 6 E<|om 0 0 (λs w E=>?_) (λs w E=>?_)
   .
     have o:k<rh.length:=by omega
     have t:=l.le;simp only[maxLen]at t;have u:=i.ct rh[k];rw[List.length_take]at u;refine eI 7 E ⟨⟨by omega⟩,λ_ w E=>?_⟩;have:=lC o;refine ew 1 E λw E=>?_;refine ea (sV E ?_);intro p w _ E;rw[<-nn 31]at E;refine ew 3 E λw E=>?_;refine vz 6 (e5 [0,1,2,3] (.one 4 (.look 5 (.one 6 .nil)))) (by kernel_rfl) (λ_ _ _ h=>h) (λaM y=>?_);replace E:=E.ei y;have A:=E;refine⟨λw=>∃c:List (av×Int),(tR rh[k] c).getD 0=(tR rh[k] eS).getD 0/\U w0 [V p (O.enc rh[k]) 60,tW r (Value.int .i64) c,V iZ (O.enc x) 48] w,⟨eS,rfl,E.sub aI⟩,?_⟩;refine e3.look rfl rfl rfl (λw a=>(by obtain⟨c,d,E⟩:=a;exact oM (v:=tz r) rfl ⟨rfl,rfl⟩)) ?_;refine e3.look rfl rfl rfl (λw a=>(by obtain⟨c,d,E⟩:=a;exact ap rfl (E.nZ (b:=p) es (O.eT rh[k])) ⟨rfl,rfl⟩)) ?_;refine e3.look rfl rfl rfl (λw a=>(by obtain⟨c,d,E⟩:=a;exact vI (ti:=Value.int .i64) (z0:=0) inferInstance (E.map es) rfl rfl d ⟨rfl,rfl⟩)) ?_;refine e3.look rfl rfl rfl (λw a=>(by obtain⟨c,d,E⟩:=a;exact Z.add rfl rfl (wrap_i64 (by omega)) ⟨rfl,rfl⟩)) ?_;refine ol rfl (Z.mapEntry (ti:=Value.int .i64) (z0:=0) inferInstance E es rfl rfl ?_);intro born w E;replace E:=E _ es;refine⟨⟨_,by rw[mI,if_pos rfl];rfl,E.Ls (.ee .nU)⟩,?_⟩;refine e3.look rfl rfl rfl (λw a=>(by obtain⟨c,d,E⟩:=a;exact Z.extract rfl rfl ⟨rfl,rfl⟩)) ?_;refine nP rfl (Z.entryStore (k:=rh[k]) (ti:=Value.int .i64) E es rfl rfl rfl (tA es λw E=>(e3.nil ?_)));rw[Nt]at E;refine s4 7 E ⟨iA,λw E=>?_⟩;refine⟨rh.length-(k+1),by omega,k+1,_,⟨rfl,rfl,rfl,rfl,congrArg (Value.int .i64) (by omega),trivial⟩,E.sub aI,?_,by omega,rfl⟩;rw[List.take_succ_eq_append_getElem o];exact i.step _
   .
     obtain rfl:k=rh.length:=by omega
     rw[List.take_length]at i;refine eI 8 E λw E=>?_;refine ea (Ps (E.map es) rfl (ew 10 E λw E=>?_));refine⟨congrArg Value.bool ?_,E.J⟩;have h:=i.eq;by_cases j:rh.Nodup
     .rw[decide_eq_true j];exact decide_eq_true (by have:=h.2 j;omega)
     rw[decide_eq_false j];exact decide_eq_false (λe=>j (h.1 (by omega)))
structure Cq where
 g:Nat
 e:Int
variable{r:Cq}
instance:O Cq where
 enc r:=#[.func (.func r.g) #[] #[],.int .i64 r.e]
 eo:=2
 pos:=by omega
 eT _:=rfl
 one r:=h3 rfl
theorem uw(h:(!b)=false):b=true:=by simpa using h
theorem EA(h:(!b)=true):b=false:=by simpa using h
theorem eih(A:A6 w0 x y is t8)(r:pp 100000 y.m.sn)(z:y.m.tu.length+hI y.m.sn<=1000000000):tN 87 #[.agg (O.enc x)] w0 (i6 (bK x.m.ii y.sigs y.m.tu y.m.sn y.m.au)):=by
 obtain⟨B,th⟩:=A;have p:=th.k;have eM:=th.l;have s:=th.Dy;have ey:=th.i;have C:=th.wF;refine eH 9 (eG _) func87 ntmps87 results87 rfl λiZ w E=>?_;refine ag 0 E (ud (#[.func (.func 160) #[] #[],i6 6])) λw E=>?_;refine ag 0 E (ud (#[.func (.func 161) #[] #[],i6 7])) λw E=>?_;refine ag 0 E (ud (#[.func (.func 162) #[] #[],i6 10])) λw E=>?_;refine ag 0 E (ud (#[.func (.func 163) #[] #[],i6 3])) λw E=>?_;refine ag 0 E (ud (#[.func (.func 164) #[] #[],i6 8])) λw E=>?_;refine ag 0 E (ud (#[.func (.func 165) #[] #[],i6 9])) λw E=>?_;refine ho 5 E (sL ([⟨160,6⟩,⟨161,7⟩,⟨162,10⟩,⟨163,3⟩,⟨164,8⟩,⟨165,9⟩]:List Cq)) λK w E=>?_;refine oU 40 (og.step ?_);refine eI 2 E ?_;refine eP true 13 λaF w E=>?_;refine oA (iU (v:=.agg #[.func (.func 160) #[] #[],i6 6]) (iR:=#[.func (.func 160) #[] #[],i6 6]) E rfl rfl .em rfl (Nat.le_of_ble_eq_true rfl) (h3 rfl) rfl (tA .em λw E=>?_));refine ew 7 E λw E=>?_;refine ej 3 E (eo1 (B.ei E.J))<|na 14 11 (λd b w E=>?_) (λd b w E=>?_)
 .
   exact⟨(congrArg (Value.int .i64) (by have a:=EA d;unfold bK;rw[a];rfl)),E.J⟩
 .
   have q:=d;refine mn true 13 E λD w E=>?_;refine oA (iU (v:=.agg #[.func (.func 161) #[] #[],i6 7]) (iR:=#[.func (.func 161) #[] #[],i6 7]) E rfl rfl .em rfl (Nat.le_of_ble_eq_true rfl) (h3 rfl) rfl (tA .em λw E=>?_));refine ew 7 E λw E=>?_;refine ej 3 E (eo3 (p.ei E.J))<|na 14 11 (λf b w E=>?_) (λf b w E=>?_)
   .
     exact⟨(congrArg (Value.int .i64) (by have a:=uw d;have c:=EA f;unfold bK;rw[a,c];rfl)),E.J⟩
   .
     have q:=f;refine mn true 13 E λF w E=>?_;refine oA (iU (v:=.agg #[.func (.func 162) #[] #[],i6 10]) (iR:=#[.func (.func 162) #[] #[],i6 10]) E rfl rfl .em rfl (Nat.le_of_ble_eq_true rfl) (h3 rfl) rfl (tA .em λw E=>?_));refine ew 7 E λw E=>?_;refine ej 3 E (eie (eM.ei E.J) (s.ei E.J) r)<|na 14 11 (λg b w E=>?_) (λg b w E=>?_)
     .
       exact⟨(congrArg (Value.int .i64) (by have a:=uw d;have c:=uw f;have e:=EA g;unfold bK;rw[a,c,e];rfl)),E.J⟩
     .
       have q:=g;refine mn true 13 E λG w E=>?_;refine oA (iU (v:=.agg #[.func (.func 163) #[] #[],i6 3]) (iR:=#[.func (.func 163) #[] #[],i6 3]) E rfl rfl .em rfl (Nat.le_of_ble_eq_true rfl) (h3 rfl) rfl (tA .em λw E=>?_));refine ew 7 E λw E=>?_;refine ej 3 E (eo6 (p.ei E.J) (eM.ei E.J) (s.ei E.J) z)<|na 14 11 (λj b w E=>?_) (λj b w E=>?_)
       .
         exact⟨(congrArg (Value.int .i64) (by have a:=uw d;have c:=uw f;have e:=uw g;have h:=EA j;unfold bK;rw[a,c,e,h];rfl)),E.J⟩
       .
         have q:=j;refine mn true 13 E λH w E=>?_;refine oA (iU (v:=.agg #[.func (.func 164) #[] #[],i6 8]) (iR:=#[.func (.func 164) #[] #[],i6 8]) E rfl rfl .em rfl (Nat.le_of_ble_eq_true rfl) (h3 rfl) rfl (tA .em λw E=>?_));refine ew 7 E λw E=>?_;refine ej 3 E (eis (p.ei E.J) (eM.ei E.J) (s.ei E.J) z (ey.ei E.J) (C.ei E.J))<|na 14 11 (λn b w E=>?_) (λn b w E=>?_)
         .
           exact⟨(congrArg (Value.int .i64) (by have a:=uw d;have c:=uw f;have e:=uw g;have h:=uw j;have o:=EA n;unfold bK;rw[a,c,e,h,o];rfl)),E.J⟩
         .
           have q:=n;refine mn true 13 E λI w E=>?_;refine oA (iU (v:=.agg #[.func (.func 165) #[] #[],i6 9]) (iR:=#[.func (.func 165) #[] #[],i6 9]) E rfl rfl .em rfl (Nat.le_of_ble_eq_true rfl) (h3 rfl) rfl (tA .em λw E=>?_));refine ew 7 E λw E=>?_;refine ej 3 E (eir (p.ei E.J))<|na 14 11 (λt b w E=>?_) (λt b w E=>?_)
           .
             exact⟨(congrArg (Value.int .i64) (by have a:=uw d;have c:=uw f;have e:=uw g;have h:=uw j;have o:=uw n;have u:=EA t;unfold bK;rw[a,c,e,h,o,u];rfl)),E.J⟩
           .
             refine mn false 16 E λw E=>?_;exact⟨(congrArg (Value.int .i64) (by have a:=uw d;have c:=uw f;have e:=uw g;have h:=uw j;have o:=uw n;have u:=uw t;unfold bK;rw[a,c,e,h,o,u];rfl)),E.J⟩
end
end Go.Fer
