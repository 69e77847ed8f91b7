import Derived.Test.YtncdhadaifhleaaGreatDoorF4
set_option linter.all false
set_option synthInstance.maxSize 100000
set_option synthInstance.maxHeartbeats 400000
set_option maxHeartbeats 8000000
set_option maxRecDepth 100000
namespace Go.Fer
open Go Go.RowKit
section
open Go.Proofs Tryz
variable{bJ gi lo dG W a b c d ey i r9 wB ny q r s v v0 ab x y:Nat}{w0:World}
def CS:ByteArray:=⟨#[0,1,2,2,3,3,3,3,4,4,4,4,4,4,4,4,5,5,5,5,5,5,5,5,5,5,5,5,5,5,5,5,6,6,6,6,6,6,6,6,6,6,6,6,6,6,6,6,6,6,6,6,6,6,6,6,6,6,6,6,6,6,6,6,7,7,7,7,7,7,7,7,7,7,7,7,7,7,7,7,7,7,7,7,7,7,7,7,7,7,7,7,7,7,7,7,7,7,7,7,7,7,7,7,7,7,7,7,7,7,7,7,7,7,7,7,7,7,7,7,7,7,7,7,7,7,7,7,8,8,8,8,8,8,8,8,8,8,8,8,8,8,8,8,8,8,8,8,8,8,8,8,8,8,8,8,8,8,8,8,8,8,8,8,8,8,8,8,8,8,8,8,8,8,8,8,8,8,8,8,8,8,8,8,8,8,8,8,8,8,8,8,8,8,8,8,8,8,8,8,8,8,8,8,8,8,8,8,8,8,8,8,8,8,8,8,8,8,8,8,8,8,8,8,8,8,8,8,8,8,8,8,8,8,8,8,8,8,8,8,8,8,8,8,8,8,8,8,8,8,8,8,8,8,8,8]⟩
theorem eiD(h:i<256):CS[i]? =some (UInt8.ofNat (bitLen i)):=by
 have G:∀j:Fin 256,CS[j.val]? =some (UInt8.ofNat (bitLen j.val)):=by decide+kernel
 exact G ⟨i,h⟩
theorem eiC(h:i<256):((UInt8.ofNat (bitLen i)).toNat:Int)=((bitLen i:Nat):Int):=by
 have:=bitLen_le8 i h;rw[UInt8.toNat_ofNat'];omega
theorem eiU(em:d≠0)(h:d<18446744073709551616):64-bitLen d<64/\d*2^(64-bitLen d)<18446744073709551616/\9223372036854775808<=d*2^(64-bitLen d)/\bitLen d<=64:=by
 obtain⟨G,Y⟩:=bitLen_spec d;have Y:=Y em;have a:bitLen d<=64:=by
  rcases Nat.lt_or_ge 64 (bitLen d)with ez|ez
  .have:=Nat.pow_le_pow_right (show 0<2 by decide) (show 64<=bitLen d-1 by omega);omega
  exact ez
 have c:1<=bitLen d:=by
  rcases Nat.eq_zero_or_pos (bitLen d)with ez|ez
  .rw[ez]at G;omega
  exact ez
 have b:0<2^(64-bitLen d):=Nat.two_pow_pos _;refine⟨by omega,?_,?_,a⟩
 .have:=(Nat.mul_lt_mul_right b).2 G;rw[<-Nat.pow_add,show bitLen d+(64-bitLen d)=64 by omega]at this;exact this
 have:=Nat.mul_le_mul_right (2^(64-bitLen d)) Y;rw[<-Nat.pow_add,show bitLen d-1+(64-bitLen d)=63 by omega]at this;exact this
theorem qu:Int.fdiv (a:Int) (2^(min (Int.toNat 32) IntKind.u64.bits))=((a/4294967296:Nat):Int):=zw (a:=a) (k:=32) (by omega)
theorem ka(h:a=b):(a:Int)=(b:Int):=by rw[h]
instance:PF prog 9:=⟨underlying9⟩
theorem eiM(a:x<18446744073709551616)(b:y<18446744073709551616):tN 237 #[.int .u64 ((x:Nat):Int),.int .u64 ((y:Nat):Int)] w0 (.tuple #[.int .u64 ((x*y/18446744073709551616:Nat):Int),.int .u64 ((x*y%18446744073709551616:Nat):Int)]):=by
 obtain⟨G,Y,ez,e6,ac,aW,nf,nE,n9⟩:=Qu a b;refine eH 9 (eG _) func237 ntmps237 results237 rfl λw E=>?_;refine ag 6 E (p2 (Af a)) λw E=>?_;refine ag 6 E (lZ (by omega) (qu)) λw E=>?_;refine ag 6 E (p2 (Af b)) λw E=>?_;refine ag 7 E (lZ (by omega) (qu)) λw E=>?_;refine ag 7 E (fd (zg G)) λw E=>?_;refine ag 1 E (fd (zg Y)) λw E=>?_;refine ag 0 E (lZ (by omega) (qu)) λw E=>?_;refine ag 6 E (fB (zp ac)) λw E=>?_;refine ag 6 E (p2 (Af ac)) λw E=>?_;refine ag 8 E (lZ (by omega) (qu)) λw E=>?_;refine ag 0 E (fd (zg ez)) λw E=>?_;refine ag 7 E (fB (zp aW)) λw E=>?_;refine ag 1 E (fd (zg e6)) λw E=>?_;refine ag 1 E (fB (zp nf)) λw E=>?_;refine ag 0 E (lZ (by omega) (qu)) λw E=>?_;refine ag 7 E (fB ((zp nE).trans (ka n9))) λw E=>?_;refine ag 5 E (fd (yx x y)) λw E=>?_;exact⟨rfl,E.J⟩
theorem CR(l:x<18446744073709551616):tN 258 #[.int .u64 ((x:Nat):Int)] w0 (.int .i64 ((bitLen x:Nat):Int)):=by
 refine eH 5 (eG _) func258 ntmps258 results258 rfl λw E=>?_;refine lK (λf w=>∃z n:Nat,oW [(0,.int .u64 ((z:Nat):Int)),(2,.int .i64 ((n:Nat):Int))] f/\U w0 [] w/\bitLen x=n+bitLen z/\z<4294967296/\n<=32) ?_ ?_
 .
   refine eI 6 E<|om 3 2 (λe w E=>?_) (λe w E=>?_)
   .
     refine ag 7 E (lZ (by omega) (zw (k:=32) (by omega))) λw E=>?_;exact⟨x/2^32,32,⟨rfl,congrArg (Value.int .i64) (by omega),trivial⟩,E,(by have:=bitLen_shift x 32 (by have:0<x/2^32:=Nat.div_pos (by omega) (by decide);omega);omega),by omega,by omega⟩
   .
     exact⟨x,0,⟨rfl,congrArg (Value.int .i64) (by omega),trivial⟩,E,by omega,by omega,by omega⟩
 .
   rintro f w ⟨z,n,a,E,c,b,d⟩;refine io _ a (λg=>?_);clear a;refine lK (λf w=>∃z n:Nat,oW [(0,.int .u64 ((z:Nat):Int)),(2,.int .i64 ((n:Nat):Int))] f/\U w0 [] w/\bitLen x=n+bitLen z/\z<65536/\n<=48) ?_ ?_
   .
     refine eI 6 E<|om 3 2 (λh w E=>?_) (λh w E=>?_)
     .
       refine ag 9 E (lZ (by omega) (zw (k:=16) (by omega))) ⟨iA,λw E=>?_⟩;exact⟨z/2^16,n+16,⟨rfl,congrArg (Value.int .i64) (by omega),trivial⟩,E,(by have:=bitLen_shift z 16 (by have:0<z/2^16:=Nat.div_pos (by omega) (by decide);omega);omega),by omega,by omega⟩
     .
       exact⟨z,n,⟨rfl,congrArg (Value.int .i64) (by omega),trivial⟩,E,by omega,by omega,by omega⟩
   .
     rintro f w ⟨z,n,a,E,c,b,d⟩;refine io _ a (λg=>?_);clear a;refine lK (λf w=>∃z n:Nat,oW [(0,.int .u64 ((z:Nat):Int)),(2,.int .i64 ((n:Nat):Int))] f/\U w0 [] w/\bitLen x=n+bitLen z/\z<256/\n<=56) ?_ ?_
     .
       refine eI 6 E<|om 3 2 (λj w E=>?_) (λj w E=>?_)
       .
         refine ag 9 E (lZ (by omega) (zw (k:=8) (by omega))) ⟨iA,λw E=>?_⟩;exact⟨z/2^8,n+8,⟨rfl,congrArg (Value.int .i64) (by omega),trivial⟩,E,(by have:=bitLen_shift z 8 (by have:0<z/2^8:=Nat.div_pos (by omega) (by decide);omega);omega),by omega,by omega⟩
       .
         exact⟨z,n,⟨rfl,congrArg (Value.int .i64) (by omega),trivial⟩,E,by omega,by omega,by omega⟩
     .
       rintro f w ⟨z,n,a,E,c,b,d⟩;refine io _ a (λg=>?_);clear a;refine eI 5 E ⟨iA,λw E=>?_⟩;exact ea (Qh (s:=CS) (i:=z) rfl rfl (eiD b) (ea (Z.conv rfl (show IntKind.i64.wrap _=((bitLen z:Nat):Int)from by rw[eiC b];exact wrap_i64 (by have:=bitLen_le8 z b;omega)) (ag 5 E (fB (show IntKind.i64.wrap _=((bitLen x:Nat):Int)from by have:=bitLen_le8 z b;rw[c];exact(wrap_i64 (by omega)).trans (Int.natCast_add _ _).symm)) λw E=>(⟨rfl,E.J⟩)))))
theorem eiF(a:x<18446744073709551616)(b:bitLen x<=64):tN 238 #[.int .u64 ((x:Nat):Int)] w0 (.int .i64 ((64-bitLen x:Nat):Int)):=by
 refine eH 8 (eG _) func238 ntmps238 results238 rfl λw E=>?_;refine ej 0 E (CR a) λw E=>?_;exact ea (Z.sub rfl rfl (show IntKind.i64.wrap _=((64-bitLen x:Nat):Int)from(wrap_i64 (by omega)).trans (by omega)) (ew 5 E λw E=>(⟨rfl,E.J⟩)))
def wV(b c v:Nat):Nat->Nat->Nat
 |0,_=>0
 |q+1,r=>if 4294967296<=q+1∨(4294967296*r%18446744073709551616+c)%18446744073709551616<(q+1)*b%18446744073709551616 then(if 4294967296<=(r+v)%18446744073709551616 then q else wV b c v q ((r+v)%18446744073709551616))else q+1
theorem Rr(h:4294967296<=q∨(4294967296*r%18446744073709551616+c)%18446744073709551616<q*b%18446744073709551616):0<q/\wV b c v q r=if 4294967296<=(r+v)%18446744073709551616 then q-1 else wV b c v (q-1) ((r+v)%18446744073709551616):=by
 cases q with
 |zero=>rw[Nat.zero_mul]at h;omega
 |succ q=>exact⟨Nat.succ_pos q,if_pos h⟩
theorem Yb(h:¬4294967296<=q)(Y:¬(4294967296*r%18446744073709551616+c)%18446744073709551616<q*b%18446744073709551616):wV b c v q r=q:=by
 cases q with
 |zero=>rfl
 |succ q=>exact if_neg (λe=>e.elim h Y)
def bQ(ey r9 d:Nat):Nat×Nat:=
 if ey=0 then(r9/d,r9%d)else
 let s:=64-bitLen d
 let y:=d*2^s
 let dG:=ey*2^s+r9/2^(64-s)
 let W:=r9*2^s%18446744073709551616
 let ab:=y/4294967296
 let v0:=y%4294967296
 let gi:=wV v0 (W/4294967296) ab (dG/ab) (dG-dG/ab*ab)
 let lo:=((dG*4294967296%18446744073709551616+W/4294967296)%18446744073709551616+18446744073709551616-gi*y%18446744073709551616)%18446744073709551616
 let bJ:=wV v0 (W%4294967296) ab (lo/ab) (lo-lo/ab*ab)
 ((gi*4294967296%18446744073709551616+bJ)%18446744073709551616,((lo*4294967296%18446744073709551616+W%4294967296)%18446744073709551616+18446744073709551616-bJ*y%18446744073709551616)%18446744073709551616/2^s)
theorem eiP(em:ey≠0)(G:s=64-bitLen d)(Y:y=d*2^s)(ez:dG=ey*2^s+r9/2^(64-s))(e6:W=r9*2^s%18446744073709551616)(ac:ab=y/4294967296)(aW:v0=y%4294967296)(nf:ny=W/4294967296)(nE:wB=W%4294967296)(n9:gi=wV v0 ny ab (dG/ab) (dG-dG/ab*ab))
 (hR:lo=((dG*4294967296%18446744073709551616+ny)%18446744073709551616+18446744073709551616-gi*y%18446744073709551616)%18446744073709551616) (dN:bJ=wV v0 wB ab (lo/ab) (lo-lo/ab*ab)):
 bQ ey r9 d=((gi*4294967296%18446744073709551616+bJ)%18446744073709551616,((lo*4294967296%18446744073709551616+wB)%18446744073709551616+18446744073709551616-bJ*y%18446744073709551616)%18446744073709551616/2^s):=by
 rw[dN,hR,n9,nE,nf,aW,ac,e6,ez,Y,G];exact if_neg em
theorem Yv(eM:r9<18446744073709551616):(bQ ey r9 d).1<18446744073709551616:=by
 unfold bQ;split
 .exact Nat.lt_of_le_of_lt (Nat.div_le_self _ _) eM
 exact Nat.mod_lt _ (by decide)
theorem eiG(nj:ey<d)(eM:r9<18446744073709551616)(hd:d<18446744073709551616):tN 173 #[.int .u64 ((ey:Nat):Int),.int .u64 ((r9:Nat):Int),.int .u64 ((d:Nat):Int)] w0 (.tuple #[.int .u64 (((bQ ey r9 d).1:Nat):Int),.int .u64 (((bQ ey r9 d).2:Nat):Int)]):=by
 refine eH 13 (eG _) func173 ntmps173 results173 rfl<|na 0 10 (λia tj w E=>?_) (λ_ tj w E=>?_)
 .
   simp only[decide_eq_true_eq]at ia;omega
 .
   refine N1 0 9 E (λa8 al w E=>?_) (λ_ al w E=>?_)
   .
     simp only[decide_eq_true_eq]at a8;omega
   .
     refine wD 0 0 E (λaJ w E=>?_) (λaJ w E=>?_)
     .
       obtain rfl:ey=0:=by omega
       refine eI 1 E ?_;refine ow 2 8 (e5 [0,1,2,3,4,5,6,7] .nil) [] λw E=>?_;refine fY 2 E (AM (by omega) (Am eM)) λw E=>?_;refine fY 7 E (Do (by omega) (Pc _ _)) λw E=>?_;exact⟨rfl,E.J⟩
     .
       have CH:ey≠0:=by omega
       obtain⟨s,A⟩:∃s,s=64-bitLen d:=⟨_,rfl⟩;obtain⟨p,B,C,ON⟩:=eiU (d:=d) (by omega) hd;rw[<-A]at p B C;obtain⟨D,F⟩:=Qm p nj eM;obtain⟨y,G⟩:∃y,y=d*2^s:=⟨_,rfl⟩;obtain⟨dG,x⟩:∃dG,dG=ey*2^s+r9/2^(64-s):=⟨_,rfl⟩;obtain⟨W,H⟩:∃W,W=r9*2^s%18446744073709551616:=⟨_,rfl⟩;obtain⟨ab,R⟩:∃v,v=y/4294967296:=⟨_,rfl⟩;obtain⟨v0,S⟩:∃v,v=y%4294967296:=⟨_,rfl⟩;obtain⟨ny,T⟩:∃v,v=W/4294967296:=⟨_,rfl⟩;obtain⟨wB,V⟩:∃v,v=W%4294967296:=⟨_,rfl⟩;obtain⟨gi,X⟩:∃q,q=wV v0 ny ab (dG/ab) (dG-dG/ab*ab):=⟨_,rfl⟩;obtain⟨lo,I⟩:∃q,q=((dG*4294967296%18446744073709551616+ny)%18446744073709551616+18446744073709551616-gi*y%18446744073709551616)%18446744073709551616:=⟨_,rfl⟩;obtain⟨bJ,Y⟩:∃q,q=wV v0 wB ab (lo/ab) (lo-lo/ab*ab):=⟨_,rfl⟩;have K:y<18446744073709551616:=G▸B;have t:dG<18446744073709551616:=by rw[x];omega
       have Yj:ey*2^s+r9/2^(64-s)<18446744073709551616:=x▸t;have eys:0<ab:=by omega
       have L:W<18446744073709551616:=by rw[H];exact Nat.mod_lt _ (by decide)
       have z:lo<18446744073709551616:=by rw[I];exact Nat.mod_lt _ (by decide)
       clear D;refine eI 5 E λw E=>?_;refine ej 0 E (eiF hd ON) λw E=>?_;rw[<-A];refine ew 8 E ⟨iA,λw E=>?_⟩;refine ag 6 E (Se (by omega) ((PG p B).trans (ka G.symm))) λw E=>?_;refine ag 6 E (lZ (by omega) ((qu).trans (ka R.symm))) λw E=>?_;refine ag 7 E (p2 ((Af K).trans (ka S.symm))) λw E=>?_;refine ag 2 E (Se (by omega) (PG p (Nat.lt_of_le_of_lt (Nat.le_add_right _ _) Yj))) λw E=>?_;refine ag 0 E (p1 (yk (a:=64) (b:=s) (by omega) (by omega))) λw E=>?_;refine ag 0 E (lZ (by omega) (zw (k:=64-s) (by omega))) λw E=>?_;refine ag 7 E (N9 ((Qd (k:=s) F Yj).trans (ka x.symm))) λw E=>?_;refine ag 6 E (Se (by omega) ((Ql p).trans (ka H.symm))) λw E=>?_;refine ag 6 E (lZ (by omega) ((qu).trans (ka T.symm))) λw E=>?_;refine ag 7 E (p2 ((Af L).trans (ka V.symm))) λw E=>?_;refine ea (Z.quo rfl rfl (by omega) (Am t) ?_);refine ew 8 E λw E=>?_;refine ag 0 E (fd (zg (Nat.lt_of_le_of_lt (Nat.div_mul_le_self _ _) t))) λw E=>?_;refine ag 3 E (p1 (yk (Nat.div_mul_le_self _ _) t)) λw E=>?_;refine lK (λf w=>oW [(2,.int .u64 ((y:Nat):Int)),(8,.int .u64 ((s:Nat):Int)),(9,.int .u64 ((ab:Nat):Int)),(10,.int .u64 ((v0:Nat):Int)),(11,.int .u64 ((dG:Nat):Int)),(13,.int .u64 ((ny:Nat):Int)),(14,.int .u64 ((wB:Nat):Int)),(15,.int .u64 ((gi:Nat):Int))] f/\U w0 [] w) ?_ ?_
       .
         refine eI 1 E λw E=>?_;refine ex.loop (λm f w=>∃q r:Nat,oW [(2,.int .u64 ((y:Nat):Int)),(8,.int .u64 ((s:Nat):Int)),(9,.int .u64 ((ab:Nat):Int)),(10,.int .u64 ((v0:Nat):Int)),(11,.int .u64 ((dG:Nat):Int)),(13,.int .u64 ((ny:Nat):Int)),(14,.int .u64 ((wB:Nat):Int)),(15,.int .u64 ((q:Nat):Int)),(16,.int .u64 ((r:Nat):Int))] f/\U w0 [] w/\wV v0 ny ab q r=gi/\m=q/\q<18446744073709551616) (dG/ab) ?_ ?_
         .
           exact⟨dG/ab,dG-dG/ab*ab,⟨rfl,rfl,rfl,rfl,rfl,rfl,rfl,rfl,rfl,trivial⟩,E,X.symm,rfl,Nat.lt_of_le_of_lt (Nat.div_le_self _ _) t⟩
         .
           rintro m f w ⟨q,r,j,E,l,th,u⟩;refine io _ j (λg=>?_);clear j;refine eI 6 E λw E=>?_;cases Yq:(decide ((4294967296:Int)<=(q:Int)))with
           |true=>
            refine ew 11 E<|na 0 0 (λn M w E=>?_) (λn M w E=>?_)
            .
              obtain⟨N,h⟩:=Rr (b:=v0) (c:=ny) (v:=ab) (q:=q) (r:=r) (.inl (by have:=of_decide_eq_true Yq;omega));rw[l]at h;refine eI 6 E λw E=>?_;refine ag 7 E (p1 (yk (b:=1) (by omega) u)) λw E=>?_;refine ag 9 E (fB (bu _ _))<|om 5 3 (λO w E=>?_) (λO w E=>?_)
              .
                exact⟨⟨rfl,rfl,rfl,rfl,rfl,rfl,rfl,congrArg (λi:Nat=>Value.int .u64 (i:Int)) (h.trans (if_pos (by omega))).symm,trivial⟩,E⟩
              .
                exact⟨q-1,by omega,q-1,(r+ab)%18446744073709551616,⟨rfl,rfl,rfl,rfl,rfl,rfl,rfl,rfl,rfl,trivial⟩,E,(h.trans (if_neg (by omega))).symm,rfl,by omega⟩
            .
              simp at n
           |false=>
            refine ew 2 E λw E=>?_;refine ag 1 E (fd (yx q v0)) λw E=>?_;refine ag 1 E (fd (yx 4294967296 r)) λw E=>?_;refine ag 4 E (fB (bu _ _))<|na 0 5 (λn M w E=>?_) (λn M w E=>?_)
            .
              obtain⟨N,h⟩:=Rr (b:=v0) (c:=ny) (v:=ab) (q:=q) (r:=r) (.inr (Int.ofNat_lt.1 (of_decide_eq_true n)));rw[l]at h;refine eI 6 E λw E=>?_;refine ag 7 E (p1 (yk (b:=1) (by omega) u)) λw E=>?_;refine ag 9 E (fB (bu _ _))<|om 5 3 (λO w E=>?_) (λO w E=>?_)
              .
                exact⟨⟨rfl,rfl,rfl,rfl,rfl,rfl,rfl,congrArg (λi:Nat=>Value.int .u64 (i:Int)) (h.trans (if_pos (by omega))).symm,trivial⟩,E⟩
              .
                exact⟨q-1,by omega,q-1,(r+ab)%18446744073709551616,⟨rfl,rfl,rfl,rfl,rfl,rfl,rfl,rfl,rfl,trivial⟩,E,(h.trans (if_neg (by omega))).symm,rfl,by omega⟩
            .
              exact⟨⟨rfl,rfl,rfl,rfl,rfl,rfl,rfl,congrArg (λi:Nat=>Value.int .u64 (i:Int)) ((Yb (λe=>of_decide_eq_false Yq (Int.ofNat_le.2 e)) (λe=>of_decide_eq_false n (Int.ofNat_lt.2 e))).symm.trans l),trivial⟩,E⟩
       .
         rintro f w ⟨j,E⟩;refine io _ j (λg=>?_);clear j;refine eI 3 E λw E=>?_;refine ag 1 E (fd (yx dG 4294967296)) λw E=>?_;refine ag 2 E (fB (bu _ _)) λw E=>?_;refine ag 0 E (fd (yx gi y)) λw E=>?_;refine ag 7 E (p1 ((PP _ _ (Nat.le_of_lt (Nat.mod_lt _ (by decide)))).trans (ka I.symm))) λw E=>?_;refine ea (Z.quo rfl rfl (by omega) (Am z) ?_);refine ew 8 E λw E=>?_;refine ag 0 E (fd (zg (Nat.lt_of_le_of_lt (Nat.div_mul_le_self _ _) z))) λw E=>?_;refine ag 3 E (p1 (yk (Nat.div_mul_le_self _ _) z)) λw E=>?_;refine lK (λf w=>oW [(2,.int .u64 ((y:Nat):Int)),(8,.int .u64 ((s:Nat):Int)),(14,.int .u64 ((wB:Nat):Int)),(15,.int .u64 ((gi:Nat):Int)),(17,.int .u64 ((lo:Nat):Int)),(18,.int .u64 ((bJ:Nat):Int))] f/\U w0 [] w) ?_ ?_
         .
           refine eI 1 E λw E=>?_;refine ex.loop (λm f w=>∃q r:Nat,oW [(2,.int .u64 ((y:Nat):Int)),(8,.int .u64 ((s:Nat):Int)),(9,.int .u64 ((ab:Nat):Int)),(10,.int .u64 ((v0:Nat):Int)),(14,.int .u64 ((wB:Nat):Int)),(15,.int .u64 ((gi:Nat):Int)),(16,.int .u64 ((r:Nat):Int)),(17,.int .u64 ((lo:Nat):Int)),(18,.int .u64 ((q:Nat):Int))] f/\U w0 [] w/\wV v0 wB ab q r=bJ/\m=q/\q<18446744073709551616) (lo/ab) ?_ ?_
           .
             exact⟨lo/ab,lo-lo/ab*ab,⟨rfl,rfl,rfl,rfl,rfl,rfl,rfl,rfl,rfl,trivial⟩,E,Y.symm,rfl,Nat.lt_of_le_of_lt (Nat.div_le_self _ _) z⟩
           .
             rintro m f w ⟨q,r,j,E,l,th,u⟩;refine io _ j (λg=>?_);clear j;refine eI 6 E λw E=>?_;cases Yz:(decide ((4294967296:Int)<=(q:Int)))with
             |true=>
              refine ew 11 E<|na 0 0 (λo P w E=>?_) (λo P w E=>?_)
              .
                obtain⟨N,h⟩:=Rr (b:=v0) (c:=wB) (v:=ab) (q:=q) (r:=r) (.inl (by have:=of_decide_eq_true Yz;omega));rw[l]at h;refine eI 6 E λw E=>?_;refine ag 7 E (p1 (yk (b:=1) (by omega) u)) λw E=>?_;refine ag 9 E (fB (bu _ _))<|om 5 3 (λQ w E=>?_) (λQ w E=>?_)
                .
                  exact⟨⟨rfl,rfl,rfl,rfl,rfl,congrArg (λi:Nat=>Value.int .u64 (i:Int)) (h.trans (if_pos (by omega))).symm,trivial⟩,E⟩
                .
                  exact⟨q-1,by omega,q-1,(r+ab)%18446744073709551616,⟨rfl,rfl,rfl,rfl,rfl,rfl,rfl,rfl,rfl,trivial⟩,E,(h.trans (if_neg (by omega))).symm,rfl,by omega⟩
              .
                simp at o
             |false=>
              refine ew 2 E λw E=>?_;refine ag 1 E (fd (yx q v0)) λw E=>?_;refine ag 1 E (fd (yx 4294967296 r)) λw E=>?_;refine ag 4 E (fB (bu _ _))<|na 0 5 (λo P w E=>?_) (λo P w E=>?_)
              .
                obtain⟨N,h⟩:=Rr (b:=v0) (c:=wB) (v:=ab) (q:=q) (r:=r) (.inr (Int.ofNat_lt.1 (of_decide_eq_true o)));rw[l]at h;refine eI 6 E λw E=>?_;refine ag 7 E (p1 (yk (b:=1) (by omega) u)) λw E=>?_;refine ag 9 E (fB (bu _ _))<|om 5 3 (λQ w E=>?_) (λQ w E=>?_)
                .
                  exact⟨⟨rfl,rfl,rfl,rfl,rfl,congrArg (λi:Nat=>Value.int .u64 (i:Int)) (h.trans (if_pos (by omega))).symm,trivial⟩,E⟩
                .
                  exact⟨q-1,by omega,q-1,(r+ab)%18446744073709551616,⟨rfl,rfl,rfl,rfl,rfl,rfl,rfl,rfl,rfl,trivial⟩,E,(h.trans (if_neg (by omega))).symm,rfl,by omega⟩
              .
                exact⟨⟨rfl,rfl,rfl,rfl,rfl,congrArg (λi:Nat=>Value.int .u64 (i:Int)) ((Yb (λe=>of_decide_eq_false Yz (Int.ofNat_le.2 e)) (λe=>of_decide_eq_false o (Int.ofNat_lt.2 e))).symm.trans l),trivial⟩,E⟩
         .
           rintro f w ⟨j,E⟩;refine io _ j (λg=>?_);clear j;refine eI 3 E λw E=>?_;refine ag 1 E (fd (yx gi 4294967296)) λw E=>?_;refine ag 1 E (fB (bu _ _)) λw E=>?_;refine ag 1 E (fd (yx lo 4294967296)) λw E=>?_;refine ag 2 E (fB (bu _ _)) λw E=>?_;refine ag 0 E (fd (yx bJ y)) λw E=>?_;refine ag 1 E (p1 (PP _ _ (Nat.le_of_lt (Nat.mod_lt _ (by decide))))) λw E=>?_;refine ea (Z.shr rfl rfl (by omega) (zw (by omega)) ?_);refine ew 6 E λw E=>?_;rw[eiP CH A G x H R S T V X I Y];exact⟨rfl,E.J⟩
variable{S:List eL}{k n p:Nat}{l xs:List t7}{pv:Bool}{v:Value}{en:World}
def s9(l:List t7):Nat:=l.foldl (λa x=>nO a x.n) 0
theorem eiX(a:k<l.length):s9 (l.take (k+1))=nO (s9 (l.take k)) l[k].n:=by
 unfold s9;rw[List.take_succ_eq_append_getElem a,List.foldl_append];rfl
theorem xM:s9 l<18446744073709551616:=by
 have h:∀(l:List t7)(a:Nat),a<18446744073709551616->l.foldl (λa x=>nO a x.n) a<18446744073709551616:=by
  intro l;induction l with
  |nil=>intro a h;exact h
  |cons x r b=>intro a h;exact b _ (Nc _ _)
 exact h l 0 (by decide)
def CU(l:List t7):Prop:=∀x∈l,x.n<18446744073709551616
theorem Ru(h:a<18446744073709551616)(Y:b<18446744073709551616):CU [⟨a⟩,⟨b⟩]:=by
 intro x c;simp at c;rcases c with rfl|rfl
 .exact h
 exact Y
theorem eiJ(a:x<18446744073709551616)(b:y<18446744073709551616):tN 172 #[.int .u64 ((x:Nat):Int),.int .u64 ((y:Nat):Int)] w0 (.tuple #[.int .u64 ((x*y/18446744073709551616:Nat):Int),.int .u64 ((x*y%18446744073709551616:Nat):Int)]):=by
 refine eH 10 (eG _) func172 ntmps172 results172 rfl λw E=>?_;refine ej 8 E (eiM a b) λw E=>?_;exact⟨rfl,E.J⟩
theorem eiQ(ep:a<18446744073709551616)(b:n<18446744073709551616)(c:U en (V p #[.int .u64 ((a:Nat):Int)] 23::S) w0):eJ 170 #[.int .u64 ((n:Nat):Int),N p] w0 (λu w'=>U en (V p #[.int .u64 ((nO a n:Nat):Int)] 23::S) w'):=by
 refine eH 4 c func170 ntmps170 results170 rfl λw E=>?_;refine ea (As (Pv func171 (by kernel_rfl) (by kernel_rfl) (by kernel_rfl) (by kernel_rfl) a n _) rfl (ew 10 E λw E=>?_));refine ea (Z.neg rfl rfl ?_);refine ag 3 E (N9 (Qf a n ep b)) λw E=>?_;exact E
theorem OH(b:ev w0 v xs)(d:CU xs):tN 99 #[v] w0 (.int .u64 ((s9 xs:Nat):Int)):=by
 have:=aS b;refine eH 26 (eG _) func99 ntmps99 results99 rfl λtZ w E=>?_;refine ex.loop (λq f w=>∃k:Nat,oW [(3,N tZ),(4,(.func (.func 170) #[] #[N tZ])),(8,v),(9,i6 xs.length),(10,i6 k)] f/\U w0 [V tZ #[.int .u64 ((s9 (xs.take k):Nat):Int)] 23] w/\k<=xs.length/\q=xs.length-k) (xs.length) ?_ ?_
 .
   exact⟨0,⟨rfl,rfl,rfl,rfl,rfl,trivial⟩,E,Nat.zero_le _,rfl⟩
 .
   rintro q f w ⟨k,c,E,j,th⟩;refine io _ c (λg=>?_);clear c;refine eI 6 E<|om 0 13 (λe w E=>?_) (λe w E=>?_)
   .
     have a:k<xs.length:=by omega
     have h:=b.le;simp only[maxLen]at h;refine eI 7 E ⟨⟨by omega⟩,λ_ w E=>?_⟩;have:=lC a;refine ew 7 E λw E=>?_;refine ea (PM (cs:=[N tZ]) rfl (eiQ (xM) (d _ (List.getElem_mem a)) E) rfl ?_);intro l w E;refine ew 8 E ⟨iA,λw E=>?_⟩;rw[<-eiX a]at E;exact⟨xs.length-(k+1),by omega,k+1,⟨rfl,rfl,rfl,rfl,congrArg (Value.int .i64) (by omega),trivial⟩,E,by omega,rfl⟩
   .
     have i:k=xs.length:=by omega
     rw[i,List.take_length];exact⟨rfl,E.J⟩
def gn(a b d:Nat)(pv:Bool):Nat:=if d<=a*b/18446744073709551616 then 18446744073709551615 else if(pv&&decide (0<(bQ (a*b/18446744073709551616) (a*b%18446744073709551616) d).2))=true then s9 [⟨(bQ (a*b/18446744073709551616) (a*b%18446744073709551616) d).1⟩,⟨1⟩]else(bQ (a*b/18446744073709551616) (a*b%18446744073709551616) d).1
theorem CM:gn a b d pv<18446744073709551616:=by
 unfold gn;split
 .decide
 split
 .exact xM
 exact Yv (Nat.mod_lt _ (by decide))
theorem OL:gn a b d pv<18446744073709551616:=CM
theorem OD(ep:a<18446744073709551616)(i:b<18446744073709551616)(hd:d<18446744073709551616):tN 100 #[.int .u64 ((a:Nat):Int),.int .u64 ((b:Nat):Int),.int .u64 ((d:Nat):Int),.bool pv] w0 (.int .u64 ((gn a b d pv:Nat):Int)):=by
 refine eH 9 (eG _) func100 ntmps100 results100 rfl λw E=>?_;refine ej 15 E (eiJ ep i)<|om 8 0 (λj w E=>?_) (λj w E=>?_)
 .
   refine⟨?_,E.J⟩;unfold gn;rw[if_pos (by omega)];rfl
 .
   have h:¬d<=a*b/18446744073709551616:=by omega
   obtain⟨z,c⟩:∃z,bQ (a*b/18446744073709551616) (a*b%18446744073709551616) d=z:=⟨_,rfl⟩;have f:z.1<18446744073709551616:=by rw[<-c];exact Yv (Nat.mod_lt _ (by decide))
   refine eI 7 E λw E=>?_;refine ej 0 E (eiG (by omega) (Nat.mod_lt _ (by decide)) hd) λw E=>?_;rw[c];refine ew 12 E λw E=>?_;refine tn.eV _ 30 _ rfl rfl rfl rfl (λn=>oD rfl ⟨rfl,eB.refl _⟩) (λw e=>?_);replace E:=E.ei e;refine tn.eV _ 30 _ rfl rfl rfl rfl (λk=>Z.gtr (by first|exact a7 rfl k|rfl) rfl ⟨rfl,eB.refl _⟩) (λw e=>?_);replace E:=E.ei e;refine ea (fN rfl (by first|rfl) rfl (ew 2 E<|na 0 0 (λg l w E=>?_) (λg l w E=>?_)))
   .
     have EN:(pv&&decide (0<z.2))=true:=by rw[<-g];congr 1;rw[Bool.eq_iff_iff,decide_eq_true_eq,decide_eq_true_eq];omega
     refine eI 3 E λw E=>?_;refine ea (n4 E (([⟨z.1⟩,⟨1⟩]:List t7)) [.int .u64 ((z.1:Nat):Int),.int .u64 1] rfl rfl rfl rfl (by decide) ?_);intro m w e E;refine ej 6 E (OH (E.ef (xs:=([⟨z.1⟩,⟨1⟩]:List t7)) es) (Ru f (by decide))) λw E=>?_;refine⟨?_,E.J⟩;unfold gn;rw[if_neg h,c,if_pos EN]
   .
     have EN:(pv&&decide (0<z.2))=false:=by rw[<-g];congr 1;rw[Bool.eq_iff_iff,decide_eq_true_eq,decide_eq_true_eq];omega
     refine eI 10 E λw E=>?_;refine⟨?_,E.J⟩;unfold gn;rw[if_neg h,c,if_neg (by rw[EN];decide)]
theorem YE(l:List t7):s9 l=min ((l.map t7.n).sum) 18446744073709551615:=by
 have h:∀(l:List t7)(a:Nat),a<=18446744073709551615->l.foldl (λa x=>nO a x.n) a=min (a+(l.map t7.n).sum) 18446744073709551615:=by
  intro l;induction l with
  |nil=>intro a h;simp;omega
  |cons x r b=>
   intro a h;simp only[List.foldl_cons,List.map_cons,List.sum_cons];rw[b _ (by unfold nO;split<;>omega)];unfold nO;split<;>omega
 have:=h l 0 (by decide);simpa[s9]using this
variable{sr f5 f8 f9 l tK:Nat}{a iO:Int}{au:List Instr}{tk:List (Vector UInt8 64)}{x:oF}
def fp(s d:Nat)(iO:Int)(tK:Nat):List t7:=[⟨gn s 720 1 false⟩,⟨gn (max 0 iO).toNat 300 1 false⟩,⟨d%18446744073709551616/4⟩,⟨tK⟩]
def ly(s d:Nat)(iO:Int)(tK:Nat):Nat:=s9 (fp s d iO tK)
theorem ei1:(if(0:Int)<a then a else 0)=(((max 0 a).toNat:Nat):Int):=by split<;>omega
theorem ei2(b:tK<18446744073709551616):CU (fp s d iO tK):=by
 intro x a;simp only[fp,List.mem_cons,List.not_mem_nil,or_false]at a;have ez:d%18446744073709551616/4<18446744073709551616:=Nat.lt_of_le_of_lt (Nat.div_le_self _ _) (Nat.mod_lt _ (by decide));rcases a with rfl|rfl|rfl|rfl
 .exact CM
 .exact CM
 .exact ez
 exact b
theorem ei3(l:List t7)(x:t7):s9 [⟨s9 l⟩,x]=s9 (l++[x]):=by
 have h:=xM (l:=l);have e:nO 0 (s9 l)=s9 l:=by
  unfold nO;rw[if_pos (by omega)];omega
 show nO (nO 0 (s9 l)) x.n=s9 (l++[x]);rw[e];unfold s9;rw[List.foldl_append];rfl
theorem ei4(rK:Nat->World->Prop)(z:ev en x.sigs.v tk)(o:ev en x.m.instrs.v au)(D:∀e∈au,Instr.ok en e)(R: -9223372036854775808<=iO/\iO<=9223372036854775807)(a:U en [V f8 #[.int .u64 ((tK:Nat):Int)] 23,V f9 #[.int .i64 iO] 3,V f5 (O.enc x) 48] w0)(p:∀A tS,U en [V f8 #[.int .u64 ((tK:Nat):Int)] 23,V f9 #[.int .i64 iO] 3,V f5 (O.enc x) 48] A->cU sr b A tS->U en [V f8 #[.int .u64 ((tK:Nat):Int)] 23,V f9 #[.int .i64 iO] 3,V f5 (O.enc x) 48] tS)(j:∀k A tS,rK k A->eB A tS->rK k tS)(r:∀k(S:k<(fp tk.length (dM au) iO tK).length) W1,rK k W1->YieldAt Fence.wide 0 prog l #[.int .u64 ((((fp tk.length (dM au) iO tK)[k]).n:Nat):Int)] W1 λe W2=>e= .returned (.bool true)/\rK (k+1) W2/\cU sr b W1 W2)(c:rK 0 w0):eJ 169 #[.func (.yield l) #[] #[],N f5,N f9,N f8] w0 (λ_ w'=>rK 4 w'):=by
 refine eH 10 (eG _) func169 ntmps169 results169 rfl λw E=>?_;refine ag 0 E (hT λw E=>(a.ei E.J).aV es (GR x)) λw E=>?_;refine ea (Z.hL rfl ((o.ei (a.ei E.J).J)) (ew 4 E λw E=>?_));refine ex.loop (λq f w=>∃k:Nat,oW [(0,.func (.yield l) #[] #[]),(1,N f5),(2,N f9),(3,N f8),(5,.int .u64 ((dM (au.take k)%18446744073709551616:Nat):Int)),(10,x.m.instrs.v),(11,i6 au.length),(12,i6 k)] f/\U w0 [] w/\k<=au.length/\q=au.length-k) (au.length) ?_ ?_
 .
   exact⟨0,⟨rfl,rfl,rfl,rfl,rfl,rfl,rfl,rfl,trivial⟩,E,Nat.zero_le _,rfl⟩
 .
   rintro q f w ⟨k,B,E,T,th⟩;refine io _ B (λg=>?_);clear B;refine eI 6 E<|om 0 0 (λF w E=>?_) (λF w E=>?_)
   .
     have s:k<au.length:=by omega
     obtain⟨⟨nY,W,_⟩,⟨ax,t,_⟩⟩:=D au[k] (List.getElem_mem s);have G:=o.le;have u:=t.le;simp only[maxLen]at G u;refine eI 6 E λw E=>?_;refine ea (nL rfl ((o.ei (a.ei E.J).J)) rfl (by omega) ?_);refine ag 1 E (hT λw E=>((o.ei (a.ei E.J).J).se s).nZ (O.eT _)) λX w E=>?_;refine oA (iV E rfl rfl es (by first|rfl|exact O.eT _) (tA es λw E=>?_));refine ew 6 E λw E=>?_;refine ea (Z.hL rfl ((t.ei (a.ei E.J).J)) ?_);refine ew 1 E ⟨iA,λw E=>?_⟩;refine ag 9 E (fB (bu _ _)) ⟨iA,λw E=>?_⟩;exact⟨au.length-(k+1),by omega,k+1,⟨rfl,rfl,rfl,rfl,congrArg (λi:Nat=>Value.int .u64 (i:Int)) (by rw[Z1 s,GC t,Nat.mod_add_mod]),rfl,rfl,congrArg (Value.int .i64) (by omega),trivial⟩,E.sub aI,by omega,rfl⟩
   .
     obtain rfl:k=au.length:=by omega
     have H:=z.le;simp only[maxLen]at H;have C:dM (au.take au.length)%18446744073709551616<18446744073709551616:=Nat.mod_lt _ (by decide);rw[List.take_length];rw[List.take_length]at C;refine eI 7 E λw E=>?_;refine zc ?_;show oN none 0 _ _ _ [] _ [0,1,2,3,4,5,6,7] _ _;refine oN.op rfl rfl (by simp) (Z.opI (oM (v:=.func (.yield l) #[] #[]) rfl ?_));refine oN.op rfl rfl (by simp) (Z.opI (o9 rfl ?_));refine oN.op rfl rfl (by simp) (Z.opI (ap rfl ((a.ei E.J).aV es (Du x)) ?_));refine oN.op rfl rfl (by simp) (Z.opI (Z.hL rfl ((z.ei (a.ei E.J).J)) ?_));refine oN.op rfl rfl (by simp) (Z.opI (Z.conv rfl (wrap_u64 (by omega)) ?_));refine oN.op rfl rfl (by simp) (Z.opI (Z.call (OD (by omega) (by decide) (by decide)) rfl ?_));rintro _ w ⟨rfl,y⟩;replace E:=E.ei y;refine oN.op rfl rfl (by simp) (opI.yield (R':=λw'=>rK 1 w'/\cU sr b _ w') rfl rfl (r 0 (show 0<4 by decide) _ (j _ _ _ c E.J)) ?_);rintro aM ⟨d,h⟩;replace a:=p _ _ (a.ei E.J) h;clear E c;have c:=d;clear d;have E:=eG aM;refine oN.op rfl rfl (by simp) (Z.opI (Z.not rfl ?_));refine oN.nil ?_;refine s4 1 E<|na 0 4 (λI K w E=>?_) (λ_ K w E=>?_)
     .
       simp at I
     .
       refine zc ?_;show oN none 0 _ _ _ [] _ [0,1,2,3,4,5,6] _ _;refine oN.op rfl rfl (by simp) (Z.opI (oM (v:=.func (.yield l) #[] #[]) rfl ?_));refine oN.op rfl rfl (by simp) (Z.opI (ap rfl ((a.ei E.J).aV es rfl) ?_));refine oN.op rfl rfl (by simp) (Z.opI (Fu rfl rfl (ei1) ?_));refine oN.op rfl rfl (by simp) (Z.opI (Z.conv rfl (wrap_u64 (by omega)) ?_));refine oN.op rfl rfl (by simp) (Z.opI (Z.call (OD (by omega) (by decide) (by decide)) rfl ?_));rintro _ w ⟨rfl,y⟩;replace E:=E.ei y;refine oN.op rfl rfl (by simp) (opI.yield (R':=λw'=>rK 2 w'/\cU sr b _ w') rfl rfl (r 1 (show 1<4 by decide) _ (j _ _ _ c E.J)) ?_);rintro aM ⟨d,h⟩;replace a:=p _ _ (a.ei E.J) h;clear E c;have c:=d;clear d;have E:=eG aM;refine oN.op rfl rfl (by simp) (Z.opI (Z.not rfl ?_));refine oN.nil ?_;refine s4 1 E<|na 0 3 (λL M w E=>?_) (λ_ M w E=>?_)
       .
         simp at L
       .
         refine zc ?_;show oN none 0 _ _ _ [] _ [0,1,2,3] _ _;refine oN.op rfl rfl (by simp) (Z.opI (oM (v:=.func (.yield l) #[] #[]) rfl ?_));refine oN.op rfl rfl (by simp) (Z.opI (oD rfl ?_));refine oN.op rfl rfl (by simp) (Z.opI (Z.quo rfl rfl (by omega) (Am (b:=4) C) ?_));refine oN.op rfl rfl (by simp) (opI.yield (R':=λw'=>rK 3 w'/\cU sr b _ w') rfl rfl (r 2 (show 2<4 by decide) _ (j _ _ _ c E.J)) ?_);rintro aM ⟨d,h⟩;replace a:=p _ _ (a.ei E.J) h;clear E c;have c:=d;clear d;have E:=eG aM;refine oN.nil ?_;refine s4 1 E<|na 0 0 (λ_ P w E=>?_) (λQ P w E=>?_)
         .
           refine zc ?_;show oN none 0 _ _ _ [] _ [0,1,2] _ _;refine oN.op rfl rfl (by simp) (Z.opI (oM (v:=.func (.yield l) #[] #[]) rfl ?_));refine oN.op rfl rfl (by simp) (Z.opI (ap rfl ((a.ei E.J).aV es rfl) ?_));refine oN.op rfl rfl (by simp) (opI.yield (R':=λw'=>rK 4 w'/\cU sr b _ w') rfl rfl (r 3 (show 3<4 by decide) _ (j _ _ _ c E.J)) ?_);rintro aM ⟨d,h⟩;replace a:=p _ _ (a.ei E.J) h;clear E c;have c:=d;clear d;have E:=eG aM;refine oN.nil ?_;refine s4 1 E λw E=>?_;exact j _ _ _ c E.J
         .
           simp at Q
theorem ei6(a:U en S w0):eJ 98 #[.agg (O.enc x),.int .i64 iO,.int .u64 ((tK:Nat):Int)] w0 (λu w'=>∃f8 f9 f5,u= .func (.func 169) #[] #[N f5,N f9,N f8]/\U en (V f8 #[.int .u64 ((tK:Nat):Int)] 23::V f9 #[.int .i64 iO] 3::V f5 (O.enc x) 48::S) w'):=by
 refine eH 16 a func98 ntmps98 results98 rfl λtZ aF b w E=>?_;exact⟨b,aF,tZ,rfl,E⟩
variable{c:Array Value}{w:World}
theorem ei7{T:TypeId}(d:ev en x.sigs.v tk)(f:ev en x.m.instrs.v au)(g:∀e∈au,Instr.ok en e)(h: -9223372036854775808<=iO/\iO<=9223372036854775807)
 (a:U en [V b c T,V f8 #[.int .u64 ((tK:Nat):Int)] 23,V f9 #[.int .i64 iO] 3,V f5 (O.enc x) 48] w):Pz prog 169 [N f5,N f9,N f8] (λy:t7=>.int .u64 ((y.n:Nat):Int)) (fp tk.length (dM au) iO tK) w.heap.size b w:=by
 intro l rK W i j k em;have o:U en [V f8 #[.int .u64 ((tK:Nat):Int)] 23,V f9 #[.int .i64 iO] 3,V f5 (O.enc x) 48] w:=a.sub aI;exact ei4 rK d f g h (o.ei i) (λA tS p q=>JK a p q) j k em
theorem ei8(B:ev w0 x.sigs.v tk)(C:ev w0 x.m.instrs.v au)(D:∀e∈au,Instr.ok w0 e)(F: -9223372036854775808<=iO/\iO<=9223372036854775807)(H:tK<18446744073709551616):
 eJ 36 #[.agg (O.enc x),.int .i64 iO,.int .u64 ((tK:Nat):Int)] w0 (λu w'=>u= .int .u64 ((ly tk.length (dM au) iO tK:Nat):Int)/\eB w0 w'):=by
 refine PO (args:=[.agg (O.enc x),.int .i64 iO,.int .u64 ((tK:Nat):Int)]) func36 rfl ntmps36 rfl ?_;have E:=eG w0;refine Nf ?_;show oN none 2 _ _ _ _ _ [0,1] _ _;refine oN.op rfl rfl (by simp) (Z.opI (br E rfl ?_));intro tZ w _ E;refine oN.op rfl rfl (by simp) (Z.opI (iM rfl ?_));refine oN.nil ⟨rfl,?_⟩;refine Nf ?_;show oN none 2 _ _ _ _ _ [0,1] _ _;refine oN.op rfl rfl (by simp) (Z.opI (jh E rfl ?_));intro f w _ E;refine jx rfl (by simp) (Z.opI (IG (c:=#[.int .u64 0]) E rfl rfl es rfl rfl (o0 _ _) ?_));intro w E;replace E:=E _ es;refine oN.nil ⟨rfl,?_⟩;refine lq.seq (Nf ?_);show oN none 2 _ _ _ _ _ [0,1,2,3] _ _;refine oN.op rfl rfl (by simp) (Z.opI (ap rfl (E.nZ (cs:=O.enc x) es (O.eT _)) ?_));refine oN.op rfl rfl (by simp) (Z.opI (oD rfl ?_));refine oN.op rfl rfl (by simp) (Z.opI (oD rfl ?_));refine oN.op rfl rfl (by simp) (Z.opI (Z.call (ei6 (E.sub (tg:=[V f #[.int .u64 0] 23]) aI)) rfl ?_));rintro _ w ⟨f8,f9,f5,rfl,E⟩;refine oN.nil ⟨rfl,?_⟩;replace E:U w0 [V f #[.int .u64 ((s9 ((fp tk.length (dM au) iO tK).take (0)):Nat):Int)] 23,V f8 #[.int .u64 ((tK:Nat):Int)] 23,V f9 #[.int .i64 iO] 3,V f5 (O.enc x) 48] w:=E.pick (e:=V f #[.int .u64 0] 23) es;have j:=E.J.size;have hlen:(fp tk.length (dM au) iO tK).length=4:=rfl;refine lq.range (xs:=(fp tk.length (dM au) iO tK)) (enc:=λy:t7=>.int .u64 ((y.n:Nat):Int)) (b:=f) (oS:=[N f5,N f9,N f8]) rfl rfl (ei7 B C D F E)
  (λk W=>U w0 [V f #[.int .u64 ((s9 ((fp tk.length (dM au) iO tK).take (k)):Nat):Int)] 23,V f8 #[.int .u64 ((tK:Nat):Int)] 23,V f9 #[.int .i64 iO] 3,V f5 (O.enc x) 48] W/\w.heap.size<=W.heap.size) 8 ?I ⟨E,Nat.le_refl _⟩ ?ep ?K ?hd
 case ep=>
  intro l y W;show oN (some l) 0 _ _ _ _ _ [0] _ _;refine oN.op rfl rfl (by simp) (Z.opI (wy (v:=.int .u64 ((y.n:Nat):Int)) rfl ?_));exact oN.nil ⟨rfl,rfl,rfl⟩
 case I=>
  rintro k A tS row ⟨G,Y⟩ o L;exact⟨G.J4 o L j (by intro e p;simp only[List.mem_cons,List.not_mem_nil,or_false]at p;rcases p with rfl|rfl|rfl|rfl<;>exact⟨_,_,_,rfl⟩),Nat.le_trans Y o.size⟩
 case K=>
  rintro l k q W ⟨E,g⟩;have r:=ei2 (s:=tk.length) (d:=dM au) (iO:=iO) H _ (List.getElem_mem q);generalize M:(fp tk.length (dM au) iO tK)[k]=y at r⊢;show oN (some l) 0 _ _ _ _ _ [0,1,2,3,4] _ _;refine oN.op rfl rfl (by simp) (Z.opI (ap (v:=.int .u64 ((s9 ((fp tk.length (dM au) iO tK).take (k)):Nat):Int)) rfl (E.aV es rfl) ?_));refine oN.op rfl rfl (by simp) (Z.opI (oM (v:=.int .u64 ((y.n:Nat):Int)) rfl ?_));refine oN.op rfl rfl (by simp) (Z.opI (n4 E ([⟨s9 ((fp tk.length (dM au) iO tK).take k)⟩,y]:List t7) [.int .u64 ((s9 ((fp tk.length (dM au) iO tK).take k):Nat):Int),.int .u64 ((y.n:Nat):Int)] rfl rfl rfl rfl (by decide) ?_));intro S aM P E;refine oN.op rfl rfl (by simp) (Z.opI (Z.call (OH (E.ef (xs:=([⟨s9 ((fp tk.length (dM au) iO tK).take k)⟩,y]:List t7)) es) (Ru (xM) r)) rfl ?_));rintro _ pn ⟨rfl,t⟩;replace E:=E.ei t;rw[ei3,<-M,<-List.take_succ_eq_append_getElem q];refine jx rfl (by simp) (Z.opI (J5 (b:=f) (v:=.int .u64 ((s9 ((fp tk.length (dM au) iO tK).take (k+1)):Nat):Int)) E rfl rfl rfl rfl es ?_));intro T E Q z;replace E:=E _ es;have h:=P.trans t;exact oN.nil ⟨rfl,(J2 h).trans z,(JV h g).trans (Q _),E.sub aI,Nat.le_trans g (Nat.le_trans h.size z.size)⟩
 case hd=>
  rintro d W ⟨E,g⟩ i R a ep;refine lq.run (Nf ?_) ep;show oN none 2 _ _ _ _ _ [0,1] _ _;refine oN.op rfl rfl (by simp) (Z.opI (ap (v:=.int .u64 ((ly tk.length (dM au) iO tK:Nat):Int)) rfl (E.aV es rfl) ?_));refine oN.op rfl rfl (by simp) (Z.opI (wy (v:=.int .u64 ((ly tk.length (dM au) iO tK:Nat):Int)) rfl ?_));refine oN.nil ⟨rfl,?_⟩;refine lq.ret λa ep=>?_;exact J1 ep i results36 (.yi (v:=.int .u64 ((ly tk.length (dM au) iO tK:Nat):Int)) rfl .nil) ⟨rfl,E.J.putObj (Nat.le_trans j R)⟩
end
section
open Go.Proofs Tryz
variable{A tS c:Nat}{b o3:sD}{YI YN:Value}{s oL:Int}{w w' w0:World}
structure mP where
 sigs:Int
 b:sD
 deriving DecidableEq
variable{x:mP}
def mP.parts(x:mP):List (Array Value):=[#[.int .i64 x.sigs],O.enc x.b]
theorem ene(x:mP):x.parts.map Array.size=[1,3]:=by
 simp only[mP.parts,List.map,O.eT];rfl
instance:O mP where
 enc x:=eK x.parts
 eo:=4
 pos:=by omega
 eT x:=by rw[iw,ene];rfl
 one x:=rY (all_cons (o0 _ _) (all_cons (O.one _) rB))
instance(priority:=2000):nt (⟨oL,o3⟩:mP) [#[.int .i64 oL],O.enc o3]:=⟨rfl⟩
def ES(s:Int):Nat:=gn s.toNat 5000 1 false
def CW(b:sD):Nat:=gn b.xj b.tK 1000000 true
def dE(s:Int)(b:sD):Nat:=s9 [⟨ES s⟩,⟨CW b⟩]
def qp(s:Int)(b:sD)(c:Nat):Nat:=gn (s9 [⟨ES s/2⟩,⟨CW b⟩]) 1000000 (s9 [⟨c⟩,⟨1⟩]) false
def ki(b:sD):Prop:=b.tK<18446744073709551616/\b.xj<18446744073709551616
theorem YS(a: -9223372036854775808<=s/\s<=9223372036854775807)(c:ki b):tN 96 #[.agg (O.enc (mP.mk s b))] w0 (.int .u64 ((ES s:Nat):Int)):=by
 refine eH 10 (eG _) func96 ntmps96 results96 rfl λiZ w E=>?_;exact ea (Fu rfl rfl (show(if(0:Int)<s then s else 0)=((s.toNat:Nat):Int)from by split<;>omega) (ew 1 E ⟨iA,λw E=>(ej 5 E (OD (by omega) (by decide) (by decide)) λw E=>(⟨rfl,E.J⟩))⟩))
theorem ent(a: -9223372036854775808<=s/\s<=9223372036854775807)(c:ki b):tN 101 #[.agg (O.enc (mP.mk s b))] w0 (.int .u64 ((ES s/2:Nat):Int)):=by
 refine eH 9 (eG _) func101 ntmps101 results101 rfl λiZ w E=>?_;refine ej 0 E (YS a c) λw E=>?_;refine ag 5 E (AM (by omega) (Am (b:=2) (OL (pv:=false)))) λw E=>?_;exact⟨rfl,E.J⟩
theorem YR(c: -9223372036854775808<=s/\s<=9223372036854775807)(a:ki b):tN 97 #[.agg (O.enc (mP.mk s b))] w0 (.int .u64 ((CW b:Nat):Int)):=by
 refine eH 14 (eG _) func97 ntmps97 results97 rfl λiZ w E=>?_;refine ej 5 E (OD a.2 a.1 (by decide)) λw E=>?_;exact⟨rfl,E.J⟩
theorem YH(b:A<18446744073709551616)(c:tS<18446744073709551616)(ep:∀w,mH prog YI [] w (λu w'=>u= .int .u64 ((A:Nat):Int)/\eB w w'))(d:∀w,mH prog YN [] w (λu w'=>u= .int .u64 ((tS:Nat):Int)/\eB w w')):tN 95 #[YI,YN] w0 (.int .u64 ((s9 [⟨A⟩,⟨tS⟩]:Nat):Int)):=by
 refine eH 8 (eG _) func95 ntmps95 results95 rfl λw E=>?_;refine ea (bw rfl (ep _) rfl ?_);rintro _ w ⟨rfl,a⟩;replace E:=E.ei a;refine ew 1 E λw E=>?_;refine ea (bw rfl (d _) rfl ?_);rintro _ w ⟨rfl,a⟩;replace E:=E.ei a;refine ea (n4 E (([⟨A⟩,⟨tS⟩]:List t7)) [.int .u64 ((A:Nat):Int),.int .u64 ((tS:Nat):Int)] rfl rfl rfl rfl (by decide) ?_);intro r2 w a E;refine ej 5 E (OH (E.ef (xs:=([⟨A⟩,⟨tS⟩]:List t7)) es) (Ru b c)) λw E=>?_;exact⟨rfl,E.J⟩
theorem ena(a: -9223372036854775808<=s/\s<=9223372036854775807)(c:ki b):tN 35 #[.int .i64 s,.agg (O.enc b)] w0 (.int .u64 ((dE s b:Nat):Int)):=by
 refine eH 10 (eG _) func35 ntmps35 results35 rfl λtZ w E=>?_;refine ag 1 E (p0 ((mP.mk s b):mP)) λd w E=>?_;refine oA (iV E rfl rfl es (by first|rfl|exact O.eT _) (tA es λw E=>?_));refine ew 8 E λw E=>?_;refine ej 5 E (YH (OL (pv:=false)) (OL (pv:=true)) (λw=>⟨_,[.agg (O.enc (mP.mk s b))],[],rfl,inferInstance,YS a c⟩) (λw=>⟨_,[.agg (O.enc (mP.mk s b))],[],rfl,inferInstance,YR a c⟩)) λw E=>?_;exact⟨rfl,E.J⟩
theorem eno(a: -9223372036854775808<=s/\s<=9223372036854775807)(d:ki b)(e:c<18446744073709551616):tN 38 #[.int .i64 s,.agg (O.enc b),.int .u64 ((c:Nat):Int)] w0 (.int .u64 ((qp s b c:Nat):Int)):=by
 refine eH 10 (eG _) func38 ntmps38 results38 rfl λaF w E=>?_;refine ag 1 E (p0 ((mP.mk s b):mP)) λf w E=>?_;refine oA (iV E rfl rfl es (by first|rfl|exact O.eT _) (tA es λw E=>?_));refine ew 8 E λw E=>?_;refine ej 1 E (YH (Nat.lt_of_le_of_lt (Nat.div_le_self _ _) (OL (pv:=false))) (OL (pv:=true)) (λw=>⟨_,[.agg (O.enc (mP.mk s b))],[],rfl,inferInstance,ent a d⟩) (λw=>⟨_,[.agg (O.enc (mP.mk s b))],[],rfl,inferInstance,YR a d⟩)) λw E=>?_;refine ea (n4 E (([⟨c⟩,⟨1⟩]:List t7)) [.int .u64 ((c:Nat):Int),.int .u64 1] rfl rfl rfl rfl (by decide) ?_);intro g w h E;refine ej 0 E (OH (E.ef (xs:=([⟨c⟩,⟨1⟩]:List t7)) es) (Ru e (by decide))) λw E=>?_;refine ej 5 E (OD (xM) (by decide) (xM)) λw E=>?_;exact⟨rfl,E.J⟩
end
end Go.Fer
