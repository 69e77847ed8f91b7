import Derived.Test.YtncdhadaifhleaaGreatDoorF3
set_option linter.all false
set_option synthInstance.maxSize 100000
set_option synthInstance.maxHeartbeats 400000
set_option maxHeartbeats 8000000
set_option maxRecDepth 100000
namespace Go.Fer
open Go Go.RowKit
section
open Go.Proofs Tryz
variable{bV gu la dH W a b c d ew i r5 wW iV q r s v v0 am x y:Nat}{w0:World}
def Ce:ByteArray:=⟨#[0,1,2,2,3,3,3,3,4,4,4,4,4,4,4,4,5,5,5,5,5,5,5,5,5,5,5,5,5,5,5,5,6,6,6,6,6,6,6,6,6,6,6,6,6,6,6,6,6,6,6,6,6,6,6,6,6,6,6,6,6,6,6,6,7,7,7,7,7,7,7,7,7,7,7,7,7,7,7,7,7,7,7,7,7,7,7,7,7,7,7,7,7,7,7,7,7,7,7,7,7,7,7,7,7,7,7,7,7,7,7,7,7,7,7,7,7,7,7,7,7,7,7,7,7,7,7,7,8,8,8,8,8,8,8,8,8,8,8,8,8,8,8,8,8,8,8,8,8,8,8,8,8,8,8,8,8,8,8,8,8,8,8,8,8,8,8,8,8,8,8,8,8,8,8,8,8,8,8,8,8,8,8,8,8,8,8,8,8,8,8,8,8,8,8,8,8,8,8,8,8,8,8,8,8,8,8,8,8,8,8,8,8,8,8,8,8,8,8,8,8,8,8,8,8,8,8,8,8,8,8,8,8,8,8,8,8,8,8,8,8,8,8,8,8,8,8,8,8,8,8,8,8,8,8,8]⟩
theorem eiE(h:i<256):Ce[i]? =some (UInt8.ofNat (bitLen i)):=by
 have G:∀j:Fin 256,Ce[j.val]? =some (UInt8.ofNat (bitLen j.val)):=by decide+kernel
 exact G ⟨i,h⟩
theorem eiT(h:i<256):((UInt8.ofNat (bitLen i)).toNat:Int)=((bitLen i:Nat):Int):=by
 have:=bitLen_le8 i h;rw[UInt8.toNat_ofNat'];omega
theorem eiA(em:d≠0)(h:d<18446744073709551616):64-bitLen d<64/\d*2^(64-bitLen d)<18446744073709551616/\9223372036854775808<=d*2^(64-bitLen d)/\bitLen d<=64:=by
 obtain⟨G,Y⟩:=bitLen_spec d;have Y:=Y em;have hb:bitLen d<=64:=by
  rcases Nat.lt_or_ge 64 (bitLen d)with ej|ej
  .have:=Nat.pow_le_pow_right (show 0<2 by decide) (show 64<=bitLen d-1 by omega);omega
  exact ej
 have b:1<=bitLen d:=by
  rcases Nat.eq_zero_or_pos (bitLen d)with ej|ej
  .rw[ej]at G;omega
  exact ej
 have a:0<2^(64-bitLen d):=Nat.two_pow_pos _;refine⟨by omega,?_,?_,hb⟩
 .have:=(Nat.mul_lt_mul_right a).2 G;rw[<-Nat.pow_add,show bitLen d+(64-bitLen d)=64 by omega]at this;exact this
 have:=Nat.mul_le_mul_right (2^(64-bitLen d)) Y;rw[<-Nat.pow_add,show bitLen d-1+(64-bitLen d)=63 by omega]at this;exact this
theorem qc:Int.fdiv (a:Int) (2^(min (Int.toNat 32) IntKind.u64.bits))=((a/4294967296:Nat):Int):=zw (a:=a) (k:=32) (by omega)
theorem ko(h:a=b):(a:Int)=(b:Int):=by rw[h]
instance:Pu prog 9:=⟨underlying9⟩
theorem eiO(Z:x<18446744073709551616)(a:y<18446744073709551616):tS 237 #[.int .u64 ((x:Nat):Int),.int .u64 ((y:Nat):Int)] w0 (.tuple #[.int .u64 ((x*y/18446744073709551616:Nat):Int),.int .u64 ((x*y%18446744073709551616:Nat):Int)]):=by
 obtain⟨G,Y,ej,e8,au,a2,iK,iG,sr⟩:=Qo Z a;refine eN 9 (eY _) func237 ntmps237 results237 rfl λw E=>?_;refine af 6 E (p7 (T0 Z)) λw E=>?_;refine af 6 E (lQ (by omega) (qc)) λw E=>?_;refine af 6 E (p7 (T0 a)) λw E=>?_;refine af 7 E (lQ (by omega) (qc)) λw E=>?_;refine af 7 E (fm (zg G)) λw E=>?_;refine af 1 E (fm (zg Y)) λw E=>?_;refine af 0 E (lQ (by omega) (qc)) λw E=>?_;refine af 6 E (fF (zp au)) λw E=>?_;refine af 6 E (p7 (T0 au)) λw E=>?_;refine af 8 E (lQ (by omega) (qc)) λw E=>?_;refine af 0 E (fm (zg ej)) λw E=>?_;refine af 7 E (fF (zp a2)) λw E=>?_;refine af 1 E (fm (zg e8)) λw E=>?_;refine af 1 E (fF (zp iK)) λw E=>?_;refine af 0 E (lQ (by omega) (qc)) λw E=>?_;refine af 7 E (fF ((zp iG).trans (ko sr))) λw E=>?_;refine af 5 E (fm (yv x y)) λw E=>?_;exact⟨rfl,E.ee⟩
theorem Ct(Z:x<18446744073709551616):tS 258 #[.int .u64 ((x:Nat):Int)] w0 (.int .i64 ((bitLen x:Nat):Int)):=by
 refine eN 5 (eY _) func258 ntmps258 results258 rfl λw E=>?_;refine lB (λf w=>∃z n:Nat,oV [(0,.int .u64 ((z:Nat):Int)),(2,.int .i64 ((n:Nat):Int))] f/\U w0 [] w/\bitLen x=n+bitLen z/\z<4294967296/\n<=32) ?_ ?_
 .
   refine eA 6 E<|om 3 2 (λe w E=>?_) (λe w E=>?_)
   .
     refine af 7 E (lQ (by omega) (zw (k:=32) (by omega))) λw E=>?_;exact⟨x/2^32,32,⟨rfl,congrArg (Value.int .i64) (by omega),trivial⟩,E,(by have:=bitLen_shift x 32 (by have:0<x/2^32:=Nat.div_pos (by omega) (by decide);omega);omega),by omega,by omega⟩
   .
     exact⟨x,0,⟨rfl,congrArg (Value.int .i64) (by omega),trivial⟩,E,by omega,by omega,by omega⟩
 .
   rintro f w ⟨z,n,a,E,c,b,d⟩;refine il _ a (λg=>?_);clear a;refine lB (λf w=>∃z n:Nat,oV [(0,.int .u64 ((z:Nat):Int)),(2,.int .i64 ((n:Nat):Int))] f/\U w0 [] w/\bitLen x=n+bitLen z/\z<65536/\n<=48) ?_ ?_
   .
     refine eA 6 E<|om 3 2 (λh w E=>?_) (λh w E=>?_)
     .
       refine af 9 E (lQ (by omega) (zw (k:=16) (by omega))) ⟨ib,λw E=>?_⟩;exact⟨z/2^16,n+16,⟨rfl,congrArg (Value.int .i64) (by omega),trivial⟩,E,(by have:=bitLen_shift z 16 (by have:0<z/2^16:=Nat.div_pos (by omega) (by decide);omega);omega),by omega,by omega⟩
     .
       exact⟨z,n,⟨rfl,congrArg (Value.int .i64) (by omega),trivial⟩,E,by omega,by omega,by omega⟩
   .
     rintro f w ⟨z,n,a,E,c,b,d⟩;refine il _ a (λg=>?_);clear a;refine lB (λf w=>∃z n:Nat,oV [(0,.int .u64 ((z:Nat):Int)),(2,.int .i64 ((n:Nat):Int))] f/\U w0 [] w/\bitLen x=n+bitLen z/\z<256/\n<=56) ?_ ?_
     .
       refine eA 6 E<|om 3 2 (λj w E=>?_) (λj w E=>?_)
       .
         refine af 9 E (lQ (by omega) (zw (k:=8) (by omega))) ⟨ib,λw E=>?_⟩;exact⟨z/2^8,n+8,⟨rfl,congrArg (Value.int .i64) (by omega),trivial⟩,E,(by have:=bitLen_shift z 8 (by have:0<z/2^8:=Nat.div_pos (by omega) (by decide);omega);omega),by omega,by omega⟩
       .
         exact⟨z,n,⟨rfl,congrArg (Value.int .i64) (by omega),trivial⟩,E,by omega,by omega,by omega⟩
     .
       rintro f w ⟨z,n,a,E,c,b,d⟩;refine il _ a (λg=>?_);clear a;refine eA 5 E ⟨ib,λw E=>?_⟩;exact et (J9 (s:=Ce) (i:=z) rfl rfl (eiE b) (et (J.conv rfl (show IntKind.i64.wrap _=((bitLen z:Nat):Int)from by rw[eiT b];exact wrap_i64 (by have:=bitLen_le8 z b;omega)) (af 5 E (fF (show IntKind.i64.wrap _=((bitLen x:Nat):Int)from by have:=bitLen_le8 z b;rw[c];exact(wrap_i64 (by omega)).trans (Int.natCast_add _ _).symm)) λw E=>(⟨rfl,E.ee⟩)))))
theorem eiI(Z:x<18446744073709551616)(hb:bitLen x<=64):tS 238 #[.int .u64 ((x:Nat):Int)] w0 (.int .i64 ((64-bitLen x:Nat):Int)):=by
 refine eN 8 (eY _) func238 ntmps238 results238 rfl λw E=>?_;refine ev 0 E (Ct Z) λw E=>?_;exact et (J.sub rfl rfl (show IntKind.i64.wrap _=((64-bitLen x:Nat):Int)from(wrap_i64 (by omega)).trans (by omega)) (ey 5 E λw E=>(⟨rfl,E.ee⟩)))
def wY(b c v:Nat):Nat->Nat->Nat
 |0,_=>0
 |q+1,r=>if 4294967296<=q+1∨(4294967296*r%18446744073709551616+c)%18446744073709551616<(q+1)*b%18446744073709551616 then(if 4294967296<=(r+v)%18446744073709551616 then q else wY b c v q ((r+v)%18446744073709551616))else q+1
theorem SW(h:4294967296<=q∨(4294967296*r%18446744073709551616+c)%18446744073709551616<q*b%18446744073709551616):0<q/\wY b c v q r=if 4294967296<=(r+v)%18446744073709551616 then q-1 else wY b c v (q-1) ((r+v)%18446744073709551616):=by
 cases q with
 |zero=>rw[Nat.zero_mul]at h;omega
 |succ q=>exact⟨Nat.succ_pos q,if_pos h⟩
theorem WZ(h:¬4294967296<=q)(Y:¬(4294967296*r%18446744073709551616+c)%18446744073709551616<q*b%18446744073709551616):wY b c v q r=q:=by
 cases q with
 |zero=>rfl
 |succ q=>exact if_neg (λe=>e.elim h Y)
def bK(ew r5 d:Nat):Nat×Nat:=
 if ew=0 then(r5/d,r5%d)else
 let s:=64-bitLen d
 let y:=d*2^s
 let dH:=ew*2^s+r5/2^(64-s)
 let W:=r5*2^s%18446744073709551616
 let am:=y/4294967296
 let v0:=y%4294967296
 let gu:=wY v0 (W/4294967296) am (dH/am) (dH-dH/am*am)
 let la:=((dH*4294967296%18446744073709551616+W/4294967296)%18446744073709551616+18446744073709551616-gu*y%18446744073709551616)%18446744073709551616
 let bV:=wY v0 (W%4294967296) am (la/am) (la-la/am*am)
 ((gu*4294967296%18446744073709551616+bV)%18446744073709551616,((la*4294967296%18446744073709551616+W%4294967296)%18446744073709551616+18446744073709551616-bV*y%18446744073709551616)%18446744073709551616/2^s)
theorem eiN(em:ew≠0)(G:s=64-bitLen d)(Y:y=d*2^s)(ej:dH=ew*2^s+r5/2^(64-s))(e8:W=r5*2^s%18446744073709551616)(au:am=y/4294967296)(a2:v0=y%4294967296)(iK:iV=W/4294967296)(iG:wW=W%4294967296)(sr:gu=wY v0 iV am (dH/am) (dH-dH/am*am))
 (hh:la=((dH*4294967296%18446744073709551616+iV)%18446744073709551616+18446744073709551616-gu*y%18446744073709551616)%18446744073709551616) (l5:bV=wY v0 wW am (la/am) (la-la/am*am)):
 bK ew r5 d=((gu*4294967296%18446744073709551616+bV)%18446744073709551616,((la*4294967296%18446744073709551616+wW)%18446744073709551616+18446744073709551616-bV*y%18446744073709551616)%18446744073709551616/2^s):=by
 rw[l5,hh,sr,iG,iK,a2,au,e8,ej,Y,G];exact if_neg em
theorem W3(eB:r5<18446744073709551616):(bK ew r5 d).1<18446744073709551616:=by
 unfold bK;split
 .exact Nat.lt_of_le_of_lt (Nat.div_le_self _ _) eB
 exact Nat.mod_lt _ (by decide)
theorem eiS(nN:ew<d)(eB:r5<18446744073709551616)(hd:d<18446744073709551616):tS 173 #[.int .u64 ((ew:Nat):Int),.int .u64 ((r5:Nat):Int),.int .u64 ((d:Nat):Int)] w0 (.tuple #[.int .u64 (((bK ew r5 d).1:Nat):Int),.int .u64 (((bK ew r5 d).2:Nat):Int)]):=by
 refine eN 13 (eY _) func173 ntmps173 results173 rfl<|na 0 10 (λie tz w E=>?_) (λ_ tz w E=>?_)
 .
   simp only[decide_eq_true_eq]at ie;omega
 .
   refine NT 0 9 E (λoe ah w E=>?_) (λ_ ah w E=>?_)
   .
     simp only[decide_eq_true_eq]at oe;omega
   .
     refine wR 0 0 E (λa8 w E=>?_) (λa8 w E=>?_)
     .
       obtain rfl:ew=0:=by omega
       refine eA 1 E ?_;refine aC 2 8 (eX [0,1,2,3,4,5,6,7] .nil) [] λw E=>?_;refine mR 2 E (Ag (by omega) (TZ eB)) λw E=>?_;refine mR 7 E (NL (by omega) (FF _ _)) λw E=>?_;exact⟨rfl,E.ee⟩
     .
       have Ca:ew≠0:=by omega
       obtain⟨s,A⟩:∃s,s=64-bitLen d:=⟨_,rfl⟩;obtain⟨p,B,C,Oa⟩:=eiA (d:=d) (by omega) hd;rw[<-A]at p B C;obtain⟨D,F⟩:=Qi p nN eB;obtain⟨y,G⟩:∃y,y=d*2^s:=⟨_,rfl⟩;obtain⟨dH,x⟩:∃dH,dH=ew*2^s+r5/2^(64-s):=⟨_,rfl⟩;obtain⟨W,o4⟩:∃W,W=r5*2^s%18446744073709551616:=⟨_,rfl⟩;obtain⟨am,Q⟩:∃v,v=y/4294967296:=⟨_,rfl⟩;obtain⟨v0,R⟩:∃v,v=y%4294967296:=⟨_,rfl⟩;obtain⟨iV,S⟩:∃v,v=W/4294967296:=⟨_,rfl⟩;obtain⟨wW,T⟩:∃v,v=W%4294967296:=⟨_,rfl⟩;obtain⟨gu,V⟩:∃q,q=wY v0 iV am (dH/am) (dH-dH/am*am):=⟨_,rfl⟩;obtain⟨la,H⟩:∃q,q=((dH*4294967296%18446744073709551616+iV)%18446744073709551616+18446744073709551616-gu*y%18446744073709551616)%18446744073709551616:=⟨_,rfl⟩;obtain⟨bV,X⟩:∃q,q=wY v0 wW am (la/am) (la-la/am*am):=⟨_,rfl⟩;have I:y<18446744073709551616:=G▸B;have t:dH<18446744073709551616:=by rw[x];omega
       have Y:ew*2^s+r5/2^(64-s)<18446744073709551616:=x▸t;have eyj:0<am:=by omega
       have K:W<18446744073709551616:=by rw[o4];exact Nat.mod_lt _ (by decide)
       have z:la<18446744073709551616:=by rw[H];exact Nat.mod_lt _ (by decide)
       clear D;refine eA 5 E λw E=>?_;refine ev 0 E (eiI hd Oa) λw E=>?_;rw[<-A];refine ey 8 E ⟨ib,λw E=>?_⟩;refine af 6 E (ND (by omega) ((Pf p B).trans (ko G.symm))) λw E=>?_;refine af 6 E (lQ (by omega) ((qc).trans (ko Q.symm))) λw E=>?_;refine af 7 E (p7 ((T0 I).trans (ko R.symm))) λw E=>?_;refine af 2 E (ND (by omega) (Pf p (Nat.lt_of_le_of_lt (Nat.le_add_right _ _) Y))) λw E=>?_;refine af 0 E (p6 (yb (a:=64) (b:=s) (by omega) (by omega))) λw E=>?_;refine af 0 E (lQ (by omega) (zw (k:=64-s) (by omega))) λw E=>?_;refine af 7 E (NH ((Qt (k:=s) F Y).trans (ko x.symm))) λw E=>?_;refine af 6 E (ND (by omega) ((Qe p).trans (ko o4.symm))) λw E=>?_;refine af 6 E (lQ (by omega) ((qc).trans (ko S.symm))) λw E=>?_;refine af 7 E (p7 ((T0 K).trans (ko T.symm))) λw E=>?_;refine et (J.quo rfl rfl (by omega) (TZ t) ?_);refine ey 8 E λw E=>?_;refine af 0 E (fm (zg (Nat.lt_of_le_of_lt (Nat.div_mul_le_self _ _) t))) λw E=>?_;refine af 3 E (p6 (yb (Nat.div_mul_le_self _ _) t)) λw E=>?_;refine lB (λf w=>oV [(2,.int .u64 ((y:Nat):Int)),(8,.int .u64 ((s:Nat):Int)),(9,.int .u64 ((am:Nat):Int)),(10,.int .u64 ((v0:Nat):Int)),(11,.int .u64 ((dH:Nat):Int)),(13,.int .u64 ((iV:Nat):Int)),(14,.int .u64 ((wW:Nat):Int)),(15,.int .u64 ((gu:Nat):Int))] f/\U w0 [] w) ?_ ?_
       .
         refine eA 1 E λw E=>?_;refine ek.loop (λm f w=>∃q r:Nat,oV [(2,.int .u64 ((y:Nat):Int)),(8,.int .u64 ((s:Nat):Int)),(9,.int .u64 ((am:Nat):Int)),(10,.int .u64 ((v0:Nat):Int)),(11,.int .u64 ((dH:Nat):Int)),(13,.int .u64 ((iV:Nat):Int)),(14,.int .u64 ((wW:Nat):Int)),(15,.int .u64 ((q:Nat):Int)),(16,.int .u64 ((r:Nat):Int))] f/\U w0 [] w/\wY v0 iV am q r=gu/\m=q/\q<18446744073709551616) (dH/am) ?_ ?_
         .
           exact⟨dH/am,dH-dH/am*am,⟨rfl,rfl,rfl,rfl,rfl,rfl,rfl,rfl,rfl,trivial⟩,E,V.symm,rfl,Nat.lt_of_le_of_lt (Nat.div_le_self _ _) t⟩
         .
           rintro m f w ⟨q,r,j,E,l,e5,u⟩;refine il _ j (λg=>?_);clear j;refine eA 6 E λw E=>?_;cases Z:(decide ((4294967296:Int)<=(q:Int)))with
           |true=>
            refine ey 11 E<|na 0 0 (λn L w E=>?_) (λn L w E=>?_)
            .
              obtain⟨M,h⟩:=SW (b:=v0) (c:=iV) (v:=am) (q:=q) (r:=r) (.inl (by have:=of_decide_eq_true Z;omega));rw[l]at h;refine eA 6 E λw E=>?_;refine af 7 E (p6 (yb (b:=1) (by omega) u)) λw E=>?_;refine af 9 E (fF (bl _ _))<|om 5 3 (λN w E=>?_) (λN w E=>?_)
              .
                exact⟨⟨rfl,rfl,rfl,rfl,rfl,rfl,rfl,congrArg (λi:Nat=>Value.int .u64 (i:Int)) (h.trans (if_pos (by omega))).symm,trivial⟩,E⟩
              .
                exact⟨q-1,by omega,q-1,(r+am)%18446744073709551616,⟨rfl,rfl,rfl,rfl,rfl,rfl,rfl,rfl,rfl,trivial⟩,E,(h.trans (if_neg (by omega))).symm,rfl,by omega⟩
            .
              simp at n
           |false=>
            refine ey 2 E λw E=>?_;refine af 1 E (fm (yv q v0)) λw E=>?_;refine af 1 E (fm (yv 4294967296 r)) λw E=>?_;refine af 4 E (fF (bl _ _))<|na 0 5 (λn L w E=>?_) (λn L w E=>?_)
            .
              obtain⟨M,h⟩:=SW (b:=v0) (c:=iV) (v:=am) (q:=q) (r:=r) (.inr (Int.ofNat_lt.1 (of_decide_eq_true n)));rw[l]at h;refine eA 6 E λw E=>?_;refine af 7 E (p6 (yb (b:=1) (by omega) u)) λw E=>?_;refine af 9 E (fF (bl _ _))<|om 5 3 (λN w E=>?_) (λN w E=>?_)
              .
                exact⟨⟨rfl,rfl,rfl,rfl,rfl,rfl,rfl,congrArg (λi:Nat=>Value.int .u64 (i:Int)) (h.trans (if_pos (by omega))).symm,trivial⟩,E⟩
              .
                exact⟨q-1,by omega,q-1,(r+am)%18446744073709551616,⟨rfl,rfl,rfl,rfl,rfl,rfl,rfl,rfl,rfl,trivial⟩,E,(h.trans (if_neg (by omega))).symm,rfl,by omega⟩
            .
              exact⟨⟨rfl,rfl,rfl,rfl,rfl,rfl,rfl,congrArg (λi:Nat=>Value.int .u64 (i:Int)) ((WZ (λe=>of_decide_eq_false Z (Int.ofNat_le.2 e)) (λe=>of_decide_eq_false n (Int.ofNat_lt.2 e))).symm.trans l),trivial⟩,E⟩
       .
         rintro f w ⟨j,E⟩;refine il _ j (λg=>?_);clear j;refine eA 3 E λw E=>?_;refine af 1 E (fm (yv dH 4294967296)) λw E=>?_;refine af 2 E (fF (bl _ _)) λw E=>?_;refine af 0 E (fm (yv gu y)) λw E=>?_;refine af 7 E (p6 ((Pm _ _ (Nat.le_of_lt (Nat.mod_lt _ (by decide)))).trans (ko H.symm))) λw E=>?_;refine et (J.quo rfl rfl (by omega) (TZ z) ?_);refine ey 8 E λw E=>?_;refine af 0 E (fm (zg (Nat.lt_of_le_of_lt (Nat.div_mul_le_self _ _) z))) λw E=>?_;refine af 3 E (p6 (yb (Nat.div_mul_le_self _ _) z)) λw E=>?_;refine lB (λf w=>oV [(2,.int .u64 ((y:Nat):Int)),(8,.int .u64 ((s:Nat):Int)),(14,.int .u64 ((wW:Nat):Int)),(15,.int .u64 ((gu:Nat):Int)),(17,.int .u64 ((la:Nat):Int)),(18,.int .u64 ((bV:Nat):Int))] f/\U w0 [] w) ?_ ?_
         .
           refine eA 1 E λw E=>?_;refine ek.loop (λm f w=>∃q r:Nat,oV [(2,.int .u64 ((y:Nat):Int)),(8,.int .u64 ((s:Nat):Int)),(9,.int .u64 ((am:Nat):Int)),(10,.int .u64 ((v0:Nat):Int)),(14,.int .u64 ((wW:Nat):Int)),(15,.int .u64 ((gu:Nat):Int)),(16,.int .u64 ((r:Nat):Int)),(17,.int .u64 ((la:Nat):Int)),(18,.int .u64 ((q:Nat):Int))] f/\U w0 [] w/\wY v0 wW am q r=bV/\m=q/\q<18446744073709551616) (la/am) ?_ ?_
           .
             exact⟨la/am,la-la/am*am,⟨rfl,rfl,rfl,rfl,rfl,rfl,rfl,rfl,rfl,trivial⟩,E,X.symm,rfl,Nat.lt_of_le_of_lt (Nat.div_le_self _ _) z⟩
           .
             rintro m f w ⟨q,r,j,E,l,e5,u⟩;refine il _ j (λg=>?_);clear j;refine eA 6 E λw E=>?_;cases W8:(decide ((4294967296:Int)<=(q:Int)))with
             |true=>
              refine ey 11 E<|na 0 0 (λo O w E=>?_) (λo O w E=>?_)
              .
                obtain⟨M,h⟩:=SW (b:=v0) (c:=wW) (v:=am) (q:=q) (r:=r) (.inl (by have:=of_decide_eq_true W8;omega));rw[l]at h;refine eA 6 E λw E=>?_;refine af 7 E (p6 (yb (b:=1) (by omega) u)) λw E=>?_;refine af 9 E (fF (bl _ _))<|om 5 3 (λP w E=>?_) (λP w E=>?_)
                .
                  exact⟨⟨rfl,rfl,rfl,rfl,rfl,congrArg (λi:Nat=>Value.int .u64 (i:Int)) (h.trans (if_pos (by omega))).symm,trivial⟩,E⟩
                .
                  exact⟨q-1,by omega,q-1,(r+am)%18446744073709551616,⟨rfl,rfl,rfl,rfl,rfl,rfl,rfl,rfl,rfl,trivial⟩,E,(h.trans (if_neg (by omega))).symm,rfl,by omega⟩
              .
                simp at o
             |false=>
              refine ey 2 E λw E=>?_;refine af 1 E (fm (yv q v0)) λw E=>?_;refine af 1 E (fm (yv 4294967296 r)) λw E=>?_;refine af 4 E (fF (bl _ _))<|na 0 5 (λo O w E=>?_) (λo O w E=>?_)
              .
                obtain⟨M,h⟩:=SW (b:=v0) (c:=wW) (v:=am) (q:=q) (r:=r) (.inr (Int.ofNat_lt.1 (of_decide_eq_true o)));rw[l]at h;refine eA 6 E λw E=>?_;refine af 7 E (p6 (yb (b:=1) (by omega) u)) λw E=>?_;refine af 9 E (fF (bl _ _))<|om 5 3 (λP w E=>?_) (λP w E=>?_)
                .
                  exact⟨⟨rfl,rfl,rfl,rfl,rfl,congrArg (λi:Nat=>Value.int .u64 (i:Int)) (h.trans (if_pos (by omega))).symm,trivial⟩,E⟩
                .
                  exact⟨q-1,by omega,q-1,(r+am)%18446744073709551616,⟨rfl,rfl,rfl,rfl,rfl,rfl,rfl,rfl,rfl,trivial⟩,E,(h.trans (if_neg (by omega))).symm,rfl,by omega⟩
              .
                exact⟨⟨rfl,rfl,rfl,rfl,rfl,congrArg (λi:Nat=>Value.int .u64 (i:Int)) ((WZ (λe=>of_decide_eq_false W8 (Int.ofNat_le.2 e)) (λe=>of_decide_eq_false o (Int.ofNat_lt.2 e))).symm.trans l),trivial⟩,E⟩
         .
           rintro f w ⟨j,E⟩;refine il _ j (λg=>?_);clear j;refine eA 3 E λw E=>?_;refine af 1 E (fm (yv gu 4294967296)) λw E=>?_;refine af 1 E (fF (bl _ _)) λw E=>?_;refine af 1 E (fm (yv la 4294967296)) λw E=>?_;refine af 2 E (fF (bl _ _)) λw E=>?_;refine af 0 E (fm (yv bV y)) λw E=>?_;refine af 1 E (p6 (Pm _ _ (Nat.le_of_lt (Nat.mod_lt _ (by decide))))) λw E=>?_;refine et (J.shr rfl rfl (by omega) (zw (by omega)) ?_);refine ey 6 E λw E=>?_;rw[eiN Ca A G x o4 Q R S T V H X];exact⟨rfl,E.ee⟩
variable{S:List eH}{k n p:Nat}{l xs:List aa}{pj:Bool}{v:Value}{ea:World}
def s8(l:List aa):Nat:=l.foldl (λa x=>nO a x.n) 0
theorem eiU(a:k<l.length):s8 (l.take (k+1))=nO (s8 (l.take k)) l[k].n:=by
 unfold s8;rw[List.take_succ_eq_append_getElem a,List.foldl_append];rfl
theorem xC:s8 l<18446744073709551616:=by
 have h:∀(l:List aa)(a:Nat),a<18446744073709551616->l.foldl (λa x=>nO a x.n) a<18446744073709551616:=by
  intro l;induction l with
  |nil=>intro a h;exact h
  |cons x r b=>intro a h;exact b _ (IB _ _)
 exact h l 0 (by decide)
def Cs(l:List aa):Prop:=∀x∈l,x.n<18446744073709551616
theorem SK(h:a<18446744073709551616)(Y:b<18446744073709551616):Cs [⟨a⟩,⟨b⟩]:=by
 intro x Z;simp at Z;rcases Z with rfl|rfl
 .exact h
 exact Y
theorem eiM(Z:x<18446744073709551616)(a:y<18446744073709551616):tS 172 #[.int .u64 ((x:Nat):Int),.int .u64 ((y:Nat):Int)] w0 (.tuple #[.int .u64 ((x*y/18446744073709551616:Nat):Int),.int .u64 ((x*y%18446744073709551616:Nat):Int)]):=by
 refine eN 10 (eY _) func172 ntmps172 results172 rfl λw E=>?_;refine ev 8 E (eiO Z a) λw E=>?_;exact⟨rfl,E.ee⟩
theorem eiF(ep:a<18446744073709551616)(b:n<18446744073709551616)(eC:U ea (B p #[.int .u64 ((a:Nat):Int)] 23::S) w0):eJ 170 #[.int .u64 ((n:Nat):Int),N p] w0 (λu w'=>U ea (B p #[.int .u64 ((nO a n:Nat):Int)] 23::S) w'):=by
 refine eN 4 eC func170 ntmps170 results170 rfl λw E=>?_;refine et (TY (F0 func171 (by kernel_rfl) (by kernel_rfl) (by kernel_rfl) (by kernel_rfl) a n _) rfl (ey 10 E λw E=>?_));refine et (J.neg rfl rfl ?_);refine af 3 E (NH (Qn a n ep b)) λw E=>?_;exact E
theorem On(Z:ex w0 v xs)(hb:Cs xs):tS 99 #[v] w0 (.int .u64 ((s8 xs:Nat):Int)):=by
 have:=aL Z;refine eN 26 (eY _) func99 ntmps99 results99 rfl λt6 w E=>?_;refine ek.loop (λq f w=>∃k:Nat,oV [(3,N t6),(4,(.func (.func 170) #[] #[N t6])),(8,v),(9,i6 xs.length),(10,i6 k)] f/\U w0 [B t6 #[.int .u64 ((s8 (xs.take k):Nat):Int)] 23] w/\k<=xs.length/\q=xs.length-k) (xs.length) ?_ ?_
 .
   exact⟨0,⟨rfl,rfl,rfl,rfl,rfl,trivial⟩,E,Nat.zero_le _,rfl⟩
 .
   rintro q f w ⟨k,b,E,h,e5⟩;refine il _ b (λg=>?_);clear b;refine eA 6 E<|om 0 13 (λc w E=>?_) (λc w E=>?_)
   .
     have a:k<xs.length:=by omega
     have d:=Z.le;simp only[maxLen]at d;refine eA 7 E ⟨⟨by omega⟩,λ_ w E=>?_⟩;have:=lq a;refine ey 7 E λw E=>?_;refine et (Pc (cs:=[N t6]) rfl (eiF (xC) (hb _ (List.getElem_mem a)) E) rfl ?_);intro i w E;refine ey 8 E ⟨ib,λw E=>?_⟩;rw[<-eiU a]at E;exact⟨xs.length-(k+1),by omega,k+1,⟨rfl,rfl,rfl,rfl,congrArg (Value.int .i64) (by omega),trivial⟩,E,by omega,rfl⟩
   .
     have e:k=xs.length:=by omega
     rw[e,List.take_length];exact⟨rfl,E.ee⟩
def gm(a b d:Nat)(pj:Bool):Nat:=if d<=a*b/18446744073709551616 then 18446744073709551615 else if(pj&&decide (0<(bK (a*b/18446744073709551616) (a*b%18446744073709551616) d).2))=true then s8 [⟨(bK (a*b/18446744073709551616) (a*b%18446744073709551616) d).1⟩,⟨1⟩]else(bK (a*b/18446744073709551616) (a*b%18446744073709551616) d).1
theorem Cr:gm a b d pj<18446744073709551616:=by
 unfold gm;split
 .decide
 split
 .exact xC
 exact W3 (Nat.mod_lt _ (by decide))
theorem Oh:gm a b d pj<18446744073709551616:=Cr
theorem Ol(ep:a<18446744073709551616)(hb:b<18446744073709551616)(hd:d<18446744073709551616):tS 100 #[.int .u64 ((a:Nat):Int),.int .u64 ((b:Nat):Int),.int .u64 ((d:Nat):Int),.bool pj] w0 (.int .u64 ((gm a b d pj:Nat):Int)):=by
 refine eN 9 (eY _) func100 ntmps100 results100 rfl λw E=>?_;refine ev 15 E (eiM ep hb)<|om 8 0 (λh w E=>?_) (λh w E=>?_)
 .
   refine⟨?_,E.ee⟩;unfold gm;rw[if_pos (by omega)];rfl
 .
   have hlt:¬d<=a*b/18446744073709551616:=by omega
   obtain⟨z,c⟩:∃z,bK (a*b/18446744073709551616) (a*b%18446744073709551616) d=z:=⟨_,rfl⟩;have f:z.1<18446744073709551616:=by rw[<-c];exact W3 (Nat.mod_lt _ (by decide))
   refine eA 7 E λw E=>?_;refine ev 0 E (eiS (by omega) (Nat.mod_lt _ (by decide)) hd) λw E=>?_;rw[c];refine ey 12 E λw E=>?_;refine ts.eQ _ 30 _ rfl rfl rfl rfl (λl=>oP rfl ⟨rfl,eV.refl _⟩) (λw e=>?_);replace E:=E.es e;refine ts.eQ _ 30 _ rfl rfl rfl rfl (λi=>J.gtr (by first|exact ov rfl i|rfl) rfl ⟨rfl,eV.refl _⟩) (λw e=>?_);replace E:=E.es e;refine et (pZ rfl (by first|rfl) rfl (ey 2 E<|na 0 0 (λg j w E=>?_) (λg j w E=>?_)))
   .
     have EI:(pj&&decide (0<z.2))=true:=by rw[<-g];congr 1;rw[Bool.eq_iff_iff,decide_eq_true_eq,decide_eq_true_eq];omega
     refine eA 3 E λw E=>?_;refine et (n7 E (([⟨z.1⟩,⟨1⟩]:List aa)) [.int .u64 ((z.1:Nat):Int),.int .u64 1] rfl rfl rfl rfl (by decide) ?_);intro k w e E;refine ev 6 E (On (E.eu (xs:=([⟨z.1⟩,⟨1⟩]:List aa)) en) (SK f (by decide))) λw E=>?_;refine⟨?_,E.ee⟩;unfold gm;rw[if_neg hlt,c,if_pos EI]
   .
     have EI:(pj&&decide (0<z.2))=false:=by rw[<-g];congr 1;rw[Bool.eq_iff_iff,decide_eq_true_eq,decide_eq_true_eq];omega
     refine eA 10 E λw E=>?_;refine⟨?_,E.ee⟩;unfold gm;rw[if_neg hlt,c,if_neg (by rw[EI];decide)]
theorem eiW(l:List aa):s8 l=min ((l.map aa.n).sum) 18446744073709551615:=by
 have h:∀(l:List aa)(a:Nat),a<=18446744073709551615->l.foldl (λa x=>nO a x.n) a=min (a+(l.map aa.n).sum) 18446744073709551615:=by
  intro l;induction l with
  |nil=>intro a h;simp;omega
  |cons x r b=>
   intro a h;simp only[List.foldl_cons,List.map_cons,List.sum_cons];rw[b _ (by unfold nO;split<;>omega)];unfold nO;split<;>omega
 have:=h l 0 (by decide);simpa[s8]using this
variable{sl fX fJ fQ l tJ:Nat}{a iY:Int}{ad:List Instr}{ti:List (Vector UInt8 64)}{x:oW}
def fw(s d:Nat)(iY:Int)(tJ:Nat):List aa:=[⟨gm s 720 1 false⟩,⟨gm (max 0 iY).toNat 300 1 false⟩,⟨d%18446744073709551616/4⟩,⟨tJ⟩]
def lp(s d:Nat)(iY:Int)(tJ:Nat):Nat:=s8 (fw s d iY tJ)
theorem eiY:(if(0:Int)<a then a else 0)=(((max 0 a).toNat:Nat):Int):=by split<;>omega
theorem eiB(a:tJ<18446744073709551616):Cs (fw s d iY tJ):=by
 intro x Z;simp only[fw,List.mem_cons,List.not_mem_nil,or_false]at Z;have ej:d%18446744073709551616/4<18446744073709551616:=Nat.lt_of_le_of_lt (Nat.div_le_self _ _) (Nat.mod_lt _ (by decide));rcases Z with rfl|rfl|rfl|rfl
 .exact Cr
 .exact Cr
 .exact ej
 exact a
theorem eiV(l:List aa)(x:aa):s8 [⟨s8 l⟩,x]=s8 (l++[x]):=by
 have h:=xC (l:=l);have e:nO 0 (s8 l)=s8 l:=by
  unfold nO;rw[if_pos (by omega)];omega
 show nO (nO 0 (s8 l)) x.n=s8 (l++[x]);rw[e];unfold s8;rw[List.foldl_append];rfl
theorem eiK(rU:Nat->World->Prop)(y:ex ea x.sigs.v ti)(o:ex ea x.m.instrs.v ad)(D:∀e∈ad,Instr.ok ea e)(R: -9223372036854775808<=iY/\iY<=9223372036854775807)(a:U ea [B fJ #[.int .u64 ((tJ:Nat):Int)] 23,B fQ #[.int .i64 iY] 3,B fX (O.enc x) 48] w0)(p:∀A tD,U ea [B fJ #[.int .u64 ((tJ:Nat):Int)] 23,B fQ #[.int .i64 iY] 3,B fX (O.enc x) 48] A->cO sl b A tD->U ea [B fJ #[.int .u64 ((tJ:Nat):Int)] 23,B fQ #[.int .i64 iY] 3,B fX (O.enc x) 48] tD)(j:∀k A tD,rU k A->eV A tD->rU k tD)(r:∀k(S:k<(fw ti.length (dI ad) iY tJ).length) W1,rU k W1->YieldAt Fence.wide 0 prog l #[.int .u64 ((((fw ti.length (dI ad) iY tJ)[k]).n:Nat):Int)] W1 λe W2=>e= .returned (.bool true)/\rU (k+1) W2/\cO sl b W1 W2)(c:rU 0 w0):eJ 169 #[.func (.yield l) #[] #[],N fX,N fQ,N fJ] w0 (λ_ w'=>rU 4 w'):=by
 refine eN 10 (eY _) func169 ntmps169 results169 rfl λw E=>?_;refine af 0 E (hA λw E=>(a.es E.ee).a6 en (Ga x)) λw E=>?_;refine et (J.hD rfl ((o.es (a.es E.ee).ee)) (ey 4 E λw E=>?_));refine ek.loop (λq f w=>∃k:Nat,oV [(0,.func (.yield l) #[] #[]),(1,N fX),(2,N fQ),(3,N fJ),(5,.int .u64 ((dI (ad.take k)%18446744073709551616:Nat):Int)),(10,x.m.instrs.v),(11,i6 ad.length),(12,i6 k)] f/\U w0 [] w/\k<=ad.length/\q=ad.length-k) (ad.length) ?_ ?_
 .
   exact⟨0,⟨rfl,rfl,rfl,rfl,rfl,rfl,rfl,rfl,trivial⟩,E,Nat.zero_le _,rfl⟩
 .
   rintro q f w ⟨k,z,E,T,e5⟩;refine il _ z (λg=>?_);clear z;refine eA 6 E<|om 0 0 (λF w E=>?_) (λF w E=>?_)
   .
     have s:k<ad.length:=by omega
     obtain⟨⟨nM,V,_⟩,⟨ab,nJ,_⟩⟩:=D ad[k] (List.getElem_mem s);have G:=o.le;have t:=nJ.le;simp only[maxLen]at G t;refine eA 6 E λw E=>?_;refine et (nX rfl ((o.es (a.es E.ee).ee)) rfl (by omega) ?_);refine af 1 E (hA λw E=>((o.es (a.es E.ee).ee).sm s).n5 (O.ez _)) λW w E=>?_;refine oE (iJ E rfl rfl en (by first|rfl|exact O.ez _) (tH en λw E=>?_));refine ey 6 E λw E=>?_;refine et (J.hD rfl ((nJ.es (a.es E.ee).ee)) ?_);refine ey 1 E ⟨ib,λw E=>?_⟩;refine af 9 E (fF (bl _ _)) ⟨ib,λw E=>?_⟩;exact⟨ad.length-(k+1),by omega,k+1,⟨rfl,rfl,rfl,rfl,congrArg (λi:Nat=>Value.int .u64 (i:Int)) (by rw[ZW s,Gl nJ,Nat.mod_add_mod]),rfl,rfl,congrArg (Value.int .i64) (by omega),trivial⟩,E.sub aS,by omega,rfl⟩
   .
     obtain rfl:k=ad.length:=by omega
     have H:=y.le;simp only[maxLen]at H;have C:dI (ad.take ad.length)%18446744073709551616<18446744073709551616:=Nat.mod_lt _ (by decide);rw[List.take_length];rw[List.take_length]at C;refine eA 7 E λw E=>?_;refine zc ?_;show oH none 0 _ _ _ [] _ [0,1,2,3,4,5,6,7] _ _;refine oH.op rfl rfl (by simp) (J.opI (oI (v:=.func (.yield l) #[] #[]) rfl ?_));refine oH.op rfl rfl (by simp) (J.opI (o9 rfl ?_));refine oH.op rfl rfl (by simp) (J.opI (ag rfl ((a.es E.ee).a6 en (LW x)) ?_));refine oH.op rfl rfl (by simp) (J.opI (J.hD rfl ((y.es (a.es E.ee).ee)) ?_));refine oH.op rfl rfl (by simp) (J.opI (J.conv rfl (wrap_u64 (by omega)) ?_));refine oH.op rfl rfl (by simp) (J.opI (J.call (Ol (by omega) (by decide) (by decide)) rfl ?_));rintro _ w ⟨rfl,u⟩;replace E:=E.es u;refine oH.op rfl rfl (by simp) (opI.yield (R':=λw'=>rU 1 w'/\cO sl b _ w') rfl rfl (r 0 (show 0<4 by decide) _ (j _ _ _ c E.ee)) ?_);rintro aB ⟨d,h⟩;replace a:=p _ _ (a.es E.ee) h;clear E c;have c:=d;clear d;have E:=eY aB;refine oH.op rfl rfl (by simp) (J.opI (J.not rfl ?_));refine oH.nil ?_;refine s6 1 E<|na 0 4 (λI K w E=>?_) (λ_ K w E=>?_)
     .
       simp at I
     .
       refine zc ?_;show oH none 0 _ _ _ [] _ [0,1,2,3,4,5,6] _ _;refine oH.op rfl rfl (by simp) (J.opI (oI (v:=.func (.yield l) #[] #[]) rfl ?_));refine oH.op rfl rfl (by simp) (J.opI (ag rfl ((a.es E.ee).a6 en rfl) ?_));refine oH.op rfl rfl (by simp) (J.opI (MK rfl rfl (eiY) ?_));refine oH.op rfl rfl (by simp) (J.opI (J.conv rfl (wrap_u64 (by omega)) ?_));refine oH.op rfl rfl (by simp) (J.opI (J.call (Ol (by omega) (by decide) (by decide)) rfl ?_));rintro _ w ⟨rfl,u⟩;replace E:=E.es u;refine oH.op rfl rfl (by simp) (opI.yield (R':=λw'=>rU 2 w'/\cO sl b _ w') rfl rfl (r 1 (show 1<4 by decide) _ (j _ _ _ c E.ee)) ?_);rintro aB ⟨d,h⟩;replace a:=p _ _ (a.es E.ee) h;clear E c;have c:=d;clear d;have E:=eY aB;refine oH.op rfl rfl (by simp) (J.opI (J.not rfl ?_));refine oH.nil ?_;refine s6 1 E<|na 0 3 (λL M w E=>?_) (λ_ M w E=>?_)
       .
         simp at L
       .
         refine zc ?_;show oH none 0 _ _ _ [] _ [0,1,2,3] _ _;refine oH.op rfl rfl (by simp) (J.opI (oI (v:=.func (.yield l) #[] #[]) rfl ?_));refine oH.op rfl rfl (by simp) (J.opI (oP rfl ?_));refine oH.op rfl rfl (by simp) (J.opI (J.quo rfl rfl (by omega) (TZ (b:=4) C) ?_));refine oH.op rfl rfl (by simp) (opI.yield (R':=λw'=>rU 3 w'/\cO sl b _ w') rfl rfl (r 2 (show 2<4 by decide) _ (j _ _ _ c E.ee)) ?_);rintro aB ⟨d,h⟩;replace a:=p _ _ (a.es E.ee) h;clear E c;have c:=d;clear d;have E:=eY aB;refine oH.nil ?_;refine s6 1 E<|na 0 0 (λ_ P w E=>?_) (λQ P w E=>?_)
         .
           refine zc ?_;show oH none 0 _ _ _ [] _ [0,1,2] _ _;refine oH.op rfl rfl (by simp) (J.opI (oI (v:=.func (.yield l) #[] #[]) rfl ?_));refine oH.op rfl rfl (by simp) (J.opI (ag rfl ((a.es E.ee).a6 en rfl) ?_));refine oH.op rfl rfl (by simp) (opI.yield (R':=λw'=>rU 4 w'/\cO sl b _ w') rfl rfl (r 3 (show 3<4 by decide) _ (j _ _ _ c E.ee)) ?_);rintro aB ⟨d,h⟩;replace a:=p _ _ (a.es E.ee) h;clear E c;have c:=d;clear d;have E:=eY aB;refine oH.nil ?_;refine s6 1 E λw E=>?_;exact j _ _ _ c E.ee
         .
           simp at Q
theorem eiJ(eC:U ea S w0):eJ 98 #[.agg (O.enc x),.int .i64 iY,.int .u64 ((tJ:Nat):Int)] w0 (λu w'=>∃fJ fQ fX,u= .func (.func 169) #[] #[N fX,N fQ,N fJ]/\U ea (B fJ #[.int .u64 ((tJ:Nat):Int)] 23::B fQ #[.int .i64 iY] 3::B fX (O.enc x) 48::S) w'):=by
 refine eN 16 eC func98 ntmps98 results98 rfl λt6 aW a w E=>?_;exact⟨a,aW,t6,rfl,E⟩
variable{c:Array Value}{w:World}
theorem eiQ{T:TypeId}(d:ex ea x.sigs.v ti)(f:ex ea x.m.instrs.v ad)(g:∀e∈ad,Instr.ok ea e)(h: -9223372036854775808<=iY/\iY<=9223372036854775807)
 (a:U ea [B b c T,B fJ #[.int .u64 ((tJ:Nat):Int)] 23,B fQ #[.int .i64 iY] 3,B fX (O.enc x) 48] w):F6 prog 169 [N fX,N fQ,N fJ] (λy:aa=>.int .u64 ((y.n:Nat):Int)) (fw ti.length (dI ad) iY tJ) w.heap.size b w:=by
 intro l rU W hb i j em;have k:U ea [B fJ #[.int .u64 ((tJ:Nat):Int)] 23,B fQ #[.int .i64 iY] 3,B fX (O.enc x) 48] w:=a.sub aS;exact eiK rU d f g h (k.es hb) (λA tD o p=>JU a o p) i j em
theorem eiZ(D:ex w0 x.sigs.v ti)(F:ex w0 x.m.instrs.v ad)(H:∀e∈ad,Instr.ok w0 e)(I: -9223372036854775808<=iY/\iY<=9223372036854775807)(K:tJ<18446744073709551616):
 eJ 36 #[.agg (O.enc x),.int .i64 iY,.int .u64 ((tJ:Nat):Int)] w0 (λu w'=>u= .int .u64 ((lp ti.length (dI ad) iY tJ:Nat):Int)/\eV w0 w'):=by
 refine Pe (args:=[.agg (O.enc x),.int .i64 iY,.int .u64 ((tJ:Nat):Int)]) func36 rfl ntmps36 rfl ?_;have E:=eY w0;refine IJ ?_;show oH none 2 _ _ _ _ _ [0,1] _ _;refine oH.op rfl rfl (by simp) (J.opI (ba E rfl ?_));intro t6 w _ E;refine oH.op rfl rfl (by simp) (J.opI (iP rfl ?_));refine oH.nil ⟨rfl,?_⟩;refine IJ ?_;show oH none 2 _ _ _ _ _ [0,1] _ _;refine oH.op rfl rfl (by simp) (J.opI (jh E rfl ?_));intro f w _ E;refine jx rfl (by simp) (J.opI (Im (c:=#[.int .u64 0]) E rfl rfl en rfl rfl (oZ _ _) ?_));intro w E;replace E:=E _ en;refine oH.nil ⟨rfl,?_⟩;refine lx.seq (IJ ?_);show oH none 2 _ _ _ _ _ [0,1,2,3] _ _;refine oH.op rfl rfl (by simp) (J.opI (ag rfl (E.n5 (cs:=O.enc x) en (O.ez _)) ?_));refine oH.op rfl rfl (by simp) (J.opI (oP rfl ?_));refine oH.op rfl rfl (by simp) (J.opI (oP rfl ?_));refine oH.op rfl rfl (by simp) (J.opI (J.call (eiJ (E.sub (tp:=[B f #[.int .u64 0] 23]) aS)) rfl ?_));rintro _ w ⟨fJ,fQ,fX,rfl,E⟩;refine oH.nil ⟨rfl,?_⟩;replace E:U w0 [B f #[.int .u64 ((s8 ((fw ti.length (dI ad) iY tJ).take (0)):Nat):Int)] 23,B fJ #[.int .u64 ((tJ:Nat):Int)] 23,B fQ #[.int .i64 iY] 3,B fX (O.enc x) 48] w:=E.pick (e:=B f #[.int .u64 0] 23) en;have o:=E.ee.size;have hlen:(fw ti.length (dI ad) iY tJ).length=4:=rfl;refine lx.range (xs:=(fw ti.length (dI ad) iY tJ)) (enc:=λy:aa=>.int .u64 ((y.n:Nat):Int)) (b:=f) (oN:=[N fX,N fQ,N fJ]) rfl rfl (eiQ D F H I E)
  (λk W=>U w0 [B f #[.int .u64 ((s8 ((fw ti.length (dI ad) iY tJ).take (k)):Nat):Int)] 23,B fJ #[.int .u64 ((tJ:Nat):Int)] 23,B fQ #[.int .i64 iY] 3,B fX (O.enc x) 48] W/\w.heap.size<=W.heap.size) 8 ?L ⟨E,Nat.le_refl _⟩ ?ep ?hb ?hd
 case ep=>
  intro l y W;show oH (some l) 0 _ _ _ _ _ [0] _ _;refine oH.op rfl rfl (by simp) (J.opI (yo (v:=.int .u64 ((y.n:Nat):Int)) rfl ?_));exact oH.nil ⟨rfl,rfl,rfl⟩
 case L=>
  rintro k A tD row ⟨G,Y⟩ p hr;exact⟨G.JK p hr o (by intro e q;simp only[List.mem_cons,List.not_mem_nil,or_false]at q;rcases q with rfl|rfl|rfl|rfl<;>exact⟨_,_,_,rfl⟩),Nat.le_trans Y p.size⟩
 case hb=>
  rintro l k r W ⟨E,g⟩;have t:=eiB (s:=ti.length) (d:=dI ad) (iY:=iY) K _ (List.getElem_mem r);generalize h:(fw ti.length (dI ad) iY tJ)[k]=y at t⊢;show oH (some l) 0 _ _ _ _ _ [0,1,2,3,4] _ _;refine oH.op rfl rfl (by simp) (J.opI (ag (v:=.int .u64 ((s8 ((fw ti.length (dI ad) iY tJ).take (k)):Nat):Int)) rfl (E.a6 en rfl) ?_));refine oH.op rfl rfl (by simp) (J.opI (oI (v:=.int .u64 ((y.n:Nat):Int)) rfl ?_));refine oH.op rfl rfl (by simp) (J.opI (n7 E ([⟨s8 ((fw ti.length (dI ad) iY tJ).take k)⟩,y]:List aa) [.int .u64 ((s8 ((fw ti.length (dI ad) iY tJ).take k):Nat):Int),.int .u64 ((y.n:Nat):Int)] rfl rfl rfl rfl (by decide) ?_));intro R aB M E;refine oH.op rfl rfl (by simp) (J.opI (J.call (On (E.eu (xs:=([⟨s8 ((fw ti.length (dI ad) iY tJ).take k)⟩,y]:List aa)) en) (SK (xC) t)) rfl ?_));rintro _ pl ⟨rfl,z⟩;replace E:=E.es z;rw[eiV,<-h,<-List.take_succ_eq_append_getElem r];refine jx rfl (by simp) (J.opI (JX (b:=f) (v:=.int .u64 ((s8 ((fw ti.length (dI ad) iY tJ).take (k+1)):Nat):Int)) E rfl rfl rfl rfl en ?_));intro S E P C;replace E:=E _ en;have i:=M.trans z;exact oH.nil ⟨rfl,(JB i).trans C,(JC i g).trans (P _),E.sub aS,Nat.le_trans g (Nat.le_trans i.size C.size)⟩
 case hd=>
  rintro d W ⟨E,g⟩ j Q a ep;refine lx.run (IJ ?_) ep;show oH none 2 _ _ _ _ _ [0,1] _ _;refine oH.op rfl rfl (by simp) (J.opI (ag (v:=.int .u64 ((lp ti.length (dI ad) iY tJ:Nat):Int)) rfl (E.a6 en rfl) ?_));refine oH.op rfl rfl (by simp) (J.opI (yo (v:=.int .u64 ((lp ti.length (dI ad) iY tJ:Nat):Int)) rfl ?_));refine oH.nil ⟨rfl,?_⟩;refine lx.ret λa ep=>?_;exact JY ep j results36 (.w9 (v:=.int .u64 ((lp ti.length (dI ad) iY tJ:Nat):Int)) rfl .nil) ⟨rfl,E.ee.putObj (Nat.le_trans o Q)⟩
end
section
open Go.Proofs Tryz
variable{A tD c:Nat}{b o5:sP}{Ya Yo:Value}{s oU:Int}{w w' w0:World}
structure mF where
 sigs:Int
 b:sP
 deriving DecidableEq
variable{x:mF}
def mF.parts(x:mF):List (Array Value):=[#[.int .i64 x.sigs],O.enc x.b]
theorem ei2(x:mF):x.parts.map Array.size=[1,3]:=by
 simp only[mF.parts,List.map,O.ez];rfl
instance:O mF where
 enc x:=eK x.parts
 eo:=4
 pos:=by omega
 ez x:=by rw[iw,ei2];rfl
 one x:=rD (all_cons (oZ _ _) (all_cons (O.one _) rC))
instance(priority:=2000):nt (⟨oU,o5⟩:mF) [#[.int .i64 oU],O.enc o5]:=⟨rfl⟩
def SJ(s:Int):Nat:=gm s.toNat 5000 1 false
def Cl(b:sP):Nat:=gm b.xk b.tJ 1000000 true
def uA(s:Int)(b:sP):Nat:=s8 [⟨SJ s⟩,⟨Cl b⟩]
def qf(s:Int)(b:sP)(c:Nat):Nat:=gm (s8 [⟨SJ s/2⟩,⟨Cl b⟩]) 1000000 (s8 [⟨c⟩,⟨1⟩]) false
def kn(b:sP):Prop:=b.tJ<18446744073709551616/\b.xk<18446744073709551616
theorem Yi(a: -9223372036854775808<=s/\s<=9223372036854775807)(hb:kn b):tS 96 #[.agg (O.enc (mF.mk s b))] w0 (.int .u64 ((SJ s:Nat):Int)):=by
 refine eN 10 (eY _) func96 ntmps96 results96 rfl λni w E=>?_;exact et (MK rfl rfl (show(if(0:Int)<s then s else 0)=((s.toNat:Nat):Int)from by split<;>omega) (ey 1 E ⟨ib,λw E=>(ev 5 E (Ol (by omega) (by decide) (by decide)) λw E=>(⟨rfl,E.ee⟩))⟩))
theorem ei3(a: -9223372036854775808<=s/\s<=9223372036854775807)(hb:kn b):tS 101 #[.agg (O.enc (mF.mk s b))] w0 (.int .u64 ((SJ s/2:Nat):Int)):=by
 refine eN 9 (eY _) func101 ntmps101 results101 rfl λni w E=>?_;refine ev 0 E (Yi a hb) λw E=>?_;refine af 5 E (Ag (by omega) (TZ (b:=2) (Oh (pj:=false)))) λw E=>?_;exact⟨rfl,E.ee⟩
theorem Yn(a: -9223372036854775808<=s/\s<=9223372036854775807)(hb:kn b):tS 97 #[.agg (O.enc (mF.mk s b))] w0 (.int .u64 ((Cl b:Nat):Int)):=by
 refine eN 14 (eY _) func97 ntmps97 results97 rfl λni w E=>?_;refine ev 5 E (Ol hb.2 hb.1 (by decide)) λw E=>?_;exact⟨rfl,E.ee⟩
theorem Ys(b:A<18446744073709551616)(c:tD<18446744073709551616)(ep:∀w,mN prog Ya [] w (λu w'=>u= .int .u64 ((A:Nat):Int)/\eV w w'))(hb:∀w,mN prog Yo [] w (λu w'=>u= .int .u64 ((tD:Nat):Int)/\eV w w')):tS 95 #[Ya,Yo] w0 (.int .u64 ((s8 [⟨A⟩,⟨tD⟩]:Nat):Int)):=by
 refine eN 8 (eY _) func95 ntmps95 results95 rfl λw E=>?_;refine et (bf rfl (ep _) rfl ?_);rintro _ w ⟨rfl,a⟩;replace E:=E.es a;refine ey 1 E λw E=>?_;refine et (bf rfl (hb _) rfl ?_);rintro _ w ⟨rfl,a⟩;replace E:=E.es a;refine et (n7 E (([⟨A⟩,⟨tD⟩]:List aa)) [.int .u64 ((A:Nat):Int),.int .u64 ((tD:Nat):Int)] rfl rfl rfl rfl (by decide) ?_);intro lm w a E;refine ev 5 E (On (E.eu (xs:=([⟨A⟩,⟨tD⟩]:List aa)) en) (SK b c)) λw E=>?_;exact⟨rfl,E.ee⟩
theorem ei4(a: -9223372036854775808<=s/\s<=9223372036854775807)(hb:kn b):tS 35 #[.int .i64 s,.agg (O.enc b)] w0 (.int .u64 ((uA s b:Nat):Int)):=by
 refine eN 10 (eY _) func35 ntmps35 results35 rfl λt6 w E=>?_;refine af 1 E (p5 ((mF.mk s b):mF)) λc w E=>?_;refine oE (iJ E rfl rfl en (by first|rfl|exact O.ez _) (tH en λw E=>?_));refine ey 8 E λw E=>?_;refine ev 5 E (Ys (Oh (pj:=false)) (Oh (pj:=true)) (λw=>⟨_,[.agg (O.enc (mF.mk s b))],[],rfl,inferInstance,Yi a hb⟩) (λw=>⟨_,[.agg (O.enc (mF.mk s b))],[],rfl,inferInstance,Yn a hb⟩)) λw E=>?_;exact⟨rfl,E.ee⟩
theorem ei5(a: -9223372036854775808<=s/\s<=9223372036854775807)(hb:kn b)(d:c<18446744073709551616):tS 38 #[.int .i64 s,.agg (O.enc b),.int .u64 ((c:Nat):Int)] w0 (.int .u64 ((qf s b c:Nat):Int)):=by
 refine eN 10 (eY _) func38 ntmps38 results38 rfl λaW w E=>?_;refine af 1 E (p5 ((mF.mk s b):mF)) λf w E=>?_;refine oE (iJ E rfl rfl en (by first|rfl|exact O.ez _) (tH en λw E=>?_));refine ey 8 E λw E=>?_;refine ev 1 E (Ys (Nat.lt_of_le_of_lt (Nat.div_le_self _ _) (Oh (pj:=false))) (Oh (pj:=true)) (λw=>⟨_,[.agg (O.enc (mF.mk s b))],[],rfl,inferInstance,ei3 a hb⟩) (λw=>⟨_,[.agg (O.enc (mF.mk s b))],[],rfl,inferInstance,Yn a hb⟩)) λw E=>?_;refine et (n7 E (([⟨c⟩,⟨1⟩]:List aa)) [.int .u64 ((c:Nat):Int),.int .u64 1] rfl rfl rfl rfl (by decide) ?_);intro e w g E;refine ev 0 E (On (E.eu (xs:=([⟨c⟩,⟨1⟩]:List aa)) en) (SK d (by decide))) λw E=>?_;refine ev 5 E (Ol (xC) (by decide) (xC)) λw E=>?_;exact⟨rfl,E.ee⟩
end
end Go.Fer
