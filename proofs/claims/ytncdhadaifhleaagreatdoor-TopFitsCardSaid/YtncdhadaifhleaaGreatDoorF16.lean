import Derived.Test.YtncdhadaifhleaaGreatDoorF9
set_option linter.all false
set_option synthInstance.maxSize 100000
set_option synthInstance.maxHeartbeats 400000
set_option maxHeartbeats 8000000
set_option maxRecDepth 100000
namespace Go.Fer
open Go Go.RowKit
section
open Go.Proofs Tryz
variable{K d e m n:Nat}{a:Array Value}{u7:Bool}{v:Vector UInt8 32}{w:World}
structure ox where
 key:Vector UInt8 32
 kr:Int
 deriving DecidableEq
variable{k x:ox}
def ox.parts(x:ox):List (Array Value):=[O.enc x.key,#[.int .i64 x.kr]]
theorem erX(x:ox):x.parts.map Array.size=[32,1]:=by
 simp only[ox.parts,List.map,O.eT];rfl
instance:O ox where
 enc x:=eK x.parts
 eo:=33
 pos:=by omega
 eT x:=by rw[iw,erX];rfl
 one x:=rY (all_cons (O.one _) (all_cons (o0 _ _) rB))
theorem qx(x:ox):O.enc x=eK x.parts:=rfl
theorem Ul(x:ox):(O.enc x).extract 0 (0+32)=O.enc x.key:=pV [] [#[.int .i64 x.kr]] _ sH (by rw[O.eT];rfl)
theorem Ud(x:ox):(O.enc x)[32]? =some (.int .i64 x.kr):=hp [O.enc x.key] [] _ sH
instance:k1 prog 577 ox 3 where
 le:=by omega
 run w d hd x y:=by
  obtain⟨d,rfl⟩:∃d',d=d'+1:=⟨d-1,by omega⟩;have h:=F7 (P:=prog) (w:=w) (d:=d) (xs:=O.enc x) (ys:=O.enc y) underlying577 (by kernel_rfl) (F5 (T:=60) (α:=Vector UInt8 32) (by omega) rfl rfl (by decide) (Ul x) (Ul y) (H8 (T:=3) (by omega) rfl rfl (by decide) (Ud x) (Ud y) F6));rw[h];refine congrArg (λb=>Result.ok b w) ?_;rw[Bool.eq_iff_iff];cases x;cases y;simp[ox.mk.injEq];try(intros;simp_all[<-UInt8.toNat_inj];try omega)
  all_goals(try simp only[Int.ofNat_inj,Int.natCast_inj])
theorem erJ{P:Program}[ep:de P K (n+1) e][ey:lc P e .u8][a:nh P e 1][m:u2 P e](k:Vector UInt8 (n+1)):(Instr.checkKey u7 (d+1+1) K (.agg (O.enc k))).run P w= .ok () w:=by
 rw[Instr.checkKey];simp only[Sem.run_bind,run_underlying ep.out,Result.andThen_ok,Std.Legacy.Range.forIn_eq_forIn_range',Std.Legacy.Range.size,Nat.sub_zero,Nat.add_sub_cancel,Nat.div_one];have eM:∀i∈List.range' 0 (n+1) 1,i<n+1:=λi ey=>by simpa using(List.mem_range'_1.1 ey).2
 generalize List.range' 0 (n+1) 1=l at eM⊢;induction l with
 |nil=>simp
 |cons i l b=>
  have c:i<n+1:=eM i (by simp);have f:(part e (O.enc k) (i*1)).run P w= .ok (.int .u8 (k[i].toNat:Int)) w:=bc w (by simp[ju,c]);have g:(Instr.checkKey u7 (d+1) e (.int .u8 (k[i].toNat:Int))).run P w= .ok () w:=by
   rw[Instr.checkKey];simp only[Sem.run_bind,run_underlying ey.out,Result.andThen_ok];rfl
  simp only[List.forIn_cons,Sem.run_bind,m3 a,f,g,Result.andThen_ok,Sem.run_pure];exact b λj h=>eM j (by simp[h])
theorem erQ(h:∀v∈a.toList,∃k n,v= .int k n):Instr.sameBits (m+1) (.agg a) (.agg a)=true:=by
 rw[Instr.sameBits];simp only[beq_self_eq_true,Bool.true_and];generalize a.toList=l at h;induction l with
 |nil=>rfl
 |cons x l b=>
  obtain⟨k,n,rfl⟩:=h x (by simp);simp only[List.zip_cons_cons,List.all_cons,Instr.sameBits,beq_self_eq_true,Bool.and_self,Bool.true_and];exact b λv tC=>h v (by simp[tC])
theorem erZ:∀v∈(O.enc k).toList,∃j n,v= .int j n:=by
 intro v tC;rw[qx]at tC;simp only[ox.parts,ze,yh,List.mem_append]at tC;rcases tC with tC|tC
 .rw[I6,I5]at tC;obtain⟨c,_,rfl⟩:=List.mem_map.1 tC;exact⟨_,_,rfl⟩
 simp at tC;exact⟨_,_,tC⟩
instance:oi ox where
 ih k:=.agg (O.enc k)
 same k:=erQ (erZ)
instance:u6 prog 577 ox where
 wq u7 w k:=by
  show(Instr.checkKey u7 (9997+1+1+1) 577 (.agg (O.enc k))).run prog w= .ok () w;generalize 9997=d;rw[Instr.checkKey];have G:(part 60 (O.enc k) 0).run prog w= .ok (.agg (O.enc k.key)) w:=by
   rw[I9 (eo:=32)];exact congrArg (λx=>Result.ok (Value.agg x) w) (Ul k)
  have Y:(part 3 (O.enc k) 32).run prog w= .ok (.int .i64 k.kr) w:=bc w (Ud k);have ez:=erJ (P:=prog) (K:=60) (u7:=u7) (w:=w) (d:=d) k.key;have e6:(Instr.checkKey u7 (d+1+1) 3 (.int .i64 k.kr)).run prog w= .ok () w:=by
   rw[Instr.checkKey];simp only[Sem.run_bind,run_underlying underlying3,Result.andThen_ok];rfl
  simp only[Sem.run_bind,run_underlying underlying577,Result.andThen_ok];simp[G,Y,ez,e6]
 vA ti w k l eS h:=by
  have a:∀x:ox,(Op.equal 577 (oi.ih k) (oi.ih x)).run prog w= .ok (decide (k=x)) w:=λx=>k1.run (T:=577) w 10000 (by decide) k x;have Y:=Lt ti w k a l eS 0 h;unfold Instr.findKey;simp only[Sem.run_bind,run_underlying underlying577,Result.andThen_ok];cases l with
  |nil=>
   cases eS with
   |nil=>rfl
   |cons p r=>simp at h
  |cons e l=>exact Y
def lS(u:Int×Int):Value:=.agg #[.int .i64 u.1,.int .i64 u.2]
def l5(u:Int×Int):Value:=.agg #[.int .u64 u.1,.int .u64 u.2]
variable{S:List eL}{r8:Int}{k:av}{p tD t6 tV:Nat}{tk:Bool}{w0 en:World}
abbrev hh:=List (ox×(Int×Int))
variable{aL:hh}
abbrev r4:=List (Vector UInt8 32×(Int×Int))
variable{aG:r4}
theorem Uc:tN 341 #[.agg (O.enc (⟨k,tk,true⟩:o1))] w0 (i6 1):=by
 refine eH 22 (eG _) func341 ntmps341 results341 rfl λiZ w E=>?_;exact⟨rfl,E.J⟩
theorem er0(s:U en (V p #[i6 n,tz tD,tz t6] 326::tW tD lS aL::tW t6 l5 aG::S) w0):eJ 325 #[N p,.agg (O.enc (⟨k,tk,true⟩:o1)),i6 tV,.int .i64 r8] w0 (λu w'=>∃(eE:hh)(te:r4),u= .tuple #[]/\U en (V p #[i6 n,tz tD,tz t6] 326::tW tD lS eE::tW t6 l5 te::S) w'):=by
 refine eH 5 s func325 ntmps325 results325 rfl λl w E=>?_;refine lK (λf w=>∃e:Nat,oW [(0,N p),(2,i6 tV),(3,.int .i64 r8),(5,N l),(8,N e),(9,i6 1)] f/\U en (V e (O.enc (⟨k,(tV:Int)⟩:ox)) 577::V l (O.enc (⟨k,tk,true⟩:o1)) 66::V p #[i6 n,tz tD,tz t6] 326::tW tD lS aL::tW t6 l5 aG::S) w) ?_ ?_
 .
   refine nV 3 7 (e5 [0,1,2,3,4] (.nc 5 6 (oJ [6,7,8] .nil) (oJ [5,7,8] .nil))) [] E λw E=>?_;refine tw rfl (λw E=>rV (r:=(⟨k,(tV:Int)⟩:ox)) (ps:=ox.parts (⟨k,(tV:Int)⟩:ox)) (qx _) (by first|rfl|(simp only[qx,ox.parts,sM,nn];rfl)) (by exact lE ⟨by decide,O.eT k,by decide,rfl,trivial⟩) eY) (ao 1 E λw E=>?_);refine e3.nc rfl rfl rfl rfl ?_ ?_
   .refine Z.call (Uc) rfl ?_;rintro _ w ⟨rfl,z⟩;replace E:=E.ei z;refine⟨E,?_⟩;refine ao 1 E λe w E=>?_;exact nP rfl (iV (r:=(⟨k,(tV:Int)⟩:ox)) E rfl rfl .em rfl (tA .em λw E=>(ao 3 E λw E=>(⟨_,⟨rfl,rfl,rfl,rfl,rfl,rfl,trivial⟩,E⟩))))
   refine sV (c:=#[.int .u8 0,.int .u8 0,.int .u8 0,.int .u8 0,.int .u8 0,.int .u8 0,.int .u8 0,.int .u8 0,.int .u8 0,.int .u8 0,.int .u8 0,.int .u8 0,.int .u8 0,.int .u8 0,.int .u8 0,.int .u8 0,.int .u8 0,.int .u8 0,.int .u8 0,.int .u8 0,.int .u8 0,.int .u8 0,.int .u8 0,.int .u8 0,.int .u8 0,.int .u8 0,.int .u8 0,.int .u8 0,.int .u8 0,.int .u8 0,.int .u8 0,.int .u8 0,i6 0]) E ?_;intro e w _ E;refine⟨tF [0] E,?_⟩;refine iK 4 E (Uc) λw E=>?_;exact⟨_,⟨rfl,rfl,rfl,rfl,rfl,rfl,trivial⟩,E⟩
 .
   rintro f w ⟨e,h,E⟩;refine io _ h (λg=>?_);clear h;refine lK (λf w=>∃(i j:Nat)(x y a b:Int),oW [(0,N p),(2,i6 tV),(3,.int .i64 r8),(5,N l),(8,N e),(9,i6 1),(10,N i),(11,N j)] f/\U en (V j #[.int .u64 x,.int .u64 y] 227::V i #[.int .i64 a,.int .i64 b] 574::V e (O.enc (⟨k,(tV:Int)⟩:ox)) 577::V l (O.enc (⟨k,tk,true⟩:o1)) 66::V p #[i6 n,tz tD,tz t6] 326::tW tD lS aL::tW t6 l5 aG::S) w) ?_ ?_
   .
     refine nV 5 17 (e5 [0,1,2,3,4,5,6,7,8,9,10,11,12] (.nc 13 14 (oJ [14,15,16] .nil) (oJ [13,15,16] .nil))) [] E λw E=>?_;refine tw rfl (λw E=>pJ (k:=((⟨k,(tV:Int)⟩:ox):ox)) (z0:=(0,0)) (o:=tR ((⟨k,(tV:Int)⟩:ox):ox) aL) (show oG _ _ (.agg #[i6 0,i6 0])from inferInstance) (E.map .ez) rfl rfl rfl eY) (ao 6 E λw E=>(tw rfl (λw E=>pJ (k:=(k:(Vector UInt8 32))) (z0:=(0,0)) (o:=tR (k:(Vector UInt8 32)) aG) (show oG _ _ (.agg #[.int .u64 0,.int .u64 0])from inferInstance) (E.map .e6) rfl rfl rfl eY) ?_));refine e3.nc rfl rfl rfl rfl ?_ ?_
     .refine sV (c:=#[i6 0,i6 0]) E ?_;intro i w _ E;refine⟨tF [0] E,?_⟩;refine ao 1 E λj w E=>?_;refine n5 rfl rfl (iU (v:=.agg #[.int .i64 ((tR ((⟨k,(tV:Int)⟩:ox):ox) aL).getD (0,0)).1,.int .i64 ((tR ((⟨k,(tV:Int)⟩:ox):ox) aL).getD (0,0)).2]) (iR:=#[.int .i64 ((tR ((⟨k,(tV:Int)⟩:ox):ox) aL).getD (0,0)).1,.int .i64 ((tR ((⟨k,(tV:Int)⟩:ox):ox) aL).getD (0,0)).2]) E rfl rfl .G rfl (Nat.le_of_ble_eq_true rfl) (h3 rfl) rfl (tA .G λw E=>?_));refine⟨tF [0,1] E,?_⟩;refine n5 rfl rfl (iU (v:=.agg #[.int .u64 ((tR (k:(Vector UInt8 32)) aG).getD (0,0)).1,.int .u64 ((tR (k:(Vector UInt8 32)) aG).getD (0,0)).2]) (iR:=#[.int .u64 ((tR (k:(Vector UInt8 32)) aG).getD (0,0)).1,.int .u64 ((tR (k:(Vector UInt8 32)) aG).getD (0,0)).2]) E rfl rfl .em rfl (Nat.le_of_ble_eq_true rfl) (h3 rfl) rfl (tA .em λw E=>?_));refine⟨tF [0,1] E,?_⟩;refine ao 2 E λw E=>?_;exact⟨_,_,_,_,_,_,⟨rfl,rfl,rfl,rfl,rfl,rfl,rfl,rfl,trivial⟩,E⟩
     refine sV (c:=#[.int .u64 0,.int .u64 0]) E ?_;intro j w _ E;refine⟨tF [0] E,?_⟩;refine ao 1 E λi w E=>?_;refine n5 rfl rfl (iU (v:=.agg #[.int .i64 ((tR ((⟨k,(tV:Int)⟩:ox):ox) aL).getD (0,0)).1,.int .i64 ((tR ((⟨k,(tV:Int)⟩:ox):ox) aL).getD (0,0)).2]) (iR:=#[.int .i64 ((tR ((⟨k,(tV:Int)⟩:ox):ox) aL).getD (0,0)).1,.int .i64 ((tR ((⟨k,(tV:Int)⟩:ox):ox) aL).getD (0,0)).2]) E rfl rfl .em rfl (Nat.le_of_ble_eq_true rfl) (h3 rfl) rfl (tA .em λw E=>?_));refine⟨tF [0,1] E,?_⟩;refine n5 rfl rfl (iU (v:=.agg #[.int .u64 ((tR (k:(Vector UInt8 32)) aG).getD (0,0)).1,.int .u64 ((tR (k:(Vector UInt8 32)) aG).getD (0,0)).2]) (iR:=#[.int .u64 ((tR (k:(Vector UInt8 32)) aG).getD (0,0)).1,.int .u64 ((tR (k:(Vector UInt8 32)) aG).getD (0,0)).2]) E rfl rfl .G rfl (Nat.le_of_ble_eq_true rfl) (h3 rfl) rfl (tA .G λw E=>?_));refine⟨tF [0,1] E,?_⟩;refine ao 2 E λw E=>?_;exact⟨_,_,_,_,_,_,⟨rfl,rfl,rfl,rfl,rfl,rfl,rfl,rfl,trivial⟩,E.pick .G⟩
   .
     rintro f w ⟨i,j,x,y,a,b,h,E⟩;refine io _ h (λg=>?_);clear h;refine eI 6 E λw E=>?_;refine ea (Z.add rfl rfl rfl (ew 5 E ?_));refine ow 4 7 (e5 [0,1,2,3,4,5,6] (.one 7 .nil)) [] λw E=>?_;refine tw rfl (λw E=>Z.shl rfl rfl (by omega) rfl eY) (tw rfl (λw E=>Z.andNot rfl rfl rfl eY) (ao 4 E λw E=>?_));refine lK (λf w=>∃x y a b:Int,oW [(0,N p),(5,N l),(8,N e),(10,N i),(11,N j)] f/\U en (V j #[.int .u64 x,.int .u64 y] 227::V i #[.int .i64 a,.int .i64 b] 574::V e (O.enc (⟨k,(tV:Int)⟩:ox)) 577::V l (O.enc (⟨k,tk,true⟩:o1)) 66::V p #[i6 n,tz tD,tz t6] 326::tW tD lS aL::tW t6 l5 aG::S) w) ?_ ?_
     .
       refine eI 8 E<|om 0 2 (λA w E=>?_) (λA w E=>?_)
       .
         refine nV 4 7 (e5 [0,1,2,3,4,5,6] (.one 7 .nil)) [] E λw E=>?_;exact tw rfl (λw E=>Z.shl rfl rfl (by omega) rfl eY) (tw rfl (λw E=>Z.or rfl rfl rfl eY) (ao 4 E λw E=>(⟨_,_,_,_,⟨rfl,rfl,rfl,rfl,rfl,trivial⟩,E⟩)))
       .
         exact⟨_,_,_,_,⟨rfl,rfl,rfl,rfl,rfl,trivial⟩,E⟩
     .
       rintro f w ⟨x,y,a,b,h,E⟩;refine io _ h (λg=>?_);clear h;refine eI 2 E ?_;refine ow 6 6 (e5 [0,1,2,3,4,5] (.one 6 .nil)) [] λw E=>?_;refine nP rfl (gG (k:=((⟨k,(tV:Int)⟩:ox):ox)) (v:=(a,b)) (hw:=(oH ((⟨k,(tV:Int)⟩:ox):ox) (a,b) aL)) E .ac rfl rfl rfl rfl (tA .ac λw E=>(ao 5 E λw E=>?_)));refine ea (jr (fI:=#[i6 0,i6 0]) (by intro p m;cases m) ?_);refine ea (zz (k:=.i64) (a:=a) (b:=b) (c:=0) (d:=0) rfl rfl ?_);refine ew 2 E<|om 0 3 (λB w E=>?_) (λB w E=>?_)
       .
         refine nV 5 5 (e5 [0,1,2,3,4] (.one 5 .nil)) [] E λw E=>?_;refine nP rfl (xh (t:=323) (k:=((⟨k,(tV:Int)⟩:ox):ox)) (hw:=(rc ((⟨k,(tV:Int)⟩:ox):ox) (oH ((⟨k,(tV:Int)⟩:ox):ox) (a,b) aL))) rfl E .ac rfl rfl rfl (tA .ac λw E=>(ao 3 E ?_)));refine ow 7 7 (e5 [0,1,2,3,4,5,6] (.one 7 .nil)) [] λw E=>?_;refine nP rfl (gG (k:=(k:(Vector UInt8 32))) (v:=(x,y)) (hw:=(oH (k:(Vector UInt8 32)) (x,y) aG)) E .aW rfl rfl rfl rfl (tA .aW λw E=>?_));refine ao 5 E λw E=>?_;refine ea (jr (fI:=#[.int .u64 0,.int .u64 0]) (by intro p m;cases m) ?_);refine ea (zz (k:=.u64) (a:=x) (b:=y) (c:=0) (d:=0) rfl rfl ?_);refine ew 2 E<|om 0 2 (λq w E=>?_) (λq w E=>?_)
         .
           refine nV 6 6 (e5 [0,1,2,3,4,5] (.one 6 .nil)) [] E λw E=>?_;refine nP rfl (xh (t:=324) (k:=(k:(Vector UInt8 32))) (hw:=(rc (k:(Vector UInt8 32)) (oH (k:(Vector UInt8 32)) (x,y) aG))) rfl E .aW rfl rfl rfl (tA .aW λw E=>?_));refine ao 2 E λw E=>?_;exact⟨_,_,rfl,(tF [0,1,2,3] E)⟩
         .
           exact⟨_,_,rfl,(tF [0,1,2,3] E)⟩
       .
         refine nV 7 7 (e5 [0,1,2,3,4,5,6] (.one 7 .nil)) [] E λw E=>?_;refine nP rfl (gG (k:=(k:(Vector UInt8 32))) (v:=(x,y)) (hw:=(oH (k:(Vector UInt8 32)) (x,y) aG)) E .aW rfl rfl rfl rfl (tA .aW λw E=>?_));refine ao 5 E λw E=>?_;refine ea (jr (fI:=#[.int .u64 0,.int .u64 0]) (by intro p m;cases m) ?_);refine ea (zz (k:=.u64) (a:=x) (b:=y) (c:=0) (d:=0) rfl rfl ?_);refine ew 2 E<|om 0 2 (λq w E=>?_) (λq w E=>?_)
         .
           refine nV 6 6 (e5 [0,1,2,3,4,5] (.one 6 .nil)) [] E λw E=>?_;refine nP rfl (xh (t:=324) (k:=(k:(Vector UInt8 32))) (hw:=(rc (k:(Vector UInt8 32)) (oH (k:(Vector UInt8 32)) (x,y) aG))) rfl E .aW rfl rfl rfl (tA .aW λw E=>?_));refine ao 2 E λw E=>?_;exact⟨_,_,rfl,(tF [0,1,2,3] E)⟩
         .
           exact⟨_,_,rfl,(tF [0,1,2,3] E)⟩
theorem Uu:tN 341 #[.agg (O.enc (⟨k,tk,false⟩:o1))] w0 (i6 0):=by
 refine eH 23 (eG _) func341 ntmps341 results341 rfl λiZ w E=>?_;exact⟨rfl,E.J⟩
theorem er1(s:U en (V p #[i6 n,tz tD,tz t6] 326::tW tD lS aL::tW t6 l5 aG::S) w0):eJ 325 #[N p,.agg (O.enc (⟨k,tk,false⟩:o1)),i6 tV,.int .i64 r8] w0 (λu w'=>∃(eE:hh)(te:r4),u= .tuple #[]/\U en (V p #[i6 n,tz tD,tz t6] 326::tW tD lS eE::tW t6 l5 te::S) w'):=by
 refine eH 5 s func325 ntmps325 results325 rfl λl w E=>?_;refine lK (λf w=>∃e:Nat,oW [(0,N p),(2,i6 tV),(3,.int .i64 r8),(5,N l),(8,N e),(9,i6 0)] f/\U en (V e (O.enc (⟨k,(tV:Int)⟩:ox)) 577::V l (O.enc (⟨k,tk,false⟩:o1)) 66::V p #[i6 n,tz tD,tz t6] 326::tW tD lS aL::tW t6 l5 aG::S) w) ?_ ?_
 .
   refine nV 3 7 (e5 [0,1,2,3,4] (.nc 5 6 (oJ [6,7,8] .nil) (oJ [5,7,8] .nil))) [] E λw E=>?_;refine tw rfl (λw E=>rV (r:=(⟨k,(tV:Int)⟩:ox)) (ps:=ox.parts (⟨k,(tV:Int)⟩:ox)) (qx _) (by first|rfl|(simp only[qx,ox.parts,sM,nn];rfl)) (by exact lE ⟨by decide,O.eT k,by decide,rfl,trivial⟩) eY) (ao 1 E λw E=>?_);refine e3.nc rfl rfl rfl rfl ?_ ?_
   .refine Z.call (Uu) rfl ?_;rintro _ w ⟨rfl,z⟩;replace E:=E.ei z;refine⟨E,?_⟩;refine ao 1 E λe w E=>?_;exact nP rfl (iV (r:=(⟨k,(tV:Int)⟩:ox)) E rfl rfl .em rfl (tA .em λw E=>(ao 3 E λw E=>(⟨_,⟨rfl,rfl,rfl,rfl,rfl,rfl,trivial⟩,E⟩))))
   refine sV (c:=#[.int .u8 0,.int .u8 0,.int .u8 0,.int .u8 0,.int .u8 0,.int .u8 0,.int .u8 0,.int .u8 0,.int .u8 0,.int .u8 0,.int .u8 0,.int .u8 0,.int .u8 0,.int .u8 0,.int .u8 0,.int .u8 0,.int .u8 0,.int .u8 0,.int .u8 0,.int .u8 0,.int .u8 0,.int .u8 0,.int .u8 0,.int .u8 0,.int .u8 0,.int .u8 0,.int .u8 0,.int .u8 0,.int .u8 0,.int .u8 0,.int .u8 0,.int .u8 0,i6 0]) E ?_;intro e w _ E;refine⟨tF [0] E,?_⟩;refine iK 4 E (Uu) λw E=>?_;exact⟨_,⟨rfl,rfl,rfl,rfl,rfl,rfl,trivial⟩,E⟩
 .
   rintro f w ⟨e,h,E⟩;refine io _ h (λg=>?_);clear h;refine lK (λf w=>∃(i j:Nat)(x y a b:Int),oW [(0,N p),(2,i6 tV),(3,.int .i64 r8),(5,N l),(8,N e),(9,i6 0),(10,N i),(11,N j)] f/\U en (V j #[.int .u64 x,.int .u64 y] 227::V i #[.int .i64 a,.int .i64 b] 574::V e (O.enc (⟨k,(tV:Int)⟩:ox)) 577::V l (O.enc (⟨k,tk,false⟩:o1)) 66::V p #[i6 n,tz tD,tz t6] 326::tW tD lS aL::tW t6 l5 aG::S) w) ?_ ?_
   .
     refine nV 5 17 (e5 [0,1,2,3,4,5,6,7,8,9,10,11,12] (.nc 13 14 (oJ [14,15,16] .nil) (oJ [13,15,16] .nil))) [] E λw E=>?_;refine tw rfl (λw E=>pJ (k:=((⟨k,(tV:Int)⟩:ox):ox)) (z0:=(0,0)) (o:=tR ((⟨k,(tV:Int)⟩:ox):ox) aL) (show oG _ _ (.agg #[i6 0,i6 0])from inferInstance) (E.map .ez) rfl rfl rfl eY) (ao 6 E λw E=>(tw rfl (λw E=>pJ (k:=(k:(Vector UInt8 32))) (z0:=(0,0)) (o:=tR (k:(Vector UInt8 32)) aG) (show oG _ _ (.agg #[.int .u64 0,.int .u64 0])from inferInstance) (E.map .e6) rfl rfl rfl eY) ?_));refine e3.nc rfl rfl rfl rfl ?_ ?_
     .refine sV (c:=#[i6 0,i6 0]) E ?_;intro i w _ E;refine⟨tF [0] E,?_⟩;refine ao 1 E λj w E=>?_;refine n5 rfl rfl (iU (v:=.agg #[.int .i64 ((tR ((⟨k,(tV:Int)⟩:ox):ox) aL).getD (0,0)).1,.int .i64 ((tR ((⟨k,(tV:Int)⟩:ox):ox) aL).getD (0,0)).2]) (iR:=#[.int .i64 ((tR ((⟨k,(tV:Int)⟩:ox):ox) aL).getD (0,0)).1,.int .i64 ((tR ((⟨k,(tV:Int)⟩:ox):ox) aL).getD (0,0)).2]) E rfl rfl .G rfl (Nat.le_of_ble_eq_true rfl) (h3 rfl) rfl (tA .G λw E=>?_));refine⟨tF [0,1] E,?_⟩;refine n5 rfl rfl (iU (v:=.agg #[.int .u64 ((tR (k:(Vector UInt8 32)) aG).getD (0,0)).1,.int .u64 ((tR (k:(Vector UInt8 32)) aG).getD (0,0)).2]) (iR:=#[.int .u64 ((tR (k:(Vector UInt8 32)) aG).getD (0,0)).1,.int .u64 ((tR (k:(Vector UInt8 32)) aG).getD (0,0)).2]) E rfl rfl .em rfl (Nat.le_of_ble_eq_true rfl) (h3 rfl) rfl (tA .em λw E=>?_));refine⟨tF [0,1] E,?_⟩;refine ao 2 E λw E=>?_;exact⟨_,_,_,_,_,_,⟨rfl,rfl,rfl,rfl,rfl,rfl,rfl,rfl,trivial⟩,E⟩
     refine sV (c:=#[.int .u64 0,.int .u64 0]) E ?_;intro j w _ E;refine⟨tF [0] E,?_⟩;refine ao 1 E λi w E=>?_;refine n5 rfl rfl (iU (v:=.agg #[.int .i64 ((tR ((⟨k,(tV:Int)⟩:ox):ox) aL).getD (0,0)).1,.int .i64 ((tR ((⟨k,(tV:Int)⟩:ox):ox) aL).getD (0,0)).2]) (iR:=#[.int .i64 ((tR ((⟨k,(tV:Int)⟩:ox):ox) aL).getD (0,0)).1,.int .i64 ((tR ((⟨k,(tV:Int)⟩:ox):ox) aL).getD (0,0)).2]) E rfl rfl .em rfl (Nat.le_of_ble_eq_true rfl) (h3 rfl) rfl (tA .em λw E=>?_));refine⟨tF [0,1] E,?_⟩;refine n5 rfl rfl (iU (v:=.agg #[.int .u64 ((tR (k:(Vector UInt8 32)) aG).getD (0,0)).1,.int .u64 ((tR (k:(Vector UInt8 32)) aG).getD (0,0)).2]) (iR:=#[.int .u64 ((tR (k:(Vector UInt8 32)) aG).getD (0,0)).1,.int .u64 ((tR (k:(Vector UInt8 32)) aG).getD (0,0)).2]) E rfl rfl .G rfl (Nat.le_of_ble_eq_true rfl) (h3 rfl) rfl (tA .G λw E=>?_));refine⟨tF [0,1] E,?_⟩;refine ao 2 E λw E=>?_;exact⟨_,_,_,_,_,_,⟨rfl,rfl,rfl,rfl,rfl,rfl,rfl,rfl,trivial⟩,E.pick .G⟩
   .
     rintro f w ⟨i,j,x,y,a,b,h,E⟩;refine io _ h (λg=>?_);clear h;refine eI 6 E λw E=>?_;refine ea (Z.add rfl rfl rfl (ew 5 E ?_));refine ow 4 7 (e5 [0,1,2,3,4,5,6] (.one 7 .nil)) [] λw E=>?_;refine tw rfl (λw E=>Z.shl rfl rfl (by omega) rfl eY) (tw rfl (λw E=>Z.andNot rfl rfl rfl eY) (ao 4 E λw E=>?_));refine lK (λf w=>∃x y a b:Int,oW [(0,N p),(5,N l),(8,N e),(10,N i),(11,N j)] f/\U en (V j #[.int .u64 x,.int .u64 y] 227::V i #[.int .i64 a,.int .i64 b] 574::V e (O.enc (⟨k,(tV:Int)⟩:ox)) 577::V l (O.enc (⟨k,tk,false⟩:o1)) 66::V p #[i6 n,tz tD,tz t6] 326::tW tD lS aL::tW t6 l5 aG::S) w) ?_ ?_
     .
       refine eI 8 E<|om 0 2 (λA w E=>?_) (λA w E=>?_)
       .
         refine nV 4 7 (e5 [0,1,2,3,4,5,6] (.one 7 .nil)) [] E λw E=>?_;exact tw rfl (λw E=>Z.shl rfl rfl (by omega) rfl eY) (tw rfl (λw E=>Z.or rfl rfl rfl eY) (ao 4 E λw E=>(⟨_,_,_,_,⟨rfl,rfl,rfl,rfl,rfl,trivial⟩,E⟩)))
       .
         exact⟨_,_,_,_,⟨rfl,rfl,rfl,rfl,rfl,trivial⟩,E⟩
     .
       rintro f w ⟨x,y,a,b,h,E⟩;refine io _ h (λg=>?_);clear h;refine eI 2 E ?_;refine ow 6 6 (e5 [0,1,2,3,4,5] (.one 6 .nil)) [] λw E=>?_;refine nP rfl (gG (k:=((⟨k,(tV:Int)⟩:ox):ox)) (v:=(a,b)) (hw:=(oH ((⟨k,(tV:Int)⟩:ox):ox) (a,b) aL)) E .ac rfl rfl rfl rfl (tA .ac λw E=>(ao 5 E λw E=>?_)));refine ea (jr (fI:=#[i6 0,i6 0]) (by intro p m;cases m) ?_);refine ea (zz (k:=.i64) (a:=a) (b:=b) (c:=0) (d:=0) rfl rfl ?_);refine ew 2 E<|om 0 3 (λB w E=>?_) (λB w E=>?_)
       .
         refine nV 5 5 (e5 [0,1,2,3,4] (.one 5 .nil)) [] E λw E=>?_;refine nP rfl (xh (t:=323) (k:=((⟨k,(tV:Int)⟩:ox):ox)) (hw:=(rc ((⟨k,(tV:Int)⟩:ox):ox) (oH ((⟨k,(tV:Int)⟩:ox):ox) (a,b) aL))) rfl E .ac rfl rfl rfl (tA .ac λw E=>(ao 3 E ?_)));refine ow 7 7 (e5 [0,1,2,3,4,5,6] (.one 7 .nil)) [] λw E=>?_;refine nP rfl (gG (k:=(k:(Vector UInt8 32))) (v:=(x,y)) (hw:=(oH (k:(Vector UInt8 32)) (x,y) aG)) E .aW rfl rfl rfl rfl (tA .aW λw E=>?_));refine ao 5 E λw E=>?_;refine ea (jr (fI:=#[.int .u64 0,.int .u64 0]) (by intro p m;cases m) ?_);refine ea (zz (k:=.u64) (a:=x) (b:=y) (c:=0) (d:=0) rfl rfl ?_);refine ew 2 E<|om 0 2 (λq w E=>?_) (λq w E=>?_)
         .
           refine nV 6 6 (e5 [0,1,2,3,4,5] (.one 6 .nil)) [] E λw E=>?_;refine nP rfl (xh (t:=324) (k:=(k:(Vector UInt8 32))) (hw:=(rc (k:(Vector UInt8 32)) (oH (k:(Vector UInt8 32)) (x,y) aG))) rfl E .aW rfl rfl rfl (tA .aW λw E=>?_));refine ao 2 E λw E=>?_;exact⟨_,_,rfl,(tF [0,1,2,3] E)⟩
         .
           exact⟨_,_,rfl,(tF [0,1,2,3] E)⟩
       .
         refine nV 7 7 (e5 [0,1,2,3,4,5,6] (.one 7 .nil)) [] E λw E=>?_;refine nP rfl (gG (k:=(k:(Vector UInt8 32))) (v:=(x,y)) (hw:=(oH (k:(Vector UInt8 32)) (x,y) aG)) E .aW rfl rfl rfl rfl (tA .aW λw E=>?_));refine ao 5 E λw E=>?_;refine ea (jr (fI:=#[.int .u64 0,.int .u64 0]) (by intro p m;cases m) ?_);refine ea (zz (k:=.u64) (a:=x) (b:=y) (c:=0) (d:=0) rfl rfl ?_);refine ew 2 E<|om 0 2 (λq w E=>?_) (λq w E=>?_)
         .
           refine nV 6 6 (e5 [0,1,2,3,4,5] (.one 6 .nil)) [] E λw E=>?_;refine nP rfl (xh (t:=324) (k:=(k:(Vector UInt8 32))) (hw:=(rc (k:(Vector UInt8 32)) (oH (k:(Vector UInt8 32)) (x,y) aG))) rfl E .aW rfl rfl rfl (tA .aW λw E=>?_));refine ao 2 E λw E=>?_;exact⟨_,_,rfl,(tF [0,1,2,3] E)⟩
         .
           exact⟨_,_,rfl,(tF [0,1,2,3] E)⟩
variable{aL:List (ox×(Int×Int))}{aG:List (Vector UInt8 32×(Int×Int))}{a:Int}{sE:List Instr}{r:aX}{sB:List o1}{v:eu}{xs:List UInt8}{y:nD}
theorem Bx{r:o1}(a:U en (V p #[i6 n,tz tD,tz t6] 326::tW tD lS aL::tW t6 l5 aG::S) w0):eJ 325 #[N p,.agg (O.enc r),i6 tV,.int .i64 r8] w0 (λu w'=>∃(aL:List (ox×(Int×Int)))(aG:List (Vector UInt8 32×(Int×Int))),u= .tuple #[]/\U en (V p #[i6 n,tz tD,tz t6] 326::tW tD lS aL::tW t6 l5 aG::S) w'):=by
 obtain⟨k,tk,kh⟩:=r;cases kh
 .exact er1 a
 exact er0 a
def uM(n:Nat):Nat:=2^n-1
theorem er2(h:n<=64):Int.fdiv 18446744073709551615 (2^(min (Int.toNat (64-(n:Int))) IntKind.u64.bits))=((uM n:Nat):Int):=by
 have key:∀m:Fin 65,Int.fdiv 18446744073709551615 (2^(min (Int.toNat (64-((m.val:Nat):Int))) IntKind.u64.bits))=((uM m.val:Nat):Int):=by decide+kernel
 exact key ⟨n,by omega⟩
theorem er3(h:n<=64):uM n<18446744073709551616:=by
 have key:∀m:Fin 65,uM m.val<18446744073709551616:=by decide+kernel
 exact key ⟨n,by omega⟩
theorem er4:tN 364 #[.int .u64 0] w0 (i6 0):=by
 refine eH 8 (eG _) func364 ntmps364 results364 rfl λw E=>?_;refine ag 0 E (lZ (by decide) (show Int.fdiv 0 (2^(min (Int.toNat 1) IntKind.u64.bits))=0 from by decide)) λw E=>?_;refine ag 1 E (p2 (show hH .and .u64 0 6148914691236517205=0 from by decide)) λw E=>?_;refine ag 7 E (p2 (show hH .and .u64 0 6148914691236517205=0 from by decide)) λw E=>?_;refine ag 0 E (lZ (by decide) (show Int.fdiv 0 (2^(min (Int.toNat 2) IntKind.u64.bits))=0 from by decide)) λw E=>?_;refine ag 1 E (p2 (show hH .and .u64 0 3689348814741910323=0 from by decide)) λw E=>?_;refine ag 7 E (p2 (show hH .and .u64 0 3689348814741910323=0 from by decide)) λw E=>?_;refine ag 2 E (lZ (by decide) (show Int.fdiv 0 (2^(min (Int.toNat 4) IntKind.u64.bits))=0 from by decide)) λw E=>?_;refine ag 7 E (p2 (show hH .and .u64 0 1085102592571150095=0 from by decide)) λw E=>?_;refine ag 8 E (lZ (by decide) (show Int.fdiv 0 (2^(min (Int.toNat 8) IntKind.u64.bits))=0 from by decide)) λw E=>?_;refine ag 8 E (lZ (by decide) (show Int.fdiv 0 (2^(min (Int.toNat 16) IntKind.u64.bits))=0 from by decide)) λw E=>?_;refine ag 8 E (lZ (by decide) (show Int.fdiv 0 (2^(min (Int.toNat 32) IntKind.u64.bits))=0 from by decide)) λw E=>?_;refine ag 5 E (p2 (show hH .and .i64 0 127=0 from by decide)) λw E=>?_;exact⟨rfl,E.J⟩
theorem Bj:tN 320 #[.int .u64 a,.int .u64 0] w0 (.int .u64 a):=by
 refine eH 9 (eG _) func320 ntmps320 results320 rfl λw E=>?_;refine ej 5 E (er4) ?_;refine eP true 14 λw E=>?_;exact⟨rfl,E.J⟩
theorem er5:(eK [(Array.replicate 32 (.int .u8 0)),#[.bool false],#[.bool false]])=O.enc (⟨(oc 32),false,false⟩:o1):=by
 simp only[Dl,o1.parts,nn]
instance:gK (eK [(Array.replicate 32 (.int .u8 0)),#[.bool false],#[.bool false]]) (O.enc (⟨(oc 32),false,false⟩:o1)):=⟨er5⟩
theorem Bq(c:ar w0 (N p) #[i6 n,tz tD,tz t6])(th:hV w0 t6 l5 ([]:List (Vector UInt8 32×(Int×Int))))(eM:ev w0 v.v sB)(d:n<=64):tN 274 #[N p,v.v] w0 (.int .u64 (uM n:Int)):=by
 have a:=eM.le;refine eH 0 (eG _) func274 ntmps274 results274 rfl λw E=>?_;simp only[maxLen]at a;have:=iu c;refine eI 29 E ⟨iA,λw E=>?_⟩;have:=aS eM;refine ag 12 E (lZ (by omega) (er2 d)) λw E=>?_;refine ex.loop (λq f w=>∃k:Nat,oW [(0,N p),(5,.int .u64 (uM n:Int)),(25,v.v),(26,i6 sB.length),(27,i6 k)] f/\U w0 [] w/\k<=sB.length/\q=sB.length-k) (sB.length) ?_ ?_
 .
   exact⟨0,⟨rfl,rfl,rfl,rfl,sF,trivial⟩,E,Nat.zero_le _,rfl⟩
 .
   rintro q f w ⟨k,b,E,i,j⟩;refine io _ b (λg=>?_);clear b;refine eI 6 E<|om 0 13 (λe w E=>?_) (λe w E=>?_)
   .
     have l:k<sB.length:=by omega
     have a:=eM.le;simp only[maxLen]at a;refine eI 7 E ⟨⟨ay⟩,λ_=>rL 6 λm=>?_⟩;refine ow 6 8 (e5 [0,1,2,3,4,5,6] (oJ [7,8] .nil)) [] λw E=>?_;refine tw rfl (λw E=>pJ (k:=(sB[k].key:(Vector UInt8 32))) (z0:=(0,0)) (o:=none) inferInstance (th.ei E.J) rfl rfl (by simp[tR]) eY) ?_;refine ao 1 E λr w E=>?_;refine nP rfl (iU (v:=.agg #[.int .u64 0,.int .u64 0]) (iR:=#[.int .u64 0,.int .u64 0]) E rfl rfl .em rfl (Nat.le_of_ble_eq_true rfl) (h3 rfl) rfl (tA .em λw E=>?_));refine ao 16 E<|om 4 5 (λh w E=>?_) (λh w E=>?_)
     .
       refine ag 6 E (N9 (show hH .or .u64 0 0=0 from by decide)) λw E=>?_;refine ej 9 E (Bj) ⟨iA,λw E=>?_⟩;exact⟨sB.length-(k+1),by omega,k+1,⟨rfl,rfl,rfl,rfl,sF,trivial⟩,E.sub (List.nil_sublist _),by omega,rfl⟩
     .
       refine ej 9 E (Bj) ⟨iA,λw E=>?_⟩;exact⟨sB.length-(k+1),by omega,k+1,⟨rfl,rfl,rfl,rfl,sF,trivial⟩,E.sub (List.nil_sublist _),by omega,rfl⟩
   .
     exact⟨rfl,E.J⟩
theorem Bz(a:ar w0 (N p) #[i6 n,tz tD,tz t6])(b:tV<n):tN 324 #[N p,i6 tV] w0 (i6 0):=by
 have:=iu a;refine eH 25 (eG _) func324 ntmps324 results324 rfl ?_;refine eP false 6 ?_;refine eP false 15 λw E=>?_;exact⟨rfl,E.J⟩
theorem er6(G:1<=n)(Y:n<=64):eJ 76 #[i6 n] w0 (λu w'=>∃(eE:Nat)(te:Nat)(tO:Nat),u= .tuple #[N tO,i6 0]/\U w0 [V tO #[i6 n,tz eE,tz te] 326,tW te l5 ([]:List ((Vector UInt8 32)×(Int×Int))),tW eE lS ([]:List (ox×(Int×Int)))] w'):=by
 refine eH 10 (eG _) func76 ntmps76 results76 rfl ?_;refine eP false 2 ?_;refine eP false 9 λw E=>?_;refine ea (Z.makeMap ox lS E ?_);intro a w _ E;refine ea (Z.makeMap (Vector UInt8 32) l5 E ?_);intro b w _ E;exact ea (jI (c:=#[i6 n,tz a,tz b]) (by exact lE ⟨by decide,rfl,by decide,rfl,by decide,rfl,trivial⟩) rfl (ew 7 E λd w E=>(⟨a,b,d,rfl,E⟩)))
def xB(b:Bool):Value:=.bool b
theorem er7(d:n<=64)(e:tV<n)(i:U en (V p #[i6 n,tz tD,tz t6] 326::tW tD lS ([]:List (ox×(Int×Int)))::tW t6 l5 ([]:List (Vector UInt8 32×(Int×Int)))::az r sE xs y::S) w0):eJ 277 #[N p,r.s5.v,i6 tV] w0 (λu w'=>∃(eE:Int)(te:hh)(tO:r4),u= .int .i64 eE/\U en (V p #[i6 n,tz tD,tz t6] 326::tW tD lS te::tW t6 l5 tO::az r sE xs y::S) w'):=by
 refine eH 0 i func277 ntmps277 results277 rfl λw E=>?_;have s:(ad y).length<=64:=by have h:=pe E .ez;omega
 refine eI 10 E λw E=>?_;refine ej 6 E (Bz (E.tU .em) e) ?_;refine eP false 10 λw E=>?_;refine ej 1 E (Bq (E.tU .em) (E.map .Y) (gr E .ez).2.2.1 d) λw E=>?_;refine ea (Z.shr rfl rfl (by omega) rfl (ea (Z.and rfl rfl rfl (ew 3 E<|om 8 11 (λj w E=>?_) (λj w E=>?_)))))
 .
   exact⟨_,_,_,rfl,E⟩
 .
   refine ex.loop (λq f w=>∃(k:Nat)(a:hh)(b:r4),oW [(0,N p),(2,i6 tV),(23,r.s5.v),(24,.int .i64 ((ad y).length:Int)),(25,i6 k)] f/\U en (V p #[i6 n,tz tD,tz t6] 326::tW tD lS a::tW t6 l5 b::az r sE xs y::S) w/\k<=(ad y).length/\q=(ad y).length-k) ((ad y).length) ?_ ?_
   .
     exact⟨0,_,_,⟨rfl,rfl,rfl,rfl,sF,trivial⟩,E,Nat.zero_le _,rfl⟩
   .
     rintro q f w ⟨k,a,b,c,E,t,x⟩;refine io _ c (λg=>?_);clear c;refine eI 6 E<|om 0 12 (λl w E=>?_) (λl w E=>?_)
     .
       have z:k<(ad y).length:=by omega
       refine eI 7 E ⟨⟨ay⟩,λ_=>rL 9 λr2 w E=>?_⟩;refine ej 8 E (Bx (Pi [3,3,3] E)) λm o=>⟨iA,λw E=>?_⟩;exact⟨(ad y).length-(k+1),by omega,k+1,_,_,⟨rfl,rfl,rfl,rfl,sF,trivial⟩,E.sub aI,by omega,rfl⟩
     .
       exact⟨_,_,_,rfl,E⟩
theorem er8:eJ 130 #[] w0 (λu w'=>∃(eE:Nat)(te:Nat),u=N te/\U w0 [V te #[tz eE] 397,tW eE xB ([]:List ((Vector UInt8 32)×Bool))] w'):=by
 refine eH 7 (eG _) func130 ntmps130 results130 rfl λw E=>?_;refine ea (Z.makeMap (Vector UInt8 32) xB E ?_);intro tD w _ E;exact ea (jI (c:=#[tz tD]) (by exact lE ⟨by decide,rfl,trivial⟩) rfl (ew 6 E λtZ w E=>(⟨tD,tZ,rfl,E⟩)))
theorem er9{r:Nat}(b:ar w0 (N p) #[tz r])(th:hV w0 r xB ([]:List ((Vector UInt8 32)×Bool)))(eM:ev w0 v.v sB):tN 273 #[N p,v.v] w0 (.bool false):=by
 have:=aS eM;refine eH 24 (eG _) func273 ntmps273 results273 rfl λw E=>?_;refine ex.loop (λq f w=>∃k:Nat,oW [(0,N p),(11,v.v),(12,i6 sB.length),(13,i6 k)] f/\U w0 [] w/\k<=sB.length/\q=sB.length-k) (sB.length) ?_ ?_
 .
   exact⟨0,⟨rfl,rfl,rfl,sF,trivial⟩,E,Nat.zero_le _,rfl⟩
 .
   rintro q f w ⟨k,a,E,e,h⟩;refine io _ a (λg=>?_);clear a;refine eI 6 E<|om 0 12 (λc w E=>?_) (λc w E=>?_)
   .
     have i:k<sB.length:=by omega
     have d:=eM.le;simp only[maxLen]at d;refine eI 7 E ⟨⟨ay⟩,λ_=>rL 6 λj=>?_⟩;have:=iu b;refine ow 6 12 (e5 [0,1,2,3,4,5,6,7,8,9,10,11] .nil) [] λw E=>?_;refine tw rfl (λw E=>zx (k:=(sB[k].key:(Vector UInt8 32))) (z0:=false) (o:=none) inferInstance (th.ei E.J) rfl rfl (by simp[tR]) eY) (tw rfl (λw E=>oM (v:=.tuple #[.bool false,.bool false]) rfl eY) (tw rfl (λw E=>Z.extract rfl rfl eY) (tw rfl (λw E=>Z.extract rfl rfl eY) (tw rfl (λw E=>ww rfl eY) (tw rfl (λw E=>ww rfl eY) (ao 4 E λw E=>?_))))));refine ea (di rfl ?_);refine ea (di rfl ?_);refine ew 2 E λw E=>?_;refine Fd 30 rfl rfl rfl rfl ?_;refine ew 14 E ⟨iA,λw E=>?_⟩;exact⟨sB.length-(k+1),by omega,k+1,⟨rfl,rfl,rfl,sF,trivial⟩,E.sub (List.nil_sublist _),by omega,rfl⟩
   .
     exact⟨rfl,E.J⟩
variable{aL:hh}{aG:r4}{r:o1}
theorem ehe(h:r.iO=true):tN 341 #[.agg (O.enc r)] w0 (i6 1):=by
 obtain⟨k,tk,kh⟩:=r;obtain rfl:kh=true:=h;exact Uc
theorem eht(h:r.iO=false):tN 341 #[.agg (O.enc r)] w0 (i6 0):=by
 obtain⟨k,tk,kh⟩:=r;obtain rfl:kh=false:=h;exact Uu
theorem eha:(Array.replicate 32 (Value.int .u8 0))=O.enc (oc 32):=(nn 31).symm
theorem eho{r:aX}(I:tV<n)(J:U en (V p #[i6 n,tz tD,tz t6] 326::tW tD lS aL::tW t6 l5 aG::az r sE xs y::S) w0):eJ 293 #[N p,r.s5.v,i6 tV] w0 (λu w'=>∃(eE:Int)(te:hh)(tO:r4),u= .int .i64 eE/\U en (V p #[i6 n,tz tD,tz t6] 326::tW tD lS te::tW t6 l5 tO::az r sE xs y::S) w'):=by
 refine eH 0 J func293 ntmps293 results293 rfl λw E=>?_;have nI:(ad y).length<=64:=by have h:=pe E .ez;omega
 refine eI 10 E λw E=>?_;refine ej 6 E (Bz (E.tU .em) I) ?_;refine eP false 7 λw E=>?_;refine ea (Z.makeMap (Vector UInt8 32) lS E ?_);intro e w _ E;refine ew 12 E λw E=>?_;refine ex.loop (λq f w=>∃(k:Nat)(H3:r4),oW [(0,N p),(1,r.s5.v),(2,i6 tV),(8,tz e),(24,r.s5.v),(25,.int .i64 ((ad y).length:Int)),(26,i6 k)] f/\U en (tW e lS H3::V p #[i6 n,tz tD,tz t6] 326::tW tD lS aL::tW t6 l5 aG::az r sE xs y::S) w/\k<=(ad y).length/\q=(ad y).length-k) ((ad y).length) ?_ ?_
 .
   exact⟨0,_,⟨rfl,rfl,rfl,rfl,rfl,rfl,sF,trivial⟩,E.sub aI,Nat.zero_le _,rfl⟩
 .
   rintro q f w ⟨k,H3,d,E,K,A⟩;refine io _ d (λg=>?_);clear d;refine eI 6 E<|om 0 9 (λL w E=>?_) (λL w E=>?_)
   .
     have M:k<(ad y).length:=by omega
     rcases B:(ad y)[k].iO with _|_
     .
       refine eI 7 E ⟨⟨ay⟩,λ_=>rL 10 λsJ w E=>?_⟩;refine ea (pJ (k:=(((ad y)[k]).key:(Vector UInt8 32))) (z0:=(0,0)) (o:=tR (((ad y)[k]).key:(Vector UInt8 32)) H3) (show oG _ _ (.agg #[i6 0,i6 0])from inferInstance) (E.map .G) rfl rfl rfl ?_);refine ew 1 E λnJ w E=>?_;refine oA (iU (v:=.agg #[.int .i64 ((tR (((ad y)[k]).key:(Vector UInt8 32)) H3).getD (0,0)).1,.int .i64 ((tR (((ad y)[k]).key:(Vector UInt8 32)) H3).getD (0,0)).2]) (iR:=#[.int .i64 ((tR (((ad y)[k]).key:(Vector UInt8 32)) H3).getD (0,0)).1,.int .i64 ((tR (((ad y)[k]).key:(Vector UInt8 32)) H3).getD (0,0)).2]) E rfl rfl .em rfl (Nat.le_of_ble_eq_true rfl) (h3 rfl) rfl (tA .em λw E=>?_));refine ew 5 E λw E=>?_;refine ej 2 E (eht B) λw E=>?_;refine ea (Z.add rfl rfl rfl ?_);refine ew 9 E λw E=>?_;refine oA (gG (k:=(((ad y)[k]).key:(Vector UInt8 32))) (v:=((IntKind.i64.wrap (((tR (((ad y)[k]).key:(Vector UInt8 32)) H3).getD (0,0)).1+1)),((tR (((ad y)[k]).key:(Vector UInt8 32)) H3).getD (0,0)).2)) (hw:=(oH (((ad y)[k]).key:(Vector UInt8 32)) ((IntKind.i64.wrap (((tR (((ad y)[k]).key:(Vector UInt8 32)) H3).getD (0,0)).1+1)),((tR (((ad y)[k]).key:(Vector UInt8 32)) H3).getD (0,0)).2) H3)) E .Y rfl rfl rfl rfl (tA .Y λw E=>?_));refine ew 8 E ⟨iA,λw E=>?_⟩;exact⟨(ad y).length-(k+1),by omega,k+1,_,⟨rfl,rfl,rfl,rfl,rfl,rfl,sF,trivial⟩,E.sub aI,by omega,rfl⟩
     .
       refine eI 7 E ⟨⟨ay⟩,λ_=>rL 10 λP w E=>?_⟩;refine ea (pJ (k:=(((ad y)[k]).key:(Vector UInt8 32))) (z0:=(0,0)) (o:=tR (((ad y)[k]).key:(Vector UInt8 32)) H3) (show oG _ _ (.agg #[i6 0,i6 0])from inferInstance) (E.map .G) rfl rfl rfl ?_);refine ew 1 E λQ w E=>?_;refine oA (iU (v:=.agg #[.int .i64 ((tR (((ad y)[k]).key:(Vector UInt8 32)) H3).getD (0,0)).1,.int .i64 ((tR (((ad y)[k]).key:(Vector UInt8 32)) H3).getD (0,0)).2]) (iR:=#[.int .i64 ((tR (((ad y)[k]).key:(Vector UInt8 32)) H3).getD (0,0)).1,.int .i64 ((tR (((ad y)[k]).key:(Vector UInt8 32)) H3).getD (0,0)).2]) E rfl rfl .em rfl (Nat.le_of_ble_eq_true rfl) (h3 rfl) rfl (tA .em λw E=>?_));refine ew 5 E λw E=>?_;refine ej 2 E (ehe B) λw E=>?_;refine ea (Z.add rfl rfl rfl ?_);refine ew 9 E λw E=>?_;refine oA (gG (k:=(((ad y)[k]).key:(Vector UInt8 32))) (v:=(((tR (((ad y)[k]).key:(Vector UInt8 32)) H3).getD (0,0)).1,(IntKind.i64.wrap (((tR (((ad y)[k]).key:(Vector UInt8 32)) H3).getD (0,0)).2+1)))) (hw:=(oH (((ad y)[k]).key:(Vector UInt8 32)) (((tR (((ad y)[k]).key:(Vector UInt8 32)) H3).getD (0,0)).1,(IntKind.i64.wrap (((tR (((ad y)[k]).key:(Vector UInt8 32)) H3).getD (0,0)).2+1))) H3)) E .Y rfl rfl rfl rfl (tA .Y λw E=>?_));refine ew 8 E ⟨iA,λw E=>?_⟩;exact⟨(ad y).length-(k+1),by omega,k+1,_,⟨rfl,rfl,rfl,rfl,rfl,rfl,sF,trivial⟩,E.sub aI,by omega,rfl⟩
   .
     refine ea (Z.range (tl:=(Vector UInt8 32)) E .em rfl ?_);intro C w E;replace E:=E _ .em;refine ew 3 E λw E=>?_;refine ex.loop (λq f w=>∃(is:List Nat),oW [(0,N p),(1,r.s5.v),(2,i6 tV),(46,N C)] f/\U en (lm C e lS H3 is::V p #[i6 n,tz tD,tz t6] 326::tW tD lS aL::tW t6 l5 aG::az r sE xs y::S) w/\q=H3.length-is.length) (H3.length) ?_ ?_
     .
       exact⟨[],⟨rfl,rfl,rfl,rfl,trivial⟩,E,rfl⟩
     .
       rintro q f w ⟨is,d,E,A⟩;refine io _ d (λg=>?_);clear d;refine eI 2 E λw E=>?_;refine ea (jy E .em rfl ?_);intro Yw R T w i j l E;replace E:=E _ .em;refine ea (Z.extract rfl i ?_);refine ew 3 E<|na 0 0 (λm W w E=>?_) (λm W w E=>?_)
       .
         obtain⟨i47,s,X,eyy,rfl⟩:=l m;refine eI 5 E λw E=>?_;refine ea (jb (E.wz .em) s rfl (ew 4 E λln n7 w E=>(oA (iV (r:=(H3[i47]).1) E rfl rfl .G (O.eT _) (tA .G λw E=>(oA (iU (v:=.agg #[i6 (H3[i47]).2.1,i6 (H3[i47]).2.2]) (iR:=#[i6 (H3[i47]).2.1,i6 (H3[i47]).2.2]) E rfl rfl .em rfl (Nat.le_of_ble_eq_true rfl) (h3 rfl) rfl (tA .em λw E=>(ew 3 E ?_)))))))));refine ow 6 9 (e5 [0,1,2,3,4,5,6,7] (oJ [8,9] .nil)) [] λw E=>?_;refine tw rfl (λw E=>rV (r:=(⟨((H3[i47]).1),(tV:Int)⟩:ox)) (ps:=ox.parts (⟨((H3[i47]).1),(tV:Int)⟩:ox)) (qx _) (by first|rfl|(simp only[qx,ox.parts,sM,nn];rfl)) (by exact lE ⟨by decide,O.eT ((H3[i47]).1),by decide,rfl,trivial⟩) eY) ?_;refine tw rfl (λw E=>pJ (k:=((⟨((H3[i47]).1),(tV:Int)⟩:ox):ox)) (z0:=(0,0)) (o:=tR ((⟨((H3[i47]).1),(tV:Int)⟩:ox):ox) aL) (show oG _ _ (.agg #[i6 0,i6 0])from inferInstance) (E.map .e6) rfl rfl rfl eY) ?_;refine ao 1 E λE1 w E=>?_;refine nP rfl (iU (v:=.agg #[.int .i64 ((tR ((⟨((H3[i47]).1),(tV:Int)⟩:ox):ox) aL).getD (0,0)).1,.int .i64 ((tR ((⟨((H3[i47]).1),(tV:Int)⟩:ox):ox) aL).getD (0,0)).2]) (iR:=#[.int .i64 ((tR ((⟨((H3[i47]).1),(tV:Int)⟩:ox):ox) aL).getD (0,0)).1,.int .i64 ((tR ((⟨((H3[i47]).1),(tV:Int)⟩:ox):ox) aL).getD (0,0)).2]) E rfl rfl .em rfl (Nat.le_of_ble_eq_true rfl) (h3 rfl) rfl (tA .em λw E=>?_));refine ao 10 E λw E=>?_;refine tn.eV _ 65 _ rfl rfl rfl rfl (λeyb=>ph rfl rfl (by decide) ⟨rfl,eB.refl _⟩) (λw c=>?_);replace E:=E.ei c;refine tn.eV _ 65 _ rfl rfl rfl rfl (λt=>ap (v:=i6 (H3[i47]).2.2) (by first|exact a7 rfl t|rfl) (E.aV .G rfl) ⟨rfl,eB.refl _⟩) (λw c=>?_);replace E:=E.ei c;refine tn.eV _ 65 _ rfl rfl rfl rfl (λeyv=>ph rfl rfl (by decide) ⟨rfl,eB.refl _⟩) (λw c=>?_);replace E:=E.ei c;refine tn.eV _ 65 _ rfl rfl rfl rfl (λx=>ap (v:=.int .i64 ((tR ((⟨((H3[i47]).1),(tV:Int)⟩:ox):ox) aL).getD (0,0)).2) (by first|exact a7 rfl x|rfl) (E.aV .em rfl) ⟨rfl,eB.refl _⟩) (λw c=>?_);replace E:=E.ei c;refine tn.eV _ 65 _ rfl rfl rfl rfl (λD=>Z.gtr (k:=.i64) (a:=(H3[i47]).2.2) (b:=((tR ((⟨((H3[i47]).1),(tV:Int)⟩:ox):ox) aL).getD (0,0)).2) (by first|exact a7 rfl D|rfl) (by first|exact a7 rfl D|rfl) ⟨rfl,eB.refl _⟩) (λw c=>?_);replace E:=E.ei c;refine ea (m8 rfl rfl (by first|rfl) ?_);refine ew 2 E<|om 11 3 (λnl w E=>?_) (λnl w E=>?_)
         .
           exact⟨_,_,_,rfl,(tF [0,1,2,3] E)⟩
         .
           exact⟨H3.length-(is++[i47]).length,by simp;omega,is++[i47],⟨rfl,rfl,rfl,rfl,trivial⟩,E.sub aI,rfl⟩
       .
         obtain⟨z,eyk⟩:=j m;rw[z]at E;refine eI 14 E λw E=>?_;refine ex.loop (λq f w=>∃(k:Nat)(F:hh)(H:r4),oW [(0,N p),(2,i6 tV),(72,r.s5.v),(73,.int .i64 ((ad y).length:Int)),(74,i6 k)] f/\U en (V p #[i6 n,tz tD,tz t6] 326::tW tD lS F::tW t6 l5 H::az r sE xs y::S) w/\k<=(ad y).length/\q=(ad y).length-k) ((ad y).length) ?_ ?_
         .
           exact⟨0,_,_,⟨rfl,rfl,rfl,rfl,sF,trivial⟩,E.sub aI,Nat.zero_le _,rfl⟩
         .
           rintro q f w ⟨k,F,H,d,E,K,A⟩;refine io _ d (λg=>?_);clear d;refine eI 6 E<|om 0 12 (λcp w E=>?_) (λcp w E=>?_)
           .
             have M:k<(ad y).length:=by omega
             refine eI 7 E ⟨⟨ay⟩,λ_=>rL 9 λbF w E=>?_⟩;refine ej 8 E (Bx (Pi [3,3,3] E)) λeyx eyj=>⟨iA,λw E=>?_⟩;exact⟨(ad y).length-(k+1),by omega,k+1,_,_,⟨rfl,rfl,rfl,rfl,sF,trivial⟩,E.sub aI,by omega,rfl⟩
           .
             exact⟨_,_,_,rfl,E⟩
end
end Go.Fer
