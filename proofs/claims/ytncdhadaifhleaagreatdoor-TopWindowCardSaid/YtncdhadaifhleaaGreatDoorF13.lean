import Derived.Test.YtncdhadaifhleaaGreatDoorF7
set_option linter.all false
set_option synthInstance.maxSize 100000
set_option synthInstance.maxHeartbeats 400000
set_option maxHeartbeats 8000000
set_option maxRecDepth 100000
namespace Go.Fer
open Go Go.RowKit
section
open Go.Proofs Tryz
variable{K d e m n:Nat}{a:Array Value}{u3:Bool}{v:Vector UInt8 32}{w:World}
structure oj where
 key:Vector UInt8 32
 kh:Int
 deriving DecidableEq
variable{k x:oj}
def oj.parts(x:oj):List (Array Value):=[O.enc x.key,#[.int .i64 x.kh]]
theorem erP(x:oj):x.parts.map Array.size=[32,1]:=by
 simp only[oj.parts,List.map,O.ez];rfl
instance:O oj where
 enc x:=eK x.parts
 eo:=33
 pos:=by omega
 ez x:=by rw[iw,erP];rfl
 one x:=rD (all_cons (O.one _) (all_cons (oZ _ _) rC))
theorem qx(x:oj):O.enc x=eK x.parts:=rfl
theorem CF(x:oj):(O.enc x).extract 0 (0+32)=O.enc x.key:=p1 [] [#[.int .i64 x.kh]] _ sU (by rw[O.ez];rfl)
theorem CP(x:oj):(O.enc x)[32]? =some (.int .i64 x.kh):=hu [O.enc x.key] [] _ sU
instance:k1 prog 577 oj 3 where
 le:=by omega
 run w d hd x y:=by
  obtain⟨d,rfl⟩:∃d',d=d'+1:=⟨d-1,by omega⟩;have h:=FA (P:=prog) (w:=w) (d:=d) (xs:=O.enc x) (ys:=O.enc y) underlying577 (by kernel_rfl) (FE (T:=60) (α:=Vector UInt8 32) (by omega) rfl rfl (by decide) (CF x) (CF y) (HR (T:=3) (by omega) rfl rfl (by decide) (CP x) (CP y) FT));rw[h];refine congrArg (λb=>Result.ok b w) ?_;rw[Bool.eq_iff_iff];cases x;cases y;simp[oj.mk.injEq];try(intros;simp_all[<-UInt8.toNat_inj];try omega)
  all_goals(try simp only[Int.ofNat_inj,Int.natCast_inj])
theorem erG{P:Program}[ep:du P K (n+1) e][ew:hZ P e .u8][a:nm P e 1][m:uX P e](k:Vector UInt8 (n+1)):(Instr.checkKey u3 (d+1+1) K (.agg (O.enc k))).run P w= .ok () w:=by
 rw[Instr.checkKey];simp only[Sem.run_bind,run_underlying ep.out,Result.andThen_ok,Std.Legacy.Range.forIn_eq_forIn_range',Std.Legacy.Range.size,Nat.sub_zero,Nat.add_sub_cancel,Nat.div_one];have eB:∀i∈List.range' 0 (n+1) 1,i<n+1:=λi ew=>by simpa using(List.mem_range'_1.1 ew).2
 generalize List.range' 0 (n+1) 1=l at eB⊢;induction l with
 |nil=>simp
 |cons i l b=>
  have c:i<n+1:=eB i (by simp);have f:(part e (O.enc k) (i*1)).run P w= .ok (.int .u8 (k[i].toNat:Int)) w:=bh w (by simp[q9,c]);have g:(Instr.checkKey u3 (d+1) e (.int .u8 (k[i].toNat:Int))).run P w= .ok () w:=by
   rw[Instr.checkKey];simp only[Sem.run_bind,run_underlying ew.out,Result.andThen_ok];rfl
  simp only[List.forIn_cons,Sem.run_bind,m5 a,f,g,Result.andThen_ok,Sem.run_pure];exact b λj h=>eB j (by simp[h])
theorem erW(h:∀v∈a.toList,∃k n,v= .int k n):Instr.sameBits (m+1) (.agg a) (.agg a)=true:=by
 rw[Instr.sameBits];simp only[beq_self_eq_true,Bool.true_and];generalize a.toList=l at h;induction l with
 |nil=>rfl
 |cons x l b=>
  obtain⟨k,n,rfl⟩:=h x (by simp);simp only[List.zip_cons_cons,List.all_cons,Instr.sameBits,beq_self_eq_true,Bool.and_self,Bool.true_and];exact b λv tG=>h v (by simp[tG])
theorem erY:∀v∈(O.enc k).toList,∃j n,v= .int j n:=by
 intro v tG;rw[qx]at tG;simp only[oj.parts,IN,vy,List.mem_append]at tG;rcases tG with tG|tG
 .rw[II,IA]at tG;obtain⟨c,_,rfl⟩:=List.mem_map.1 tG;exact⟨_,_,rfl⟩
 simp at tG;exact⟨_,_,tG⟩
instance:oi oj where
 iu k:=.agg (O.enc k)
 same k:=erW (erY)
instance:u2 prog 577 oj where
 wk u3 w k:=by
  show(Instr.checkKey u3 (9997+1+1+1) 577 (.agg (O.enc k))).run prog w= .ok () w;generalize 9997=d;rw[Instr.checkKey];have G:(part 60 (O.enc k) 0).run prog w= .ok (.agg (O.enc k.key)) w:=by
   rw[IR (eo:=32)];exact congrArg (λx=>Result.ok (Value.agg x) w) (CF k)
  have Y:(part 3 (O.enc k) 32).run prog w= .ok (.int .i64 k.kh) w:=bh w (CP k);have ej:=erG (P:=prog) (K:=60) (u3:=u3) (w:=w) (d:=d) k.key;have e8:(Instr.checkKey u3 (d+1+1) 3 (.int .i64 k.kh)).run prog w= .ok () w:=by
   rw[Instr.checkKey];simp only[Sem.run_bind,run_underlying underlying3,Result.andThen_ok];rfl
  simp only[Sem.run_bind,run_underlying underlying577,Result.andThen_ok];simp[G,Y,ej,e8]
 vz e7 w k l eI h:=by
  have a:∀x:oj,(Op.equal 577 (oi.iu k) (oi.iu x)).run prog w= .ok (decide (k=x)) w:=λx=>k1.run (T:=577) w 10000 (by decide) k x;have Y:=HU e7 w k a l eI 0 h;unfold Instr.findKey;simp only[Sem.run_bind,run_underlying underlying577,Result.andThen_ok];cases l with
  |nil=>
   cases eI with
   |nil=>rfl
   |cons p r=>simp at h
  |cons e l=>exact Y
def lN(u:Int×Int):Value:=.agg #[.int .i64 u.1,.int .i64 u.2]
def l2(u:Int×Int):Value:=.agg #[.int .u64 u.1,.int .u64 u.2]
variable{S:List eH}{r4:Int}{k:ak}{p tj tZ tB:Nat}{ti:Bool}{w0 ea:World}
abbrev r0:=List (oj×(Int×Int))
variable{aU:r0}
abbrev rY:=List (Vector UInt8 32×(Int×Int))
variable{aV:rY}
theorem CG:tS 341 #[.agg (O.enc (⟨k,ti,true⟩:o6))] w0 (i6 1):=by
 refine eN 22 (eY _) func341 ntmps341 results341 rfl λni w E=>?_;exact⟨rfl,E.ee⟩
theorem erB(eC:U ea (B p #[i6 n,tA tj,tA tZ] 326::tM tj lN aU::tM tZ l2 aV::S) w0):eJ 325 #[N p,.agg (O.enc (⟨k,ti,true⟩:o6)),i6 tB,.int .i64 r4] w0 (λu w'=>∃(eE:r0)(tt:rY),u= .tuple #[]/\U ea (B p #[i6 n,tA tj,tA tZ] 326::tM tj lN eE::tM tZ l2 tt::S) w'):=by
 refine eN 5 eC func325 ntmps325 results325 rfl λl w E=>?_;refine lB (λf w=>∃e:Nat,oV [(0,N p),(2,i6 tB),(3,.int .i64 r4),(5,N l),(8,N e),(9,i6 1)] f/\U ea (B e (O.enc (⟨k,(tB:Int)⟩:oj)) 577::B l (O.enc (⟨k,ti,true⟩:o6)) 66::B p #[i6 n,tA tj,tA tZ] 326::tM tj lN aU::tM tZ l2 aV::S) w) ?_ ?_
 .
   refine nC 3 7 (eX [0,1,2,3,4] (.iZ 5 6 (oA [6,7,8] .nil) (oA [5,7,8] .nil))) [] E λw E=>?_;refine tl rfl (λw E=>sV (r:=(⟨k,(tB:Int)⟩:oj)) (ps:=oj.parts (⟨k,(tB:Int)⟩:oj)) (qx _) (by first|rfl|(simp only[qx,oj.parts,sg,iW];rfl)) (by exact hT ⟨by decide,O.ez k,by decide,rfl,trivial⟩) eG) (t7 1 E λw E=>?_);refine e2.iZ rfl rfl rfl rfl ?_ ?_
   .refine J.call (CG) rfl ?_;rintro _ w ⟨rfl,s⟩;replace E:=E.es s;refine⟨E,?_⟩;refine t7 1 E λe w E=>?_;exact nH rfl (iJ (r:=(⟨k,(tB:Int)⟩:oj)) E rfl rfl .em rfl (tH .em λw E=>(t7 3 E λw E=>(⟨_,⟨rfl,rfl,rfl,rfl,rfl,rfl,trivial⟩,E⟩))))
   refine sI (c:=#[.int .u8 0,.int .u8 0,.int .u8 0,.int .u8 0,.int .u8 0,.int .u8 0,.int .u8 0,.int .u8 0,.int .u8 0,.int .u8 0,.int .u8 0,.int .u8 0,.int .u8 0,.int .u8 0,.int .u8 0,.int .u8 0,.int .u8 0,.int .u8 0,.int .u8 0,.int .u8 0,.int .u8 0,.int .u8 0,.int .u8 0,.int .u8 0,.int .u8 0,.int .u8 0,.int .u8 0,.int .u8 0,.int .u8 0,.int .u8 0,.int .u8 0,.int .u8 0,i6 0]) E ?_;intro e w _ E;refine⟨tN [0] E,?_⟩;refine o0 4 E (CG) λw E=>?_;exact⟨_,⟨rfl,rfl,rfl,rfl,rfl,rfl,trivial⟩,E⟩
 .
   rintro f w ⟨e,h,E⟩;refine il _ h (λg=>?_);clear h;refine lB (λf w=>∃(i j:Nat)(x y a b:Int),oV [(0,N p),(2,i6 tB),(3,.int .i64 r4),(5,N l),(8,N e),(9,i6 1),(10,N i),(11,N j)] f/\U ea (B j #[.int .u64 x,.int .u64 y] 227::B i #[.int .i64 a,.int .i64 b] 574::B e (O.enc (⟨k,(tB:Int)⟩:oj)) 577::B l (O.enc (⟨k,ti,true⟩:o6)) 66::B p #[i6 n,tA tj,tA tZ] 326::tM tj lN aU::tM tZ l2 aV::S) w) ?_ ?_
   .
     refine nC 5 17 (eX [0,1,2,3,4,5,6,7,8,9,10,11,12] (.iZ 13 14 (oA [14,15,16] .nil) (oA [13,15,16] .nil))) [] E λw E=>?_;refine tl rfl (λw E=>p4 (k:=((⟨k,(tB:Int)⟩:oj):oj)) (z0:=(0,0)) (o:=tL ((⟨k,(tB:Int)⟩:oj):oj) aU) (show oB _ _ (.agg #[i6 0,i6 0])from inferInstance) (E.map .ej) rfl rfl rfl eG) (t7 6 E λw E=>(tl rfl (λw E=>p4 (k:=(k:(Vector UInt8 32))) (z0:=(0,0)) (o:=tL (k:(Vector UInt8 32)) aV) (show oB _ _ (.agg #[.int .u64 0,.int .u64 0])from inferInstance) (E.map .e8) rfl rfl rfl eG) ?_));refine e2.iZ rfl rfl rfl rfl ?_ ?_
     .refine sI (c:=#[i6 0,i6 0]) E ?_;intro i w _ E;refine⟨tN [0] E,?_⟩;refine t7 1 E λj w E=>?_;refine n8 rfl rfl (iU (v:=.agg #[.int .i64 ((tL ((⟨k,(tB:Int)⟩:oj):oj) aU).getD (0,0)).1,.int .i64 ((tL ((⟨k,(tB:Int)⟩:oj):oj) aU).getD (0,0)).2]) (iA:=#[.int .i64 ((tL ((⟨k,(tB:Int)⟩:oj):oj) aU).getD (0,0)).1,.int .i64 ((tL ((⟨k,(tB:Int)⟩:oj):oj) aU).getD (0,0)).2]) E rfl rfl .G rfl (Nat.le_of_ble_eq_true rfl) (h2 rfl) rfl (tH .G λw E=>?_));refine⟨tN [0,1] E,?_⟩;refine n8 rfl rfl (iU (v:=.agg #[.int .u64 ((tL (k:(Vector UInt8 32)) aV).getD (0,0)).1,.int .u64 ((tL (k:(Vector UInt8 32)) aV).getD (0,0)).2]) (iA:=#[.int .u64 ((tL (k:(Vector UInt8 32)) aV).getD (0,0)).1,.int .u64 ((tL (k:(Vector UInt8 32)) aV).getD (0,0)).2]) E rfl rfl .em rfl (Nat.le_of_ble_eq_true rfl) (h2 rfl) rfl (tH .em λw E=>?_));refine⟨tN [0,1] E,?_⟩;refine t7 2 E λw E=>?_;exact⟨_,_,_,_,_,_,⟨rfl,rfl,rfl,rfl,rfl,rfl,rfl,rfl,trivial⟩,E⟩
     refine sI (c:=#[.int .u64 0,.int .u64 0]) E ?_;intro j w _ E;refine⟨tN [0] E,?_⟩;refine t7 1 E λi w E=>?_;refine n8 rfl rfl (iU (v:=.agg #[.int .i64 ((tL ((⟨k,(tB:Int)⟩:oj):oj) aU).getD (0,0)).1,.int .i64 ((tL ((⟨k,(tB:Int)⟩:oj):oj) aU).getD (0,0)).2]) (iA:=#[.int .i64 ((tL ((⟨k,(tB:Int)⟩:oj):oj) aU).getD (0,0)).1,.int .i64 ((tL ((⟨k,(tB:Int)⟩:oj):oj) aU).getD (0,0)).2]) E rfl rfl .em rfl (Nat.le_of_ble_eq_true rfl) (h2 rfl) rfl (tH .em λw E=>?_));refine⟨tN [0,1] E,?_⟩;refine n8 rfl rfl (iU (v:=.agg #[.int .u64 ((tL (k:(Vector UInt8 32)) aV).getD (0,0)).1,.int .u64 ((tL (k:(Vector UInt8 32)) aV).getD (0,0)).2]) (iA:=#[.int .u64 ((tL (k:(Vector UInt8 32)) aV).getD (0,0)).1,.int .u64 ((tL (k:(Vector UInt8 32)) aV).getD (0,0)).2]) E rfl rfl .G rfl (Nat.le_of_ble_eq_true rfl) (h2 rfl) rfl (tH .G λw E=>?_));refine⟨tN [0,1] E,?_⟩;refine t7 2 E λw E=>?_;exact⟨_,_,_,_,_,_,⟨rfl,rfl,rfl,rfl,rfl,rfl,rfl,rfl,trivial⟩,E.pick .G⟩
   .
     rintro f w ⟨i,j,x,y,a,b,h,E⟩;refine il _ h (λg=>?_);clear h;refine eA 6 E λw E=>?_;refine et (J.add rfl rfl rfl (ey 5 E ?_));refine aC 4 7 (eX [0,1,2,3,4,5,6] (.one 7 .nil)) [] λw E=>?_;refine tl rfl (λw E=>J.shl rfl rfl (by omega) rfl eG) (tl rfl (λw E=>J.andNot rfl rfl rfl eG) (t7 4 E λw E=>?_));refine lB (λf w=>∃x y a b:Int,oV [(0,N p),(5,N l),(8,N e),(10,N i),(11,N j)] f/\U ea (B j #[.int .u64 x,.int .u64 y] 227::B i #[.int .i64 a,.int .i64 b] 574::B e (O.enc (⟨k,(tB:Int)⟩:oj)) 577::B l (O.enc (⟨k,ti,true⟩:o6)) 66::B p #[i6 n,tA tj,tA tZ] 326::tM tj lN aU::tM tZ l2 aV::S) w) ?_ ?_
     .
       refine eA 8 E<|om 0 2 (λz w E=>?_) (λz w E=>?_)
       .
         refine nC 4 7 (eX [0,1,2,3,4,5,6] (.one 7 .nil)) [] E λw E=>?_;exact tl rfl (λw E=>J.shl rfl rfl (by omega) rfl eG) (tl rfl (λw E=>J.or rfl rfl rfl eG) (t7 4 E λw E=>(⟨_,_,_,_,⟨rfl,rfl,rfl,rfl,rfl,trivial⟩,E⟩)))
       .
         exact⟨_,_,_,_,⟨rfl,rfl,rfl,rfl,rfl,trivial⟩,E⟩
     .
       rintro f w ⟨x,y,a,b,h,E⟩;refine il _ h (λg=>?_);clear h;refine eA 2 E ?_;refine aC 6 6 (eX [0,1,2,3,4,5] (.one 6 .nil)) [] λw E=>?_;refine nH rfl (gF (k:=((⟨k,(tB:Int)⟩:oj):oj)) (v:=(a,b)) (hm:=(oC ((⟨k,(tB:Int)⟩:oj):oj) (a,b) aU)) E .au rfl rfl rfl rfl (tH .au λw E=>(t7 5 E λw E=>?_)));refine et (jr (fA:=#[i6 0,i6 0]) (by intro p m;cases m) ?_);refine et (zz (k:=.i64) (a:=a) (b:=b) (c:=0) (d:=0) rfl rfl ?_);refine ey 2 E<|om 0 3 (λA w E=>?_) (λA w E=>?_)
       .
         refine nC 5 5 (eX [0,1,2,3,4] (.one 5 .nil)) [] E λw E=>?_;refine nH rfl (xh (t:=323) (k:=((⟨k,(tB:Int)⟩:oj):oj)) (hm:=(sp ((⟨k,(tB:Int)⟩:oj):oj) (oC ((⟨k,(tB:Int)⟩:oj):oj) (a,b) aU))) rfl E .au rfl rfl rfl (tH .au λw E=>(t7 3 E ?_)));refine aC 7 7 (eX [0,1,2,3,4,5,6] (.one 7 .nil)) [] λw E=>?_;refine nH rfl (gF (k:=(k:(Vector UInt8 32))) (v:=(x,y)) (hm:=(oC (k:(Vector UInt8 32)) (x,y) aV)) E .a2 rfl rfl rfl rfl (tH .a2 λw E=>?_));refine t7 5 E λw E=>?_;refine et (jr (fA:=#[.int .u64 0,.int .u64 0]) (by intro p m;cases m) ?_);refine et (zz (k:=.u64) (a:=x) (b:=y) (c:=0) (d:=0) rfl rfl ?_);refine ey 2 E<|om 0 2 (λq w E=>?_) (λq w E=>?_)
         .
           refine nC 6 6 (eX [0,1,2,3,4,5] (.one 6 .nil)) [] E λw E=>?_;refine nH rfl (xh (t:=324) (k:=(k:(Vector UInt8 32))) (hm:=(sp (k:(Vector UInt8 32)) (oC (k:(Vector UInt8 32)) (x,y) aV))) rfl E .a2 rfl rfl rfl (tH .a2 λw E=>?_));refine t7 2 E λw E=>?_;exact⟨_,_,rfl,(tN [0,1,2,3] E)⟩
         .
           exact⟨_,_,rfl,(tN [0,1,2,3] E)⟩
       .
         refine nC 7 7 (eX [0,1,2,3,4,5,6] (.one 7 .nil)) [] E λw E=>?_;refine nH rfl (gF (k:=(k:(Vector UInt8 32))) (v:=(x,y)) (hm:=(oC (k:(Vector UInt8 32)) (x,y) aV)) E .a2 rfl rfl rfl rfl (tH .a2 λw E=>?_));refine t7 5 E λw E=>?_;refine et (jr (fA:=#[.int .u64 0,.int .u64 0]) (by intro p m;cases m) ?_);refine et (zz (k:=.u64) (a:=x) (b:=y) (c:=0) (d:=0) rfl rfl ?_);refine ey 2 E<|om 0 2 (λq w E=>?_) (λq w E=>?_)
         .
           refine nC 6 6 (eX [0,1,2,3,4,5] (.one 6 .nil)) [] E λw E=>?_;refine nH rfl (xh (t:=324) (k:=(k:(Vector UInt8 32))) (hm:=(sp (k:(Vector UInt8 32)) (oC (k:(Vector UInt8 32)) (x,y) aV))) rfl E .a2 rfl rfl rfl (tH .a2 λw E=>?_));refine t7 2 E λw E=>?_;exact⟨_,_,rfl,(tN [0,1,2,3] E)⟩
         .
           exact⟨_,_,rfl,(tN [0,1,2,3] E)⟩
theorem CW:tS 341 #[.agg (O.enc (⟨k,ti,false⟩:o6))] w0 (i6 0):=by
 refine eN 23 (eY _) func341 ntmps341 results341 rfl λni w E=>?_;exact⟨rfl,E.ee⟩
theorem erV(eC:U ea (B p #[i6 n,tA tj,tA tZ] 326::tM tj lN aU::tM tZ l2 aV::S) w0):eJ 325 #[N p,.agg (O.enc (⟨k,ti,false⟩:o6)),i6 tB,.int .i64 r4] w0 (λu w'=>∃(eE:r0)(tt:rY),u= .tuple #[]/\U ea (B p #[i6 n,tA tj,tA tZ] 326::tM tj lN eE::tM tZ l2 tt::S) w'):=by
 refine eN 5 eC func325 ntmps325 results325 rfl λl w E=>?_;refine lB (λf w=>∃e:Nat,oV [(0,N p),(2,i6 tB),(3,.int .i64 r4),(5,N l),(8,N e),(9,i6 0)] f/\U ea (B e (O.enc (⟨k,(tB:Int)⟩:oj)) 577::B l (O.enc (⟨k,ti,false⟩:o6)) 66::B p #[i6 n,tA tj,tA tZ] 326::tM tj lN aU::tM tZ l2 aV::S) w) ?_ ?_
 .
   refine nC 3 7 (eX [0,1,2,3,4] (.iZ 5 6 (oA [6,7,8] .nil) (oA [5,7,8] .nil))) [] E λw E=>?_;refine tl rfl (λw E=>sV (r:=(⟨k,(tB:Int)⟩:oj)) (ps:=oj.parts (⟨k,(tB:Int)⟩:oj)) (qx _) (by first|rfl|(simp only[qx,oj.parts,sg,iW];rfl)) (by exact hT ⟨by decide,O.ez k,by decide,rfl,trivial⟩) eG) (t7 1 E λw E=>?_);refine e2.iZ rfl rfl rfl rfl ?_ ?_
   .refine J.call (CW) rfl ?_;rintro _ w ⟨rfl,s⟩;replace E:=E.es s;refine⟨E,?_⟩;refine t7 1 E λe w E=>?_;exact nH rfl (iJ (r:=(⟨k,(tB:Int)⟩:oj)) E rfl rfl .em rfl (tH .em λw E=>(t7 3 E λw E=>(⟨_,⟨rfl,rfl,rfl,rfl,rfl,rfl,trivial⟩,E⟩))))
   refine sI (c:=#[.int .u8 0,.int .u8 0,.int .u8 0,.int .u8 0,.int .u8 0,.int .u8 0,.int .u8 0,.int .u8 0,.int .u8 0,.int .u8 0,.int .u8 0,.int .u8 0,.int .u8 0,.int .u8 0,.int .u8 0,.int .u8 0,.int .u8 0,.int .u8 0,.int .u8 0,.int .u8 0,.int .u8 0,.int .u8 0,.int .u8 0,.int .u8 0,.int .u8 0,.int .u8 0,.int .u8 0,.int .u8 0,.int .u8 0,.int .u8 0,.int .u8 0,.int .u8 0,i6 0]) E ?_;intro e w _ E;refine⟨tN [0] E,?_⟩;refine o0 4 E (CW) λw E=>?_;exact⟨_,⟨rfl,rfl,rfl,rfl,rfl,rfl,trivial⟩,E⟩
 .
   rintro f w ⟨e,h,E⟩;refine il _ h (λg=>?_);clear h;refine lB (λf w=>∃(i j:Nat)(x y a b:Int),oV [(0,N p),(2,i6 tB),(3,.int .i64 r4),(5,N l),(8,N e),(9,i6 0),(10,N i),(11,N j)] f/\U ea (B j #[.int .u64 x,.int .u64 y] 227::B i #[.int .i64 a,.int .i64 b] 574::B e (O.enc (⟨k,(tB:Int)⟩:oj)) 577::B l (O.enc (⟨k,ti,false⟩:o6)) 66::B p #[i6 n,tA tj,tA tZ] 326::tM tj lN aU::tM tZ l2 aV::S) w) ?_ ?_
   .
     refine nC 5 17 (eX [0,1,2,3,4,5,6,7,8,9,10,11,12] (.iZ 13 14 (oA [14,15,16] .nil) (oA [13,15,16] .nil))) [] E λw E=>?_;refine tl rfl (λw E=>p4 (k:=((⟨k,(tB:Int)⟩:oj):oj)) (z0:=(0,0)) (o:=tL ((⟨k,(tB:Int)⟩:oj):oj) aU) (show oB _ _ (.agg #[i6 0,i6 0])from inferInstance) (E.map .ej) rfl rfl rfl eG) (t7 6 E λw E=>(tl rfl (λw E=>p4 (k:=(k:(Vector UInt8 32))) (z0:=(0,0)) (o:=tL (k:(Vector UInt8 32)) aV) (show oB _ _ (.agg #[.int .u64 0,.int .u64 0])from inferInstance) (E.map .e8) rfl rfl rfl eG) ?_));refine e2.iZ rfl rfl rfl rfl ?_ ?_
     .refine sI (c:=#[i6 0,i6 0]) E ?_;intro i w _ E;refine⟨tN [0] E,?_⟩;refine t7 1 E λj w E=>?_;refine n8 rfl rfl (iU (v:=.agg #[.int .i64 ((tL ((⟨k,(tB:Int)⟩:oj):oj) aU).getD (0,0)).1,.int .i64 ((tL ((⟨k,(tB:Int)⟩:oj):oj) aU).getD (0,0)).2]) (iA:=#[.int .i64 ((tL ((⟨k,(tB:Int)⟩:oj):oj) aU).getD (0,0)).1,.int .i64 ((tL ((⟨k,(tB:Int)⟩:oj):oj) aU).getD (0,0)).2]) E rfl rfl .G rfl (Nat.le_of_ble_eq_true rfl) (h2 rfl) rfl (tH .G λw E=>?_));refine⟨tN [0,1] E,?_⟩;refine n8 rfl rfl (iU (v:=.agg #[.int .u64 ((tL (k:(Vector UInt8 32)) aV).getD (0,0)).1,.int .u64 ((tL (k:(Vector UInt8 32)) aV).getD (0,0)).2]) (iA:=#[.int .u64 ((tL (k:(Vector UInt8 32)) aV).getD (0,0)).1,.int .u64 ((tL (k:(Vector UInt8 32)) aV).getD (0,0)).2]) E rfl rfl .em rfl (Nat.le_of_ble_eq_true rfl) (h2 rfl) rfl (tH .em λw E=>?_));refine⟨tN [0,1] E,?_⟩;refine t7 2 E λw E=>?_;exact⟨_,_,_,_,_,_,⟨rfl,rfl,rfl,rfl,rfl,rfl,rfl,rfl,trivial⟩,E⟩
     refine sI (c:=#[.int .u64 0,.int .u64 0]) E ?_;intro j w _ E;refine⟨tN [0] E,?_⟩;refine t7 1 E λi w E=>?_;refine n8 rfl rfl (iU (v:=.agg #[.int .i64 ((tL ((⟨k,(tB:Int)⟩:oj):oj) aU).getD (0,0)).1,.int .i64 ((tL ((⟨k,(tB:Int)⟩:oj):oj) aU).getD (0,0)).2]) (iA:=#[.int .i64 ((tL ((⟨k,(tB:Int)⟩:oj):oj) aU).getD (0,0)).1,.int .i64 ((tL ((⟨k,(tB:Int)⟩:oj):oj) aU).getD (0,0)).2]) E rfl rfl .em rfl (Nat.le_of_ble_eq_true rfl) (h2 rfl) rfl (tH .em λw E=>?_));refine⟨tN [0,1] E,?_⟩;refine n8 rfl rfl (iU (v:=.agg #[.int .u64 ((tL (k:(Vector UInt8 32)) aV).getD (0,0)).1,.int .u64 ((tL (k:(Vector UInt8 32)) aV).getD (0,0)).2]) (iA:=#[.int .u64 ((tL (k:(Vector UInt8 32)) aV).getD (0,0)).1,.int .u64 ((tL (k:(Vector UInt8 32)) aV).getD (0,0)).2]) E rfl rfl .G rfl (Nat.le_of_ble_eq_true rfl) (h2 rfl) rfl (tH .G λw E=>?_));refine⟨tN [0,1] E,?_⟩;refine t7 2 E λw E=>?_;exact⟨_,_,_,_,_,_,⟨rfl,rfl,rfl,rfl,rfl,rfl,rfl,rfl,trivial⟩,E.pick .G⟩
   .
     rintro f w ⟨i,j,x,y,a,b,h,E⟩;refine il _ h (λg=>?_);clear h;refine eA 6 E λw E=>?_;refine et (J.add rfl rfl rfl (ey 5 E ?_));refine aC 4 7 (eX [0,1,2,3,4,5,6] (.one 7 .nil)) [] λw E=>?_;refine tl rfl (λw E=>J.shl rfl rfl (by omega) rfl eG) (tl rfl (λw E=>J.andNot rfl rfl rfl eG) (t7 4 E λw E=>?_));refine lB (λf w=>∃x y a b:Int,oV [(0,N p),(5,N l),(8,N e),(10,N i),(11,N j)] f/\U ea (B j #[.int .u64 x,.int .u64 y] 227::B i #[.int .i64 a,.int .i64 b] 574::B e (O.enc (⟨k,(tB:Int)⟩:oj)) 577::B l (O.enc (⟨k,ti,false⟩:o6)) 66::B p #[i6 n,tA tj,tA tZ] 326::tM tj lN aU::tM tZ l2 aV::S) w) ?_ ?_
     .
       refine eA 8 E<|om 0 2 (λz w E=>?_) (λz w E=>?_)
       .
         refine nC 4 7 (eX [0,1,2,3,4,5,6] (.one 7 .nil)) [] E λw E=>?_;exact tl rfl (λw E=>J.shl rfl rfl (by omega) rfl eG) (tl rfl (λw E=>J.or rfl rfl rfl eG) (t7 4 E λw E=>(⟨_,_,_,_,⟨rfl,rfl,rfl,rfl,rfl,trivial⟩,E⟩)))
       .
         exact⟨_,_,_,_,⟨rfl,rfl,rfl,rfl,rfl,trivial⟩,E⟩
     .
       rintro f w ⟨x,y,a,b,h,E⟩;refine il _ h (λg=>?_);clear h;refine eA 2 E ?_;refine aC 6 6 (eX [0,1,2,3,4,5] (.one 6 .nil)) [] λw E=>?_;refine nH rfl (gF (k:=((⟨k,(tB:Int)⟩:oj):oj)) (v:=(a,b)) (hm:=(oC ((⟨k,(tB:Int)⟩:oj):oj) (a,b) aU)) E .au rfl rfl rfl rfl (tH .au λw E=>(t7 5 E λw E=>?_)));refine et (jr (fA:=#[i6 0,i6 0]) (by intro p m;cases m) ?_);refine et (zz (k:=.i64) (a:=a) (b:=b) (c:=0) (d:=0) rfl rfl ?_);refine ey 2 E<|om 0 3 (λA w E=>?_) (λA w E=>?_)
       .
         refine nC 5 5 (eX [0,1,2,3,4] (.one 5 .nil)) [] E λw E=>?_;refine nH rfl (xh (t:=323) (k:=((⟨k,(tB:Int)⟩:oj):oj)) (hm:=(sp ((⟨k,(tB:Int)⟩:oj):oj) (oC ((⟨k,(tB:Int)⟩:oj):oj) (a,b) aU))) rfl E .au rfl rfl rfl (tH .au λw E=>(t7 3 E ?_)));refine aC 7 7 (eX [0,1,2,3,4,5,6] (.one 7 .nil)) [] λw E=>?_;refine nH rfl (gF (k:=(k:(Vector UInt8 32))) (v:=(x,y)) (hm:=(oC (k:(Vector UInt8 32)) (x,y) aV)) E .a2 rfl rfl rfl rfl (tH .a2 λw E=>?_));refine t7 5 E λw E=>?_;refine et (jr (fA:=#[.int .u64 0,.int .u64 0]) (by intro p m;cases m) ?_);refine et (zz (k:=.u64) (a:=x) (b:=y) (c:=0) (d:=0) rfl rfl ?_);refine ey 2 E<|om 0 2 (λq w E=>?_) (λq w E=>?_)
         .
           refine nC 6 6 (eX [0,1,2,3,4,5] (.one 6 .nil)) [] E λw E=>?_;refine nH rfl (xh (t:=324) (k:=(k:(Vector UInt8 32))) (hm:=(sp (k:(Vector UInt8 32)) (oC (k:(Vector UInt8 32)) (x,y) aV))) rfl E .a2 rfl rfl rfl (tH .a2 λw E=>?_));refine t7 2 E λw E=>?_;exact⟨_,_,rfl,(tN [0,1,2,3] E)⟩
         .
           exact⟨_,_,rfl,(tN [0,1,2,3] E)⟩
       .
         refine nC 7 7 (eX [0,1,2,3,4,5,6] (.one 7 .nil)) [] E λw E=>?_;refine nH rfl (gF (k:=(k:(Vector UInt8 32))) (v:=(x,y)) (hm:=(oC (k:(Vector UInt8 32)) (x,y) aV)) E .a2 rfl rfl rfl rfl (tH .a2 λw E=>?_));refine t7 5 E λw E=>?_;refine et (jr (fA:=#[.int .u64 0,.int .u64 0]) (by intro p m;cases m) ?_);refine et (zz (k:=.u64) (a:=x) (b:=y) (c:=0) (d:=0) rfl rfl ?_);refine ey 2 E<|om 0 2 (λq w E=>?_) (λq w E=>?_)
         .
           refine nC 6 6 (eX [0,1,2,3,4,5] (.one 6 .nil)) [] E λw E=>?_;refine nH rfl (xh (t:=324) (k:=(k:(Vector UInt8 32))) (hm:=(sp (k:(Vector UInt8 32)) (oC (k:(Vector UInt8 32)) (x,y) aV))) rfl E .a2 rfl rfl rfl (tH .a2 λw E=>?_));refine t7 2 E λw E=>?_;exact⟨_,_,rfl,(tN [0,1,2,3] E)⟩
         .
           exact⟨_,_,rfl,(tN [0,1,2,3] E)⟩
variable{aU:List (oj×(Int×Int))}{aV:List (Vector UInt8 32×(Int×Int))}{a:Int}{sA:List Instr}{r:aZ}{dL:List o6}{v:ec}{xs:List UInt8}{y:nT}
theorem Y4{r:o6}(eC:U ea (B p #[i6 n,tA tj,tA tZ] 326::tM tj lN aU::tM tZ l2 aV::S) w0):eJ 325 #[N p,.agg (O.enc r),i6 tB,.int .i64 r4] w0 (λu w'=>∃(aU:List (oj×(Int×Int)))(aV:List (Vector UInt8 32×(Int×Int))),u= .tuple #[]/\U ea (B p #[i6 n,tA tj,tA tZ] 326::tM tj lN aU::tM tZ l2 aV::S) w'):=by
 obtain⟨k,ti,kl⟩:=r;cases kl
 .exact erV eC
 exact erB eC
def uI(n:Nat):Nat:=2^n-1
theorem erK(h:n<=64):Int.fdiv 18446744073709551615 (2^(min (Int.toNat (64-(n:Int))) IntKind.u64.bits))=((uI n:Nat):Int):=by
 have key:∀m:Fin 65,Int.fdiv 18446744073709551615 (2^(min (Int.toNat (64-((m.val:Nat):Int))) IntKind.u64.bits))=((uI m.val:Nat):Int):=by decide+kernel
 exact key ⟨n,by omega⟩
theorem erX(h:n<=64):uI n<18446744073709551616:=by
 have key:∀m:Fin 65,uI m.val<18446744073709551616:=by decide+kernel
 exact key ⟨n,by omega⟩
theorem erJ:tS 364 #[.int .u64 0] w0 (i6 0):=by
 refine eN 8 (eY _) func364 ntmps364 results364 rfl λw E=>?_;refine af 0 E (lQ (by decide) (show Int.fdiv 0 (2^(min (Int.toNat 1) IntKind.u64.bits))=0 from by decide)) λw E=>?_;refine af 1 E (p7 (show hL .and .u64 0 6148914691236517205=0 from by decide)) λw E=>?_;refine af 7 E (p7 (show hL .and .u64 0 6148914691236517205=0 from by decide)) λw E=>?_;refine af 0 E (lQ (by decide) (show Int.fdiv 0 (2^(min (Int.toNat 2) IntKind.u64.bits))=0 from by decide)) λw E=>?_;refine af 1 E (p7 (show hL .and .u64 0 3689348814741910323=0 from by decide)) λw E=>?_;refine af 7 E (p7 (show hL .and .u64 0 3689348814741910323=0 from by decide)) λw E=>?_;refine af 2 E (lQ (by decide) (show Int.fdiv 0 (2^(min (Int.toNat 4) IntKind.u64.bits))=0 from by decide)) λw E=>?_;refine af 7 E (p7 (show hL .and .u64 0 1085102592571150095=0 from by decide)) λw E=>?_;refine af 8 E (lQ (by decide) (show Int.fdiv 0 (2^(min (Int.toNat 8) IntKind.u64.bits))=0 from by decide)) λw E=>?_;refine af 8 E (lQ (by decide) (show Int.fdiv 0 (2^(min (Int.toNat 16) IntKind.u64.bits))=0 from by decide)) λw E=>?_;refine af 8 E (lQ (by decide) (show Int.fdiv 0 (2^(min (Int.toNat 32) IntKind.u64.bits))=0 from by decide)) λw E=>?_;refine af 5 E (p7 (show hL .and .i64 0 127=0 from by decide)) λw E=>?_;exact⟨rfl,E.ee⟩
theorem Y5:tS 320 #[.int .u64 a,.int .u64 0] w0 (.int .u64 a):=by
 refine eN 9 (eY _) func320 ntmps320 results320 rfl λw E=>?_;refine ev 5 E (erJ) ?_;refine eU true 14 λw E=>?_;exact⟨rfl,E.ee⟩
theorem erQ:(eK [(Array.replicate 32 (.int .u8 0)),#[.bool false],#[.bool false]])=O.enc (⟨(aO 32),false,false⟩:o6):=by
 simp only[LP,o6.parts,iW]
instance:wS (eK [(Array.replicate 32 (.int .u8 0)),#[.bool false],#[.bool false]]) (O.enc (⟨(aO 32),false,false⟩:o6)):=⟨erQ⟩
theorem Y6(c:an w0 (N p) #[i6 n,tA tj,tA tZ])(e5:hV w0 tZ l2 ([]:List (Vector UInt8 32×(Int×Int))))(eB:ex w0 v.v dL)(d:n<=64):tS 274 #[N p,v.v] w0 (.int .u64 (uI n:Int)):=by
 have a:=eB.le;refine eN 0 (eY _) func274 ntmps274 results274 rfl λw E=>?_;simp only[maxLen]at a;have:=ir c;refine eA 29 E ⟨ib,λw E=>?_⟩;have:=aL eB;refine af 12 E (lQ (by omega) (erK d)) λw E=>?_;refine ek.loop (λq f w=>∃k:Nat,oV [(0,N p),(5,.int .u64 (uI n:Int)),(25,v.v),(26,i6 dL.length),(27,i6 k)] f/\U w0 [] w/\k<=dL.length/\q=dL.length-k) (dL.length) ?_ ?_
 .
   exact⟨0,⟨rfl,rfl,rfl,rfl,sJ,trivial⟩,E,Nat.zero_le _,rfl⟩
 .
   rintro q f w ⟨k,b,E,i,j⟩;refine il _ b (λg=>?_);clear b;refine eA 6 E<|om 0 13 (λe w E=>?_) (λe w E=>?_)
   .
     have l:k<dL.length:=by omega
     have a:=eB.le;simp only[maxLen]at a;refine eA 7 E ⟨⟨aj⟩,λ_=>rO 6 λm=>?_⟩;refine aC 6 8 (eX [0,1,2,3,4,5,6] (oA [7,8] .nil)) [] λw E=>?_;refine tl rfl (λw E=>p4 (k:=(dL[k].key:(Vector UInt8 32))) (z0:=(0,0)) (o:=none) inferInstance (e5.es E.ee) rfl rfl (by simp[tL]) eG) ?_;refine t7 1 E λr w E=>?_;refine nH rfl (iU (v:=.agg #[.int .u64 0,.int .u64 0]) (iA:=#[.int .u64 0,.int .u64 0]) E rfl rfl .em rfl (Nat.le_of_ble_eq_true rfl) (h2 rfl) rfl (tH .em λw E=>?_));refine t7 16 E<|om 4 5 (λh w E=>?_) (λh w E=>?_)
     .
       refine af 6 E (NH (show hL .or .u64 0 0=0 from by decide)) λw E=>?_;refine ev 9 E (Y5) ⟨ib,λw E=>?_⟩;exact⟨dL.length-(k+1),by omega,k+1,⟨rfl,rfl,rfl,rfl,sJ,trivial⟩,E.sub (List.nil_sublist _),by omega,rfl⟩
     .
       refine ev 9 E (Y5) ⟨ib,λw E=>?_⟩;exact⟨dL.length-(k+1),by omega,k+1,⟨rfl,rfl,rfl,rfl,sJ,trivial⟩,E.sub (List.nil_sublist _),by omega,rfl⟩
   .
     exact⟨rfl,E.ee⟩
theorem Y7(a:an w0 (N p) #[i6 n,tA tj,tA tZ])(b:tB<n):tS 324 #[N p,i6 tB] w0 (i6 0):=by
 have:=ir a;refine eN 25 (eY _) func324 ntmps324 results324 rfl ?_;refine eU false 6 ?_;refine eU false 15 λw E=>?_;exact⟨rfl,E.ee⟩
theorem erZ(G:1<=n)(Y:n<=64):eJ 76 #[i6 n] w0 (λu w'=>∃(eE:Nat)(tt:Nat)(tC:Nat),u= .tuple #[N tC,i6 0]/\U w0 [B tC #[i6 n,tA eE,tA tt] 326,tM tt l2 ([]:List ((Vector UInt8 32)×(Int×Int))),tM eE lN ([]:List (oj×(Int×Int)))] w'):=by
 refine eN 10 (eY _) func76 ntmps76 results76 rfl ?_;refine eU false 2 ?_;refine eU false 9 λw E=>?_;refine et (J.makeMap oj lN E ?_);intro a w _ E;refine et (J.makeMap (Vector UInt8 32) l2 E ?_);intro b w _ E;exact et (jN (c:=#[i6 n,tA a,tA b]) (by exact hT ⟨by decide,rfl,by decide,rfl,by decide,rfl,trivial⟩) rfl (ey 7 E λd w E=>(⟨a,b,d,rfl,E⟩)))
def xV(b:Bool):Value:=.bool b
theorem er0(d:n<=64)(e:tB<n)(eC:U ea (B p #[i6 n,tA tj,tA tZ] 326::tM tj lN ([]:List (oj×(Int×Int)))::tM tZ l2 ([]:List (Vector UInt8 32×(Int×Int)))::ax r sA xs y::S) w0):eJ 277 #[N p,r.rI.v,i6 tB] w0 (λu w'=>∃(eE:Int)(tt:r0)(tC:rY),u= .int .i64 eE/\U ea (B p #[i6 n,tA tj,tA tZ] 326::tM tj lN tt::tM tZ l2 tC::ax r sA xs y::S) w'):=by
 refine eN 0 eC func277 ntmps277 results277 rfl λw E=>?_;have o:(ai y).length<=64:=by have h:=fZ E .ej;omega
 refine eA 10 E λw E=>?_;refine ev 6 E (Y7 (E.tb .em) e) ?_;refine eU false 10 λw E=>?_;refine ev 1 E (Y6 (E.tb .em) (E.map .Y) (xU E .ej).2.2.1 d) λw E=>?_;refine et (J.shr rfl rfl (by omega) rfl (et (J.and rfl rfl rfl (ey 3 E<|om 8 11 (λi w E=>?_) (λi w E=>?_)))))
 .
   exact⟨_,_,_,rfl,E⟩
 .
   refine ek.loop (λq f w=>∃(k:Nat)(a:r0)(b:rY),oV [(0,N p),(2,i6 tB),(23,r.rI.v),(24,.int .i64 ((ai y).length:Int)),(25,i6 k)] f/\U ea (B p #[i6 n,tA tj,tA tZ] 326::tM tj lN a::tM tZ l2 b::ax r sA xs y::S) w/\k<=(ai y).length/\q=(ai y).length-k) ((ai y).length) ?_ ?_
   .
     exact⟨0,_,_,⟨rfl,rfl,rfl,rfl,sJ,trivial⟩,E,Nat.zero_le _,rfl⟩
   .
     rintro q f w ⟨k,a,b,c,E,s,t⟩;refine il _ c (λg=>?_);clear c;refine eA 6 E<|om 0 12 (λj w E=>?_) (λj w E=>?_)
     .
       have x:k<(ai y).length:=by omega
       refine eA 7 E ⟨⟨aj⟩,λ_=>rO 9 λlm w E=>?_⟩;refine ev 8 E (Y4 (Pi [3,3,3] E)) λl m=>⟨ib,λw E=>?_⟩;exact⟨(ai y).length-(k+1),by omega,k+1,_,_,⟨rfl,rfl,rfl,rfl,sJ,trivial⟩,E.sub aS,by omega,rfl⟩
     .
       exact⟨_,_,_,rfl,E⟩
theorem er1:eJ 130 #[] w0 (λu w'=>∃(eE:Nat)(tt:Nat),u=N tt/\U w0 [B tt #[tA eE] 397,tM eE xV ([]:List ((Vector UInt8 32)×Bool))] w'):=by
 refine eN 7 (eY _) func130 ntmps130 results130 rfl λw E=>?_;refine et (J.makeMap (Vector UInt8 32) xV E ?_);intro tj w _ E;exact et (jN (c:=#[tA tj]) (by exact hT ⟨by decide,rfl,trivial⟩) rfl (ey 6 E λt6 w E=>(⟨tj,t6,rfl,E⟩)))
theorem er2{r:Nat}(b:an w0 (N p) #[tA r])(e5:hV w0 r xV ([]:List ((Vector UInt8 32)×Bool)))(eB:ex w0 v.v dL):tS 273 #[N p,v.v] w0 (.bool false):=by
 have:=aL eB;refine eN 24 (eY _) func273 ntmps273 results273 rfl λw E=>?_;refine ek.loop (λq f w=>∃k:Nat,oV [(0,N p),(11,v.v),(12,i6 dL.length),(13,i6 k)] f/\U w0 [] w/\k<=dL.length/\q=dL.length-k) (dL.length) ?_ ?_
 .
   exact⟨0,⟨rfl,rfl,rfl,sJ,trivial⟩,E,Nat.zero_le _,rfl⟩
 .
   rintro q f w ⟨k,a,E,e,h⟩;refine il _ a (λg=>?_);clear a;refine eA 6 E<|om 0 12 (λc w E=>?_) (λc w E=>?_)
   .
     have i:k<dL.length:=by omega
     have d:=eB.le;simp only[maxLen]at d;refine eA 7 E ⟨⟨aj⟩,λ_=>rO 6 λj=>?_⟩;have:=ir b;refine aC 6 12 (eX [0,1,2,3,4,5,6,7,8,9,10,11] .nil) [] λw E=>?_;refine tl rfl (λw E=>zx (k:=(dL[k].key:(Vector UInt8 32))) (z0:=false) (o:=none) inferInstance (e5.es E.ee) rfl rfl (by simp[tL]) eG) (tl rfl (λw E=>oI (v:=.tuple #[.bool false,.bool false]) rfl eG) (tl rfl (λw E=>J.extract rfl rfl eG) (tl rfl (λw E=>J.extract rfl rfl eG) (tl rfl (λw E=>gN rfl eG) (tl rfl (λw E=>gN rfl eG) (t7 4 E λw E=>?_))))));refine et (u0 rfl ?_);refine et (u0 rfl ?_);refine ey 2 E λw E=>?_;refine MB 30 rfl rfl rfl rfl ?_;refine ey 14 E ⟨ib,λw E=>?_⟩;exact⟨dL.length-(k+1),by omega,k+1,⟨rfl,rfl,rfl,sJ,trivial⟩,E.sub (List.nil_sublist _),by omega,rfl⟩
   .
     exact⟨rfl,E.ee⟩
variable{aU:r0}{aV:rY}{r:o6}
theorem er3(h:r.iY=true):tS 341 #[.agg (O.enc r)] w0 (i6 1):=by
 obtain⟨k,ti,kl⟩:=r;obtain rfl:kl=true:=h;exact CG
theorem er4(h:r.iY=false):tS 341 #[.agg (O.enc r)] w0 (i6 0):=by
 obtain⟨k,ti,kl⟩:=r;obtain rfl:kl=false:=h;exact CW
theorem Rc:(Array.replicate 32 (Value.int .u8 0))=O.enc (aO 32):=(iW 31).symm
theorem er5{r:aZ}(K:tB<n)(eC:U ea (B p #[i6 n,tA tj,tA tZ] 326::tM tj lN aU::tM tZ l2 aV::ax r sA xs y::S) w0):eJ 293 #[N p,r.rI.v,i6 tB] w0 (λu w'=>∃(eE:Int)(tt:r0)(tC:rY),u= .int .i64 eE/\U ea (B p #[i6 n,tA tj,tA tZ] 326::tM tj lN tt::tM tZ l2 tC::ax r sA xs y::S) w'):=by
 refine eN 0 eC func293 ntmps293 results293 rfl λw E=>?_;have nq:(ai y).length<=64:=by have h:=fZ E .ej;omega
 refine eA 10 E λw E=>?_;refine ev 6 E (Y7 (E.tb .em) K) ?_;refine eU false 7 λw E=>?_;refine et (J.makeMap (Vector UInt8 32) lN E ?_);intro e w _ E;refine ey 12 E λw E=>?_;refine ek.loop (λq f w=>∃(k:Nat)(H3:rY),oV [(0,N p),(1,r.rI.v),(2,i6 tB),(8,tA e),(24,r.rI.v),(25,.int .i64 ((ai y).length:Int)),(26,i6 k)] f/\U ea (tM e lN H3::B p #[i6 n,tA tj,tA tZ] 326::tM tj lN aU::tM tZ l2 aV::ax r sA xs y::S) w/\k<=(ai y).length/\q=(ai y).length-k) ((ai y).length) ?_ ?_
 .
   exact⟨0,_,⟨rfl,rfl,rfl,rfl,rfl,rfl,sJ,trivial⟩,E.sub aS,Nat.zero_le _,rfl⟩
 .
   rintro q f w ⟨k,H3,d,E,L,A⟩;refine il _ d (λg=>?_);clear d;refine eA 6 E<|om 0 9 (λM w E=>?_) (λM w E=>?_)
   .
     have P:k<(ai y).length:=by omega
     rcases C:(ai y)[k].iY with _|_
     .
       refine eA 7 E ⟨⟨aj⟩,λ_=>rO 10 λrQ w E=>?_⟩;refine et (p4 (k:=(((ai y)[k]).key:(Vector UInt8 32))) (z0:=(0,0)) (o:=tL (((ai y)[k]).key:(Vector UInt8 32)) H3) (show oB _ _ (.agg #[i6 0,i6 0])from inferInstance) (E.map .G) rfl rfl rfl ?_);refine ey 1 E λn0 w E=>?_;refine oE (iU (v:=.agg #[.int .i64 ((tL (((ai y)[k]).key:(Vector UInt8 32)) H3).getD (0,0)).1,.int .i64 ((tL (((ai y)[k]).key:(Vector UInt8 32)) H3).getD (0,0)).2]) (iA:=#[.int .i64 ((tL (((ai y)[k]).key:(Vector UInt8 32)) H3).getD (0,0)).1,.int .i64 ((tL (((ai y)[k]).key:(Vector UInt8 32)) H3).getD (0,0)).2]) E rfl rfl .em rfl (Nat.le_of_ble_eq_true rfl) (h2 rfl) rfl (tH .em λw E=>?_));refine ey 5 E λw E=>?_;refine ev 2 E (er4 C) λw E=>?_;refine et (J.add rfl rfl rfl ?_);refine ey 9 E λw E=>?_;refine oE (gF (k:=(((ai y)[k]).key:(Vector UInt8 32))) (v:=((IntKind.i64.wrap (((tL (((ai y)[k]).key:(Vector UInt8 32)) H3).getD (0,0)).1+1)),((tL (((ai y)[k]).key:(Vector UInt8 32)) H3).getD (0,0)).2)) (hm:=(oC (((ai y)[k]).key:(Vector UInt8 32)) ((IntKind.i64.wrap (((tL (((ai y)[k]).key:(Vector UInt8 32)) H3).getD (0,0)).1+1)),((tL (((ai y)[k]).key:(Vector UInt8 32)) H3).getD (0,0)).2) H3)) E .Y rfl rfl rfl rfl (tH .Y λw E=>?_));refine ey 8 E ⟨ib,λw E=>?_⟩;exact⟨(ai y).length-(k+1),by omega,k+1,_,⟨rfl,rfl,rfl,rfl,rfl,rfl,sJ,trivial⟩,E.sub aS,by omega,rfl⟩
     .
       refine eA 7 E ⟨⟨aj⟩,λ_=>rO 10 λQ w E=>?_⟩;refine et (p4 (k:=(((ai y)[k]).key:(Vector UInt8 32))) (z0:=(0,0)) (o:=tL (((ai y)[k]).key:(Vector UInt8 32)) H3) (show oB _ _ (.agg #[i6 0,i6 0])from inferInstance) (E.map .G) rfl rfl rfl ?_);refine ey 1 E λR w E=>?_;refine oE (iU (v:=.agg #[.int .i64 ((tL (((ai y)[k]).key:(Vector UInt8 32)) H3).getD (0,0)).1,.int .i64 ((tL (((ai y)[k]).key:(Vector UInt8 32)) H3).getD (0,0)).2]) (iA:=#[.int .i64 ((tL (((ai y)[k]).key:(Vector UInt8 32)) H3).getD (0,0)).1,.int .i64 ((tL (((ai y)[k]).key:(Vector UInt8 32)) H3).getD (0,0)).2]) E rfl rfl .em rfl (Nat.le_of_ble_eq_true rfl) (h2 rfl) rfl (tH .em λw E=>?_));refine ey 5 E λw E=>?_;refine ev 2 E (er3 C) λw E=>?_;refine et (J.add rfl rfl rfl ?_);refine ey 9 E λw E=>?_;refine oE (gF (k:=(((ai y)[k]).key:(Vector UInt8 32))) (v:=(((tL (((ai y)[k]).key:(Vector UInt8 32)) H3).getD (0,0)).1,(IntKind.i64.wrap (((tL (((ai y)[k]).key:(Vector UInt8 32)) H3).getD (0,0)).2+1)))) (hm:=(oC (((ai y)[k]).key:(Vector UInt8 32)) (((tL (((ai y)[k]).key:(Vector UInt8 32)) H3).getD (0,0)).1,(IntKind.i64.wrap (((tL (((ai y)[k]).key:(Vector UInt8 32)) H3).getD (0,0)).2+1))) H3)) E .Y rfl rfl rfl rfl (tH .Y λw E=>?_));refine ey 8 E ⟨ib,λw E=>?_⟩;exact⟨(ai y).length-(k+1),by omega,k+1,_,⟨rfl,rfl,rfl,rfl,rfl,rfl,sJ,trivial⟩,E.sub aS,by omega,rfl⟩
   .
     refine et (J.range (tn:=(Vector UInt8 32)) E .em rfl ?_);intro D w E;replace E:=E _ .em;refine ey 3 E λw E=>?_;refine ek.loop (λq f w=>∃(is:List Nat),oV [(0,N p),(1,r.rI.v),(2,i6 tB),(46,N D)] f/\U ea (ld D e lN H3 is::B p #[i6 n,tA tj,tA tZ] 326::tM tj lN aU::tM tZ l2 aV::ax r sA xs y::S) w/\q=H3.length-is.length) (H3.length) ?_ ?_
     .
       exact⟨[],⟨rfl,rfl,rfl,rfl,trivial⟩,E,rfl⟩
     .
       rintro q f w ⟨is,d,E,A⟩;refine il _ d (λg=>?_);clear d;refine eA 2 E λw E=>?_;refine et (jb E .em rfl ?_);intro WJ T V w i j l E;replace E:=E _ .em;refine et (J.extract rfl i ?_);refine ey 3 E<|na 0 0 (λm W w E=>?_) (λm W w E=>?_)
       .
         obtain⟨i47,s,X,Z,rfl⟩:=l m;refine eA 5 E λw E=>?_;refine et (jv (E.wx .em) s rfl (ey 4 E λli n9 w E=>(oE (iJ (r:=(H3[i47]).1) E rfl rfl .G (O.ez _) (tH .G λw E=>(oE (iU (v:=.agg #[i6 (H3[i47]).2.1,i6 (H3[i47]).2.2]) (iA:=#[i6 (H3[i47]).2.1,i6 (H3[i47]).2.2]) E rfl rfl .em rfl (Nat.le_of_ble_eq_true rfl) (h2 rfl) rfl (tH .em λw E=>(ey 3 E ?_)))))))));refine aC 6 9 (eX [0,1,2,3,4,5,6,7] (oA [8,9] .nil)) [] λw E=>?_;refine tl rfl (λw E=>sV (r:=(⟨((H3[i47]).1),(tB:Int)⟩:oj)) (ps:=oj.parts (⟨((H3[i47]).1),(tB:Int)⟩:oj)) (qx _) (by first|rfl|(simp only[qx,oj.parts,sg,iW];rfl)) (by exact hT ⟨by decide,O.ez ((H3[i47]).1),by decide,rfl,trivial⟩) eG) ?_;refine tl rfl (λw E=>p4 (k:=((⟨((H3[i47]).1),(tB:Int)⟩:oj):oj)) (z0:=(0,0)) (o:=tL ((⟨((H3[i47]).1),(tB:Int)⟩:oj):oj) aU) (show oB _ _ (.agg #[i6 0,i6 0])from inferInstance) (E.map .e8) rfl rfl rfl eG) ?_;refine t7 1 E λEJ w E=>?_;refine nH rfl (iU (v:=.agg #[.int .i64 ((tL ((⟨((H3[i47]).1),(tB:Int)⟩:oj):oj) aU).getD (0,0)).1,.int .i64 ((tL ((⟨((H3[i47]).1),(tB:Int)⟩:oj):oj) aU).getD (0,0)).2]) (iA:=#[.int .i64 ((tL ((⟨((H3[i47]).1),(tB:Int)⟩:oj):oj) aU).getD (0,0)).1,.int .i64 ((tL ((⟨((H3[i47]).1),(tB:Int)⟩:oj):oj) aU).getD (0,0)).2]) E rfl rfl .em rfl (Nat.le_of_ble_eq_true rfl) (h2 rfl) rfl (tH .em λw E=>?_));refine t7 10 E λw E=>?_;refine ts.eQ _ 65 _ rfl rfl rfl rfl (λeyC=>fi rfl rfl (by decide) ⟨rfl,eV.refl _⟩) (λw c=>?_);replace E:=E.es c;refine ts.eQ _ 65 _ rfl rfl rfl rfl (λt=>ag (v:=i6 (H3[i47]).2.2) (by first|exact ov rfl t|rfl) (E.a6 .G rfl) ⟨rfl,eV.refl _⟩) (λw c=>?_);replace E:=E.es c;refine ts.eQ _ 65 _ rfl rfl rfl rfl (λeyU=>fi rfl rfl (by decide) ⟨rfl,eV.refl _⟩) (λw c=>?_);replace E:=E.es c;refine ts.eQ _ 65 _ rfl rfl rfl rfl (λx=>ag (v:=.int .i64 ((tL ((⟨((H3[i47]).1),(tB:Int)⟩:oj):oj) aU).getD (0,0)).2) (by first|exact ov rfl x|rfl) (E.a6 .em rfl) ⟨rfl,eV.refl _⟩) (λw c=>?_);replace E:=E.es c;refine ts.eQ _ 65 _ rfl rfl rfl rfl (λF=>J.gtr (k:=.i64) (a:=(H3[i47]).2.2) (b:=((tL ((⟨((H3[i47]).1),(tB:Int)⟩:oj):oj) aU).getD (0,0)).2) (by first|exact ov rfl F|rfl) (by first|exact ov rfl F|rfl) ⟨rfl,eV.refl _⟩) (λw c=>?_);replace E:=E.es c;refine et (fe rfl rfl (by first|rfl) ?_);refine ey 2 E<|om 11 3 (λnD w E=>?_) (λnD w E=>?_)
         .
           exact⟨_,_,_,rfl,(tN [0,1,2,3] E)⟩
         .
           exact⟨H3.length-(is++[i47]).length,by simp;omega,is++[i47],⟨rfl,rfl,rfl,rfl,trivial⟩,E.sub aS,rfl⟩
       .
         obtain⟨z,eyM⟩:=j m;rw[z]at E;refine eA 14 E λw E=>?_;refine ek.loop (λq f w=>∃(k:Nat)(H:r0)(I:rY),oV [(0,N p),(2,i6 tB),(72,r.rI.v),(73,.int .i64 ((ai y).length:Int)),(74,i6 k)] f/\U ea (B p #[i6 n,tA tj,tA tZ] 326::tM tj lN H::tM tZ l2 I::ax r sA xs y::S) w/\k<=(ai y).length/\q=(ai y).length-k) ((ai y).length) ?_ ?_
         .
           exact⟨0,_,_,⟨rfl,rfl,rfl,rfl,sJ,trivial⟩,E.sub aS,Nat.zero_le _,rfl⟩
         .
           rintro q f w ⟨k,H,I,d,E,L,A⟩;refine il _ d (λg=>?_);clear d;refine eA 6 E<|om 0 12 (λh1 w E=>?_) (λh1 w E=>?_)
           .
             have P:k<(ai y).length:=by omega
             refine eA 7 E ⟨⟨aj⟩,λ_=>rO 9 λbU w E=>?_⟩;refine ev 8 E (Y4 (Pi [3,3,3] E)) λeyF eyP=>⟨ib,λw E=>?_⟩;exact⟨(ai y).length-(k+1),by omega,k+1,_,_,⟨rfl,rfl,rfl,rfl,sJ,trivial⟩,E.sub aS,by omega,rfl⟩
           .
             exact⟨_,_,_,rfl,E⟩
end
end Go.Fer
