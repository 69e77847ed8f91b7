import Derived.Test.YtncdhadaifhleaaGreatDoorF10
import Derived.Test.YtncdhadaifhleaaGreatDoorF13
set_option linter.all false
set_option synthInstance.maxSize 100000
set_option synthInstance.maxHeartbeats 400000
set_option maxHeartbeats 8000000
set_option maxRecDepth 100000
namespace Go.Fer
open Go Go.RowKit
section
open Go.Proofs Tryz
variable{M l m n nb gX cL y:Nat}{S:List eH}{v:Int}{w w' w0 ea:World}
structure uN where
 block:Nat
 cr:Nat
 tq:Nat
 deriving DecidableEq
def uN.parts(x:uN):List (Array Value):=[#[.int .u64 (x.block:Int)],#[.int .u64 (x.cr:Int)],#[.int .u64 (x.tq:Int)]]
theorem eho(x:uN):x.parts.map Array.size=[1,1,1]:=by
 simp only[uN.parts,List.map,O.ez];rfl
instance:O uN where
 enc x:=eK x.parts
 eo:=3
 pos:=by omega
 ez x:=by rw[iw,eho];rfl
 one x:=rD (all_cons (oZ _ _) (all_cons (oZ _ _) (all_cons (oZ _ _) rC)))
theorem Ba(x:uN):O.enc x=eK x.parts:=rfl
def uN.ok(w:World)(x:uN):Prop:=(x.block<=18446744073709551615)/\(x.cr<=18446744073709551615)/\(x.tq<=18446744073709551615)
instance{x:uN}:nt x [#[.int .u64 (x.block:Int)],#[.int .u64 (x.cr:Int)],#[.int .u64 (x.tq:Int)]]:=⟨rfl⟩
theorem ehi:yd prog 25 uN uN.ok:=by
 intro H enc w fuel cs d ps hr;obtain⟨ub,l,a⟩:=Fk underlying25 inferInstance hr;obtain⟨d0,c,em⟩:=a 0 _ 23 0 1 rfl rfl rfl inferInstance;obtain⟨eE,e,i0⟩:=IS inferInstance em;obtain⟨d1,f,G⟩:=a 1 _ 23 1 1 rfl rfl rfl inferInstance;obtain⟨tt,g,i1⟩:=IS inferInstance G;obtain⟨d2,h,Y⟩:=a 2 _ 23 2 1 rfl rfl rfl inferInstance;obtain⟨tC,i,i2⟩:=IS inferInstance Y;have j:=wv i ub;have k:=wv g j;have b:=wv e k;refine⟨⟨eE,tt,tC⟩,?_,⟨i0,i1,i2⟩⟩;rw[Ba];simp only[uN.parts,IN,vy];rw[List.drop_zero]at b;rw[b];try simp
structure ehh where
 EQ:ec
 room:Int
 cm:Int
 cf:Int
 cp:Int
 pA:uN
 Ru:Nat
 dk:Int
 cQ:ec
variable{x:ehh}
instance:Lk prog 92:=⟨underlying92⟩
theorem ehl(em:0<m)(e5:m<18446744073709551616):hL .and .u64 (m:Int) ((m:Int) -1)=((m&&&(m-1):Nat):Int):=by
 rw[show((m:Int) -1)=((m-1:Nat):Int)from by omega];exact HO m (m-1) e5 (by omega)
theorem Bo(em:0<m):m&&&(m-1)<m:=Nat.lt_of_le_of_lt Nat.and_le_right (by omega)
theorem ehd{oh:Nat->Nat}(h:Tab w oh)(G:1<=n)(Y:n<=64):dJ oh (uI n)=0:=by
 have key:∀m:Fin 65,1<=m.val->uI m.val≠0/\qw (uI m.val)=0:=by decide+kernel
 obtain⟨a,b⟩:=key ⟨n,by omega⟩ G;unfold dJ;rw[if_neg a,b,h.t0]
structure EZ where
 m:Nat
 j:Nat
 ok:Bool
theorem ehc(oh:Nat->Nat){x:Nat}(a:Tab w0 oh)(Z:x<18446744073709551616):eJ 180 #[.int .u64 (x:Int)] w0 (λu w'=>u= .int .i64 (dJ oh x:Int)/\eV w0 w'):=Cj oh a Z
def EZ.wE(n:Nat)(oh:Nat->Nat)(t:EZ):Prop:=t.m<18446744073709551616/\(t.ok=true->t.j<n)/\(t.ok=false->dJ oh t.m=0)
theorem ehu:tS 321 #[.int .i64 1] w0 (.float .f64 9218868437227405312):=by
 refine eN 14 (eY _) func321 ntmps321 results321 rfl ?_;refine eU true 10 λw E=>?_;exact et (TY (vs:=[.int .u64 9218868437227405312]) (v:=.float .f64 9218868437227405312) (by kernel_rfl) rfl (ey 5 E λw E=>(⟨rfl,E.ee⟩)))
theorem Bi{x:Nat}:tS 367 #[.float .f64 x] w0 (.bool (zE x x)):=by
 refine eN 9 (eY _) func367 ntmps367 results367 rfl λw E=>?_;exact et (QQ (a:=x) (b:=x) rfl rfl (ey 5 E λw E=>(⟨rfl,E.ee⟩)))
theorem ehm{x:Nat}:eJ 323 #[.float .f64 x,.float .f64 y] w0 (λu w'=>∃(eE:Bool),u= .bool eE/\eV w0 w'):=by
 refine eN 9 (eY _) func323 ntmps323 results323 rfl λw E=>?_;refine et (QJ (a:=x) (b:=y) rfl rfl (ey 1 E λw E=>?_));cases c:(T9 x y)with
 |true=>
  refine ey 13 E λw E=>?_;exact⟨_,rfl,E.ee⟩
 |false=>
  refine ey 1 E λw E=>?_;refine ev 1 E (Bi) λw E=>?_;cases d:(zE y y)with
  |true=>
   refine ey 1 E λw E=>?_;refine ev 8 E (Bi) λw E=>?_;exact⟨_,rfl,E.ee⟩
  |false=>
   refine ey 10 E λw E=>?_;exact⟨_,rfl,E.ee⟩
theorem ehf{x:Nat}:eJ 275 #[.int .u64 (m:Int),.float .f64 x] w0 (λu w'=>∃(eE:Nat),u= .float .f64 eE/\eV w0 w'):=by
 refine eN 9 (eY _) func275 ntmps275 results275 rfl λw E=>?_;refine et (QX (a:=x) (b:=0) rfl rfl (ey 3 E<|om 2 5 (λd w E=>?_) (λd w E=>?_)))
 .
   refine ev 6 E (ehu) λw E=>?_;exact⟨_,rfl,E.ee⟩
 .
   refine et (Q0 (m:=(m:Int)) rfl ?_);refine ey 1 E λw E=>?_;refine et (QZ (a:=(Ns (m:Int))) (b:=x) rfl rfl ?_);intro e w c;replace E:=E.es c;refine ey 5 E λw E=>?_;exact⟨_,rfl,E.ee⟩
theorem ehg:eJ 322 #[.int .u64 (m:Int)] w0 (λu w'=>∃(eE:Nat),u= .func (.func 366) #[] #[.pointer (some ⟨eE,0,none⟩)]/\U w0 [B eE #[.int .u64 (m:Int)] 23] w'):=by
 refine eN 14 (eY _) func322 ntmps322 results322 rfl λni w E=>?_;exact⟨ni,rfl,E⟩
theorem ehw(oh:Nat->Nat)(b:Tab ea oh)(G:1<=n)(Y:n<=64)(c:M=uI n)(r:∀(m j:Nat)(ok:Bool)(W:World),EZ.wE n oh ⟨m,j,ok⟩ ->U ea (B nb #[.int .u64 (m:Int)] 23::B cL #[.bool ok] 4::B gX #[.int .i64 (j:Int)] 3::S) W->YieldAt Fence.wide 0 prog l #[.int .i64 (dJ oh m:Int)] W (λe s=>e= .returned (.bool true)/\∃j:Nat,j<n/\U ea (B nb #[.int .u64 (m:Int)] 23::B cL #[.bool true] 4::B gX #[.int .i64 (j:Int)] 3::S) s))(eC:U ea (B nb #[.int .u64 (M:Int)] 23::B cL #[.bool false] 4::B gX #[.int .i64 (0:Int)] 3::S) w0):eJ 366 #[.func (.yield l) #[] #[],.pointer (some ⟨nb,0,none⟩)] w0 (λu w'=>∃(eE:Nat)(tt:Nat),u= .tuple #[]/\U ea (nn (tt<n)::B nb #[.int .u64 (eE:Int)] 23::B cL #[.bool true] 4::B gX #[.int .i64 (tt:Int)] 3::S) w'):=by
 refine eN 1 eC func366 ntmps366 results366 rfl λw E=>?_;refine ek.loop (λq f w=>∃(m j:Nat)(ok:Bool),oV [(0,.func (.yield l) #[] #[]),(1,.pointer (some ⟨nb,0,none⟩))] f/\U ea (B nb #[.int .u64 (m:Int)] 23::B cL #[.bool ok] 4::B gX #[.int .i64 (j:Int)] 3::S) w/\m<18446744073709551616/\(ok=true->j<n)/\(ok=false->m=uI n)/\q=m) (M) ?_ ?_
 .
   exact⟨M,0,false,⟨rfl,rfl,trivial⟩,E,c▸erX Y,λh=>(by cases h),λ_=>c,rfl⟩
 .
   rintro q f w ⟨m,j,ok,d,E,e5,i,o,y⟩;refine il _ d (λg=>?_);clear d;refine eA 7 E<|om 5 0 (λt w E=>?_) (λt w E=>?_)
   .
     refine zc ?_;show oH none 0 _ _ _ [] _ [0,1,2,3,4] _ _;refine oH.op rfl rfl (by simp) (J.opI (oI (v:=.func (.yield l) #[] #[]) rfl ?_));refine oH.op rfl rfl (by simp) (J.opI (ag (v:=.int .u64 (m:Int)) rfl (E.a6 .em rfl) ?_));refine oH.op rfl rfl (by simp) (J.opI (J.call (ehc _ (b.es E.ee) (by first|omega|simp)) rfl ?_));rintro _ w ⟨rfl,x⟩;replace E:=E.es x;refine oH.op rfl rfl (by simp) (opI.yield (R':=λw'=>∃j:Nat,j<n/\U ea (B nb #[.int .u64 (m:Int)] 23::B cL #[.bool true] 4::B gX #[.int .i64 (j:Int)] 3::S) w') rfl rfl (r m j ok _ ⟨e5,i,λh=>by rw[o h];exact ehd b G Y⟩ (E.sub aS)) ?_);rintro w ⟨j,a,E⟩;refine oH.op rfl rfl (by simp) (J.opI (J.not rfl ?_));refine oH.nil ?_;refine s6 9 E ⟨ib,λw E=>?_⟩;exact et (J.and rfl rfl rfl (ey 3 E λw E=>(⟨m&&&(m-1),by have:=Bo (m:=m) (by omega);omega,m&&&(m-1),j,true,⟨rfl,rfl,trivial⟩,(by rw[<-ehl (by omega) e5];exact E.sub aS),Nat.lt_of_lt_of_le (Bo (by omega)) (by omega),λ_=>a,λh=>(by cases h),rfl⟩)))
   .
     have p:ok=true:=by
      cases ok
      .have:=o rfl;have ej:uI n≠0:=by
        have key:∀k:Fin 65,1<=k.val->uI k.val≠0:=by decide+kernel
        exact key ⟨n,by omega⟩ G
       omega
      rfl
     have a:=i p;rw[p]at E;replace E:=E.pure a;refine eA 5 E λw E=>?_;exact⟨m,j,rfl,E⟩
theorem elj(ea w0:World)(S:List eH)(M:Nat)(v:ec)(ws:List lX)(oh:Nat->Nat)(y:M=uI ws.length)(eB:ex ea v.v ws)(z:Tab ea oh)(G:1<=ws.length)(Y:ws.length<=64)(eC:U ea (S) w0):eJ 276 #[ef M,v.v] w0 (λu w'=>∃(eE:Nat),u= .tuple #[i6 eE,.bool true]/\U ea (nn (eE<ws.length)::S) w'):=by
 refine jL (args:=[ef M,v.v]) func276 rfl ntmps276 rfl ?_;have E:=eC;replace E:=E.jR;refine oq.seq (λfB A=>?_);refine oq.of λD p=>?_;refine ek.region (et (MV E (v:=v.v) rfl rfl ?_));intro t6 w _ E;refine et (jh (v:=i6 0) E rfl ?_);intro aW w _ E;refine et (jh (v:=.bool false) E rfl ?_);intro c w _ E;refine ts.nil ?_;refine rT (A _ _ _ ?_);refine oq.seq (λfV C=>?_);refine oq.seq (λyI F=>?_);refine oq.of λD p=>?_;refine ek.region (et (oP rfl (et (J.call (ehg) rfl ?_))));rintro _ w ⟨a,rfl,H⟩;replace E:=iq E H;refine ts.nil ?_;refine rT (F _ _ _ ?_);replace E:=E.pick .e8;replace E:U ea (hM []::B a #[ef M] 23::B c #[.bool false] 4::B aW #[i6 0] 3::B t6 #[v.v] 22::S) w:=E.sub aS;refine Lj (oN:=[N a]) (EZ.wE ws.length oh) (λt:EZ=>B a #[ef t.m] 23::B c #[.bool t.ok] 4::B aW #[i6 t.j] 3::B t6 #[v.v] 22::S) (λt=>i6 (dJ oh t.m:Int)) (λt s=>s.j<ws.length/\s.ok=true/\s.m=t.m) (λs:EZ=>B a #[ef s.m] 23::B c #[.bool s.ok] 4::B aW #[i6 s.j] 3::B t6 #[v.v] 22::S) (λs=>s.j<ws.length/\s.ok=true) rfl rfl rfl E (λl g w E o=>(ehw (ea:=ea) (w0:=w) (S:=(B t6 #[v.v] 22::(S++g))) (l:=l) (nb:=a) (gX:=aW) (cL:=c) (n:=ws.length) (M:=M) oh z G Y y (λm j ok W I k=>(o ⟨m,j,ok⟩ W I k).mono λe ng⟨K,t,⟨d,L,e5⟩,q⟩=>⟨K,t.j,d,(by rw[L,e5]at q;exact q)⟩) E).mono λ_ _⟨m,j,_,k⟩=>⟨⟨m,j,true⟩,⟨(by have h:=k.get (e:=nn (j<ws.length)) .em;rwa[md]at h),rfl⟩,k.sub (List.sublist_cons_self _ _)⟩) ?_ ?_
 .
   intro S1 g t w o E
   letI:lb:=vl
   replace E:U ea (B a #[ef t.m] 23::B c #[.bool t.ok] 4::B aW #[i6 t.j] 3::B t6 #[v.v] 22::(S++g)) w:=E;obtain⟨e5,r,P⟩:=o;obtain Q:(¬dJ oh t.m<ws.length/\t.ok=true)∨(dJ oh t.m<ws.length/\t.ok=false)∨(dJ oh t.m<ws.length/\t.ok=true):=by
    rcases b:t.ok with _|_
    .have:=P b;exact .inr (.inl ⟨by omega,rfl⟩)
    by_cases hlt:dJ oh t.m<ws.length
    .exact .inr (.inr ⟨hlt,rfl⟩)
    exact .inl ⟨hlt,rfl⟩
   rcases Q with⟨hlt,b⟩|⟨hlt,b⟩|⟨hlt,b⟩
   .
     have d:=r b;rw[b]at E;refine ny.blockQ ?_;refine ny.xm (λbL R=>?_);refine Lo 19 (.look 0 (.look 1 (.look 2 (.look 3 (.look 4 (.look 5 (.look 6 (.look 7 (.look 8 (.look 9 (.look 10 (.look 11 (.look 12 (.look 13 (.look 14 (.look 15 (.one 16 (.look 17 (.look 18 .nil))))))))))))))))))) (by kernel_rfl) (λ_ _ _ h=>h) (λ_ _ h=>h) (λaB i=>?_);replace E:=E.es i;refine⟨λw=>U ea (B a #[ef t.m] 23::B c #[.bool true] 4::B aW #[i6 t.j] 3::B t6 #[v.v] 22::(S++g)) w,E,?_⟩;refine tl rfl (λw E=>oP rfl eG) (tl rfl (λw E=>ag (v:=v.v) rfl (E.a6 .ej rfl) eG) (tl rfl (λw E=>J.hD (v:=v.v) (xs:=ws) rfl (eB.es E.ee) eG) (tl rfl (λw E=>yi (decide_eq_false (by omega)) (J.lss rfl rfl ⟨rfl,rfl⟩) eG) (tl rfl (λw E=>u0 rfl eG) ?_))));refine wN 14 rfl rfl rfl rfl rfl rfl ?_;refine wN 14 rfl rfl rfl rfl rfl rfl ?_;refine wN 14 rfl rfl rfl rfl rfl rfl ?_;refine xi 17 rfl rfl rfl rfl rfl rfl ?_;refine xi 17 rfl rfl rfl rfl rfl rfl ?_;refine xi 17 rfl rfl rfl rfl rfl rfl ?_;refine xi 17 rfl rfl rfl rfl rfl rfl ?_;refine xi 17 rfl rfl rfl rfl rfl rfl ?_;refine xi 17 rfl rfl rfl rfl rfl rfl ?_;refine xi 17 rfl rfl rfl rfl rfl rfl ?_;refine xi 17 rfl rfl rfl rfl rfl rfl ?_;refine QK 17 (E) rfl rfl rfl rfl rfl rfl ?_;refine wN 14 rfl rfl rfl rfl rfl rfl ?_;refine tl rfl (λw E=>kC rfl rfl eG) (e2.nil (aE (R _ _ ?_)));refine Q4 rfl ?_;refine ny.skip ?_;exact m9 (⟨⟨t.m,t.j,true⟩,⟨d,rfl,rfl⟩,E⟩)
   .
     rw[b]at E;refine ny.blockQ ?_;refine ny.xm (λbD T=>?_);refine Lo 19 (.look 0 (.look 1 (.look 2 (.look 3 (.look 4 (.look 5 (.look 6 (.look 7 (.look 8 (.look 9 (.look 10 (.look 11 (.look 12 (.look 13 (.look 14 (.look 15 (.one 16 (.look 17 (.look 18 .nil))))))))))))))))))) (by kernel_rfl) (λ_ _ _ h=>h) (λ_ _ h=>h) (λaB i=>?_);replace E:=E.es i;refine⟨λw=>U ea (B a #[ef t.m] 23::B c #[.bool false] 4::B aW #[i6 t.j] 3::B t6 #[v.v] 22::(S++g)) w,E,?_⟩;refine tl rfl (λw E=>oP rfl eG) (tl rfl (λw E=>ag (v:=v.v) rfl (E.a6 .ej rfl) eG) (tl rfl (λw E=>J.hD (v:=v.v) (xs:=ws) rfl (eB.es E.ee) eG) (tl rfl (λw E=>ft (decide_eq_true (by omega)) (J.lss rfl rfl ⟨rfl,rfl⟩) eG) (tl rfl (λw E=>u0 rfl eG) ?_))));refine cE 14 rfl rfl rfl rfl rfl rfl (λw E=>(by have E:U ea _ w:=E;exact ag (v:=.bool false) rfl (E.a6 .G rfl) ⟨rfl,rfl⟩)) ?_;refine cE 14 rfl rfl rfl rfl rfl rfl (λw E=>J.not rfl ⟨rfl,rfl⟩) ?_;refine cE 14 rfl rfl rfl rfl rfl rfl (λw E=>u0 rfl ⟨rfl,rfl⟩) ?_;refine wN 17 rfl rfl rfl rfl rfl rfl ?_;refine wN 17 rfl rfl rfl rfl rfl rfl ?_;refine wN 17 rfl rfl rfl rfl rfl rfl ?_;refine wN 17 rfl rfl rfl rfl rfl rfl ?_;refine wN 17 rfl rfl rfl rfl rfl rfl ?_;refine wN 17 rfl rfl rfl rfl rfl rfl ?_;refine wN 17 rfl rfl rfl rfl rfl rfl ?_;refine wN 17 rfl rfl rfl rfl rfl rfl ?_;refine Qj 17 (E) rfl rfl rfl rfl rfl rfl ?_;refine cE 14 rfl rfl rfl rfl rfl rfl (λw E=>kC rfl rfl ⟨rfl,rfl⟩) ?_;refine tl rfl (λw E=>kC rfl rfl eG) (e2.nil (aE (T _ _ ?_)));refine Q3 rfl ?_;refine ny.region ?_;show oH (some _) 0 _ _ _ [] _ [0,1,2] _ _;refine oH.op rfl rfl (by simp) (J.opI (oP rfl ?_));refine jx rfl (by simp) (J.opI (iU (v:=i6 (dJ oh t.m:Int)) (iA:=#[i6 (dJ oh t.m:Int)]) E rfl rfl .Y rfl (Nat.le_of_ble_eq_true rfl) (oZ _ _) rfl (tH .Y λw E=>?_)));refine jx rfl (by simp) (J.opI (iU (v:=.bool true) (iA:=#[.bool true]) E rfl rfl .G rfl (Nat.le_of_ble_eq_true rfl) (O.one (α:=Bool) _) rfl (tH .G λw E=>?_)));refine oH.nil ?_;exact m9 (⟨⟨t.m,dJ oh t.m,true⟩,⟨hlt,rfl,rfl⟩,E⟩)
   .
     have d:=r b;rw[b]at E;refine ny.blockQ ?_;refine ny.xm (λwM V=>?_);refine Lo 19 (.look 0 (.look 1 (.look 2 (.look 3 (.look 4 (.look 5 (.look 6 (.look 7 (.look 8 (.look 9 (.look 10 (.look 11 (.look 12 (.look 13 (.look 14 (.look 15 (.one 16 (.look 17 (.look 18 .nil))))))))))))))))))) (by kernel_rfl) (λ_ _ _ h=>h) (λ_ _ h=>h) (λaB i=>?_);replace E:=E.es i;refine⟨λw=>U ea (B a #[ef t.m] 23::B c #[.bool true] 4::B aW #[i6 t.j] 3::B t6 #[v.v] 22::(S++g)) w,E,?_⟩;refine tl rfl (λw E=>oP rfl eG) (tl rfl (λw E=>ag (v:=v.v) rfl (E.a6 .ej rfl) eG) (tl rfl (λw E=>J.hD (v:=v.v) (xs:=ws) rfl (eB.es E.ee) eG) (tl rfl (λw E=>ft (decide_eq_true (by omega)) (J.lss rfl rfl ⟨rfl,rfl⟩) eG) (tl rfl (λw E=>u0 rfl eG) ?_))));refine cE 14 rfl rfl rfl rfl rfl rfl (λw E=>(by have E:U ea _ w:=E;exact ag (v:=.bool true) rfl (E.a6 .G rfl) ⟨rfl,rfl⟩)) ?_;refine cE 14 rfl rfl rfl rfl rfl rfl (λw E=>J.not rfl ⟨rfl,rfl⟩) ?_;refine cE 14 rfl rfl rfl rfl rfl rfl (λw E=>u0 rfl ⟨rfl,rfl⟩) ?_;refine cE 17 rfl rfl rfl rfl rfl rfl (λw E=>(by have E:U ea _ w:=E;exact ag (v:=v.v) rfl (E.a6 .ej rfl) ⟨rfl,rfl⟩)) ?_;refine cE 17 rfl rfl rfl rfl rfl rfl (λw E=>oP rfl ⟨rfl,rfl⟩) ?_;refine cE 17 rfl rfl rfl rfl rfl rfl (λw E=>(by have E:U ea _ w:=E;exact nX (α:=lX) (v:=v.v) rfl (eB.es E.ee) rfl aj ⟨rfl,rfl⟩)) ?_;refine cE 17 rfl rfl rfl rfl rfl rfl (λw E=>(by have E:U ea _ w:=E;exact ag (v:=.float .f64 ws[dJ oh t.m].n) rfl (((eB.es E.ee).sm (show dJ oh t.m<ws.length from by omega)).ab rfl) ⟨rfl,rfl⟩)) ?_;refine cE 17 rfl rfl rfl rfl rfl rfl (λw E=>(by have E:U ea _ w:=E;exact ag (v:=v.v) rfl (E.a6 .ej rfl) ⟨rfl,rfl⟩)) ?_;refine cE 17 rfl rfl rfl rfl rfl rfl (λw E=>(by have E:U ea _ w:=E;exact ag (v:=i6 t.j) rfl (E.a6 .Y rfl) ⟨rfl,rfl⟩)) ?_;refine cE 17 rfl rfl rfl rfl rfl rfl (λw E=>(by have E:U ea _ w:=E;exact nX (α:=lX) (v:=v.v) rfl (eB.es E.ee) rfl aj ⟨rfl,rfl⟩)) ?_;refine cE 17 rfl rfl rfl rfl rfl rfl (λw E=>(by have E:U ea _ w:=E;exact ag (v:=.float .f64 ws[t.j].n) rfl (((eB.es E.ee).sm (show t.j<ws.length from by omega)).ab rfl) ⟨rfl,rfl⟩)) ?_;refine Ft 17 rfl rfl rfl rfl rfl rfl (J.call (ehm) rfl ?_);rintro _ w ⟨X,rfl,Z⟩;replace E:=E.es Z;refine⟨E,?_⟩;refine cE 14 rfl rfl rfl rfl rfl rfl (λw E=>kC rfl rfl ⟨rfl,rfl⟩) ?_;refine tl rfl (λw E=>kC rfl rfl eG) (e2.nil (aE (V _ _ ?_)));refine ny.cond _ rfl (λf=>?_) (λf=>?_)
     .
       have mh:=f;have ie:=f
       try simp only[sX]at f
       refine ny.region ?_;show oH (some _) 0 _ _ _ [] _ [0,1,2] _ _;refine oH.op rfl rfl (by simp) (J.opI (oP rfl ?_));refine jx rfl (by simp) (J.opI (iU (v:=i6 (dJ oh t.m:Int)) (iA:=#[i6 (dJ oh t.m:Int)]) E rfl rfl .Y rfl (Nat.le_of_ble_eq_true rfl) (oZ _ _) rfl (tH .Y λw E=>?_)));refine jx rfl (by simp) (J.opI (iU (v:=.bool true) (iA:=#[.bool true]) E rfl rfl .G rfl (Nat.le_of_ble_eq_true rfl) (O.one (α:=Bool) _) rfl (tH .G λw E=>?_)));refine oH.nil ?_;exact m9 (⟨⟨t.m,dJ oh t.m,true⟩,⟨hlt,rfl,rfl⟩,E⟩)
     .
       have mh:=f;have ie:=f
       try simp only[sX]at f
       refine ny.skip ?_;exact m9 (⟨⟨t.m,t.j,true⟩,⟨d,rfl,rfl⟩,E⟩)
 .
   intro EW w s C9 E;obtain⟨d,aA⟩:=C9;obtain⟨j,x⟩:∃j,j=s.j:=⟨_,rfl⟩;rw[<-x]at d;rw[<-x,aA]at E;replace E:=(E.pure d).pick .G;refine rT (C _ _ _ ?_);refine xu λD p=>?_;refine ek.seq (λyN cd=>?_);refine nC 0 4 (eX [0,1] (oA [2,3] .nil)) [] E λw E=>?_;refine tl rfl (λw E=>ag (v:=i6 j) rfl (E.a6 .e8 rfl) eG) (tl rfl (λw E=>ag (v:=.bool true) rfl (E.a6 .ej rfl) eG) ?_);refine n8 rfl rfl (iU (v:=i6 j) (iA:=#[i6 j]) E rfl rfl .e8 rfl (Nat.le_of_ble_eq_true rfl) (oZ _ _) rfl (tH .e8 λw E=>?_));refine⟨E,?_⟩;refine n8 rfl rfl (iU (v:=.bool true) (iA:=#[.bool true]) E rfl rfl .ej rfl (Nat.le_of_ble_eq_true rfl) (O.one (α:=Bool) _) rfl (tH .ej λw E=>?_));refine⟨E,?_⟩;refine e2.nil (aE (cd _ _ ?_));refine ek.ret ?_;refine Lx ?_;refine jH results276 E (λw E=>?_);refine⟨_,(.cell (E.a6 .ej rfl) (.cell (E.a6 .Y rfl) .nil)),?_⟩;exact⟨j,rfl,(tN [1,2,3,4] E)⟩
variable{a b:Vector UInt8 32×Int}{i oM j p oy tj tZ:Nat}{is:List Nat}{q:Int}{kl:Bool}{x:Value}
abbrev fv(n:Int):Value:=.int .i64 n
structure pe where
 k:Vector UInt8 32
 b:Nat
 ou:Option ec
variable{l no nd:List pe}{r:pe}
def pe.qq(n:Nat)(r:pe):List eH:=
 match r.ou with
 |none=>[B r.b #[N n,eF] 482]
 |some s=>[B r.b #[.pointer none,s.v] 482,V s.v 472 ([⟨some n⟩]:List im)]
@[irreducible] def pO (n:Nat) (l:List pe):eH:=hC (l.flatMap (pe.qq n))
theorem U.elq(h:U w0 S w):U w0 (pO n []::S) w:=by unfold pO;exact U.closed (l:=[]) h
theorem BL(h:U w0 (r.qq n++(pO n l::S)) w):U w0 (pO n (r::l)::S) w:=by
 unfold pO at h⊢;rw[List.flatMap_cons];refine U.closed ?_;have G:U w0 (hC (l.flatMap (pe.qq n))::(r.qq n++S)) w:=h.hK List.perm_middle;have Y:=G.de;refine Y.hK ?_;rw[<-List.append_assoc];exact List.Perm.append_right S List.perm_append_comm
theorem U.elz(h:U w0 (pO n (no++r::nd)::S) w):U w0 (r.qq n++(pO n (no++nd)::S)) w:=by
 unfold pO at h⊢;have G:=h.de;rw[List.flatMap_append,List.flatMap_cons]at G;have Y:U w0 ((no++nd).flatMap (pe.qq n)++(r.qq n++S)) w:=by
  refine G.hK ?_;rw[List.flatMap_append,List.append_assoc,List.append_assoc,List.append_assoc];refine List.Perm.append_left _ ?_;rw[<-List.append_assoc,<-List.append_assoc];exact List.Perm.append_right S List.perm_append_comm
 exact(U.closed Y).hK List.perm_middle.symm
abbrev ky:=List (Vector UInt8 32×Int)
variable{iu eI:ky}
abbrev qz:=List (Vector UInt8 32×Option Nat)
variable{eZ:qz}
def yK(iu:ky)(is:List Nat)(eZ:qz)(l:List pe):Prop:=
 (∀k,tL k eZ≠none->∃j∈is,∃e,iu[j]? =some e/\e.1=k)/\(∀j∈is,∀e,iu[j]? =some e->∃r∈l,r.k=e.1/\tL e.1 eZ=some (some r.b))
def xZ(iu:ky)(is:List Nat)(eZ:qz)(l:List pe):Prop:=∀j,j∉is->∀e,iu[j]? =some e->∃r∈l,r.k=e.1/\tL e.1 eZ=some (some r.b)
theorem yK.zero(iu:ky):yK iu [] [] []:=⟨λk h=>(h rfl).elim,λj a=>by cases a⟩
theorem Ue(h:(iu.map Prod.fst).Nodup)(ep:iu[i]? =some a)(hb:iu[j]? =some b)(e:a.1=b.1):i=j:=by
 obtain⟨ew,ep⟩:=List.getElem?_eq_some_iff.1 ep;obtain⟨c,hb⟩:=List.getElem?_eq_some_iff.1 hb;subst ep;subst hb;rw[List.nodup_iff_pairwise_ne,List.pairwise_iff_getElem]at h;rcases Nat.lt_trichotomy i j with hlt|d|hlt
 .exact(h i j (by simpa using ew) (by simpa using c) hlt (by simpa using e)).elim
 .exact d
 exact(h j i (by simpa using c) (by simpa using ew) hlt (by simpa using e.symm)).elim
theorem yK.fresh(h:yK iu is eZ l)(a:(iu.map Prod.fst).Nodup)(ew:i<iu.length)(hE:i∉is):tL (iu[i].1) eZ=none:=by
 refine Decidable.byContradiction λb=>?_;obtain⟨j,c,e,d,f⟩:=h.1 _ b;have:=Ue a d (List.getElem?_eq_getElem ew) f;exact hE (this▸c)
theorem yK.next(h:yK iu is eZ l)(m:(iu.map Prod.fst).Nodup)(ew:i<iu.length)(hE:i∉is)(r:pe)(hr:r.k=iu[i].1):yK iu (is++[i]) (oC (iu[i].1) (some r.b) eZ) (r::l):=by
 refine⟨λk d=>?_,λj a e c=>?_⟩
 .rw[mT]at d;by_cases g:k=iu[i].1
  .exact⟨i,by simp,_,List.getElem?_eq_getElem ew,g.symm⟩
  rw[if_neg g]at d;obtain⟨j,a,e,c,f⟩:=h.1 k d;exact⟨j,List.mem_append_left _ a,e,c,f⟩
 rw[mT];rcases List.mem_append.1 a with a|a
 .obtain⟨q,n,o,p⟩:=h.2 j a e c;refine⟨q,List.mem_cons_of_mem _ n,o,?_⟩;rw[if_neg,p];intro s;have:=Ue m c (List.getElem?_eq_getElem ew) s;exact hE (this▸a)
 rw[List.mem_singleton]at a;subst a;rw[List.getElem?_eq_getElem ew]at c;injection c with c;subst c;exact⟨r,List.mem_cons_self,hr,by rw[if_pos rfl]⟩
theorem yK.done(h:yK iu is eZ l)(ep:∀i,i<iu.length->i∈is):xZ iu [] eZ l:=λj _ e a=>h.2 j (ep j (List.getElem?_eq_some_iff.1 a).1) e a
theorem xZ.next(h:xZ iu is eZ (no++r::nd))(f:(iu.map Prod.fst).Nodup)(ew:i<iu.length)(hr:r.k=iu[i].1):xZ iu (is++[i]) eZ (no++nd):=by
 intro j b e c;rw[List.mem_append,List.mem_singleton,not_or]at b;obtain⟨q,a,d,g⟩:=h j b.1 e c;refine⟨q,?_,d,g⟩;rcases List.mem_append.1 a with a|a
 .exact List.mem_append_left _ a
 rcases List.mem_cons.1 a with rfl|a
 .exact(b.2 (Ue f c (List.getElem?_eq_getElem ew) (d.symm.trans hr))).elim
 exact List.mem_append_right _ a
theorem U.BD{r:Nat}{e7:Int->Value}(E:U w0 S w)(a:tP (ld oM r e7 eI is) S):(eI.map Prod.fst).Nodup:=by
 obtain⟨_,b,c,_,e5,_⟩:=E.wx a;exact e5.2.2
theorem elT:eJ 129 #[] w0 (λu w'=>∃(eE:Nat)(tt:Nat)(tC:Nat),u=N tC/\U w0 [B tC #[tA eE,tA tt,i6 0] 394,tM tt ip ([]:List ((Vector UInt8 32)×(Option Nat))),tM eE ip ([]:List (eL×(Option Nat)))] w'):=by
 refine eN 7 (eY _) func129 ntmps129 results129 rfl λw E=>?_;refine et (J.makeMap eL ip E ?_);intro tj w _ E;refine et (J.makeMap (Vector UInt8 32) ip E ?_);intro tZ w _ E;refine af 6 E (c9 (#[tA tj,tA tZ,i6 0])) λaW w E=>?_;exact⟨tj,tZ,aW,rfl,E⟩
theorem qE(a:an w0 (N p) #[tA tj,tA tZ,.int .i64 q]):tS 265 #[N p] w0 (.bool true):=by
 have:=ir a;refine eN 21 (eY _) func265 ntmps265 results265 rfl λw E=>?_;exact⟨rfl,E.ee⟩
theorem BC(a:an w0 (N p) #[tA tj,tA tZ,.int .i64 q])(e5:hV w0 tj ip ([]:List (eL×(Option Nat)))):tS 261 #[N p] w0 (i6 0):=by
 refine eN 9 (eY _) func261 ntmps261 results261 rfl λw E=>?_;have:=ir a;refine ev 12 E (qE (a.es E.ee)) λw E=>?_;exact et (I9 (n:=0) (e5.es E.ee) rfl rfl (ey 5 E λw E=>(⟨rfl,E.ee⟩)))
theorem elA(a:an w0 (N p) #[tA tj,tA tZ,.int .i64 q])(e5:hV w0 tj ip ([(⟨0⟩,(some n))]:List (eL×(Option Nat)))):tS 261 #[N p] w0 (i6 1):=by
 refine eN 9 (eY _) func261 ntmps261 results261 rfl λw E=>?_;have:=ir a;refine ev 12 E (qE (a.es E.ee)) λw E=>?_;exact et (I9 (n:=1) (e5.es E.ee) rfl rfl (ey 5 E λw E=>(⟨rfl,E.ee⟩)))
theorem elO{b:Nat}(G:an w0 (N nb) #[N b])(Y:an w0 (N oy) #[.bool kl])(ej:an w0 (N b) #[.pointer none,eF]):tS 361 #[x,N nb,N oy] w0 (.tuple #[]):=by
 have:=ir G;have:=ir ej;have:=ir Y;refine eN 23 (eY _) func361 ntmps361 results361 rfl<|om 3 13 (λa w E=>?_) (λa w E=>?_)
 .
   exact⟨rfl,E.ee⟩
 .
   refine oL 40 (oc.step ?_);refine eA 2 E ?_;refine eU false 9 λw E=>?_;exact⟨rfl,E.ee⟩
theorem elI{b:Nat}:eJ 314 #[N b,.bool kl] w0 (λu w'=>∃(eE:Nat)(tt:Nat),u= .func (.func 361) #[] #[N eE,N tt]/\U w0 [B tt #[.bool kl] 4,B eE #[N b] 480] w'):=by
 refine eN 15 (eY _) func314 ntmps314 results314 rfl λao t6 w E=>?_;exact⟨ao,t6,rfl,E⟩
variable{sA:List Instr}{r:aZ}{xs:List UInt8}{y:nT}
theorem elN(eC:U ea (B p #[tA tj,tA tZ,i6 0] 394::tM tj ip ([]:List (eL×(Option Nat)))::tM tZ ip ([]:List ((Vector UInt8 32)×(Option Nat)))::ax r sA xs y::S) w0):eJ 264 #[N p,i6 0,r.rI.v] w0 (λu w'=>∃(eE:Nat)(tt:Nat)(tC:ky)(ap:qz)(aD:(List pe)),u=i6 0/\U ea (nn (xZ tC [] ap aD)::pO tt aD::B tt #[i6 0,i6 0,i6 0,i6 0,eF,tA eE] 478::tM eE fv tC::B p #[tA tj,tA tZ,i6 1] 394::tM tj ip ([(⟨0⟩,(some tt))]:List (eL×(Option Nat)))::tM tZ ip ap::ax r sA xs y::S) w'):=by
 refine jL (args:=[N p,i6 0,r.rI.v]) func264 rfl ntmps264 rfl ?_;have E:=eC;replace E:=E.jR;have nq:(ai y).length<=64:=by have h:=fZ E .e8;omega
 refine oq.seq (λfB h5=>?_);refine oq.of λD e=>?_;refine eA 3 E λw E=>?_;refine rT (h5 _ _ _ ?_);refine oq.seq (λfV h6=>?_);refine oq.of λD e=>?_;refine eA 3 E λw E=>?_;refine ev 5 E (qE (E.tb .G)) λw E=>?_;refine rT (h6 _ _ _ ?_);refine oq.seq (λbL ua=>?_);refine oq.of λD e=>?_;refine eA 7 E λw E=>?_;refine et (p4 (k:=(⟨0⟩:eL)) (z0:=none) (o:=none) inferInstance (E.map .Y) rfl rfl (by simp[tL]) (et (IY (a:=none) rfl rfl (ey 2 E λw E=>?_))));refine vH rfl ?_;refine eA 1 E λw E=>?_;refine rT (ua _ _ _ ?_);refine oq.seq (λwM dB=>?_);refine oq.of λD e=>?_;refine eA 7 E λw E=>?_;refine et (J.makeMap (Vector UInt8 32) fv E ?_);intro i w _ E;refine et (zT (c:=[i6 0,i6 0,i6 0,i6 0,eF,tA i]) [(0,i6 0),(1,i6 0),(2,i6 0),(5,tA i)] rfl (by exact hT ⟨by decide,rfl,by decide,rfl,by decide,rfl,by decide,rfl,trivial⟩) rfl (et (ba E (c:=#[i6 0,i6 0,i6 0,i6 0,eF,tA i]) rfl ?_)));intro b w _ E;refine et (jh (v:=.pointer none) E rfl ?_);intro m w _ E;refine oE (iU (v:=N b) (iA:=#[N b]) E rfl rfl .em rfl (Nat.le_of_ble_eq_true rfl) (Ln _) rfl (tH .em λw E=>(ey 1 E λw E=>?_)));refine rT (dB _ _ _ ?_);refine oq.seq (λyN cd=>?_);refine oq.of λD e=>?_;refine eA 1 E λw E=>?_;refine et (oI (v:=N p) rfl (et (sk rfl (et (o9 rfl (et (ag (v:=i6 0) rfl (E.a6 .e8 rfl) (et (J.add rfl rfl (show IntKind.i64.wrap (0+1)=1 from by decide) (et (sk rfl (et (o9 rfl (oE (iU (v:=i6 1) (iA:=#[tA tj,tA tZ,i6 1]) E rfl rfl .e8 rfl (Nat.le_of_ble_eq_true rfl) (oZ _ _) rfl (tH .e8 λw E=>(ey 1 E λw E=>?_)))))))))))))))));refine rT (cd _ _ _ ?_);refine oq.seq (λxN ff=>?_);refine xu λD e=>?_;refine eA 2 E λw E=>?_;refine et (oI (v:=r.rI.v) rfl (et (J.hD (v:=r.rI.v) (xs:=(ai y)) rfl (xU E .iK).2.2.1 (et (oP rfl (ey 3 E λw E=>?_))))));refine ek.loop (λq f w=>∃(k:Nat)(oi:ky),oV [(0,N p),(1,i6 0),(7,N m),(42,r.rI.v),(43,.int .i64 ((ai y).length:Int)),(44,i6 k)] f/\U ea (B m #[N b] 472::B b #[i6 0,i6 0,i6 0,i6 0,eF,tA i] 478::tM i fv oi::hM []::B p #[tA tj,tA tZ,i6 1] 394::tM tj ip ([]:List (eL×(Option Nat)))::tM tZ ip ([]:List ((Vector UInt8 32)×(Option Nat)))::ax r sA xs y::S) w/\k<=(ai y).length/\q=(ai y).length-k) ((ai y).length) ?_ ?_
 .
   exact⟨0,[],⟨rfl,rfl,rfl,rfl,rfl,sJ,trivial⟩,E.sub aS,Nat.zero_le _,rfl⟩
 .
   rintro q f w ⟨k,oi,s,E,rP,mX⟩;refine il _ s (λg=>?_);clear s;refine eA 6 E<|om 0 4 (λa8 w E=>?_) (λa8 w E=>?_)
   .
     have aq:k<(ai y).length:=by omega
     refine eA 7 E ⟨⟨aj⟩,λ_=>rO 6 λlm w E=>?_⟩;obtain⟨C,BU⟩:∃x,(tL ((ai y)[k].key:(Vector UInt8 32)) oi).getD 0=x:=⟨_,rfl⟩;refine vj 10 (eX [0,1,2,3,4,5,6,7] (.one 8 (.look 9 (.one 10 .nil)))) (by kernel_rfl) (λ_ _ _ h=>h) (λaB iN=>?_);replace E:=E.es iN;have tR:=E;refine⟨λw=>∃oi:ky,(tL ((ai y)[k].key:(Vector UInt8 32)) oi).getD 0=C/\U ea (B lm (O.enc ((ai y)[k])) 66::B m #[N b] 472::B b #[i6 0,i6 0,i6 0,i6 0,eF,tA i] 478::tM i fv oi::hM []::B p #[tA tj,tA tZ,i6 1] 394::tM tj ip ([]:List (eL×(Option Nat)))::tM tZ ip ([]:List ((Vector UInt8 32)×(Option Nat)))::ax r sA xs y::S) w,⟨_,BU,E⟩,?_⟩;refine e2.look rfl rfl rfl (λw d=>(by obtain⟨oi,j,E⟩:=d;exact ag (v:=N b) rfl (E.a6 .G rfl) ⟨rfl,rfl⟩)) ?_;refine e2.look rfl rfl rfl (λw d=>(by obtain⟨oi,j,E⟩:=d;exact sk rfl ⟨rfl,rfl⟩)) ?_;refine e2.look rfl rfl rfl (λw d=>(by obtain⟨oi,j,E⟩:=d;exact o9 rfl ⟨rfl,rfl⟩)) ?_;refine e2.look rfl rfl rfl (λw d=>(by obtain⟨oi,j,E⟩:=d;exact ag (v:=tA i) rfl (E.a6 .Y rfl) ⟨rfl,rfl⟩)) ?_;refine e2.look rfl rfl rfl (λw d=>(by obtain⟨oi,j,E⟩:=d;exact o9 rfl ⟨rfl,rfl⟩)) ?_;refine e2.look rfl rfl rfl (λw d=>(by obtain⟨oi,j,E⟩:=d;exact ag (v:=.agg (O.enc ((ai y)[k]).key)) rfl (E.It (o:=0) .em (Ay ((ai y)[k])) wH) ⟨rfl,rfl⟩)) ?_;refine e2.look rfl rfl rfl (λw d=>(by obtain⟨oi,j,E⟩:=d;exact ym (e7:=fv) (z0:=0) (show oB _ _ (i6 0)from inferInstance) (E.map .ej) rfl rfl j ⟨rfl,rfl⟩)) ?_;refine e2.look rfl rfl rfl (λw d=>(by obtain⟨oi,j,E⟩:=d;exact J.add rfl rfl rfl ⟨rfl,rfl⟩)) ?_;refine ol rfl (J.mapEntry (k:=(((ai y)[k]).key:(Vector UInt8 32))) (z0:=0) (show oB _ _ (i6 0)from inferInstance) E .ej rfl rfl ?_);intro eyJ w E;replace E:=E _ .ej;refine⟨⟨_,by rw[mT,if_pos rfl];exact BU,E.HY .ej⟩,?_⟩;refine e2.look rfl rfl rfl (λw d=>(by obtain⟨oi,j,E⟩:=d;exact J.extract rfl rfl ⟨rfl,rfl⟩)) ?_;refine nH rfl (J.entryStore (k:=(((ai y)[k]).key:(Vector UInt8 32))) (v:=(IntKind.i64.wrap (C+0))) E .ej rfl rfl rfl (tH .ej λw E=>(e2.nil (s6 7 E<|om 0 8 (λnD w E=>?_) (λnD=>⟨ib,λw E=>?_⟩)))))
     .
       refine nC 6 6 (eX [0,1,2,3,4,5] (.one 6 .nil)) [] E λw E=>?_;exact nH rfl (gF (k:=(((ai y)[k]).key:(Vector UInt8 32))) (v:=1) (hm:=(oC (((ai y)[k]).key:(Vector UInt8 32)) 1 (oC (((ai y)[k]).key:(Vector UInt8 32)) (IntKind.i64.wrap (C+0)) (oC (((ai y)[k]).key:(Vector UInt8 32)) ((tL (((ai y)[k]).key:(Vector UInt8 32)) oi).getD 0) oi)))) E .ej rfl rfl rfl rfl (tH .ej λw E=>(t7 8 E ⟨ib,λw E=>(⟨(ai y).length-(k+1),by omega,k+1,_,⟨rfl,rfl,rfl,rfl,rfl,sJ,trivial⟩,E.sub aS,by omega,rfl⟩)⟩)))
     .
       exact⟨(ai y).length-(k+1),by omega,k+1,_,⟨rfl,rfl,rfl,rfl,rfl,sJ,trivial⟩,E.sub aS,by omega,rfl⟩
   .
     refine zA ?_;refine rT (ff _ _ _ ?_);refine oq.seq (λSi vK=>?_);refine oq.of λD e=>?_;refine eA 4 E λrQ w E=>?_;refine rT (vK _ _ _ ?_);refine oq.seq (λSn vX=>?_);refine oq.seq (λSs vJ=>?_);refine oq.of λD e=>?_;refine eA 5 E λw E=>?_;refine et (J.range (tn:=(Vector UInt8 32)) E .ej rfl ?_);intro BM w E;replace E:=E _ .ej;refine ey 1 E λw E=>?_;refine rT (vJ _ _ _ ?_);refine oq.block ?_;refine oq.loop (λq L f w=>∃(is:List Nat)(eZ:qz)(l:List pe),oV [(0,N p),(1,i6 0),(7,N m),(10,N rQ),(71,N BM)] f/\U ea (pO b l::hM L::B rQ #[i6 (-1)] 3::B m #[N b] 472::B b #[i6 0,i6 0,i6 0,i6 0,eF,tA i] 478::ld BM i fv oi is::B p #[tA tj,tA tZ,i6 1] 394::tM tj ip ([]:List (eL×(Option Nat)))::tM tZ ip eZ::ax r sA xs y::S) w/\yK oi is eZ l/\q=oi.length-is.length) (oi.length) ?_ ?_
     .
       exact⟨[],[],[],⟨rfl,rfl,rfl,rfl,rfl,trivial⟩,((E.pick .e8).elq (n:=b)).sub aS,yK.zero oi,rfl⟩
     .
       rintro q L f w ⟨is,eZ,l,s,E,t,mX⟩;refine QG _ s (λg=>?_);clear s;refine oq.seq (λGF AD=>?_);refine oq.of λD e=>?_;refine eA 1 E λw E=>?_;refine et (jb E .au rfl ?_);intro eyQ eyZ ey0 w F H I E;replace E:=E _ .au;refine et (J.extract rfl F (ey 1 E λw E=>?_));refine rT (AD _ _ _ ?_);refine oq.seq (λelL Uo=>?_);refine oq.of λD e=>?_;refine NT 0 0 E (λK h1 w E=>?_) (λK h1 w E=>?_)
       .
         obtain⟨i72,z,M,ey1,rfl⟩:=I K;have P:=E.BD .au;refine eA 1 E λw E=>?_;refine rT (Uo _ _ _ ?_);refine oq.block ?_;refine oq.seq (λelD Un=>?_);refine oq.of λD e=>?_;refine eA 1 E λw E=>?_;refine et (jv (E.wx .au) z rfl (ey 3 E λn0 w E=>(oE (iJ (r:=(oi[i72]).1) E rfl rfl .em (O.ez _) (tH .em λw E=>(ey 2 E λw E=>?_))))));refine rT (Un _ _ _ ?_);refine oq.seq (λelC Us=>?_);refine oq.of λD e=>?_;refine eA 5 E λw E=>?_;refine rT (Us _ _ _ ?_);refine oq.seq (λelU BF=>?_);refine xu λD e=>?_;refine nC 5 7 (eX [0,1,2,3,4,5,6] .nil) [] E λw E=>?_;refine tl rfl (λw E=>p4 (k:=(((oi[i72]).1):(Vector UInt8 32))) (z0:=none) (o:=none) inferInstance (E.map .sr) rfl rfl (t.fresh P z M) eG) (t7 2 E λw E=>?_);refine zA ?_;refine rT (BF _ _ _ ?_);refine oq.seq (λelM Ur=>?_);refine xu λD e=>?_;refine eA 3 E λw E=>?_;refine et (IW (a:=none) rfl rfl (ey 2 E λw E=>?_));refine zb rfl ?_;refine eA 2 E λw E=>?_;refine af 4 E (c9 (#[.pointer none,eF])) λA=>?_;refine aC 6 6 (eX [0,1,2,3,4,5] (.one 6 .nil)) [] λw E=>?_;refine nH rfl (gF (k:=(((oi[i72]).1):(Vector UInt8 32))) (v:=(some A)) (hm:=(oC (((oi[i72]).1):(Vector UInt8 32)) (some A) eZ)) E .hh rfl rfl rfl rfl (tH .hh λw E=>(t7 1 E λw E=>?_)));refine zA ?_;refine rT (Ur _ _ _ ?_);refine oq.seq (λey2 Q=>?_);refine oq.seq (λey3 R=>?_);refine oq.of λD e=>?_;refine eA 3 E λw E=>?_;refine ev 1 E (elI) λT V w E=>?_;refine rT (R _ _ _ ?_);replace E:=E.pick .au;refine PU (oN:=[N T,N V]) rfl rfl E (λCT CA w E=>(elO (E.tb .G) (E.tb .em) (E.tb .Y)).mono λ_ _ h=>h.2) (λEW w E=>?_);refine rT (Q _ _ _ ?_);refine xu λD e=>?_;refine eA 5 E<|om 11 0 (λW w E=>?_) (λW w E=>?_)
         .
           refine zA ?_;refine PC ?_;refine rT ?_;exact⟨oi.length-(is++[i72]).length,by simp;omega,is++[i72],_,_,⟨rfl,rfl,rfl,rfl,rfl,trivial⟩,(BL (n:=b) (l:=l) (r:=⟨oi[i72].1,A,none⟩) (Pi [5,4] E)).sub aS,t.next P z M _ rfl,rfl⟩
         .
           refine nC 6 7 (eX [0,1,2,3,4,5] (oA [6,7,8,9,10] .nil)) [] E λw E=>?_;refine mt 0 E (nB ([⟨some b⟩]:List im)) λey4 w E=>?_;refine hO rfl (h3 (α:=im) rfl E rfl (E.eu .em) aj (by simp[maxLen];try omega) ?_);intro X w _ E;refine t7 4 E λw E=>?_;refine zA ?_;refine PC ?_;refine rT ?_;exact⟨oi.length-(is++[i72]).length,by simp;omega,is++[i72],_,_,⟨rfl,rfl,rfl,rfl,rfl,trivial⟩,(BL (n:=b) (l:=l) (r:=⟨oi[i72].1,A,some X⟩) (Pi [7,1,6] E)).sub aS,t.next P z M _ rfl,rfl⟩
       .
         obtain⟨Z,elK⟩:=H K;rw[Z]at E;replace E:=(E.pure (t.done elK));replace E:=E.Nr (by first|exact .a2|exact .au);refine eA 1 E λw E=>?_;refine PD ?_;refine PD ?_;refine QP ?_;refine rT (vX _ _ _ ?_);refine xu λD e=>?_;refine eA 1 E ?_;refine aC 6 6 (eX [0,1,2,3,4,5] (.one 6 .nil)) [] λw E=>?_;refine nH rfl (gF (k:=(⟨0⟩:eL)) (v:=(some b)) (hm:=([(⟨0⟩,(some b))]:List (eL×(Option Nat)))) E .iG rfl rfl rfl (by simp[oC]) (tH .iG λw E=>(t7 8 E λw E=>?_)));refine Lx ?_;refine jH results264 (E.pick .Y) (λw E=>?_);refine⟨_,(.hB rfl .nil),?_⟩;exact⟨i,b,oi,eZ,l,rfl,(tN [2,3] E)⟩
end
section
open Go.Proofs Tryz
variable{S:List eH}{l n q nb oy r:Nat}{s:ec}{w w0 ea:World}
@[irreducible] def b8 (q n:Nat) (o:Option ec):eH:=
 match o with
 |none=>hC [B q #[eF] 470]
 |some s=>hC [B q #[s.v] 470,V s.v 472 ([⟨some n⟩]:List im)]
theorem BP:U w0 (b8 q n none::S) w↔U w0 (B q #[eF] 470::S) w:=by
 unfold b8;exact⟨λh=>h.de,λh=>U.closed (l:=[B q #[eF] 470]) h⟩
theorem BG:U w0 (b8 q n (some s)::S) w↔U w0 (B q #[s.v] 470::V s.v 472 ([⟨some n⟩]:List im)::S) w:=by
 unfold b8;exact⟨λh=>h.de,λh=>U.closed (l:=[B q #[s.v] 470,V s.v 472 ([⟨some n⟩]:List im)]) h⟩
structure elX where
 oM:Nat
 s:ec
theorem BW:eJ 267 #[tA r] w0 (λu w'=>∃(eE:Nat),u= .func (.func 317) #[] #[N eE]/\U w0 [B eE #[tA r] 391] w'):=by
 refine eN 14 (eY _) func267 ntmps267 results267 rfl λni w E=>?_;exact⟨ni,rfl,E⟩
theorem elJ(eC:U ea (B nb #[tA r] 391::tM r ip ([]:List (eL×(Option Nat)))::S) w0):eJ 317 #[.func (.yield l) #[] #[],N nb] w0 (λu w'=>u= .tuple #[]/\U ea (B nb #[tA r] 391::tM r ip ([]:List (eL×(Option Nat)))::S) w'):=by
 refine eN 3 eC func317 ntmps317 results317 rfl λw E=>?_;refine et (J.range (tn:=eL) E .G rfl ?_);intro b w E;replace E:=E _ .G;refine ey 3 E λw E=>?_;refine ek.loop (λq f w=>∃is:List Nat,oV [(0,.func (.yield l) #[] #[]),(6,N b)] f/\U ea (B nb #[tA r] 391::ld b r ip ([]:List (eL×(Option Nat))) is::S) w/\q=0) (0) ?_ ?_
 .
   exact⟨[],⟨rfl,rfl,trivial⟩,E,rfl⟩
 .
   rintro q f w ⟨is,c,E,p⟩;refine il _ c (λg=>?_);clear c;refine eA 2 E λw E=>?_;refine et (jb E .G rfl ?_);intro s d e w h i j E;replace E:=E _ .G;refine et (J.extract rfl h (ey 3 E<|na 0 0 (λa k w E=>?_) (λa k w E=>?_)))
   .
     obtain⟨i7,t,m,n,rfl⟩:=j a;exact absurd n (by simp)
   .
     obtain⟨o,v⟩:=i a;rw[o]at E;replace E:=E.Nr (by first|exact .G|exact .em);refine eA 5 E λw E=>?_;exact⟨rfl,E⟩
theorem el1(m:∀(oM:Nat)(W:World),U ea (b8 oy n none::B nb #[tA r] 391::ld oM r ip ([(⟨0⟩,(some n))]:List (eL×(Option Nat))) [0]::S) W->YieldAt Fence.wide 0 prog l #[N n] W (λe p=>e= .returned (.bool true)/\∃s:ec,U ea (b8 oy n (some s)::B nb #[tA r] 391::ld oM r ip ([(⟨0⟩,(some n))]:List (eL×(Option Nat))) [0]::S) p))(eC:U ea (b8 oy n none::B nb #[tA r] 391::tM r ip ([(⟨0⟩,(some n))]:List (eL×(Option Nat)))::S) w0):eJ 317 #[.func (.yield l) #[] #[],N nb] w0 (λu w'=>∃(eE:Nat)(tt:ec),u= .tuple #[]/\U ea (b8 oy n (some tt)::B nb #[tA r] 391::ld eE r ip ([(⟨0⟩,(some n))]:List (eL×(Option Nat))) [0]::S) w'):=by
 refine eN 3 eC func317 ntmps317 results317 rfl λw E=>?_;refine et (J.range (tn:=eL) E .Y rfl ?_);intro a w E;replace E:=E _ .Y;refine ey 3 E λw E=>?_;refine ek.loop (λq f w=>∃(o:Option ec)(is:List Nat),oV [(0,.func (.yield l) #[] #[]),(6,N a)] f/\U ea (b8 oy n o::B nb #[tA r] 391::ld a r ip ([(⟨0⟩,(some n))]:List (eL×(Option Nat))) is::S) w/\((o=none/\is=[])∨(∃s,o=some s/\is=[0]))/\q=1-is.length) (1) ?_ ?_
 .
   exact⟨none,[],⟨rfl,rfl,trivial⟩,E,.inl ⟨rfl,rfl⟩,rfl⟩
 .
   rintro q f w ⟨o,is,d,E,j,t⟩;refine il _ d (λg=>?_);clear d;refine eA 2 E λw E=>?_;refine et (jb E .Y rfl ?_);intro L x y w z A C E;replace E:=E _ .Y;refine et (J.extract rfl z (ey 3 E<|na 0 0 (λc D w E=>?_) (λc D w E=>?_)))
   .
     obtain⟨i7,F,G,k,rfl⟩:=C c;obtain⟨e1,b⟩:o=none/\is=[]:=by
      rcases j with h|⟨s,_,h⟩
      .exact h
      rw[h]at k;simp at k
     have H:i7=0:=by simpa using F
     rw[e1,b,H]at E;refine eA 5 E λw E=>?_;refine et (jv (i:=0) (E.wx .Y) Nat.zero_lt_one rfl (ey 5 E λw E=>?_));refine zc ?_;show oH none 0 _ _ _ [] _ [0,1,2,3] _ _;refine oH.op rfl rfl (by simp) (J.opI (oI (v:=.func (.yield l) #[] #[]) rfl ?_));refine oH.op rfl rfl (by simp) (J.opI (oI (v:=N n) rfl ?_));refine oH.op rfl rfl (by simp) (opI.yield (R':=λw'=>∃s:ec,U ea (b8 oy n (some s)::B nb #[tA r] 391::ld a r ip ([(⟨0⟩,(some n))]:List (eL×(Option Nat))) [0]::S) w') rfl rfl (m a _ E) ?_);rintro w ⟨s,E⟩;refine oH.op rfl rfl (by simp) (J.opI (J.not rfl ?_));refine oH.nil ?_;refine s6 5 E λw E=>?_;exact⟨0,by rw[t,b];decide,some s,[0],⟨rfl,rfl,trivial⟩,E,.inr ⟨s,rfl,rfl⟩,rfl⟩
   .
     obtain⟨I,K⟩:=A c;rw[I]at E;obtain⟨s,e1,b⟩:∃s,o=some s/\is=[0]:=by
      rcases j with⟨_,h⟩|h
      .have:=K 0 Nat.zero_lt_one;rw[h]at this;simp at this
      exact h
     rw[e1,b]at E;refine eA 5 E λw E=>?_;exact⟨a,s,rfl,E⟩
theorem el2(eC:U ea (B nb #[tA r] 391::tM r ip ([]:List (eL×(Option Nat)))::S) w0):eJ 362 #[eF,.func (.func 317) #[] #[N nb]] w0 (λu w'=>u=eF/\U ea (B nb #[tA r] 391::tM r ip ([]:List (eL×(Option Nat)))::S) w'):=by
 refine jL (args:=[eF,.func (.func 317) #[] #[N nb]]) func362 rfl ntmps362 rfl ?_;have E:=eC;replace E:=E.jR;refine oq.seq (λg c=>?_);refine oq.of λD a=>?_;refine eA 4 E λao w E=>?_;refine rT (c _ _ _ ?_);refine oq.seq (λi d=>?_);refine oq.seq (λj e=>?_);refine oq.of λD a=>?_;refine eA 3 E λw E=>?_;refine rT (e _ _ _ ?_);replace E:=E.pick .G;refine Lj (oN:=[N nb]) (λ_=>False) (λt:Nat=>B ao #[eF] 470::B nb #[tA r] 391::tM r ip ([]:List (eL×(Option Nat)))::S) (λt=>.pointer none) (λ_ _=>True) (λs:Nat=>B ao #[eF] 470::B nb #[tA r] 391::tM r ip ([]:List (eL×(Option Nat)))::S) (λ_=>True) rfl rfl rfl E (λl b w E _=>(elJ ((E.pick .Y).pick .Y)).mono λ_ _ h=>⟨0,trivial,h.2.pick .Y⟩) ?_ ?_
 .
   intro S1 b t w f E
   letI:lb:=vl
   replace E:U ea (B ao #[eF] 470::B nb #[tA r] 391::tM r ip ([]:List (eL×(Option Nat)))::(S++b)) w:=E;exact f.elim
 .
   intro k w s m E;refine rT (d _ _ _ ?_);refine oq.of λD a=>?_;refine eA 7 E λw E=>?_;refine jH results362 E (λw E=>?_);refine⟨_,(.w9 (v:=eF) rfl .nil),?_⟩;exact⟨rfl,(tN [0] E)⟩
theorem el3(eC:U ea (B nb #[tA r] 391::tM r ip ([(⟨0⟩,(some n))]:List (eL×(Option Nat)))::S) w0):eJ 362 #[eF,.func (.func 317) #[] #[N nb]] w0 (λu w'=>∃(eE:ec),u=eE.v/\U ea (V eE.v 472 ([⟨some n⟩]:List im)::B nb #[tA r] 391::tM r ip ([(⟨0⟩,(some n))]:List (eL×(Option Nat)))::S) w'):=by
 refine jL (args:=[eF,.func (.func 317) #[] #[N nb]]) func362 rfl ntmps362 rfl ?_;have E:=eC;replace E:=E.jR;refine oq.seq (λp h=>?_);refine oq.of λD c=>?_;refine eA 4 E λao w E=>?_;refine rT (h _ _ _ ?_);refine oq.seq (λq i=>?_);refine oq.seq (λy j=>?_);refine oq.of λD c=>?_;refine eA 3 E λw E=>?_;refine rT (j _ _ _ ?_);replace E:=E.pick .G;refine Lj (oN:=[N nb]) (λ_=>True) (λt:Nat=>B ao #[eF] 470::B nb #[tA r] 391::ld t r ip ([(⟨0⟩,(some n))]:List (eL×(Option Nat))) [0]::S) (λt=>N n) (λt s=>s.oM=t) (λs:elX=>B ao #[s.s.v] 470::V s.s.v 472 ([⟨some n⟩]:List im)::B nb #[tA r] 391::ld s.oM r ip ([(⟨0⟩,(some n))]:List (eL×(Option Nat))) [0]::S) (λ_=>True) rfl rfl rfl E (λl d w E f=>(el1 (λoM W b=>(f oM W trivial (BP.1 b)).mono λe z⟨k,s,m,g⟩=>⟨k,s.s,BG.2 (by rw[m]at g;exact g)⟩) (BP.2 E)).mono λ_ _⟨oM,s,_,b⟩=>⟨⟨oM,s⟩,trivial,BG.1 b⟩) ?_ ?_
 .
   intro S1 d t w f E
   letI:lb:=vl
   replace E:U ea (B ao #[eF] 470::B nb #[tA r] 391::ld t r ip ([(⟨0⟩,(some n))]:List (eL×(Option Nat))) [0]::(S++d)) w:=E;refine ny.blockQ ?_;refine ny.region ?_;show oH (some _) 0 _ _ _ [] _ [0,1,2,3,4] _ _;refine oH.op rfl rfl (by simp) (J.opI (ag (v:=eF) rfl (E.a6 .em rfl) ?_));refine oH.op rfl rfl (by simp) (J.opI (oI (v:=N n) rfl ?_));refine oH.op rfl rfl (by simp) (J.opI (n7 E ([⟨some n⟩]:List im) [N n] rfl rfl rfl rfl (by decide) ?_));intro A w _ E;refine oH.op rfl rfl (by simp) (J.opI (h3 (α:=im) rfl E rfl (E.eu .em) aj (by simp[maxLen];try omega) ?_));intro a w _ E;refine jx rfl (by simp) (J.opI (iU (v:=a.v) (iA:=#[a.v]) E rfl rfl .Y rfl (Nat.le_of_ble_eq_true rfl) (O.one (α:=ec) a) rfl (tH .Y λw E=>?_)));refine oH.nil ?_;refine s6 1 E λw E=>?_;exact⟨⟨t,a⟩,rfl,(E.pick .Y).sub (.cons₂ _ (.cons₂ _ (.cons _ (List.Sublist.refl _))))⟩
 .
   intro C w s F E;obtain⟨aM,o⟩:∃x,x=s.s:=⟨_,rfl⟩;rw[<-o]at E;replace E:=E.Nr (by first|exact .e8|exact .ej);refine rT (i _ _ _ ?_);refine oq.of λD c=>?_;refine eA 7 E λw E=>?_;refine jH results362 E (λw E=>?_);refine⟨_,(.w9 (v:=aM.v) rfl .nil),?_⟩;exact⟨aM,rfl,(tN [0] E)⟩
variable{p tj tZ u1:Nat}{q:Int}
theorem eda(eC:U ea (B nb #[tA r] 391::tM r ip ([]:List (eL×(Option Nat)))::S) w0):eJ 315 #[.func (.func 317) #[] #[N nb]] w0 (λu w'=>u=eF/\U ea (B nb #[tA r] 391::tM r ip ([]:List (eL×(Option Nat)))::S) w'):=by
 refine eN 8 eC func315 ntmps315 results315 rfl λw E=>?_;refine ev 5 E (el2 (Pi [1,1] E)) λw E=>?_;exact⟨rfl,E⟩
theorem edo:tS 384 #[eF,i6 0,i6 0,.func (.func 268) #[] #[]] w0 (.tuple #[]):=by
 refine eN 8 (eY _) func384 ntmps384 results384 rfl λw E=>?_;refine oL 40 (oc.step ?_);refine eA 5 E ?_;refine eU false 8 λw E=>?_;exact⟨rfl,E.ee⟩
theorem edi:tS 363 #[eF,i6 0,i6 0,i6 0,.func (.func 268) #[] #[]] w0 (.tuple #[]):=by
 refine eN 11 (eY _) func363 ntmps363 results363 rfl λw E=>?_;refine oL 40 (oc.step ?_);refine eA 13 E ?_;refine eU true 9 λw E=>?_;refine ev 8 E (edo) λw E=>?_;exact⟨rfl,E.ee⟩
theorem edn:tS 316 #[eF,.func (.func 268) #[] #[]] w0 (.tuple #[]):=by
 refine eN 12 (eY _) func316 ntmps316 results316 rfl λw E=>?_;refine ev 1 E (YR) λw E=>?_;refine ev 2 E (edi) λw E=>?_;exact⟨rfl,E.ee⟩
theorem eds(eC:U ea (B nb #[tA r] 391::tM r ip ([]:List (eL×(Option Nat)))::S) w0):eJ 266 #[.func (.func 317) #[] #[N nb],.func (.func 268) #[] #[]] w0 (λu w'=>u=eF/\U ea (B nb #[tA r] 391::tM r ip ([]:List (eL×(Option Nat)))::S) w'):=by
 refine eN 8 eC func266 ntmps266 results266 rfl λw E=>?_;refine ev 7 E (eda (Pi [1,1] E)) λw E=>?_;refine ev 10 E (edn) λw E=>?_;exact⟨rfl,E⟩
theorem edr(eC:U ea (B nb #[tA r] 391::tM r ip ([(⟨0⟩,(some n))]:List (eL×(Option Nat)))::S) w0):eJ 315 #[.func (.func 317) #[] #[N nb]] w0 (λu w'=>∃(eE:ec),u=eE.v/\U ea (V eE.v 472 ([⟨some n⟩]:List im)::B nb #[tA r] 391::tM r ip ([(⟨0⟩,(some n))]:List (eL×(Option Nat)))::S) w'):=by
 refine eN 8 eC func315 ntmps315 results315 rfl λw E=>?_;refine ev 5 E (el3 (Pi [1,1] E)) λa w E=>?_;exact⟨a,rfl,E⟩
theorem edl(a:ex w0 s.v ([⟨some n⟩]:List im)):tS 384 #[s.v,i6 0,i6 1,.func (.func 268) #[] #[]] w0 (.tuple #[]):=by
 refine eN 8 (eY _) func384 ntmps384 results384 rfl λw E=>?_;refine oL 40 (oc.step ?_);refine eA 5 E ?_;refine eU false 8 λw E=>?_;exact⟨rfl,E.ee⟩
theorem edd(a:ex w0 s.v ([⟨some n⟩]:List im)):tS 363 #[s.v,i6 0,i6 1,i6 1,.func (.func 268) #[] #[]] w0 (.tuple #[]):=by
 refine eN 11 (eY _) func363 ntmps363 results363 rfl λw E=>?_;refine oL 40 (oc.step ?_);refine eA 13 E ?_;refine eU true 9 λw E=>?_;refine ev 8 E (edl (a.es E.ee)) λw E=>?_;exact⟨rfl,E.ee⟩
theorem edc(a:ex w0 s.v ([⟨some n⟩]:List im)):tS 316 #[s.v,.func (.func 268) #[] #[]] w0 (.tuple #[]):=by
 have:=aL a;refine eN 12 (eY _) func316 ntmps316 results316 rfl λw E=>?_;refine ev 1 E (esW) λw E=>?_;refine ev 2 E (edd (a.es E.ee)) λw E=>?_;exact⟨rfl,E.ee⟩
theorem edu(eC:U ea (B nb #[tA r] 391::tM r ip ([(⟨0⟩,(some n))]:List (eL×(Option Nat)))::S) w0):eJ 266 #[.func (.func 317) #[] #[N nb],.func (.func 268) #[] #[]] w0 (λu w'=>∃(eE:ec),u=eE.v/\U ea (V eE.v 472 ([⟨some n⟩]:List im)::B nb #[tA r] 391::tM r ip ([(⟨0⟩,(some n))]:List (eL×(Option Nat)))::S) w'):=by
 refine eN 8 eC func266 ntmps266 results266 rfl λw E=>?_;refine ev 7 E (edr (Pi [1,1] E)) λa w E=>?_;refine ev 10 E (edc (E.eu .em)) λw E=>?_;exact⟨a,rfl,E⟩
theorem edf(eC:U ea (B p #[tA tj,tA tZ,.int .i64 q] 394::tM tj ip ([]:List (eL×(Option Nat)))::S) w0):eJ 196 #[N p] w0 (λu w'=>u=(ed.cut 0 0 0 (O.eo eL)).v/\U ea (tM tj ip ([]:List (eL×(Option Nat)))::B p #[tA tj,tA tZ,.int .i64 q] 394::S) w'):=by
 refine eN 9 eC func196 ntmps196 results196 rfl λw E=>?_;refine ev 12 E (qE (E.tb .em)) λw E=>?_;refine ev 0 E (BW) λa w E=>?_;refine ev 17 E (eds (Pi [2,1] E)) λw E=>?_;refine oL 40 (oc.step ?_);refine eA 2 E ?_;refine eU false 12 λw E=>?_;refine ev 5 E (EY (v:=ed) (xs:=([])) (ex.nil _)) λw E=>?_;exact⟨rfl,(tN [0] E)⟩
theorem edg(eC:U ea (B p #[tA tj,tA tZ,.int .i64 q] 394::tM tj ip ([(⟨0⟩,(some n))]:List (eL×(Option Nat)))::B n #[i6 0,i6 0,i6 0,i6 0,eF,tA u1] 478::S) w0):eJ 196 #[N p] w0 (λu w'=>∃(eE:ec),u=(eE.cut 0 1 1 (O.eo eL)).v/\U ea (V eE.v 3 ([⟨0⟩]:List eL)::tM tj ip ([(⟨0⟩,(some n))]:List (eL×(Option Nat)))::B p #[tA tj,tA tZ,.int .i64 q] 394::B n #[i6 0,i6 0,i6 0,i6 0,eF,tA u1] 478::S) w'):=by
 refine eN 9 eC func196 ntmps196 results196 rfl λw E=>?_;refine ev 12 E (qE (E.tb .em)) λw E=>?_;refine ev 0 E (BW) λa w E=>?_;refine ev 17 E (edu (Pi [2,1] E)) λd w E=>?_;refine oL 40 (oc.step ?_);refine eA 2 E ?_;refine eU true 21 ?_;refine eU true 9 λw E=>?_;refine rF 0 E (nB ([⟨0⟩]:List eL)) λb w E=>?_;refine et (h3 (α:=eL) rfl E rfl (E.eu .em) aj (by simp[maxLen];try omega) ?_);intro c w _ E;refine ey 12 E ?_;refine eU false 12 λw E=>?_;refine ev 5 E (EY (E.eu .em)) λw E=>?_;exact⟨c,rfl,(tN [1,2,3] E)⟩
theorem edw(a:an w0 (N p) #[tA tj,tA tZ,.int .i64 q])(e5:hV w0 tj ip ([(⟨0⟩,(some n))]:List (eL×(Option Nat))))(b:an w0 (N n) #[i6 0,i6 0,i6 0,i6 0,eF,tA u1]):tS 197 #[N p,i6 0] w0 (.tuple #[i6 0,i6 0]):=by
 refine eN 10 (eY _) func197 ntmps197 results197 rfl λw E=>?_;have:=ir a;refine ev 13 E (qE (a.es E.ee)) λw E=>?_;refine et (p4 (k:=(⟨0⟩:eL)) (z0:=none) (o:=(some (some n))) inferInstance (e5.es E.ee) rfl rfl (by simp[tL]) ?_);refine ey 7 E λw E=>?_;refine et (IW rfl rfl ?_);refine ey 2 E λw E=>?_;refine vH rfl ?_;refine eA 5 E λw E=>?_;refine et (sk rfl ?_);have:=ir b;refine ey 8 E λw E=>?_;exact⟨rfl,E.ee⟩
variable{oi:ky}{l:List pe}{cL:Nat}{dy:Int}{eZ:qz}
theorem edy(a:an w0 (N cL) #[N n]):tS 272 #[N n,N cL] w0 (.bool true):=by
 have:=ir a;refine eN 9 (eY _) func272 ntmps272 results272 rfl λw E=>?_;exact et (ft (decide_eq_true rfl) (Lr (o:=0) (di:=0) rfl rfl ⟨rfl,rfl⟩) (ey 5 E λw E=>(⟨rfl,E.ee⟩)))
theorem edb:tS 319 #[eF,.func (.func 272) #[] #[N cL]] w0 (i6 (-1)):=by
 refine eN 14 (eY _) func319 ntmps319 results319 rfl λw E=>?_;refine oL 40 (oc.step ?_);refine eA 2 E ?_;refine eU false 16 λw E=>?_;exact⟨rfl,E.ee⟩
theorem edv(a:an w0 (N cL) #[N n])(b:ex w0 s.v ([⟨some n⟩]:List im)):tS 319 #[s.v,.func (.func 272) #[] #[N cL]] w0 (i6 0):=by
 have:=aL b;refine eN 14 (eY _) func319 ntmps319 results319 rfl λw E=>?_;refine oL 40 (oc.step ?_);refine eA 2 E ?_;refine eU true 21 λw E=>?_;refine ev 16 E (edy (a.es E.ee)) λw E=>?_;exact⟨rfl,E.ee⟩
theorem edk:tS 271 #[eF,.func (.func 272) #[] #[N cL]] w0 eF:=by
 refine eN 9 (eY _) func271 ntmps271 results271 rfl λw E=>?_;refine ev 7 E (edb) ?_;refine eU true 12 λw E=>?_;exact⟨rfl,E.ee⟩
theorem edx(eC:U ea (B cL #[N n] 472::V s.v 472 ([⟨some n⟩]:List im)::S) w0):eJ 271 #[s.v,.func (.func 272) #[] #[N cL]] w0 (λu w'=>u=(s.cut 0 0 s.c (O.eo im)).v/\U ea (B cL #[N n] 472::V s.v 472 ([⟨none⟩]:List im)::S) w'):=by
 refine eN 9 eC func271 ntmps271 results271 rfl λw E=>?_;refine ev 7 E (edv (E.tb .em) (E.eu .G)) ?_;refine eU false 14 λw E=>?_;refine oL 40 (oc.step ?_);refine eA 6 E ?_;refine eU false 12 λw E=>?_;refine et (PT (α:=im) (v:=s) (xs:=([⟨some n⟩]:List im)) (l:=0) rfl (E.eu .G) rfl aj (oE (PF (α:=im) (v:=s) (zs:=([⟨none⟩]:List im)) ⟨none⟩ rfl rfl rfl E .G rfl rfl (tH .G λw E=>(ey 6 E λw E=>?_)))));refine et (zv (α:=im) (v:=s) (xs:=([⟨none⟩]:List im)) (h':=0) rfl (E.eu .G) rfl aj ?_);refine ey 5 E λw E=>?_;exact⟨rfl,E⟩
theorem edj(i:xZ oi [] eZ l)(eC:U ea (pO n l::B p #[tA tj,tA tZ,.int .i64 dy] 394::tM tj ip ([(⟨0⟩,(some n))]:List (eL×(Option Nat)))::B n #[i6 0,i6 0,i6 0,i6 0,eF,tA u1] 478::tM u1 fv oi::tM tZ ip eZ::S) w0):eJ 198 #[N p,i6 0] w0 (λu w'=>u=i6 0/\U ea (B p #[tA tj,tA tZ,.int .i64 dy] 394::tM tj ip ([]:List (eL×(Option Nat)))::S) w'):=by
 refine eN 9 eC func198 ntmps198 results198 rfl λw E=>?_;refine ev 13 E (qE (E.tb .G)) λw E=>?_;refine et (p4 (k:=(⟨0⟩:eL)) (z0:=none) (o:=(some (some n))) inferInstance (E.map .Y) rfl rfl (by simp[tL]) (ey 1 E λc w E=>(oE (iU (v:=N n) (iA:=#[N n]) E rfl rfl .em rfl (Nat.le_of_ble_eq_true rfl) (Ln _) rfl (tH .em λw E=>(ey 18 E ?_))))));refine eU false 19 λw E=>?_;refine oL 40 (oc.step ?_);refine eA 2 E ?_;refine eU false 16 λw E=>?_;refine et (J.range (tn:=(Vector UInt8 32)) E .au rfl ?_);intro d w E;replace E:=E _ .au;refine ey 3 E λw E=>?_;refine ek.loop (λq f w=>∃(is:List Nat)(l:List pe),oV [(0,N p),(1,i6 0),(5,N c),(47,N d)] f/\U ea (pO n l::B c #[N n] 472::B p #[tA tj,tA tZ,.int .i64 dy] 394::tM tj ip ([(⟨0⟩,(some n))]:List (eL×(Option Nat)))::B n #[i6 0,i6 0,i6 0,i6 0,eF,tA u1] 478::ld d u1 fv oi is::tM tZ ip eZ::S) w/\xZ oi is eZ l/\q=oi.length-is.length) (oi.length) ?_ ?_
 .
   exact⟨[],l,⟨rfl,rfl,rfl,rfl,trivial⟩,(E.pick .G).sub aS,i,rfl⟩
 .
   rintro q f w ⟨is,l,C,E,e,R⟩;refine il _ C (λg=>?_);clear C;refine eA 2 E λw E=>?_;refine et (jb E .au rfl ?_);intro H I K w j m x E;replace E:=E _ .au;refine et (J.extract rfl j (ey 3 E<|na 0 0 (λy L w E=>?_) (λy L w E=>?_)))
   .
     obtain⟨i48,a,z,M,rfl⟩:=x y;have D:=E.BD .au;obtain⟨⟨pt,b,ou⟩,hr,F,h⟩:=e i48 z _ (List.getElem?_eq_getElem a);obtain⟨no,nd,eB⟩:=List.append_of_mem hr;rw[eB]at E e;replace E:=E.elz;replace h:tL (oi[i48]).1 eZ=some (some b):=h;rcases ou with _|s
     .
       replace E:U ea (B b #[N n,eF] 482::pO n (no++nd)::B c #[N n] 472::B p #[tA tj,tA tZ,.int .i64 dy] 394::tM tj ip ([(⟨0⟩,(some n))]:List (eL×(Option Nat)))::B n #[i6 0,i6 0,i6 0,i6 0,eF,tA u1] 478::ld d u1 fv oi (is++[i48])::tM tZ ip eZ::S) w:=E;refine eA 5 E λw E=>?_;refine et (jv (E.wx .a2) a rfl (ey 2 E λlm w E=>(oE (iJ (r:=(oi[i48]).1) E rfl rfl .em (O.ez _) (tH .em λw E=>(ey 3 E ?_))))));refine aC 5 7 (eX [0,1,2,3,4,5,6] .nil) [] λw E=>?_;refine tl rfl (λw E=>p4 (k:=(((oi[i48]).1):(Vector UInt8 32))) (z0:=none) (o:=(some (some b))) inferInstance (E.map .iG) rfl rfl (h) eG) (t7 5 E ?_);refine aC 1 6 (eX [0,1,2,3,4,5] .nil) [] λw E=>?_;refine tl rfl (λw E=>sk rfl eG) ?_;refine t7 3 E λw E=>?_;refine tl rfl (λw E=>ft (decide_eq_true rfl) (Lr (o:=0) (di:=0) rfl rfl ⟨rfl,rfl⟩) eG) ?_;refine t7 5 E λw E=>?_;refine et (sk rfl ?_);refine ey 7 E λw E=>?_;refine et (sk rfl ?_);refine ey 3 E λw E=>?_;refine ev 0 E (edk) λw E=>?_;refine et (sk rfl ?_);refine ey 5 E λw E=>?_;refine⟨oi.length-(is++[i48]).length,by simp;omega,is++[i48],no++nd,⟨rfl,rfl,rfl,rfl,trivial⟩,?_,e.next D a F,rfl⟩
       (refine E.sub ?_;(repeat(first|with_reducible exact List.nil_sublist _|with_reducible exact List.Sublist.refl _|with_reducible refine List.Sublist.cons₂ _ ?_|with_reducible refine List.Sublist.cons _ ?_));done)
     .
       replace E:U ea (B b #[.pointer none,s.v] 482::V s.v 472 ([⟨some n⟩]:List im)::pO n (no++nd)::B c #[N n] 472::B p #[tA tj,tA tZ,.int .i64 dy] 394::tM tj ip ([(⟨0⟩,(some n))]:List (eL×(Option Nat)))::B n #[i6 0,i6 0,i6 0,i6 0,eF,tA u1] 478::ld d u1 fv oi (is++[i48])::tM tZ ip eZ::S) w:=E;refine eA 5 E λw E=>?_;refine et (jv (E.wx .iK) a rfl ?_);refine ey 2 E λP w E=>?_;refine oE (iJ (r:=(oi[i48]).1) E rfl rfl .em (O.ez _) (tH .em λw E=>?_));refine ey 3 E ?_;refine aC 5 7 (eX [0,1,2,3,4,5,6] .nil) [] λw E=>?_;refine tl rfl (λw E=>p4 (k:=(((oi[i48]).1):(Vector UInt8 32))) (z0:=none) (o:=(some (some b))) inferInstance (E.map .sr) rfl rfl (h) eG) ?_;refine t7 5 E ?_;refine aC 1 6 (eX [0,1,2,3,4,5] .nil) [] λw E=>?_;refine tl rfl (λw E=>sk rfl eG) ?_;refine t7 3 E λw E=>?_;refine tl rfl (λw E=>Q2 rfl rfl eG) ?_;refine t7 8 E λw E=>?_;refine et (sk rfl ?_);refine ey 3 E λw E=>?_;refine ev 0 E (edx (Pi [2,4] E)) λw E=>?_;refine et (sk rfl ?_);refine ey 5 E λw E=>?_;refine⟨oi.length-(is++[i48]).length,by simp;omega,is++[i48],no++nd,⟨rfl,rfl,rfl,rfl,trivial⟩,?_,e.next D a F,rfl⟩
       (refine(E.pick .e8).sub ?_;(repeat(first|with_reducible exact List.nil_sublist _|with_reducible exact List.Sublist.refl _|with_reducible refine List.Sublist.cons₂ _ ?_|with_reducible refine List.Sublist.cons _ ?_));done)
   .
     obtain⟨A,Q⟩:=m y;rw[A]at E;refine eA 12 E λw E=>?_;refine oE (xh (t:=391) (k:=(⟨0⟩:eL)) (hm:=([]:List (eL×(Option Nat)))) rfl E .ej rfl rfl (by simp[sp]) (tH .ej λw E=>?_));refine ey 9 E λw E=>?_;exact⟨rfl,(tN [0,1,4,5,6] E)⟩
end
end Go.Fer
