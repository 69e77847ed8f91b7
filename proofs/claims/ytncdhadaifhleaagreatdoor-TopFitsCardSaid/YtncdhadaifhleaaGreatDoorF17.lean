import Derived.Test.YtncdhadaifhleaaGreatDoorF12
import Derived.Test.YtncdhadaifhleaaGreatDoorF16
set_option linter.all false
set_option synthInstance.maxSize 100000
set_option synthInstance.maxHeartbeats 400000
set_option maxHeartbeats 8000000
set_option maxRecDepth 100000
namespace Go.Fer
open Go Go.RowKit
section
open Go.Proofs Tryz
variable{M l m n nw gZ cB y:Nat}{S:List eL}{v:Int}{w w' w0 en:World}
structure uF where
 block:Nat
 rJ:Nat
 tv:Nat
 deriving DecidableEq
def uF.parts(x:uF):List (Array Value):=[#[.int .u64 (x.block:Int)],#[.int .u64 (x.rJ:Int)],#[.int .u64 (x.tv:Int)]]
theorem ehc(x:uF):x.parts.map Array.size=[1,1,1]:=by
 simp only[uF.parts,List.map,O.eT];rfl
instance:O uF where
 enc x:=eK x.parts
 eo:=3
 pos:=by omega
 eT x:=by rw[iw,ehc];rfl
 one x:=rY (all_cons (o0 _ _) (all_cons (o0 _ _) (all_cons (o0 _ _) rB)))
theorem BI(x:uF):O.enc x=eK x.parts:=rfl
def uF.ok(w:World)(x:uF):Prop:=(x.block<=18446744073709551615)/\(x.rJ<=18446744073709551615)/\(x.tv<=18446744073709551615)
instance{x:uF}:nt x [#[.int .u64 (x.block:Int)],#[.int .u64 (x.rJ:Int)],#[.int .u64 (x.tv:Int)]]:=⟨rfl⟩
theorem ehu:pY prog 25 uF uF.ok:=by
 intro H enc w fuel cs d ps b;obtain⟨dX,i,a⟩:=I7 underlying25 inferInstance b;obtain⟨d0,j,em⟩:=a 0 _ 23 0 1 rfl rfl rfl inferInstance;obtain⟨eE,c,i0⟩:=zt inferInstance em;obtain⟨d1,k,G⟩:=a 1 _ 23 1 1 rfl rfl rfl inferInstance;obtain⟨te,e,i1⟩:=zt inferInstance G;obtain⟨d2,l,Y⟩:=a 2 _ 23 2 1 rfl rfl rfl inferInstance;obtain⟨tO,f,i2⟩:=zt inferInstance Y;have g:=fo f dX;have h:=fo e g;have lg:=fo c h;refine⟨⟨eE,te,tO⟩,?_,⟨i0,i1,i2⟩⟩;rw[BI];simp only[uF.parts,ze,yh];rw[List.drop_zero]at lg;rw[lg];try simp
structure ehm where
 E2:eu
 room:Int
 dT:Int
 dA:Int
 dO:Int
 pj:uF
 RA:Nat
 lL:Int
 ue:eu
variable{x:ehm}
instance:LK prog 92:=⟨underlying92⟩
theorem ehf(em:0<m)(th:m<18446744073709551616):hH .and .u64 (m:Int) ((m:Int) -1)=((m&&&(m-1):Nat):Int):=by
 rw[show((m:Int) -1)=((m-1:Nat):Int)from by omega];exact H4 m (m-1) th (by omega)
theorem BN(em:0<m):m&&&(m-1)<m:=Nat.lt_of_le_of_lt Nat.and_le_right (by omega)
theorem ehp{oh:Nat->Nat}(h:Tab w oh)(G:1<=n)(Y:n<=64):ci oh (uM n)=0:=by
 have key:∀m:Fin 65,1<=m.val->uM m.val≠0/\qy (uM m.val)=0:=by decide+kernel
 obtain⟨a,b⟩:=key ⟨n,by omega⟩ G;unfold ci;rw[if_neg a,b,h.t0]
structure E3 where
 m:Nat
 j:Nat
 ok:Bool
theorem ehg(oh:Nat->Nat){x:Nat}(a:Tab w0 oh)(b:x<18446744073709551616):eJ 180 #[.int .u64 (x:Int)] w0 (λu w'=>u= .int .i64 (ci oh x:Int)/\eB w0 w'):=C4 oh a b
def E3.wO(n:Nat)(oh:Nat->Nat)(t:E3):Prop:=t.m<18446744073709551616/\(t.ok=true->t.j<n)/\(t.ok=false->ci oh t.m=0)
theorem ehw:tN 321 #[.int .i64 1] w0 (.float .f64 9218868437227405312):=by
 refine eH 14 (eG _) func321 ntmps321 results321 rfl ?_;refine eP true 10 λw E=>?_;exact ea (As (vs:=[.int .u64 9218868437227405312]) (v:=.float .f64 9218868437227405312) (by kernel_rfl) rfl (ew 5 E λw E=>(⟨rfl,E.J⟩)))
theorem BS{x:Nat}:tN 367 #[.float .f64 x] w0 (.bool (zE x x)):=by
 refine eH 9 (eG _) func367 ntmps367 results367 rfl λw E=>?_;exact ea (Q8 (a:=x) (b:=x) rfl rfl (ew 5 E λw E=>(⟨rfl,E.J⟩)))
theorem ehy{x:Nat}:eJ 323 #[.float .f64 x,.float .f64 y] w0 (λu w'=>∃(eE:Bool),u= .bool eE/\eB w0 w'):=by
 refine eH 9 (eG _) func323 ntmps323 results323 rfl λw E=>?_;refine ea (Q7 (a:=x) (b:=y) rfl rfl (ew 1 E λw E=>?_));cases c:(Aq x y)with
 |true=>
  refine ew 13 E λw E=>?_;exact⟨_,rfl,E.J⟩
 |false=>
  refine ew 1 E λw E=>?_;refine ej 1 E (BS) λw E=>?_;cases d:(zE y y)with
  |true=>
   refine ew 1 E λw E=>?_;refine ej 8 E (BS) λw E=>?_;exact⟨_,rfl,E.J⟩
  |false=>
   refine ew 10 E λw E=>?_;exact⟨_,rfl,E.J⟩
theorem ehb{x:Nat}:eJ 275 #[.int .u64 (m:Int),.float .f64 x] w0 (λu w'=>∃(eE:Nat),u= .float .f64 eE/\eB w0 w'):=by
 refine eH 9 (eG _) func275 ntmps275 results275 rfl λw E=>?_;refine ea (Q6 (a:=x) (b:=0) rfl rfl (ew 3 E<|om 2 5 (λd w E=>?_) (λd w E=>?_)))
 .
   refine ej 6 E (ehw) λw E=>?_;exact⟨_,rfl,E.J⟩
 .
   refine ea (Ze (m:=(m:Int)) rfl ?_);refine ew 1 E λw E=>?_;refine ea (Q9 (a:=(NS (m:Int))) (b:=x) rfl rfl ?_);intro e w c;replace E:=E.ei c;refine ew 5 E λw E=>?_;exact⟨_,rfl,E.J⟩
theorem ehk:eJ 322 #[.int .u64 (m:Int)] w0 (λu w'=>∃(eE:Nat),u= .func (.func 366) #[] #[.pointer (some ⟨eE,0,none⟩)]/\U w0 [V eE #[.int .u64 (m:Int)] 23] w'):=by
 refine eH 14 (eG _) func322 ntmps322 results322 rfl λiZ w E=>?_;exact⟨iZ,rfl,E⟩
theorem ehx(oh:Nat->Nat)(b:Tab en oh)(G:1<=n)(Y:n<=64)(c:M=uM n)(r:∀(m j:Nat)(ok:Bool)(W:World),E3.wO n oh ⟨m,j,ok⟩ ->U en (V nw #[.int .u64 (m:Int)] 23::V cB #[.bool ok] 4::V gZ #[.int .i64 (j:Int)] 3::S) W->YieldAt Fence.wide 0 prog l #[.int .i64 (ci oh m:Int)] W (λe s=>e= .returned (.bool true)/\∃j:Nat,j<n/\U en (V nw #[.int .u64 (m:Int)] 23::V cB #[.bool true] 4::V gZ #[.int .i64 (j:Int)] 3::S) s))(t:U en (V nw #[.int .u64 (M:Int)] 23::V cB #[.bool false] 4::V gZ #[.int .i64 (0:Int)] 3::S) w0):eJ 366 #[.func (.yield l) #[] #[],.pointer (some ⟨nw,0,none⟩)] w0 (λu w'=>∃(eE:Nat)(te:Nat),u= .tuple #[]/\U en (no (te<n)::V nw #[.int .u64 (eE:Int)] 23::V cB #[.bool true] 4::V gZ #[.int .i64 (te:Int)] 3::S) w'):=by
 refine eH 1 t func366 ntmps366 results366 rfl λw E=>?_;refine ex.loop (λq f w=>∃(m j:Nat)(ok:Bool),oW [(0,.func (.yield l) #[] #[]),(1,.pointer (some ⟨nw,0,none⟩))] f/\U en (V nw #[.int .u64 (m:Int)] 23::V cB #[.bool ok] 4::V gZ #[.int .i64 (j:Int)] 3::S) w/\m<18446744073709551616/\(ok=true->j<n)/\(ok=false->m=uM n)/\q=m) (M) ?_ ?_
 .
   exact⟨M,0,false,⟨rfl,rfl,trivial⟩,E,c▸er3 Y,λh=>(by cases h),λ_=>c,rfl⟩
 .
   rintro q f w ⟨m,j,ok,d,E,th,i,o,z⟩;refine io _ d (λg=>?_);clear d;refine eI 7 E<|om 5 0 (λx w E=>?_) (λx w E=>?_)
   .
     refine zc ?_;show oN none 0 _ _ _ [] _ [0,1,2,3,4] _ _;refine oN.op rfl rfl (by simp) (Z.opI (oM (v:=.func (.yield l) #[] #[]) rfl ?_));refine oN.op rfl rfl (by simp) (Z.opI (ap (v:=.int .u64 (m:Int)) rfl (E.aV .em rfl) ?_));refine oN.op rfl rfl (by simp) (Z.opI (Z.call (ehg _ (b.ei E.J) (by first|omega|simp)) rfl ?_));rintro _ w ⟨rfl,y⟩;replace E:=E.ei y;refine oN.op rfl rfl (by simp) (opI.yield (R':=λw'=>∃j:Nat,j<n/\U en (V nw #[.int .u64 (m:Int)] 23::V cB #[.bool true] 4::V gZ #[.int .i64 (j:Int)] 3::S) w') rfl rfl (r m j ok _ ⟨th,i,λh=>by rw[o h];exact ehp b G Y⟩ (E.sub aI)) ?_);rintro w ⟨j,a,E⟩;refine oN.op rfl rfl (by simp) (Z.opI (Z.not rfl ?_));refine oN.nil ?_;refine s4 9 E ⟨iA,λw E=>?_⟩;exact ea (Z.and rfl rfl rfl (ew 3 E λw E=>(⟨m&&&(m-1),by have:=BN (m:=m) (by omega);omega,m&&&(m-1),j,true,⟨rfl,rfl,trivial⟩,(by rw[<-ehf (by omega) th];exact E.sub aI),Nat.lt_of_lt_of_le (BN (by omega)) (by omega),λ_=>a,λh=>(by cases h),rfl⟩)))
   .
     have p:ok=true:=by
      cases ok
      .have:=o rfl;have ez:uM n≠0:=by
        have key:∀k:Fin 65,1<=k.val->uM k.val≠0:=by decide+kernel
        exact key ⟨n,by omega⟩ G
       omega
      rfl
     have a:=i p;rw[p]at E;replace E:=E.pure a;refine eI 5 E λw E=>?_;exact⟨m,j,rfl,E⟩
theorem elA(en w0:World)(S:List eL)(M:Nat)(v:eu)(ws:List dC)(oh:Nat->Nat)(z:M=uM ws.length)(eM:ev en v.v ws)(A:Tab en oh)(G:1<=ws.length)(Y:ws.length<=64)(B:U en (S) w0):eJ 276 #[eb M,v.v] w0 (λu w'=>∃(eE:Nat),u= .tuple #[i6 eE,.bool true]/\U en (no (eE<ws.length)::S) w'):=by
 refine jH (args:=[eb M,v.v]) func276 rfl ntmps276 rfl ?_;have E:=B;replace E:=E.jS;refine oz.seq (λfQ C=>?_);refine oz.of λD q=>?_;refine ex.region (ea (Fc E (v:=v.v) rfl rfl ?_));intro tZ w _ E;refine ea (jh (v:=i6 0) E rfl ?_);intro aF w _ E;refine ea (jh (v:=.bool false) E rfl ?_);intro c w _ E;refine tn.nil ?_;refine rH (C _ _ _ ?_);refine oz.seq (λfZ F=>?_);refine oz.seq (λyR H=>?_);refine oz.of λD q=>?_;refine ex.region (ea (oD rfl (ea (Z.call (ehk) rfl ?_))));rintro _ w ⟨a,rfl,I⟩;replace E:=ik E I;refine tn.nil ?_;refine rH (H _ _ _ ?_);replace E:=E.pick .e6;replace E:U en (hU []::V a #[eb M] 23::V c #[.bool false] 4::V aF #[i6 0] 3::V tZ #[v.v] 22::S) w:=E.sub aI;refine LJ (oS:=[N a]) (E3.wO ws.length oh) (λt:E3=>V a #[eb t.m] 23::V c #[.bool t.ok] 4::V aF #[i6 t.j] 3::V tZ #[v.v] 22::S) (λt=>i6 (ci oh t.m:Int)) (λt s=>s.j<ws.length/\s.ok=true/\s.m=t.m) (λs:E3=>V a #[eb s.m] 23::V c #[.bool s.ok] 4::V aF #[i6 s.j] 3::V tZ #[v.v] 22::S) (λs=>s.j<ws.length/\s.ok=true) rfl rfl rfl E (λl i w E p=>(ehx (en:=en) (w0:=w) (S:=(V tZ #[v.v] 22::(S++i))) (l:=l) (nw:=a) (gZ:=aF) (cB:=c) (n:=ws.length) (M:=M) oh A G Y z (λm j ok W K o=>(p ⟨m,j,ok⟩ W K o).mono λe np⟨L,t,⟨d,P,th⟩,r⟩=>⟨L,t.j,d,(by rw[P,th]at r;exact r)⟩) E).mono λ_ _⟨m,j,_,o⟩=>⟨⟨m,j,true⟩,⟨(by have h:=o.get (e:=no (j<ws.length)) .em;rwa[mf]at h),rfl⟩,o.sub (List.sublist_cons_self _ _)⟩) ?_ ?_
 .
   intro Rw i t w p E
   letI:lH:=vu
   replace E:U en (V a #[eb t.m] 23::V c #[.bool t.ok] 4::V aF #[i6 t.j] 3::V tZ #[v.v] 22::(S++i)) w:=E;obtain⟨th,x,Q⟩:=p;obtain R:(¬ci oh t.m<ws.length/\t.ok=true)∨(ci oh t.m<ws.length/\t.ok=false)∨(ci oh t.m<ws.length/\t.ok=true):=by
    rcases b:t.ok with _|_
    .have:=Q b;exact .inr (.inl ⟨by omega,rfl⟩)
    by_cases f:ci oh t.m<ws.length
    .exact .inr (.inr ⟨f,rfl⟩)
    exact .inl ⟨f,rfl⟩
   rcases R with⟨f,b⟩|⟨f,b⟩|⟨f,b⟩
   .
     have d:=x b;rw[b]at E;refine ng.blockQ ?_;refine ng.xm (λbC T=>?_);refine LT 19 (.look 0 (.look 1 (.look 2 (.look 3 (.look 4 (.look 5 (.look 6 (.look 7 (.look 8 (.look 9 (.look 10 (.look 11 (.look 12 (.look 13 (.look 14 (.look 15 (.one 16 (.look 17 (.look 18 .nil))))))))))))))))))) (by kernel_rfl) (λ_ _ _ h=>h) (λ_ _ h=>h) (λaM k=>?_);replace E:=E.ei k;refine⟨λw=>U en (V a #[eb t.m] 23::V c #[.bool true] 4::V aF #[i6 t.j] 3::V tZ #[v.v] 22::(S++i)) w,E,?_⟩;refine tw rfl (λw E=>oD rfl eY) (tw rfl (λw E=>ap (v:=v.v) rfl (E.aV .ez rfl) eY) (tw rfl (λw E=>Z.hL (v:=v.v) (xs:=ws) rfl (eM.ei E.J) eY) (tw rfl (λw E=>gS (decide_eq_false (by omega)) (Z.lss rfl rfl ⟨rfl,rfl⟩) eY) (tw rfl (λw E=>di rfl eY) ?_))));refine wH 14 rfl rfl rfl rfl rfl rfl ?_;refine wH 14 rfl rfl rfl rfl rfl rfl ?_;refine wH 14 rfl rfl rfl rfl rfl rfl ?_;refine xi 17 rfl rfl rfl rfl rfl rfl ?_;refine xi 17 rfl rfl rfl rfl rfl rfl ?_;refine xi 17 rfl rfl rfl rfl rfl rfl ?_;refine xi 17 rfl rfl rfl rfl rfl rfl ?_;refine xi 17 rfl rfl rfl rfl rfl rfl ?_;refine xi 17 rfl rfl rfl rfl rfl rfl ?_;refine xi 17 rfl rfl rfl rfl rfl rfl ?_;refine xi 17 rfl rfl rfl rfl rfl rfl ?_;refine Q5 17 (E) rfl rfl rfl rfl rfl rfl ?_;refine wH 14 rfl rfl rfl rfl rfl rfl ?_;refine tw rfl (λw E=>m9 rfl rfl eY) (e3.nil (aE (T _ _ ?_)));refine Zi rfl ?_;refine ng.skip ?_;exact m7 (⟨⟨t.m,t.j,true⟩,⟨d,rfl,rfl⟩,E⟩)
   .
     rw[b]at E;refine ng.blockQ ?_;refine ng.xm (λbU X=>?_);refine LT 19 (.look 0 (.look 1 (.look 2 (.look 3 (.look 4 (.look 5 (.look 6 (.look 7 (.look 8 (.look 9 (.look 10 (.look 11 (.look 12 (.look 13 (.look 14 (.look 15 (.one 16 (.look 17 (.look 18 .nil))))))))))))))))))) (by kernel_rfl) (λ_ _ _ h=>h) (λ_ _ h=>h) (λaM k=>?_);replace E:=E.ei k;refine⟨λw=>U en (V a #[eb t.m] 23::V c #[.bool false] 4::V aF #[i6 t.j] 3::V tZ #[v.v] 22::(S++i)) w,E,?_⟩;refine tw rfl (λw E=>oD rfl eY) (tw rfl (λw E=>ap (v:=v.v) rfl (E.aV .ez rfl) eY) (tw rfl (λw E=>Z.hL (v:=v.v) (xs:=ws) rfl (eM.ei E.J) eY) (tw rfl (λw E=>pG (decide_eq_true (by omega)) (Z.lss rfl rfl ⟨rfl,rfl⟩) eY) (tw rfl (λw E=>di rfl eY) ?_))));refine cL 14 rfl rfl rfl rfl rfl rfl (λw E=>(by have E:U en _ w:=E;exact ap (v:=.bool false) rfl (E.aV .G rfl) ⟨rfl,rfl⟩)) ?_;refine cL 14 rfl rfl rfl rfl rfl rfl (λw E=>Z.not rfl ⟨rfl,rfl⟩) ?_;refine cL 14 rfl rfl rfl rfl rfl rfl (λw E=>di rfl ⟨rfl,rfl⟩) ?_;refine wH 17 rfl rfl rfl rfl rfl rfl ?_;refine wH 17 rfl rfl rfl rfl rfl rfl ?_;refine wH 17 rfl rfl rfl rfl rfl rfl ?_;refine wH 17 rfl rfl rfl rfl rfl rfl ?_;refine wH 17 rfl rfl rfl rfl rfl rfl ?_;refine wH 17 rfl rfl rfl rfl rfl rfl ?_;refine wH 17 rfl rfl rfl rfl rfl rfl ?_;refine wH 17 rfl rfl rfl rfl rfl rfl ?_;refine QS 17 (E) rfl rfl rfl rfl rfl rfl ?_;refine cL 14 rfl rfl rfl rfl rfl rfl (λw E=>m9 rfl rfl ⟨rfl,rfl⟩) ?_;refine tw rfl (λw E=>m9 rfl rfl eY) (e3.nil (aE (X _ _ ?_)));refine Zo rfl ?_;refine ng.region ?_;show oN (some _) 0 _ _ _ [] _ [0,1,2] _ _;refine oN.op rfl rfl (by simp) (Z.opI (oD rfl ?_));refine jx rfl (by simp) (Z.opI (iU (v:=i6 (ci oh t.m:Int)) (iR:=#[i6 (ci oh t.m:Int)]) E rfl rfl .Y rfl (Nat.le_of_ble_eq_true rfl) (o0 _ _) rfl (tA .Y λw E=>?_)));refine jx rfl (by simp) (Z.opI (iU (v:=.bool true) (iR:=#[.bool true]) E rfl rfl .G rfl (Nat.le_of_ble_eq_true rfl) (O.one (α:=Bool) _) rfl (tA .G λw E=>?_)));refine oN.nil ?_;exact m7 (⟨⟨t.m,ci oh t.m,true⟩,⟨f,rfl,rfl⟩,E⟩)
   .
     have d:=x b;rw[b]at E;refine ng.blockQ ?_;refine ng.xm (λwP dZ=>?_);refine LT 19 (.look 0 (.look 1 (.look 2 (.look 3 (.look 4 (.look 5 (.look 6 (.look 7 (.look 8 (.look 9 (.look 10 (.look 11 (.look 12 (.look 13 (.look 14 (.look 15 (.one 16 (.look 17 (.look 18 .nil))))))))))))))))))) (by kernel_rfl) (λ_ _ _ h=>h) (λ_ _ h=>h) (λaM k=>?_);replace E:=E.ei k;refine⟨λw=>U en (V a #[eb t.m] 23::V c #[.bool true] 4::V aF #[i6 t.j] 3::V tZ #[v.v] 22::(S++i)) w,E,?_⟩;refine tw rfl (λw E=>oD rfl eY) (tw rfl (λw E=>ap (v:=v.v) rfl (E.aV .ez rfl) eY) (tw rfl (λw E=>Z.hL (v:=v.v) (xs:=ws) rfl (eM.ei E.J) eY) (tw rfl (λw E=>pG (decide_eq_true (by omega)) (Z.lss rfl rfl ⟨rfl,rfl⟩) eY) (tw rfl (λw E=>di rfl eY) ?_))));refine cL 14 rfl rfl rfl rfl rfl rfl (λw E=>(by have E:U en _ w:=E;exact ap (v:=.bool true) rfl (E.aV .G rfl) ⟨rfl,rfl⟩)) ?_;refine cL 14 rfl rfl rfl rfl rfl rfl (λw E=>Z.not rfl ⟨rfl,rfl⟩) ?_;refine cL 14 rfl rfl rfl rfl rfl rfl (λw E=>di rfl ⟨rfl,rfl⟩) ?_;refine cL 17 rfl rfl rfl rfl rfl rfl (λw E=>(by have E:U en _ w:=E;exact ap (v:=v.v) rfl (E.aV .ez rfl) ⟨rfl,rfl⟩)) ?_;refine cL 17 rfl rfl rfl rfl rfl rfl (λw E=>oD rfl ⟨rfl,rfl⟩) ?_;refine cL 17 rfl rfl rfl rfl rfl rfl (λw E=>(by have E:U en _ w:=E;exact nL (α:=dC) (v:=v.v) rfl (eM.ei E.J) rfl ay ⟨rfl,rfl⟩)) ?_;refine cL 17 rfl rfl rfl rfl rfl rfl (λw E=>(by have E:U en _ w:=E;exact ap (v:=.float .f64 ws[ci oh t.m].n) rfl (((eM.ei E.J).se (show ci oh t.m<ws.length from by omega)).ax rfl) ⟨rfl,rfl⟩)) ?_;refine cL 17 rfl rfl rfl rfl rfl rfl (λw E=>(by have E:U en _ w:=E;exact ap (v:=v.v) rfl (E.aV .ez rfl) ⟨rfl,rfl⟩)) ?_;refine cL 17 rfl rfl rfl rfl rfl rfl (λw E=>(by have E:U en _ w:=E;exact ap (v:=i6 t.j) rfl (E.aV .Y rfl) ⟨rfl,rfl⟩)) ?_;refine cL 17 rfl rfl rfl rfl rfl rfl (λw E=>(by have E:U en _ w:=E;exact nL (α:=dC) (v:=v.v) rfl (eM.ei E.J) rfl ay ⟨rfl,rfl⟩)) ?_;refine cL 17 rfl rfl rfl rfl rfl rfl (λw E=>(by have E:U en _ w:=E;exact ap (v:=.float .f64 ws[t.j].n) rfl (((eM.ei E.J).se (show t.j<ws.length from by omega)).ax rfl) ⟨rfl,rfl⟩)) ?_;refine FO 17 rfl rfl rfl rfl rfl rfl (Z.call (ehy) rfl ?_);rintro _ w ⟨eyI,rfl,ed⟩;replace E:=E.ei ed;refine⟨E,?_⟩;refine cL 14 rfl rfl rfl rfl rfl rfl (λw E=>m9 rfl rfl ⟨rfl,rfl⟩) ?_;refine tw rfl (λw E=>m9 rfl rfl eY) (e3.nil (aE (dZ _ _ ?_)));refine ng.cond _ rfl (λg=>?_) (λg=>?_)
     .
       have ff:=g;have ia:=g
       try simp only[rs]at g
       refine ng.region ?_;show oN (some _) 0 _ _ _ [] _ [0,1,2] _ _;refine oN.op rfl rfl (by simp) (Z.opI (oD rfl ?_));refine jx rfl (by simp) (Z.opI (iU (v:=i6 (ci oh t.m:Int)) (iR:=#[i6 (ci oh t.m:Int)]) E rfl rfl .Y rfl (Nat.le_of_ble_eq_true rfl) (o0 _ _) rfl (tA .Y λw E=>?_)));refine jx rfl (by simp) (Z.opI (iU (v:=.bool true) (iR:=#[.bool true]) E rfl rfl .G rfl (Nat.le_of_ble_eq_true rfl) (O.one (α:=Bool) _) rfl (tA .G λw E=>?_)));refine oN.nil ?_;exact m7 (⟨⟨t.m,ci oh t.m,true⟩,⟨f,rfl,rfl⟩,E⟩)
     .
       have ff:=g;have ia:=g
       try simp only[rs]at g
       refine ng.skip ?_;exact m7 (⟨⟨t.m,t.j,true⟩,⟨d,rfl,rfl⟩,E⟩)
 .
   intro EV w s UI E;obtain⟨d,aO⟩:=UI;obtain⟨j,y⟩:∃j,j=s.j:=⟨_,rfl⟩;rw[<-y]at d;rw[<-y,aO]at E;replace E:=(E.pure d).pick .G;refine rH (F _ _ _ ?_);refine xu λD q=>?_;refine ex.seq (λyH ck=>?_);refine nV 0 4 (e5 [0,1] (oJ [2,3] .nil)) [] E λw E=>?_;refine tw rfl (λw E=>ap (v:=i6 j) rfl (E.aV .e6 rfl) eY) (tw rfl (λw E=>ap (v:=.bool true) rfl (E.aV .ez rfl) eY) ?_);refine n5 rfl rfl (iU (v:=i6 j) (iR:=#[i6 j]) E rfl rfl .e6 rfl (Nat.le_of_ble_eq_true rfl) (o0 _ _) rfl (tA .e6 λw E=>?_));refine⟨E,?_⟩;refine n5 rfl rfl (iU (v:=.bool true) (iR:=#[.bool true]) E rfl rfl .ez rfl (Nat.le_of_ble_eq_true rfl) (O.one (α:=Bool) _) rfl (tA .ez λw E=>?_));refine⟨E,?_⟩;refine e3.nil (aE (ck _ _ ?_));refine ex.ret ?_;refine LX ?_;refine jR results276 E (λw E=>?_);refine⟨_,(.cell (E.aV .ez rfl) (.cell (E.aV .Y rfl) .nil)),?_⟩;exact⟨j,rfl,(tF [1,2,3,4] E)⟩
variable{a b:Vector UInt8 32×Int}{i oC j p o4 tD t6:Nat}{is:List Nat}{q:Int}{kh:Bool}{x:Value}
abbrev fb(n:Int):Value:=.int .i64 n
structure pa where
 k:Vector UInt8 32
 b:Nat
 ou:Option eu
variable{l iG iY:List pa}{r:pa}
def pa.qz(n:Nat)(r:pa):List eL:=
 match r.ou with
 |none=>[V r.b #[N n,eF] 482]
 |some s=>[V r.b #[.pointer none,s.v] 482,B s.v 472 ([⟨some n⟩]:List il)]
@[irreducible] def pq (n:Nat) (l:List pa):eL:=hD (l.flatMap (pa.qz n))
theorem U.elO(h:U w0 S w):U w0 (pq n []::S) w:=by unfold pq;exact U.closed (l:=[]) h
theorem Vt(h:U w0 (r.qz n++(pq n l::S)) w):U w0 (pq n (r::l)::S) w:=by
 unfold pq at h⊢;rw[List.flatMap_cons];refine U.closed ?_;have G:U w0 (hD (l.flatMap (pa.qz n))::(r.qz n++S)) w:=h.hK List.perm_middle;have Y:=G.dr;refine Y.hK ?_;rw[<-List.append_assoc];exact List.Perm.append_right S List.perm_append_comm
theorem U.elI(h:U w0 (pq n (iG++r::iY)::S) w):U w0 (r.qz n++(pq n (iG++iY)::S)) w:=by
 unfold pq at h⊢;have G:=h.dr;rw[List.flatMap_append,List.flatMap_cons]at G;have Y:U w0 ((iG++iY).flatMap (pa.qz n)++(r.qz n++S)) w:=by
  refine G.hK ?_;rw[List.flatMap_append,List.append_assoc,List.append_assoc,List.append_assoc];refine List.Perm.append_left _ ?_;rw[<-List.append_assoc,<-List.append_assoc];exact List.Perm.append_right S List.perm_append_comm
 exact(U.closed Y).hK List.perm_middle.symm
abbrev kw:=List (Vector UInt8 32×Int)
variable{ih eS:kw}
abbrev qE:=List (Vector UInt8 32×Option Nat)
variable{e7:qE}
def yX(ih:kw)(is:List Nat)(e7:qE)(l:List pa):Prop:=
 (∀k,tR k e7≠none->∃j∈is,∃e,ih[j]? =some e/\e.1=k)/\(∀j∈is,∀e,ih[j]? =some e->∃r∈l,r.k=e.1/\tR e.1 e7=some (some r.b))
def xJ(ih:kw)(is:List Nat)(e7:qE)(l:List pa):Prop:=∀j,j∉is->∀e,ih[j]? =some e->∃r∈l,r.k=e.1/\tR e.1 e7=some (some r.b)
theorem yX.zero(ih:kw):yX ih [] [] []:=⟨λk h=>(h rfl).elim,λj a=>by cases a⟩
theorem UN(h:(ih.map Prod.fst).Nodup)(ep:ih[i]? =some a)(c:ih[j]? =some b)(e:a.1=b.1):i=j:=by
 obtain⟨ey,ep⟩:=List.getElem?_eq_some_iff.1 ep;obtain⟨f,c⟩:=List.getElem?_eq_some_iff.1 c;subst ep;subst c;rw[List.nodup_iff_pairwise_ne,List.pairwise_iff_getElem]at h;rcases Nat.lt_trichotomy i j with d|g|d
 .exact(h i j (by simpa using ey) (by simpa using f) d (by simpa using e)).elim
 .exact g
 exact(h j i (by simpa using f) (by simpa using ey) d (by simpa using e.symm)).elim
theorem yX.fresh(h:yX ih is e7 l)(a:(ih.map Prod.fst).Nodup)(ey:i<ih.length)(b:i∉is):tR (ih[i].1) e7=none:=by
 refine Decidable.byContradiction λc=>?_;obtain⟨j,d,e,f,g⟩:=h.1 _ c;have:=UN a f (List.getElem?_eq_getElem ey) g;exact b (this▸d)
theorem yX.next(h:yX ih is e7 l)(m:(ih.map Prod.fst).Nodup)(ey:i<ih.length)(n:i∉is)(r:pa)(o:r.k=ih[i].1):yX ih (is++[i]) (oH (ih[i].1) (some r.b) e7) (r::l):=by
 refine⟨λk d=>?_,λj a e c=>?_⟩
 .rw[mI]at d;by_cases g:k=ih[i].1
  .exact⟨i,by simp,_,List.getElem?_eq_getElem ey,g.symm⟩
  rw[if_neg g]at d;obtain⟨j,a,e,c,f⟩:=h.1 k d;exact⟨j,List.mem_append_left _ a,e,c,f⟩
 rw[mI];rcases List.mem_append.1 a with a|a
 .obtain⟨q,p,s,t⟩:=h.2 j a e c;refine⟨q,List.mem_cons_of_mem _ p,s,?_⟩;rw[if_neg,t];intro u;have:=UN m c (List.getElem?_eq_getElem ey) u;exact n (this▸a)
 rw[List.mem_singleton]at a;subst a;rw[List.getElem?_eq_getElem ey]at c;injection c with c;subst c;exact⟨r,List.mem_cons_self,o,by rw[if_pos rfl]⟩
theorem yX.done(h:yX ih is e7 l)(ep:∀i,i<ih.length->i∈is):xJ ih [] e7 l:=λj _ e a=>h.2 j (ep j (List.getElem?_eq_some_iff.1 a).1) e a
theorem xJ.next(h:xJ ih is e7 (iG++r::iY))(f:(ih.map Prod.fst).Nodup)(ey:i<ih.length)(g:r.k=ih[i].1):xJ ih (is++[i]) e7 (iG++iY):=by
 intro j b e c;rw[List.mem_append,List.mem_singleton,not_or]at b;obtain⟨q,a,d,l⟩:=h j b.1 e c;refine⟨q,?_,d,l⟩;rcases List.mem_append.1 a with a|a
 .exact List.mem_append_left _ a
 rcases List.mem_cons.1 a with rfl|a
 .exact(b.2 (UN f c (List.getElem?_eq_getElem ey) (d.symm.trans g))).elim
 exact List.mem_append_right _ a
theorem U.Va{r:Nat}{ti:Int->Value}(E:U w0 S w)(a:tX (lm oC r ti eS is) S):(eS.map Prod.fst).Nodup:=by
 obtain⟨_,b,c,_,th,_⟩:=E.wz a;exact th.2.2
theorem elS:eJ 129 #[] w0 (λu w'=>∃(eE:Nat)(te:Nat)(tO:Nat),u=N tO/\U w0 [V tO #[tz eE,tz te,i6 0] 394,tW te ic ([]:List ((Vector UInt8 32)×(Option Nat))),tW eE ic ([]:List (eU×(Option Nat)))] w'):=by
 refine eH 7 (eG _) func129 ntmps129 results129 rfl λw E=>?_;refine ea (Z.makeMap eU ic E ?_);intro tD w _ E;refine ea (Z.makeMap (Vector UInt8 32) ic E ?_);intro t6 w _ E;refine ag 6 E (ud (#[tz tD,tz t6,i6 0])) λaF w E=>?_;exact⟨tD,t6,aF,rfl,E⟩
theorem qT(a:ar w0 (N p) #[tz tD,tz t6,.int .i64 q]):tN 265 #[N p] w0 (.bool true):=by
 have:=iu a;refine eH 21 (eG _) func265 ntmps265 results265 rfl λw E=>?_;exact⟨rfl,E.J⟩
theorem Vo(a:ar w0 (N p) #[tz tD,tz t6,.int .i64 q])(th:hV w0 tD ic ([]:List (eU×(Option Nat)))):tN 261 #[N p] w0 (i6 0):=by
 refine eH 9 (eG _) func261 ntmps261 results261 rfl λw E=>?_;have:=iu a;refine ej 12 E (qT (a.ei E.J)) λw E=>?_;exact ea (NE (n:=0) (th.ei E.J) rfl rfl (ew 5 E λw E=>(⟨rfl,E.J⟩)))
theorem elR(a:ar w0 (N p) #[tz tD,tz t6,.int .i64 q])(th:hV w0 tD ic ([(⟨0⟩,(some n))]:List (eU×(Option Nat)))):tN 261 #[N p] w0 (i6 1):=by
 refine eH 9 (eG _) func261 ntmps261 results261 rfl λw E=>?_;have:=iu a;refine ej 12 E (qT (a.ei E.J)) λw E=>?_;exact ea (NE (n:=1) (th.ei E.J) rfl rfl (ew 5 E λw E=>(⟨rfl,E.J⟩)))
theorem elH{b:Nat}(G:ar w0 (N nw) #[N b])(Y:ar w0 (N o4) #[.bool kh])(ez:ar w0 (N b) #[.pointer none,eF]):tN 361 #[x,N nw,N o4] w0 (.tuple #[]):=by
 have:=iu G;have:=iu ez;have:=iu Y;refine eH 23 (eG _) func361 ntmps361 results361 rfl<|om 3 13 (λa w E=>?_) (λa w E=>?_)
 .
   exact⟨rfl,E.J⟩
 .
   refine oU 40 (og.step ?_);refine eI 2 E ?_;refine eP false 9 λw E=>?_;exact⟨rfl,E.J⟩
theorem elL{b:Nat}:eJ 314 #[N b,.bool kh] w0 (λu w'=>∃(eE:Nat)(te:Nat),u= .func (.func 361) #[] #[N eE,N te]/\U w0 [V te #[.bool kh] 4,V eE #[N b] 480] w'):=by
 refine eH 15 (eG _) func314 ntmps314 results314 rfl λaa tZ w E=>?_;exact⟨aa,tZ,rfl,E⟩
variable{sE:List Instr}{r:aX}{xs:List UInt8}{y:nD}
theorem elD(eW:U en (V p #[tz tD,tz t6,i6 0] 394::tW tD ic ([]:List (eU×(Option Nat)))::tW t6 ic ([]:List ((Vector UInt8 32)×(Option Nat)))::az r sE xs y::S) w0):eJ 264 #[N p,i6 0,r.s5.v] w0 (λu w'=>∃(eE:Nat)(te:Nat)(tO:kw)(af:qE)(aT:(List pa)),u=i6 0/\U en (no (xJ tO [] af aT)::pq te aT::V te #[i6 0,i6 0,i6 0,i6 0,eF,tz eE] 478::tW eE fb tO::V p #[tz tD,tz t6,i6 1] 394::tW tD ic ([(⟨0⟩,(some te))]:List (eU×(Option Nat)))::tW t6 ic af::az r sE xs y::S) w'):=by
 refine jH (args:=[N p,i6 0,r.s5.v]) func264 rfl ntmps264 rfl ?_;have E:=eW;replace E:=E.jS;have nI:(ad y).length<=64:=by have h:=pe E .e6;omega
 refine oz.seq (λfQ h5=>?_);refine oz.of λD e=>?_;refine eI 3 E λw E=>?_;refine rH (h5 _ _ _ ?_);refine oz.seq (λfZ h6=>?_);refine oz.of λD e=>?_;refine eI 3 E λw E=>?_;refine ej 5 E (qT (E.tU .G)) λw E=>?_;refine rH (h6 _ _ _ ?_);refine oz.seq (λbC um=>?_);refine oz.of λD e=>?_;refine eI 7 E λw E=>?_;refine ea (pJ (k:=(⟨0⟩:eU)) (z0:=none) (o:=none) inferInstance (E.map .Y) rfl rfl (by simp[tR]) (ea (Lu (a:=none) rfl rfl (ew 2 E λw E=>?_))));refine xo rfl ?_;refine eI 1 E λw E=>?_;refine rH (um _ _ _ ?_);refine oz.seq (λwP dZ=>?_);refine oz.of λD e=>?_;refine eI 7 E λw E=>?_;refine ea (Z.makeMap (Vector UInt8 32) fb E ?_);intro i w _ E;refine ea (zT (c:=[i6 0,i6 0,i6 0,i6 0,eF,tz i]) [(0,i6 0),(1,i6 0),(2,i6 0),(5,tz i)] rfl (by exact lE ⟨by decide,rfl,by decide,rfl,by decide,rfl,by decide,rfl,trivial⟩) rfl (ea (br E (c:=#[i6 0,i6 0,i6 0,i6 0,eF,tz i]) rfl ?_)));intro b w _ E;refine ea (jh (v:=.pointer none) E rfl ?_);intro m w _ E;refine oA (iU (v:=N b) (iR:=#[N b]) E rfl rfl .em rfl (Nat.le_of_ble_eq_true rfl) (LI _) rfl (tA .em λw E=>(ew 1 E λw E=>?_)));refine rH (dZ _ _ _ ?_);refine oz.seq (λyH ck=>?_);refine oz.of λD e=>?_;refine eI 1 E λw E=>?_;refine ea (oM (v:=N p) rfl (ea (sS rfl (ea (o9 rfl (ea (ap (v:=i6 0) rfl (E.aV .e6 rfl) (ea (Z.add rfl rfl (show IntKind.i64.wrap (0+1)=1 from by decide) (ea (sS rfl (ea (o9 rfl (oA (iU (v:=i6 1) (iR:=#[tz tD,tz t6,i6 1]) E rfl rfl .e6 rfl (Nat.le_of_ble_eq_true rfl) (o0 _ _) rfl (tA .e6 λw E=>(ew 1 E λw E=>?_)))))))))))))))));refine rH (ck _ _ _ ?_);refine oz.seq (λxR fc=>?_);refine xu λD e=>?_;refine eI 2 E λw E=>?_;refine ea (oM (v:=r.s5.v) rfl (ea (Z.hL (v:=r.s5.v) (xs:=(ad y)) rfl (gr E .nf).2.2.1 (ea (oD rfl (ew 3 E λw E=>?_))))));refine ex.loop (λq f w=>∃(k:Nat)(oi:kw),oW [(0,N p),(1,i6 0),(7,N m),(42,r.s5.v),(43,.int .i64 ((ad y).length:Int)),(44,i6 k)] f/\U en (V m #[N b] 472::V b #[i6 0,i6 0,i6 0,i6 0,eF,tz i] 478::tW i fb oi::hU []::V p #[tz tD,tz t6,i6 1] 394::tW tD ic ([]:List (eU×(Option Nat)))::tW t6 ic ([]:List ((Vector UInt8 32)×(Option Nat)))::az r sE xs y::S) w/\k<=(ad y).length/\q=(ad y).length-k) ((ad y).length) ?_ ?_
 .
   exact⟨0,[],⟨rfl,rfl,rfl,rfl,rfl,sF,trivial⟩,E.sub aI,Nat.zero_le _,rfl⟩
 .
   rintro q f w ⟨k,oi,s,E,rU,my⟩;refine io _ s (λg=>?_);clear s;refine eI 6 E<|om 0 4 (λaJ w E=>?_) (λaJ w E=>?_)
   .
     have aj:k<(ad y).length:=by omega
     refine eI 7 E ⟨⟨ay⟩,λ_=>rL 6 λr2 w E=>?_⟩;obtain⟨B,Vi⟩:∃x,(tR ((ad y)[k].key:(Vector UInt8 32)) oi).getD 0=x:=⟨_,rfl⟩;refine vz 10 (e5 [0,1,2,3,4,5,6,7] (.one 8 (.look 9 (.one 10 .nil)))) (by kernel_rfl) (λ_ _ _ h=>h) (λaM iS=>?_);replace E:=E.ei iS;have tI:=E;refine⟨λw=>∃oi:kw,(tR ((ad y)[k].key:(Vector UInt8 32)) oi).getD 0=B/\U en (V r2 (O.enc ((ad y)[k])) 66::V m #[N b] 472::V b #[i6 0,i6 0,i6 0,i6 0,eF,tz i] 478::tW i fb oi::hU []::V p #[tz tD,tz t6,i6 1] 394::tW tD ic ([]:List (eU×(Option Nat)))::tW t6 ic ([]:List ((Vector UInt8 32)×(Option Nat)))::az r sE xs y::S) w,⟨_,Vi,E⟩,?_⟩;refine e3.look rfl rfl rfl (λw d=>(by obtain⟨oi,j,E⟩:=d;exact ap (v:=N b) rfl (E.aV .G rfl) ⟨rfl,rfl⟩)) ?_;refine e3.look rfl rfl rfl (λw d=>(by obtain⟨oi,j,E⟩:=d;exact sS rfl ⟨rfl,rfl⟩)) ?_;refine e3.look rfl rfl rfl (λw d=>(by obtain⟨oi,j,E⟩:=d;exact o9 rfl ⟨rfl,rfl⟩)) ?_;refine e3.look rfl rfl rfl (λw d=>(by obtain⟨oi,j,E⟩:=d;exact ap (v:=tz i) rfl (E.aV .Y rfl) ⟨rfl,rfl⟩)) ?_;refine e3.look rfl rfl rfl (λw d=>(by obtain⟨oi,j,E⟩:=d;exact o9 rfl ⟨rfl,rfl⟩)) ?_;refine e3.look rfl rfl rfl (λw d=>(by obtain⟨oi,j,E⟩:=d;exact ap (v:=.agg (O.enc ((ad y)[k]).key)) rfl (E.HE (o:=0) .em (AP ((ad y)[k])) pZ) ⟨rfl,rfl⟩)) ?_;refine e3.look rfl rfl rfl (λw d=>(by obtain⟨oi,j,E⟩:=d;exact vI (ti:=fb) (z0:=0) (show oG _ _ (i6 0)from inferInstance) (E.map .ez) rfl rfl j ⟨rfl,rfl⟩)) ?_;refine e3.look rfl rfl rfl (λw d=>(by obtain⟨oi,j,E⟩:=d;exact Z.add rfl rfl rfl ⟨rfl,rfl⟩)) ?_;refine ol rfl (Z.mapEntry (k:=(((ad y)[k]).key:(Vector UInt8 32))) (z0:=0) (show oG _ _ (i6 0)from inferInstance) E .ez rfl rfl ?_);intro eyN w E;replace E:=E _ .ez;refine⟨⟨_,by rw[mI,if_pos rfl];exact Vi,E.Ls .ez⟩,?_⟩;refine e3.look rfl rfl rfl (λw d=>(by obtain⟨oi,j,E⟩:=d;exact Z.extract rfl rfl ⟨rfl,rfl⟩)) ?_;refine nP rfl (Z.entryStore (k:=(((ad y)[k]).key:(Vector UInt8 32))) (v:=(IntKind.i64.wrap (B+0))) E .ez rfl rfl rfl (tA .ez λw E=>(e3.nil (s4 7 E<|om 0 8 (λnl w E=>?_) (λnl=>⟨iA,λw E=>?_⟩)))))
     .
       refine nV 6 6 (e5 [0,1,2,3,4,5] (.one 6 .nil)) [] E λw E=>?_;exact nP rfl (gG (k:=(((ad y)[k]).key:(Vector UInt8 32))) (v:=1) (hw:=(oH (((ad y)[k]).key:(Vector UInt8 32)) 1 (oH (((ad y)[k]).key:(Vector UInt8 32)) (IntKind.i64.wrap (B+0)) (oH (((ad y)[k]).key:(Vector UInt8 32)) ((tR (((ad y)[k]).key:(Vector UInt8 32)) oi).getD 0) oi)))) E .ez rfl rfl rfl rfl (tA .ez λw E=>(ao 8 E ⟨iA,λw E=>(⟨(ad y).length-(k+1),by omega,k+1,_,⟨rfl,rfl,rfl,rfl,rfl,sF,trivial⟩,E.sub aI,by omega,rfl⟩)⟩)))
     .
       exact⟨(ad y).length-(k+1),by omega,k+1,_,⟨rfl,rfl,rfl,rfl,rfl,sF,trivial⟩,E.sub aI,by omega,rfl⟩
   .
     refine zA ?_;refine rH (fc _ _ _ ?_);refine oz.seq (λSN vX=>?_);refine oz.of λD e=>?_;refine eI 4 E λsJ w E=>?_;refine rH (vX _ _ _ ?_);refine oz.seq (λSS vJ=>?_);refine oz.seq (λSR vQ=>?_);refine oz.of λD e=>?_;refine eI 5 E λw E=>?_;refine ea (Z.range (tl:=(Vector UInt8 32)) E .ez rfl ?_);intro Vn w E;replace E:=E _ .ez;refine ew 1 E λw E=>?_;refine rH (vQ _ _ _ ?_);refine oz.block ?_;refine oz.loop (λq L f w=>∃(is:List Nat)(e7:qE)(l:List pa),oW [(0,N p),(1,i6 0),(7,N m),(10,N sJ),(71,N Vn)] f/\U en (pq b l::hU L::V sJ #[i6 (-1)] 3::V m #[N b] 472::V b #[i6 0,i6 0,i6 0,i6 0,eF,tz i] 478::lm Vn i fb oi is::V p #[tz tD,tz t6,i6 1] 394::tW tD ic ([]:List (eU×(Option Nat)))::tW t6 ic e7::az r sE xs y::S) w/\yX oi is e7 l/\q=oi.length-is.length) (oi.length) ?_ ?_
     .
       exact⟨[],[],[],⟨rfl,rfl,rfl,rfl,rfl,trivial⟩,((E.pick .e6).elO (n:=b)).sub aI,yX.zero oi,rfl⟩
     .
       rintro q L f w ⟨is,e7,l,s,E,t,my⟩;refine Q0 _ s (λg=>?_);clear s;refine oz.seq (λWs A9=>?_);refine oz.of λD e=>?_;refine eI 1 E λw E=>?_;refine ea (jy E .ac rfl ?_);intro eyS eyR eyH w C F H E;replace E:=E _ .ac;refine ea (Z.extract rfl C (ew 1 E λw E=>?_));refine rH (A9 _ _ _ ?_);refine oz.seq (λelF UH=>?_);refine oz.of λD e=>?_;refine N1 0 0 E (λI cp w E=>?_) (λI cp w E=>?_)
       .
         obtain⟨i72,z,J,eyL,rfl⟩:=H I;have K:=E.Va .ac;refine eI 1 E λw E=>?_;refine rH (UH _ _ _ ?_);refine oz.block ?_;refine oz.seq (λelP UD=>?_);refine oz.of λD e=>?_;refine eI 1 E λw E=>?_;refine ea (jb (E.wz .ac) z rfl (ew 3 E λnJ w E=>(oA (iV (r:=(oi[i72]).1) E rfl rfl .em (O.eT _) (tA .em λw E=>(ew 2 E λw E=>?_))))));refine rH (UD _ _ _ ?_);refine oz.seq (λelG UC=>?_);refine oz.of λD e=>?_;refine eI 5 E λw E=>?_;refine rH (UC _ _ _ ?_);refine oz.seq (λelW Vs=>?_);refine xu λD e=>?_;refine nV 5 7 (e5 [0,1,2,3,4,5,6] .nil) [] E λw E=>?_;refine tw rfl (λw E=>pJ (k:=(((oi[i72]).1):(Vector UInt8 32))) (z0:=none) (o:=none) inferInstance (E.map .n9) rfl rfl (t.fresh K z J) eY) (ao 2 E λw E=>?_);refine zA ?_;refine rH (Vs _ _ _ ?_);refine oz.seq (λelY UU=>?_);refine xu λD e=>?_;refine eI 3 E λw E=>?_;refine ea (Nd (a:=none) rfl rfl (ew 2 E λw E=>?_));refine zb rfl ?_;refine eI 2 E λw E=>?_;refine ag 4 E (ud (#[.pointer none,eF])) λA=>?_;refine ow 6 6 (e5 [0,1,2,3,4,5] (.one 6 .nil)) [] λw E=>?_;refine nP rfl (gG (k:=(((oi[i72]).1):(Vector UInt8 32))) (v:=(some A)) (hw:=(oH (((oi[i72]).1):(Vector UInt8 32)) (some A) e7)) E .hR rfl rfl rfl rfl (tA .hR λw E=>(ao 1 E λw E=>?_)));refine zA ?_;refine rH (UU _ _ _ ?_);refine oz.seq (λeyD M=>?_);refine oz.seq (λeyC P=>?_);refine oz.of λD e=>?_;refine eI 3 E λw E=>?_;refine ej 1 E (elL) λQ R w E=>?_;refine rH (P _ _ _ ?_);replace E:=E.pick .ac;refine Gi (oS:=[N Q,N R]) rfl rfl E (λC8 C9 w E=>(elH (E.tU .G) (E.tU .em) (E.tU .Y)).mono λ_ _ h=>h.2) (λEV w E=>?_);refine rH (M _ _ _ ?_);refine xu λD e=>?_;refine eI 5 E<|om 11 0 (λT w E=>?_) (λT w E=>?_)
         .
           refine zA ?_;refine Ga ?_;refine rH ?_;exact⟨oi.length-(is++[i72]).length,by simp;omega,is++[i72],_,_,⟨rfl,rfl,rfl,rfl,rfl,trivial⟩,(Vt (n:=b) (l:=l) (r:=⟨oi[i72].1,A,none⟩) (Pi [5,4] E)).sub aI,t.next K z J _ rfl,rfl⟩
         .
           refine nV 6 7 (e5 [0,1,2,3,4,5] (oJ [6,7,8,9,10] .nil)) [] E λw E=>?_;refine bO 0 E (sL ([⟨some b⟩]:List il)) λeyU w E=>?_;refine hA rfl (hX (α:=il) rfl E rfl (E.ef .em) ay (by simp[maxLen];try omega) ?_);intro W w _ E;refine ao 4 E λw E=>?_;refine zA ?_;refine Ga ?_;refine rH ?_;exact⟨oi.length-(is++[i72]).length,by simp;omega,is++[i72],_,_,⟨rfl,rfl,rfl,rfl,rfl,trivial⟩,(Vt (n:=b) (l:=l) (r:=⟨oi[i72].1,A,some W⟩) (Pi [7,1,6] E)).sub aI,t.next K z J _ rfl,rfl⟩
       .
         obtain⟨X,el0⟩:=F I;rw[X]at E;replace E:=(E.pure (t.done el0));replace E:=E.NR (by first|exact .aW|exact .ac);refine eI 1 E λw E=>?_;refine Gt ?_;refine Gt ?_;refine QZ ?_;refine rH (vJ _ _ _ ?_);refine xu λD e=>?_;refine eI 1 E ?_;refine ow 6 6 (e5 [0,1,2,3,4,5] (.one 6 .nil)) [] λw E=>?_;refine nP rfl (gG (k:=(⟨0⟩:eU)) (v:=(some b)) (hw:=([(⟨0⟩,(some b))]:List (eU×(Option Nat)))) E .nE rfl rfl rfl (by simp[oH]) (tA .nE λw E=>(ao 8 E λw E=>?_)));refine LX ?_;refine jR results264 (E.pick .Y) (λw E=>?_);refine⟨_,(.hB rfl .nil),?_⟩;exact⟨i,b,oi,e7,l,rfl,(tF [2,3] E)⟩
end
section
open Go.Proofs Tryz
variable{S:List eL}{l n q nw o4 r:Nat}{s:eu}{w w0 en:World}
@[irreducible] def va (q n:Nat) (o:Option eu):eL:=
 match o with
 |none=>hD [V q #[eF] 470]
 |some s=>hD [V q #[s.v] 470,B s.v 472 ([⟨some n⟩]:List il)]
theorem Vr:U w0 (va q n none::S) w↔U w0 (V q #[eF] 470::S) w:=by
 unfold va;exact⟨λh=>h.dr,λh=>U.closed (l:=[V q #[eF] 470]) h⟩
theorem Vh:U w0 (va q n (some s)::S) w↔U w0 (V q #[s.v] 470::B s.v 472 ([⟨some n⟩]:List il)::S) w:=by
 unfold va;exact⟨λh=>h.dr,λh=>U.closed (l:=[V q #[s.v] 470,B s.v 472 ([⟨some n⟩]:List il)]) h⟩
structure el1 where
 oC:Nat
 s:eu
theorem Vl:eJ 267 #[tz r] w0 (λu w'=>∃(eE:Nat),u= .func (.func 317) #[] #[N eE]/\U w0 [V eE #[tz r] 391] w'):=by
 refine eH 14 (eG _) func267 ntmps267 results267 rfl λiZ w E=>?_;exact⟨iZ,rfl,E⟩
theorem el2(d:U en (V nw #[tz r] 391::tW r ic ([]:List (eU×(Option Nat)))::S) w0):eJ 317 #[.func (.yield l) #[] #[],N nw] w0 (λu w'=>u= .tuple #[]/\U en (V nw #[tz r] 391::tW r ic ([]:List (eU×(Option Nat)))::S) w'):=by
 refine eH 3 d func317 ntmps317 results317 rfl λw E=>?_;refine ea (Z.range (tl:=eU) E .G rfl ?_);intro b w E;replace E:=E _ .G;refine ew 3 E λw E=>?_;refine ex.loop (λq f w=>∃is:List Nat,oW [(0,.func (.yield l) #[] #[]),(6,N b)] f/\U en (V nw #[tz r] 391::lm b r ic ([]:List (eU×(Option Nat))) is::S) w/\q=0) (0) ?_ ?_
 .
   exact⟨[],⟨rfl,rfl,trivial⟩,E,rfl⟩
 .
   rintro q f w ⟨is,c,E,s⟩;refine io _ c (λg=>?_);clear c;refine eI 2 E λw E=>?_;refine ea (jy E .G rfl ?_);intro t e h w i j k E;replace E:=E _ .G;refine ea (Z.extract rfl i (ew 3 E<|na 0 0 (λa m w E=>?_) (λa m w E=>?_)))
   .
     obtain⟨i7,v,n,o,rfl⟩:=k a;exact absurd o (by simp)
   .
     obtain⟨p,x⟩:=j a;rw[p]at E;replace E:=E.NR (by first|exact .G|exact .em);refine eI 5 E λw E=>?_;exact⟨rfl,E⟩
theorem el6(m:∀(oC:Nat)(W:World),U en (va o4 n none::V nw #[tz r] 391::lm oC r ic ([(⟨0⟩,(some n))]:List (eU×(Option Nat))) [0]::S) W->YieldAt Fence.wide 0 prog l #[N n] W (λe p=>e= .returned (.bool true)/\∃s:eu,U en (va o4 n (some s)::V nw #[tz r] 391::lm oC r ic ([(⟨0⟩,(some n))]:List (eU×(Option Nat))) [0]::S) p))(t:U en (va o4 n none::V nw #[tz r] 391::tW r ic ([(⟨0⟩,(some n))]:List (eU×(Option Nat)))::S) w0):eJ 317 #[.func (.yield l) #[] #[],N nw] w0 (λu w'=>∃(eE:Nat)(te:eu),u= .tuple #[]/\U en (va o4 n (some te)::V nw #[tz r] 391::lm eE r ic ([(⟨0⟩,(some n))]:List (eU×(Option Nat))) [0]::S) w'):=by
 refine eH 3 t func317 ntmps317 results317 rfl λw E=>?_;refine ea (Z.range (tl:=eU) E .Y rfl ?_);intro a w E;replace E:=E _ .Y;refine ew 3 E λw E=>?_;refine ex.loop (λq f w=>∃(o:Option eu)(is:List Nat),oW [(0,.func (.yield l) #[] #[]),(6,N a)] f/\U en (va o4 n o::V nw #[tz r] 391::lm a r ic ([(⟨0⟩,(some n))]:List (eU×(Option Nat))) is::S) w/\((o=none/\is=[])∨(∃s,o=some s/\is=[0]))/\q=1-is.length) (1) ?_ ?_
 .
   exact⟨none,[],⟨rfl,rfl,trivial⟩,E,.inl ⟨rfl,rfl⟩,rfl⟩
 .
   rintro q f w ⟨o,is,d,E,j,x⟩;refine io _ d (λg=>?_);clear d;refine eI 2 E λw E=>?_;refine ea (jy E .Y rfl ?_);intro K y z w A B C E;replace E:=E _ .Y;refine ea (Z.extract rfl A (ew 3 E<|na 0 0 (λc D w E=>?_) (λc D w E=>?_)))
   .
     obtain⟨i7,F,G,k,rfl⟩:=C c;obtain⟨e1,b⟩:o=none/\is=[]:=by
      rcases j with h|⟨s,_,h⟩
      .exact h
      rw[h]at k;simp at k
     have H:i7=0:=by simpa using F
     rw[e1,b,H]at E;refine eI 5 E λw E=>?_;refine ea (jb (i:=0) (E.wz .Y) Nat.zero_lt_one rfl (ew 5 E λw E=>?_));refine zc ?_;show oN none 0 _ _ _ [] _ [0,1,2,3] _ _;refine oN.op rfl rfl (by simp) (Z.opI (oM (v:=.func (.yield l) #[] #[]) rfl ?_));refine oN.op rfl rfl (by simp) (Z.opI (oM (v:=N n) rfl ?_));refine oN.op rfl rfl (by simp) (opI.yield (R':=λw'=>∃s:eu,U en (va o4 n (some s)::V nw #[tz r] 391::lm a r ic ([(⟨0⟩,(some n))]:List (eU×(Option Nat))) [0]::S) w') rfl rfl (m a _ E) ?_);rintro w ⟨s,E⟩;refine oN.op rfl rfl (by simp) (Z.opI (Z.not rfl ?_));refine oN.nil ?_;refine s4 5 E λw E=>?_;exact⟨0,by rw[x,b];decide,some s,[0],⟨rfl,rfl,trivial⟩,E,.inr ⟨s,rfl,rfl⟩,rfl⟩
   .
     obtain⟨I,J⟩:=B c;rw[I]at E;obtain⟨s,e1,b⟩:∃s,o=some s/\is=[0]:=by
      rcases j with⟨_,h⟩|h
      .have:=J 0 Nat.zero_lt_one;rw[h]at this;simp at this
      exact h
     rw[e1,b]at E;refine eI 5 E λw E=>?_;exact⟨a,s,rfl,E⟩
theorem el7(c:U en (V nw #[tz r] 391::tW r ic ([]:List (eU×(Option Nat)))::S) w0):eJ 362 #[eF,.func (.func 317) #[] #[N nw]] w0 (λu w'=>u=eF/\U en (V nw #[tz r] 391::tW r ic ([]:List (eU×(Option Nat)))::S) w'):=by
 refine jH (args:=[eF,.func (.func 317) #[] #[N nw]]) func362 rfl ntmps362 rfl ?_;have E:=c;replace E:=E.jS;refine oz.seq (λi d=>?_);refine oz.of λD a=>?_;refine eI 4 E λaa w E=>?_;refine rH (d _ _ _ ?_);refine oz.seq (λj e=>?_);refine oz.seq (λk f=>?_);refine oz.of λD a=>?_;refine eI 3 E λw E=>?_;refine rH (f _ _ _ ?_);replace E:=E.pick .G;refine LJ (oS:=[N nw]) (λ_=>False) (λt:Nat=>V aa #[eF] 470::V nw #[tz r] 391::tW r ic ([]:List (eU×(Option Nat)))::S) (λt=>.pointer none) (λ_ _=>True) (λs:Nat=>V aa #[eF] 470::V nw #[tz r] 391::tW r ic ([]:List (eU×(Option Nat)))::S) (λ_=>True) rfl rfl rfl E (λl b w E _=>(el2 ((E.pick .Y).pick .Y)).mono λ_ _ h=>⟨0,trivial,h.2.pick .Y⟩) ?_ ?_
 .
   intro Rw b t w g E
   letI:lH:=vu
   replace E:U en (V aa #[eF] 470::V nw #[tz r] 391::tW r ic ([]:List (eU×(Option Nat)))::(S++b)) w:=E;exact g.elim
 .
   intro m w s n E;refine rH (e _ _ _ ?_);refine oz.of λD a=>?_;refine eI 7 E λw E=>?_;refine jR results362 E (λw E=>?_);refine⟨_,(.yi (v:=eF) rfl .nil),?_⟩;exact⟨rfl,(tF [0] E)⟩
theorem el8(h:U en (V nw #[tz r] 391::tW r ic ([(⟨0⟩,(some n))]:List (eU×(Option Nat)))::S) w0):eJ 362 #[eF,.func (.func 317) #[] #[N nw]] w0 (λu w'=>∃(eE:eu),u=eE.v/\U en (B eE.v 472 ([⟨some n⟩]:List il)::V nw #[tz r] 391::tW r ic ([(⟨0⟩,(some n))]:List (eU×(Option Nat)))::S) w'):=by
 refine jH (args:=[eF,.func (.func 317) #[] #[N nw]]) func362 rfl ntmps362 rfl ?_;have E:=h;replace E:=E.jS;refine oz.seq (λq i=>?_);refine oz.of λD c=>?_;refine eI 4 E λaa w E=>?_;refine rH (i _ _ _ ?_);refine oz.seq (λy j=>?_);refine oz.seq (λz k=>?_);refine oz.of λD c=>?_;refine eI 3 E λw E=>?_;refine rH (k _ _ _ ?_);replace E:=E.pick .G;refine LJ (oS:=[N nw]) (λ_=>True) (λt:Nat=>V aa #[eF] 470::V nw #[tz r] 391::lm t r ic ([(⟨0⟩,(some n))]:List (eU×(Option Nat))) [0]::S) (λt=>N n) (λt s=>s.oC=t) (λs:el1=>V aa #[s.s.v] 470::B s.s.v 472 ([⟨some n⟩]:List il)::V nw #[tz r] 391::lm s.oC r ic ([(⟨0⟩,(some n))]:List (eU×(Option Nat))) [0]::S) (λ_=>True) rfl rfl rfl E (λl d w E f=>(el6 (λoC W b=>(f oC W trivial (Vr.1 b)).mono λe A⟨m,s,o,g⟩=>⟨m,s.s,Vh.2 (by rw[o]at g;exact g)⟩) (Vr.2 E)).mono λ_ _⟨oC,s,_,b⟩=>⟨⟨oC,s⟩,trivial,Vh.1 b⟩) ?_ ?_
 .
   intro Rw d t w f E
   letI:lH:=vu
   replace E:U en (V aa #[eF] 470::V nw #[tz r] 391::lm t r ic ([(⟨0⟩,(some n))]:List (eU×(Option Nat))) [0]::(S++d)) w:=E;refine ng.blockQ ?_;refine ng.region ?_;show oN (some _) 0 _ _ _ [] _ [0,1,2,3,4] _ _;refine oN.op rfl rfl (by simp) (Z.opI (ap (v:=eF) rfl (E.aV .em rfl) ?_));refine oN.op rfl rfl (by simp) (Z.opI (oM (v:=N n) rfl ?_));refine oN.op rfl rfl (by simp) (Z.opI (n4 E ([⟨some n⟩]:List il) [N n] rfl rfl rfl rfl (by decide) ?_));intro C w _ E;refine oN.op rfl rfl (by simp) (Z.opI (hX (α:=il) rfl E rfl (E.ef .em) ay (by simp[maxLen];try omega) ?_));intro a w _ E;refine jx rfl (by simp) (Z.opI (iU (v:=a.v) (iR:=#[a.v]) E rfl rfl .Y rfl (Nat.le_of_ble_eq_true rfl) (O.one (α:=eu) a) rfl (tA .Y λw E=>?_)));refine oN.nil ?_;refine s4 1 E λw E=>?_;exact⟨⟨t,a⟩,rfl,(E.pick .Y).sub (.cons₂ _ (.cons₂ _ (.cons _ (List.Sublist.refl _))))⟩
 .
   intro F w s H E;obtain⟨a2,p⟩:∃x,x=s.s:=⟨_,rfl⟩;rw[<-p]at E;replace E:=E.NR (by first|exact .e6|exact .ez);refine rH (j _ _ _ ?_);refine oz.of λD c=>?_;refine eI 7 E λw E=>?_;refine jR results362 E (λw E=>?_);refine⟨_,(.yi (v:=a2.v) rfl .nil),?_⟩;exact⟨a2,rfl,(tF [0] E)⟩
variable{p tD t6 u5:Nat}{q:Int}
theorem edr(a:U en (V nw #[tz r] 391::tW r ic ([]:List (eU×(Option Nat)))::S) w0):eJ 315 #[.func (.func 317) #[] #[N nw]] w0 (λu w'=>u=eF/\U en (V nw #[tz r] 391::tW r ic ([]:List (eU×(Option Nat)))::S) w'):=by
 refine eH 8 a func315 ntmps315 results315 rfl λw E=>?_;refine ej 5 E (el7 (Pi [1,1] E)) λw E=>?_;exact⟨rfl,E⟩
theorem edh:tN 384 #[eF,i6 0,i6 0,.func (.func 268) #[] #[]] w0 (.tuple #[]):=by
 refine eH 8 (eG _) func384 ntmps384 results384 rfl λw E=>?_;refine oU 40 (og.step ?_);refine eI 5 E ?_;refine eP false 8 λw E=>?_;exact⟨rfl,E.J⟩
theorem edl:tN 363 #[eF,i6 0,i6 0,i6 0,.func (.func 268) #[] #[]] w0 (.tuple #[]):=by
 refine eH 11 (eG _) func363 ntmps363 results363 rfl λw E=>?_;refine oU 40 (og.step ?_);refine eI 13 E ?_;refine eP true 9 λw E=>?_;refine ej 8 E (edh) λw E=>?_;exact⟨rfl,E.J⟩
theorem edd:tN 316 #[eF,.func (.func 268) #[] #[]] w0 (.tuple #[]):=by
 refine eH 12 (eG _) func316 ntmps316 results316 rfl λw E=>?_;refine ej 1 E (Be) λw E=>?_;refine ej 2 E (edl) λw E=>?_;exact⟨rfl,E.J⟩
theorem edc(a:U en (V nw #[tz r] 391::tW r ic ([]:List (eU×(Option Nat)))::S) w0):eJ 266 #[.func (.func 317) #[] #[N nw],.func (.func 268) #[] #[]] w0 (λu w'=>u=eF/\U en (V nw #[tz r] 391::tW r ic ([]:List (eU×(Option Nat)))::S) w'):=by
 refine eH 8 a func266 ntmps266 results266 rfl λw E=>?_;refine ej 7 E (edr (Pi [1,1] E)) λw E=>?_;refine ej 10 E (edd) λw E=>?_;exact⟨rfl,E⟩
theorem edu(b:U en (V nw #[tz r] 391::tW r ic ([(⟨0⟩,(some n))]:List (eU×(Option Nat)))::S) w0):eJ 315 #[.func (.func 317) #[] #[N nw]] w0 (λu w'=>∃(eE:eu),u=eE.v/\U en (B eE.v 472 ([⟨some n⟩]:List il)::V nw #[tz r] 391::tW r ic ([(⟨0⟩,(some n))]:List (eU×(Option Nat)))::S) w'):=by
 refine eH 8 b func315 ntmps315 results315 rfl λw E=>?_;refine ej 5 E (el8 (Pi [1,1] E)) λa w E=>?_;exact⟨a,rfl,E⟩
theorem edf(a:ev w0 s.v ([⟨some n⟩]:List il)):tN 384 #[s.v,i6 0,i6 1,.func (.func 268) #[] #[]] w0 (.tuple #[]):=by
 refine eH 8 (eG _) func384 ntmps384 results384 rfl λw E=>?_;refine oU 40 (og.step ?_);refine eI 5 E ?_;refine eP false 8 λw E=>?_;exact⟨rfl,E.J⟩
theorem edp(a:ev w0 s.v ([⟨some n⟩]:List il)):tN 363 #[s.v,i6 0,i6 1,i6 1,.func (.func 268) #[] #[]] w0 (.tuple #[]):=by
 refine eH 11 (eG _) func363 ntmps363 results363 rfl λw E=>?_;refine oU 40 (og.step ?_);refine eI 13 E ?_;refine eP true 9 λw E=>?_;refine ej 8 E (edf (a.ei E.J)) λw E=>?_;exact⟨rfl,E.J⟩
theorem edg(a:ev w0 s.v ([⟨some n⟩]:List il)):tN 316 #[s.v,.func (.func 268) #[] #[]] w0 (.tuple #[]):=by
 have:=aS a;refine eH 12 (eG _) func316 ntmps316 results316 rfl λw E=>?_;refine ej 1 E (esZ) λw E=>?_;refine ej 2 E (edp (a.ei E.J)) λw E=>?_;exact⟨rfl,E.J⟩
theorem edw(b:U en (V nw #[tz r] 391::tW r ic ([(⟨0⟩,(some n))]:List (eU×(Option Nat)))::S) w0):eJ 266 #[.func (.func 317) #[] #[N nw],.func (.func 268) #[] #[]] w0 (λu w'=>∃(eE:eu),u=eE.v/\U en (B eE.v 472 ([⟨some n⟩]:List il)::V nw #[tz r] 391::tW r ic ([(⟨0⟩,(some n))]:List (eU×(Option Nat)))::S) w'):=by
 refine eH 8 b func266 ntmps266 results266 rfl λw E=>?_;refine ej 7 E (edu (Pi [1,1] E)) λa w E=>?_;refine ej 10 E (edg (E.ef .em)) λw E=>?_;exact⟨a,rfl,E⟩
theorem edb(a:U en (V p #[tz tD,tz t6,.int .i64 q] 394::tW tD ic ([]:List (eU×(Option Nat)))::S) w0):eJ 196 #[N p] w0 (λu w'=>u=(ec.cut 0 0 0 (O.eo eU)).v/\U en (tW tD ic ([]:List (eU×(Option Nat)))::V p #[tz tD,tz t6,.int .i64 q] 394::S) w'):=by
 refine eH 9 a func196 ntmps196 results196 rfl λw E=>?_;refine ej 12 E (qT (E.tU .em)) λw E=>?_;refine ej 0 E (Vl) λb w E=>?_;refine ej 17 E (edc (Pi [2,1] E)) λw E=>?_;refine oU 40 (og.step ?_);refine eI 2 E ?_;refine eP false 12 λw E=>?_;refine ej 5 E (EK (v:=ec) (xs:=([])) (ev.nil _)) λw E=>?_;exact⟨rfl,(tF [0] E)⟩
theorem edk(a:U en (V p #[tz tD,tz t6,.int .i64 q] 394::tW tD ic ([(⟨0⟩,(some n))]:List (eU×(Option Nat)))::V n #[i6 0,i6 0,i6 0,i6 0,eF,tz u5] 478::S) w0):eJ 196 #[N p] w0 (λu w'=>∃(eE:eu),u=(eE.cut 0 1 1 (O.eo eU)).v/\U en (B eE.v 3 ([⟨0⟩]:List eU)::tW tD ic ([(⟨0⟩,(some n))]:List (eU×(Option Nat)))::V p #[tz tD,tz t6,.int .i64 q] 394::V n #[i6 0,i6 0,i6 0,i6 0,eF,tz u5] 478::S) w'):=by
 refine eH 9 a func196 ntmps196 results196 rfl λw E=>?_;refine ej 12 E (qT (E.tU .em)) λw E=>?_;refine ej 0 E (Vl) λb w E=>?_;refine ej 17 E (edw (Pi [2,1] E)) λd w E=>?_;refine oU 40 (og.step ?_);refine eI 2 E ?_;refine eP true 21 ?_;refine eP true 9 λw E=>?_;refine ho 0 E (sL ([⟨0⟩]:List eU)) λe w E=>?_;refine ea (hX (α:=eU) rfl E rfl (E.ef .em) ay (by simp[maxLen];try omega) ?_);intro c w _ E;refine ew 12 E ?_;refine eP false 12 λw E=>?_;refine ej 5 E (EK (E.ef .em)) λw E=>?_;exact⟨c,rfl,(tF [1,2,3] E)⟩
theorem edx(a:ar w0 (N p) #[tz tD,tz t6,.int .i64 q])(th:hV w0 tD ic ([(⟨0⟩,(some n))]:List (eU×(Option Nat))))(b:ar w0 (N n) #[i6 0,i6 0,i6 0,i6 0,eF,tz u5]):tN 197 #[N p,i6 0] w0 (.tuple #[i6 0,i6 0]):=by
 refine eH 10 (eG _) func197 ntmps197 results197 rfl λw E=>?_;have:=iu a;refine ej 13 E (qT (a.ei E.J)) λw E=>?_;refine ea (pJ (k:=(⟨0⟩:eU)) (z0:=none) (o:=(some (some n))) inferInstance (th.ei E.J) rfl rfl (by simp[tR]) ?_);refine ew 7 E λw E=>?_;refine ea (Nd rfl rfl ?_);refine ew 2 E λw E=>?_;refine xo rfl ?_;refine eI 5 E λw E=>?_;refine ea (sS rfl ?_);have:=iu b;refine ew 8 E λw E=>?_;exact⟨rfl,E.J⟩
variable{oi:kw}{l:List pa}{cB:Nat}{lW:Int}{e7:qE}
theorem edj(a:ar w0 (N cB) #[N n]):tN 272 #[N n,N cB] w0 (.bool true):=by
 have:=iu a;refine eH 9 (eG _) func272 ntmps272 results272 rfl λw E=>?_;exact ea (pG (decide_eq_true rfl) (LS (o:=0) (dl:=0) rfl rfl ⟨rfl,rfl⟩) (ew 5 E λw E=>(⟨rfl,E.J⟩)))
theorem edq:tN 319 #[eF,.func (.func 272) #[] #[N cB]] w0 (i6 (-1)):=by
 refine eH 14 (eG _) func319 ntmps319 results319 rfl λw E=>?_;refine oU 40 (og.step ?_);refine eI 2 E ?_;refine eP false 16 λw E=>?_;exact⟨rfl,E.J⟩
theorem edz(a:ar w0 (N cB) #[N n])(b:ev w0 s.v ([⟨some n⟩]:List il)):tN 319 #[s.v,.func (.func 272) #[] #[N cB]] w0 (i6 0):=by
 have:=aS b;refine eH 14 (eG _) func319 ntmps319 results319 rfl λw E=>?_;refine oU 40 (og.step ?_);refine eI 2 E ?_;refine eP true 21 λw E=>?_;refine ej 16 E (edj (a.ei E.J)) λw E=>?_;exact⟨rfl,E.J⟩
theorem edE:tN 271 #[eF,.func (.func 272) #[] #[N cB]] w0 eF:=by
 refine eH 9 (eG _) func271 ntmps271 results271 rfl λw E=>?_;refine ej 7 E (edq) ?_;refine eP true 12 λw E=>?_;exact⟨rfl,E.J⟩
theorem edT(a:U en (V cB #[N n] 472::B s.v 472 ([⟨some n⟩]:List il)::S) w0):eJ 271 #[s.v,.func (.func 272) #[] #[N cB]] w0 (λu w'=>u=(s.cut 0 0 s.c (O.eo il)).v/\U en (V cB #[N n] 472::B s.v 472 ([⟨none⟩]:List il)::S) w'):=by
 refine eH 9 a func271 ntmps271 results271 rfl λw E=>?_;refine ej 7 E (edz (E.tU .em) (E.ef .G)) ?_;refine eP false 14 λw E=>?_;refine oU 40 (og.step ?_);refine eI 6 E ?_;refine eP false 12 λw E=>?_;refine ea (P3 (α:=il) (v:=s) (xs:=([⟨some n⟩]:List il)) (l:=0) rfl (E.ef .G) rfl ay (oA (Gs (α:=il) (v:=s) (zs:=([⟨none⟩]:List il)) ⟨none⟩ rfl rfl rfl E .G rfl rfl (tA .G λw E=>(ew 6 E λw E=>?_)))));refine ea (zv (α:=il) (v:=s) (xs:=([⟨none⟩]:List il)) (h':=0) rfl (E.ef .G) rfl ay ?_);refine ew 5 E λw E=>?_;exact⟨rfl,E⟩
theorem edA(i:xJ oi [] e7 l)(H:U en (pq n l::V p #[tz tD,tz t6,.int .i64 lW] 394::tW tD ic ([(⟨0⟩,(some n))]:List (eU×(Option Nat)))::V n #[i6 0,i6 0,i6 0,i6 0,eF,tz u5] 478::tW u5 fb oi::tW t6 ic e7::S) w0):eJ 198 #[N p,i6 0] w0 (λu w'=>u=i6 0/\U en (V p #[tz tD,tz t6,.int .i64 lW] 394::tW tD ic ([]:List (eU×(Option Nat)))::S) w'):=by
 refine eH 9 H func198 ntmps198 results198 rfl λw E=>?_;refine ej 13 E (qT (E.tU .G)) λw E=>?_;refine ea (pJ (k:=(⟨0⟩:eU)) (z0:=none) (o:=(some (some n))) inferInstance (E.map .Y) rfl rfl (by simp[tR]) (ew 1 E λc w E=>(oA (iU (v:=N n) (iR:=#[N n]) E rfl rfl .em rfl (Nat.le_of_ble_eq_true rfl) (LI _) rfl (tA .em λw E=>(ew 18 E ?_))))));refine eP false 19 λw E=>?_;refine oU 40 (og.step ?_);refine eI 2 E ?_;refine eP false 16 λw E=>?_;refine ea (Z.range (tl:=(Vector UInt8 32)) E .ac rfl ?_);intro d w E;replace E:=E _ .ac;refine ew 3 E λw E=>?_;refine ex.loop (λq f w=>∃(is:List Nat)(l:List pa),oW [(0,N p),(1,i6 0),(5,N c),(47,N d)] f/\U en (pq n l::V c #[N n] 472::V p #[tz tD,tz t6,.int .i64 lW] 394::tW tD ic ([(⟨0⟩,(some n))]:List (eU×(Option Nat)))::V n #[i6 0,i6 0,i6 0,i6 0,eF,tz u5] 478::lm d u5 fb oi is::tW t6 ic e7::S) w/\xJ oi is e7 l/\q=oi.length-is.length) (oi.length) ?_ ?_
 .
   exact⟨[],l,⟨rfl,rfl,rfl,rfl,trivial⟩,(E.pick .G).sub aI,i,rfl⟩
 .
   rintro q f w ⟨is,l,C,E,e,W⟩;refine io _ C (λg=>?_);clear C;refine eI 2 E λw E=>?_;refine ea (jy E .ac rfl ?_);intro I J K w j m x E;replace E:=E _ .ac;refine ea (Z.extract rfl j (ew 3 E<|na 0 0 (λy L w E=>?_) (λy L w E=>?_)))
   .
     obtain⟨i48,a,z,M,rfl⟩:=x y;have D:=E.Va .ac;obtain⟨⟨P,b,ou⟩,Q,F,h⟩:=e i48 z _ (List.getElem?_eq_getElem a);obtain⟨iG,iY,eM⟩:=List.append_of_mem Q;rw[eM]at E e;replace E:=E.elI;replace h:tR (oi[i48]).1 e7=some (some b):=h;rcases ou with _|s
     .
       replace E:U en (V b #[N n,eF] 482::pq n (iG++iY)::V c #[N n] 472::V p #[tz tD,tz t6,.int .i64 lW] 394::tW tD ic ([(⟨0⟩,(some n))]:List (eU×(Option Nat)))::V n #[i6 0,i6 0,i6 0,i6 0,eF,tz u5] 478::lm d u5 fb oi (is++[i48])::tW t6 ic e7::S) w:=E;refine eI 5 E λw E=>?_;refine ea (jb (E.wz .aW) a rfl (ew 2 E λr2 w E=>(oA (iV (r:=(oi[i48]).1) E rfl rfl .em (O.eT _) (tA .em λw E=>(ew 3 E ?_))))));refine ow 5 7 (e5 [0,1,2,3,4,5,6] .nil) [] λw E=>?_;refine tw rfl (λw E=>pJ (k:=(((oi[i48]).1):(Vector UInt8 32))) (z0:=none) (o:=(some (some b))) inferInstance (E.map .nE) rfl rfl (h) eY) (ao 5 E ?_);refine ow 1 6 (e5 [0,1,2,3,4,5] .nil) [] λw E=>?_;refine tw rfl (λw E=>sS rfl eY) ?_;refine ao 3 E λw E=>?_;refine tw rfl (λw E=>pG (decide_eq_true rfl) (LS (o:=0) (dl:=0) rfl rfl ⟨rfl,rfl⟩) eY) ?_;refine ao 5 E λw E=>?_;refine ea (sS rfl ?_);refine ew 7 E λw E=>?_;refine ea (sS rfl ?_);refine ew 3 E λw E=>?_;refine ej 0 E (edE) λw E=>?_;refine ea (sS rfl ?_);refine ew 5 E λw E=>?_;refine⟨oi.length-(is++[i48]).length,by simp;omega,is++[i48],iG++iY,⟨rfl,rfl,rfl,rfl,trivial⟩,?_,e.next D a F,rfl⟩
       (refine E.sub ?_;(repeat(first|with_reducible exact List.nil_sublist _|with_reducible exact List.Sublist.refl _|with_reducible refine List.Sublist.cons₂ _ ?_|with_reducible refine List.Sublist.cons _ ?_));done)
     .
       replace E:U en (V b #[.pointer none,s.v] 482::B s.v 472 ([⟨some n⟩]:List il)::pq n (iG++iY)::V c #[N n] 472::V p #[tz tD,tz t6,.int .i64 lW] 394::tW tD ic ([(⟨0⟩,(some n))]:List (eU×(Option Nat)))::V n #[i6 0,i6 0,i6 0,i6 0,eF,tz u5] 478::lm d u5 fb oi (is++[i48])::tW t6 ic e7::S) w:=E;refine eI 5 E λw E=>?_;refine ea (jb (E.wz .nf) a rfl ?_);refine ew 2 E λR w E=>?_;refine oA (iV (r:=(oi[i48]).1) E rfl rfl .em (O.eT _) (tA .em λw E=>?_));refine ew 3 E ?_;refine ow 5 7 (e5 [0,1,2,3,4,5,6] .nil) [] λw E=>?_;refine tw rfl (λw E=>pJ (k:=(((oi[i48]).1):(Vector UInt8 32))) (z0:=none) (o:=(some (some b))) inferInstance (E.map .n9) rfl rfl (h) eY) ?_;refine ao 5 E ?_;refine ow 1 6 (e5 [0,1,2,3,4,5] .nil) [] λw E=>?_;refine tw rfl (λw E=>sS rfl eY) ?_;refine ao 3 E λw E=>?_;refine tw rfl (λw E=>Za rfl rfl eY) ?_;refine ao 8 E λw E=>?_;refine ea (sS rfl ?_);refine ew 3 E λw E=>?_;refine ej 0 E (edT (Pi [2,4] E)) λw E=>?_;refine ea (sS rfl ?_);refine ew 5 E λw E=>?_;refine⟨oi.length-(is++[i48]).length,by simp;omega,is++[i48],iG++iY,⟨rfl,rfl,rfl,rfl,trivial⟩,?_,e.next D a F,rfl⟩
       (refine(E.pick .e6).sub ?_;(repeat(first|with_reducible exact List.nil_sublist _|with_reducible exact List.Sublist.refl _|with_reducible refine List.Sublist.cons₂ _ ?_|with_reducible refine List.Sublist.cons _ ?_));done)
   .
     obtain⟨A,T⟩:=m y;rw[A]at E;refine eI 12 E λw E=>?_;refine oA (xh (t:=391) (k:=(⟨0⟩:eU)) (hw:=([]:List (eU×(Option Nat)))) rfl E .ez rfl rfl (by simp[rc]) (tA .ez λw E=>?_));refine ew 9 E λw E=>?_;exact⟨rfl,(tF [0,1,4,5,6] E)⟩
end
end Go.Fer
