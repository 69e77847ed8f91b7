import Derived.Test.YtncdhadaifhleaaGreatDoorF6
import Derived.Test.YtncdhadaifhleaaGreatDoorF7
import Derived.Test.YtncdhadaifhleaaGreatDoorF8
set_option linter.all false
set_option synthInstance.maxSize 100000
set_option synthInstance.maxHeartbeats 400000
set_option maxHeartbeats 8000000
set_option maxRecDepth 100000
namespace Go.Fer
open Go Go.RowKit
section
open Go.Proofs Tryz
variable{e n:Int}{w0:World}
section
variable{P:Program}{f:tr}{w:World}{R:Value->World->Prop}{d:Option Tmp}{T:TypeId}{pos:String}{eO:Array Edge}{eV:Option (Nat×Bool)}
theorem p9{s:TypeId}{k:IntKind}{x:Operand}{v:Value}[ep:lc P s k](a:eC f x=v)(h:R (.iface s v) w):Z P f ⟨d,.makeInterface s x,T,pos,eO,eV⟩ w R:=by
 refine iv (v:=.iface s v) (w':=w) ?_ h;have G:P.concrete s=true:=by
  have Y:=ep.out;unfold Program.concrete;simp[Y]
 simp[Go.execOp,a,run_makeInterface,G]
end
instance:Ax prog 214:=⟨_,underlying214⟩
instance:LD prog 34:=⟨by kernel_rfl⟩
instance:NA prog 334 34:=⟨_,underlying334,by kernel_rfl⟩
instance:NA prog 337 34:=⟨_,underlying337,by kernel_rfl⟩
instance:NA prog 339 34:=⟨_,underlying339,by kernel_rfl⟩
theorem eaJ:tN 84 #[.iface 34 (.int .i64 e),.iface 34 (.int .i64 n),.bool true] w0 (.bool (decide (e=n))):=by
 refine eH 6 (eG _) func84 ntmps84 results84 rfl λw E=>?_;refine oU 40 (og.step ?_);refine eI 8 E λw E=>?_;refine sk 15 rfl rfl rfl (ea (QG (t:=34) (k:=.i64) (a:=e) (b:=n) rfl rfl (ew 3 E<|na 11 6 (λc d w E=>?_) (λc d w E=>?_))))
 .
   exact⟨(congrArg Value.bool c.symm),E.J⟩
 .
   refine ea (LU (t:=34) rfl ?_);refine ew 28 E λw E=>?_;refine ea (LU (t:=34) rfl ?_);refine ew 7 E λw E=>?_;refine ea (LU (t:=34) rfl ?_);refine ew 21 E λw E=>?_;exact⟨(congrArg Value.bool c.symm),E.J⟩
theorem Ow:tN 27 #[.iface 34 (.int .i64 e),.iface 34 (.int .i64 n)] w0 (.bool (decide (e=n))):=by
 refine eH 9 (eG _) func27 ntmps27 results27 rfl λw E=>?_;refine ea (P6 (v:=.iface 34 (.int .i64 e)) rfl ⟨_,_,rfl⟩ ?_);refine ew 2 E λw E=>?_;refine sk 8 rfl rfl rfl (ea (P6 (v:=.iface 34 (.int .i64 n)) rfl ⟨_,_,rfl⟩ ?_));refine ew 9 E λw E=>?_;refine ea (As (vs:=[.iface 34 (.int .i64 n)]) (v:=.iface 332 (.agg #[.pointer (some ⟨8,34,none⟩)])) (by kernel_rfl) rfl ?_);refine ea (QK (r:=.iface 332 (.agg #[.pointer (some ⟨8,34,none⟩)])) (vs:=[]) (v:=.bool true) rfl rfl (by kernel_rfl) ?_);refine ew 8 E λw E=>?_;refine ej 5 E (eaJ) λw E=>?_;exact⟨rfl,E.J⟩
theorem qn:tN 29 #[.int .i64 e] w0 (.bool (!(decide (e=0)))):=by
 refine eH 8 (eG _) func29 ntmps29 results29 rfl λw E=>?_;exact ea (p9 (v:=.int .i64 e) rfl (ea (p9 (v:=i6 0) rfl (ej 6 E (Ow) λw E=>(⟨rfl,E.J⟩)))))
variable{S:List eL}{aa tZ:Nat}{en:World}{x:oF}
def yW:oF:=⟨ec,⟨false,⟨0,0,0⟩,ec,oc 32,ec,ec⟩⟩
theorem Yn(b:e≠0)(c:U en (V tZ #[.int .i64 e] 34::V aa (O.enc x) 48::S) w0):mt prog 85 #[N tZ,N aa] w0 (λu w'=>u= .tuple #[]/\U en (V tZ #[.int .i64 e] 34::V aa (O.enc yW) 48::S) w'):=by
 refine mt.enter (args:=[N tZ,N aa]) func85 rfl ntmps85 results85 rfl ?_;have E:=c;refine eI 6 E<|om 1 0 (λa w E=>?_) (λa w E=>?_)
 .
   exact ea (rV (r:=yW) (ps:=oF.parts yW) (dm _) (by simp only[yW,dm,oF.parts,cy,oe.parts,cW,rr.parts,sM,nn];rfl) (by exact trivial) (ew 3 E λw E=>(⟨rfl,E⟩)))
 .
   exact absurd a (by simpa using b)
theorem eid(a:U en (V tZ #[i6 0] 34::V aa (O.enc x) 48::S) w0):mt prog 85 #[N tZ,N aa] w0 (λu w'=>u= .tuple #[]/\U en (V tZ #[i6 0] 34::V aa (O.enc x) 48::S) w'):=by
 refine mt.enter (args:=[N tZ,N aa]) func85 rfl ntmps85 results85 rfl ?_;have E:=a;refine eI 3 E ?_;refine eP false 5 λw E=>?_;exact⟨rfl,E⟩
end
section
open Go.Proofs Tryz
variable{S:List eL}{e:Int}{is:List Instr}{t8:List iW}{m n:Nat}{p:Prop}{o8:eu}{t:oF}{w w0 en:World}{x y:nD}{xs:List UInt8}
@[irreducible] def no (p:Prop):eL:=⟨λ_=>False,λ_=>p,λ_ _ _ h=>h⟩
theorem mf(p:Prop):(no p).A=λ_=>p:=by unfold no;rfl
theorem eic(p:Prop):(no p).F=λ_=>False:=by unfold no;rfl
theorem U.pure(h:U w0 S w)(a:p):U w0 (no p::S) w:=
 h.new (eB.refl w) (by rw[mf];exact a) (by rw[eic];exactλ_ h=>h.elim)
@[irreducible] def mg (t:oF) (is:List Instr) (t8:List iW) (x:nD):eL:=hD (no (pg t is t8 x)::p6 t is t8 x)
theorem U.Ys(a:pg t is t8 x)(h:U w0 (p6 t is t8 x++S) w):U w0 (mg t is t8 x::S) w:=by
 unfold mg;exact U.closed (l:=no (pg t is t8 x)::p6 t is t8 x) (h.pure a)
theorem U.eiu(h:U w0 (mg t is t8 x::S) w):pg t is t8 x/\U w0 (p6 t is t8 x++S) w:=by
 unfold mg at h;have h:=h.dr;have G:=h.get (e:=no (pg t is t8 x)) .em;rw[mf]at G;exact⟨G,h.sub (List.sublist_cons_self _ _)⟩
theorem U.mem{e:eL}(h:U w0 S w)(a:tX e S):U w0 [e] w:=h.sub (by simpa using tX.mem a)
theorem U.xU(h:U w0 S w)(a:tX (mg t is t8 x) S):pg t is t8 x/\U w0 (p6 t is t8 x) w:=by
 have:=(h.mem a).eiu;rwa[List.append_nil]at this
theorem pg.g3(h:pg t is t8 x)(E:U en (p6 t is t8 x) w):A6 w t x is t8:=by
 unfold p6 at E;exact⟨E.ef (v:=t.sigs.v) (xs:=x.sigs) .em,eeB (c:=x.m) h (E.sub (List.sublist_cons_self _ _))⟩
theorem U.bX(h:U w0 S w)(a:tX (mg t is t8 x) S):A6 w t x is t8:=(h.xU a).1.g3 (h.xU a).2
theorem Cz(a:ev w0 o8.v xs)(c:xs.length<=100000)(b:nG xs=(y,e)):eJ 86 #[o8.v] w0 (λu w'=>∃(t:oF)(is:List Instr)(t8:List iW),u= .tuple #[.agg (O.enc t),.int .i64 e]/\U w0 [mg t is t8 y] w'):=by
 refine(etr a (by omega)).mono λu w' h=>?_;obtain⟨t,is,t8,G,Y,ez⟩:=ets h b;exact⟨t,is,t8,G,(ez.sub (tg:=p6 t is t8 y++[]) (by simp)).Ys Y⟩
structure EO(x:nD):Prop where
 xS:pp 1232 x.m.au
 ef:pp 1232 x.m.sn
 fm:x.m.tu.length<65536
 eim:x.m.au.length<65536
 tH:x.m.sn.length<65536
theorem pp.mono{α:Type}{l:List (α×List UInt8×List UInt8)}(h:pp m l)(th:m<=n):pp n l:=λc a=>⟨Nat.le_trans (h c a).1 th,Nat.le_trans (h c a).2 th⟩
theorem EO.of(h:nG xs=(y,0))(i:pg t is t8 y):EO y:=by
 obtain⟨_,_,_,_,_,_,_,G,Y,ez⟩:=i;have g:pp 1232 y.m.au/\pp 1232 y.m.sn:=by
  unfold nG at h;split at h
  .cases h
  rename_i eM;split at h
  .rename_i em;split at h
   .cases h
   have d:=(Prod.mk.inj h).1;unfold uH at em d;split at em
   .split at em
    .cases em
    split at em
    .rename_i a b c;rw[if_pos a,if_neg b,if_pos c]at d;have j:y.m=(uu (xs.drop ((gs xs 0 0).2.1.toNat+64*(gs xs 0 0).1.toNat))).1:=by rw[<-d]
     have f:=eeY (xs:=xs.drop ((gs xs 0 0).2.1.toNat+64*(gs xs 0 0).1.toNat)) (c:=_) (t:=_) (e:=_) rfl;rw[j];rw[List.length_drop]at f;exact⟨f.1.mono (by omega),f.2.mono (by omega)⟩
    rename_i a b c;exact absurd em c
   rename_i a;exact absurd em a
  rename_i em;exact absurd (Prod.mk.inj h).2 em
 exact⟨g.1,g.2,G,Y,ez⟩
theorem EO.sum(h:EO y):y.m.tu.length+hI y.m.sn<=1000000000:=by
 have G:=G2 h.ef;have Y:=h.tH;have ez:=h.fm;have e6:y.m.sn.length*(2*1232)<=65536*(2*1232):=Nat.mul_le_mul_right _ (by omega);omega
def cq(y:nD):Int:=bK y.m.h y.sigs y.m.tu y.m.sn y.m.au
theorem Yr{x:oF}(f:nG xs=(y,0))(g:cq y=e)(a:U en S w0)(b:tX (mg x is t8 y) S):tN 87 #[.agg (O.enc x)] w0 (.int .i64 e):=by
 have c:=(a.xU b).1;have d:=EO.of f c;subst g;unfold cq;rw[<-c.2.1];exact eih (a.bX b) (d.ef.mono (by decide)) d.sum
theorem eif(c:ev w0 o8.v xs)(g:xs.length<=100000)(h:nG xs=(y,e))(a:e≠0):tN 28 #[o8.v] w0 (.tuple #[.agg (O.enc yW),.int .i64 e]):=by
 refine LF (n:=16) (args:=[o8.v]) (gc:=85) (d:=4) (rK:=λf w'=>∃(aa:Nat)(tZ:Nat),oW [(0,o8.v),(2,N aa),(3,N tZ)] f/\U w0 ([V tZ #[i6 0] 34,V aa (O.enc yW) 48]) w') func28 rfl ntmps28 results28 rfl rfl ?_ ?_
 .have E:=eG w0;refine eI 2 E λaa w E=>?_;rw[yS]at E;refine ew 2 E λtZ w E=>?_;exact⟨rfl,aa,tZ,⟨rfl,rfl,rfl,trivial⟩,E⟩
 rintro f w ⟨aa,tZ,i,E⟩;rw[i.eq];refine⟨.func (.func 85) #[] #[N tZ,N aa],[N tZ,N aa],[],_,LG rfl,LW,rfl,λD j=>?_⟩;refine eI 4 E λw E=>?_;refine ej 13 E (Cz (c.ei E.J) g h) λk l m=>om 0 3 (λb w E=>?_) (λb w E=>?_)
 .
   exact absurd b a
 .
   refine nV 7 4 (e5 [0,1] (oJ [2,3] .nil)) [] E λw E=>?_;refine zj ?_;refine(Yn a (Pi [2,2] E)).mono ?_;rintro _ w ⟨_,E⟩;refine⟨_,(.cell (E.nZ .G (O.eT yW)) (.cell (E.aV .em rfl) .nil)),?_⟩;exact⟨rfl,E.J⟩
theorem eip(b:ev w0 o8.v xs)(c:xs.length<=100000)(a:nG xs=(y,0))(g:cq y=e)(h:e≠0):tN 28 #[o8.v] w0 (.tuple #[.agg (O.enc yW),.int .i64 e]):=by
 refine LF (n:=16) (args:=[o8.v]) (gc:=85) (d:=4) (rK:=λf w'=>∃(aa:Nat)(tZ:Nat),oW [(0,o8.v),(2,N aa),(3,N tZ)] f/\U w0 ([V tZ #[i6 0] 34,V aa (O.enc yW) 48]) w') func28 rfl ntmps28 results28 rfl rfl ?_ ?_
 .have E:=eG w0;refine eI 2 E λaa w E=>?_;rw[yS]at E;refine ew 2 E λtZ w E=>?_;exact⟨rfl,aa,tZ,⟨rfl,rfl,rfl,trivial⟩,E⟩
 rintro f w ⟨aa,tZ,i,E⟩;rw[i.eq];refine⟨.func (.func 85) #[] #[N tZ,N aa],[N tZ,N aa],[],_,LG rfl,LW,rfl,λD j=>?_⟩;refine eI 4 E λw E=>?_;refine ej 10 E (Cz (b.ei E.J) c a) λk l m=>?_;refine eP true 5 λw E=>?_;refine ej 4 E (Yr a g E .em) ?_;refine ow 7 4 (e5 [0,1] (oJ [2,3] .nil)) [] λw E=>?_;refine zj ?_;refine(Yn h (Pi [2,2] E)).mono ?_;rintro _ w ⟨_,E⟩;refine⟨_,(.cell (E.nZ .G (O.eT yW)) (.cell (E.aV .em rfl) .nil)),?_⟩;exact⟨rfl,E.J⟩
theorem CA(c:ev w0 o8.v xs)(e:xs.length<=100000)(a:nG xs=(y,0))(g:cq y=0):eJ 28 #[o8.v] w0 (λu w'=>∃(eE:oF)(te:(List Instr))(tO:(List iW)),u= .tuple #[.agg (O.enc eE),i6 0]/\U w0 [mg eE te tO y] w'):=by
 refine LF (n:=16) (args:=[o8.v]) (gc:=85) (d:=4) (rK:=λf w'=>∃(aa:Nat)(tZ:Nat),oW [(0,o8.v),(2,N aa),(3,N tZ)] f/\U w0 ([V tZ #[i6 0] 34,V aa (O.enc yW) 48]) w') func28 rfl ntmps28 results28 rfl rfl ?_ ?_
 .have E:=eG w0;refine eI 2 E λaa w E=>?_;rw[yS]at E;refine ew 2 E λtZ w E=>?_;exact⟨rfl,aa,tZ,⟨rfl,rfl,rfl,trivial⟩,E⟩
 rintro f w ⟨aa,tZ,h,E⟩;rw[h.eq];refine⟨.func (.func 85) #[] #[N tZ,N aa],[N tZ,N aa],[],_,LG rfl,LW,rfl,λD k=>?_⟩;refine eI 4 E λw E=>?_;refine ej 10 E (Cz (c.ei E.J) e a) λb i j=>?_;refine eP true 5 λw E=>?_;refine ej 4 E (Yr a g E .em) ?_;refine ow 7 4 (e5 [0,1] (oJ [2,3] .nil)) [] λw E=>?_;refine zj ?_;refine(eid (Pi [2,2] E)).mono ?_;rintro _ w ⟨_,E⟩;refine⟨_,(.cell (E.nZ .G (O.eT b)) (.cell (E.aV .em rfl) .nil)),?_⟩;exact⟨b,i,j,rfl,(tF [0,1] E)⟩
end
section
open Go.Proofs Tryz
variable{S:List eL}{b:sD}{c n p s u tK:Nat}{d:ca}{e:Int}{is:List Instr}{k:av}{l:List o1}{t8:List iW}{yG tD t6 Oq Oz OE:Bool}{iq o8 v:eu}{t:oF}{w w0 en:World}{xs:List UInt8}{y:nD}
@[irreducible] def l4 (p:Nat) (d:ca):eL:=hD [no (∀k,d.find k=none),qc p d]
theorem g8(E:U w0 S w)(a:tX (l4 p d) S):Ra w p d/\(∀k,d.find k=none):=by
 have h:=E.mem a;unfold l4 at h;have h:=h.dr;have G:=h.get (e:=no (∀k,d.find k=none)) .em;rw[mf]at G;exact⟨h.eib .G,G⟩
theorem ER:eJ 9 #[] w0 (λu w'=>∃(p:Nat)(d:ca),u=N p/\U w0 [l4 p d] w'):=by
 refine(eiz).mono ?_;rintro u w' ⟨p,d,rfl,a,b,c⟩;refine⟨p,d,rfl,?_⟩;have h:=((eG w0).An c b).pure a;unfold l4;exact U.closed (l:=[no (∀k,d.find k=none),qc p d]) h
theorem Rf(b:U en S w0)(c:tX (l4 p d) S):eJ 26 #[N p,.agg (O.enc k)] w0 (λu w'=>∃(v:eu),u= .tuple #[v.v,i6 11]/\eB w0 w'):=by
 obtain⟨ep,a⟩:=g8 b c;refine(eiA ep (λk l h=>by rw[a]at h;cases h)).mono ?_;rintro u w' ⟨v,e,l,rfl,h,f,g⟩;obtain⟨s,rfl⟩:=f.1.ef.xl;rcases h with⟨h,_⟩|⟨_,rfl,_⟩
 .rw[a]at h;cases h
 exact⟨s,rfl,g⟩
theorem eni(i:y.m.sn=[])(f:U en S w0)(j:tX (l4 p d) S)(k:tX (mg t is t8 y) S):eJ 30 #[N p,t.m.r1.v] w0 (λu w'=>∃(iq o8:eu),u= .tuple #[iq.v,o8.v,i6 0]/\U w0 [B iq.v 60 ([]:List av),B o8.v 60 ([]:List av)] w'):=by
 obtain⟨ep,s⟩:=g8 f j;have g:=f.bX k;have n:=g.2.l;have o:t8=[]:=List.length_eq_zero_iff.1 (by rw[g.2.Dy.1,i];rfl);subst o;refine(Ym (w0:=w0) (p:=p) (d:=d) (xs:=[]) (t8:=[]) ep n trivial (by decide)).mono ?_;rintro u w' ⟨ab,cD,e,a,b,rfl,c,q⟩;rcases q with⟨h,rfl⟩|⟨h,_⟩
 .cases h;obtain⟨a2,rfl⟩:=(c.ef .em).xl;obtain⟨r,rfl⟩:=(c.ef .G).xl;exact⟨a2,r,rfl,c⟩
 cases h
theorem YD{w:World}:∀{t8:List iW}{cs:List (Vector UInt8 32×List UInt8×List UInt8)},bH w t8 cs->g7 w t8 (cs.map λc=>⟨c.1,c.2.1,c.2.2⟩)
 |[],[],_=>trivial
 |[],_::_,h=>by cases h.1
 |_::_,[],h=>by cases h.1
 |l::t8,c::cs,h=>by
  have em:=h.2 0 (by simp) (by simp);refine⟨⟨em.1,em.2.1,em.2.2⟩,YD ⟨by simpa using h.1,λi G Y=>?_⟩⟩;exact h.2 (i+1) (by simpa using G) (by simpa using Y)
theorem enn(cs:List (Vector UInt8 32×List UInt8×List UInt8)):ga (cs.map λc=>⟨c.1,c.2.1,c.2.2⟩)=hI cs:=by
 unfold ga hI;rw[List.map_map];rfl
theorem ens(k:y.m.sn≠[])(x:y.m.tu.length+hI y.m.sn<=64)(g:U en S w0)(n:tX (l4 p d) S)(o:tX (mg t is t8 y) S):eJ 30 #[N p,t.m.r1.v] w0 (λu w'=>∃(iq o8:eu),u= .tuple #[iq.v,o8.v,i6 11]/\eB w0 w'):=by
 obtain⟨ep,q⟩:=g8 g n;have i:=g.bX o;refine(Ym ep i.2.l (YD i.2.Dy) (by rw[enn];omega)).mono ?_;rintro u w' ⟨ab,cD,e,a,b,rfl,f,j⟩;obtain⟨a2,rfl⟩:=(f.ef .em).xl;obtain⟨r,rfl⟩:=(f.ef .G).xl;have s:cX d.find (y.m.sn.map λc=>(⟨c.1,c.2.1,c.2.2⟩:ge))= .g6 11:=by
  cases w:y.m.sn with
  |nil=>exact absurd w k
  |cons c cs=>simp only[List.map_cons,cX,q]
 rw[Yd,s]at j;rcases j with⟨h,_⟩|⟨h,_⟩
 .cases h
 cases h;exact⟨a2,r,rfl,f.J⟩
theorem enr(h:Cx yG tD t6 Oq Oz OE=0):yG=true/\tD=true/\t6=true/\Oq=true/\Oz=true/\OE=true:=by
 unfold Cx at h;revert h;cases yG<;>cases tD<;>cases t6<;>cases Oq<;>cases Oz<;>cases OE<;>simp
structure kn(y:nD):Prop where
 sq:y.m.tu.Nodup
 tk:y.sigs.length=y.m.h.rf.toNat
 aR:0<y.sigs.length
 Rp:y.m.tu.length+hI y.m.sn<=64
 hd:y.m.h.fV.toNat<y.m.h.rf.toNat/\y.m.h.rf.toNat+y.m.h.uS.toNat<=y.m.tu.length
 ix:S9 (y.m.tu.length+hI y.m.sn) y.m.tu.length y.m.au=false
theorem kn.of(h:cq y=0):kn y:=by
 unfold cq bK at h;obtain⟨em,G,_,ez,e6,ac⟩:=enr h;simp only[Bool.and_eq_true,decide_eq_true_eq,Bool.not_eq_true']at em G ez e6 ac;exact⟨ac,by omega,by omega,by omega,⟨by omega,by omega⟩,e6⟩
def ad(y:nD):List o1:=(uL y.m.h y.m.tu).map qe
theorem YC(y:nD):(ad y).length=y.m.tu.length:=by unfold ad;rw[List.length_map,SL]
theorem enh(h:rr)(tu:List av):(uL h tu).map o1.key=tu:=by
 unfold uL;apply List.ext_getElem (by simp);intro i G Y;simp[j8]
theorem enl(d:cq y=0)(f:ev w0 iq.v ([]:List av))(g:ev w0 o8.v ([]:List av))(a:U en S w0)(b:tX (mg t is t8 y) S):eJ 31 #[.agg (O.enc t.m),iq.v,o8.v] w0 (λu w'=>∃(s:eu),u= .tuple #[s.v,i6 0]/\U w0 [B s.v 66 (ad y)] w'):=by
 have i:=a.bX b;have c:=kn.of d;have j:=(a.xU b).1;have p:y.m.tu.length<=64:=by have:=c.Rp;omega
 refine(etw i.2.k f g (by omega) (by decide) (by decide)).mono ?_;rintro u w' ⟨v,e,rfl,h,l⟩;have n:v1 t.m y.m.tu [] []=uL y.m.h y.m.tu:=by unfold v1;rw[List.map_nil,List.map_nil,List.append_nil,List.append_nil,j.2.1]
 unfold Wl at h;rw[n,enh]at h;rcases h with⟨_,rfl,o⟩|⟨h,_⟩
 .obtain⟨s,rfl,h⟩:=o.eQ l;exact⟨s,rfl,h⟩
 exact absurd c.sq h
def n2(y:nD):sD:=DJ (dF (λi=>xH y.m.tu ((y.m.au.map (·.1)).getD i 0)) (λi=>(y.m.au.map (·.2.2)).getD i []) y.m.au.length)
theorem CY:ki (n2 y)/\(n2 y).tK<=1400000:=by
 unfold n2;have h:=SP (λi=>xH y.m.tu ((y.m.au.map (·.1)).getD i 0)) (λi=>(y.m.au.map (·.2.2)).getD i []) y.m.au.length;generalize a:dF (λi=>xH y.m.tu ((y.m.au.map (·.1)).getD i 0)) (λi=>(y.m.au.map (·.2.2)).getD i []) y.m.au.length=s at h⊢;unfold DJ ki;refine⟨⟨by simp only;omega,?_⟩,by simp only;omega⟩;simp only;cases G:s.S 1 with
 |none=>decide
 |some n=>exact h.1 1 n G
theorem enu(f:Laid w0)(b:U en S w0)(c:tX (mg t is t8 y) S):tN 34 #[.agg (O.enc t.m)] w0 (.agg (O.enc (n2 y))):=by
 have a:=b.bX c;obtain⟨_,_,_,g,fC,_,_,_,j,_⟩:=(b.xU c).1;have e:=etQ (λi=>(y.m.au.map (·.2.2)).getD i []) f a.2.k a.2.i (by omega) (λi ey=>by
  have d:i<y.m.au.length:=by omega
  have:=(a.2.wF.2 i ey d).2.2;simpa[List.getD,d]using this)
 have h:lG y.m.tu is=λi=>xH y.m.tu ((y.m.au.map (·.1)).getD i 0):=by funext i;unfold lG;rw[fC]
 rw[h,g]at e;exact e
def lN(y:nD):Nat:=(y.m.au.map λc=>c.2.2.length).sum
theorem YM{w:World}:∀{is:List Instr}{cs:List (UInt8×List UInt8×List UInt8)},jQ w is cs->dM is=(cs.map λc=>c.2.2.length).sum
 |[],[],_=>rfl
 |[],_::_,h=>by cases h.1
 |_::_,[],h=>by cases h.1
 |l::t8,c::cs,h=>by
  have em:=h.2 0 (by simp) (by simp);have a:=YM (is:=t8) (cs:=cs) ⟨by simpa using h.1,λi G Y=>h.2 (i+1) (by simpa using G) (by simpa using Y)⟩;unfold dM at a⊢;have G:hL l.data.v=c.2.2.length:=GC (xs:=c.2.2) em.2.2;rw[List.map_cons,List.sum_cons,List.map_cons,List.sum_cons,a,G]
theorem YF(g:n<=1000000)(b:tK<18446744073709551616)(c:U en S w0)(d:tX (mg t is t8 y) S):tN 36 #[.agg (O.enc t),i6 n,eb tK] w0 (.int .u64 ((ly y.sigs.length (lN y) (n:Int) tK:Nat):Int)):=by
 have a:=c.bX d;have e:=ei8 (w0:=w0) (x:=t) (iO:=(n:Int)) (tK:=tK) (tk:=y.sigs) (au:=is) a.1 a.2.i (λe f=>by
  obtain⟨i,ey,rfl⟩:=List.getElem_of_mem f;obtain⟨_,G,Y⟩:=a.2.wF.2 i ey (a.2.wF.1▸ey);exact⟨⟨_,G,λ_ _=>trivial⟩,⟨_,Y,λ_ _=>trivial⟩⟩) (by omega) b
 rw[YM a.2.wF]at e;exact e
theorem YP{xs:List o1}(a:ev w0 v.v xs)(eM:xs.length<=100000):eJ 37 #[v.v] w0 (λu w'=>∃s:eu,u=s.v/\U w0 [B s.v 60 (rQ xs)] w'):=
 (etT a eM).mono λu w' h=>h.1.eQ h.2
theorem enm(c:s<=1000000)(a:ki b):eJ 35 #[i6 s,.agg (O.enc b)] w0 (λu w'=>u= .int .u64 ((dE (s:Int) b:Nat):Int)/\eB w0 w'):=ena (by omega) a
theorem enf(e:s<=1000000)(a:ki b)(d:c<18446744073709551616):eJ 38 #[i6 s,.agg (O.enc b),eb c] w0 (λu w'=>u= .int .u64 ((qp (s:Int) b c:Nat):Int)/\eB w0 w'):=eno (by omega) a d
theorem CB:(rQ l).length<=l.length:=by unfold rQ;rw[List.length_map];exact List.length_filter_le _ _
theorem CV{d:Nat}{w:Int}:ly s d w u<18446744073709551616:=xM
theorem enp{v:Value}(b:ev w0 v xs)(eM:xs.length<=1000000):eJ 33 #[v] w0 (λu w'=>sN w0 w' u 5 xs/\eB w0 w'):=by
 obtain⟨a,c,rfl⟩:=b.eq;refine eH 9 (eG _) func33 ntmps33 results33 rfl λw E=>?_;refine ea (fS rfl rfl (ew 2 E<|om 8 4 (λd w E=>?_) (λd w E=>?_)))
 .
   cases a with
   |none=>
    obtain⟨rfl,_,_⟩:=b.wb;exact⟨sN.nil _ _ _,E.J⟩
   |some a=>cases d
 .
   refine ho 1 E (sL ([]:List UInt8)) λe w E=>?_;refine ea (dS (α:=UInt8) rfl E rfl es ((b.ei E.J)) (by(try simp only[List.length_append,List.length_cons,List.length_nil,List.length_map]);omega) (by simp only[maxLen];(try simp only[List.length_append,List.length_cons,List.length_nil,List.length_map]);omega) ?_);intro f w E;replace E:=E _ es;refine ew 5 E λw E=>?_;have G:=E.ut es;simp only[List.nil_append]at G;exact⟨G,E.J⟩
theorem Rg(a:ev w0 v.v xs)(eM:xs.length<=1000000):eJ 33 #[v.v] w0 (λu w'=>∃s:eu,u=s.v/\U w0 [B s.v 5 xs] w'):=
 (enp a eM).mono λu w' h=>h.1.eQ h.2
theorem eng{v:Value}(a:ev w0 v xs):tN 32 #[v] w0 (nT v 0 xs.length xs.length (O.eo (UInt8))):=by
 have:=aS a;refine eH 12 (eG _) func32 ntmps32 results32 rfl λw E=>?_;exact ea (hq (a.ei E.J) ⟨⟨_,rfl⟩,a.cap⟩ ⟨⟨_,rfl⟩,Nat.le_refl _⟩ ⟨rfl,Nat.zero_le _⟩ (ew 5 E λw E=>(⟨rfl,E.J⟩)))
theorem OC(a:U en (B v.v 5 xs::S) w0):eJ 32 #[v.v] w0 (λu w'=>∃s:eu,u=s.v/\U en (B s.v 5 xs::S) w'):=
 (eng (a.ef .nU)).mono λu w' h=>⟨_,h.1.trans rfl,(a.ei h.2).xd⟩
def mG:aX:=⟨ec,⟨ec,⟨false,⟨0,0,0⟩,ec,oc 32,ec,ec⟩⟩,ec,⟨0,0,0⟩,0,0,0⟩
theorem YG:(eK [#[eF],eK [#[eF],eK [#[.bool false],eK [#[.int .u8 0],#[.int .u8 0],#[.int .u8 0]],#[eF],(Array.replicate 32 (.int .u8 0)),#[eF],#[eF]]],#[eF],eK [#[.int .u64 0],#[.int .u64 0],#[i6 0]],#[.int .u64 0],#[.int .u64 0],#[.int .u64 0]])=O.enc (mG:aX):=by
 simp only[p4,aX.parts,nn,mG,dm,oF.parts,cy,oe.parts,cW,rr.parts,bS,sD.parts];rfl
instance:gK (eK [#[eF],eK [#[eF],eK [#[.bool false],eK [#[.int .u8 0],#[.int .u8 0],#[.int .u8 0]],#[eF],(Array.replicate 32 (.int .u8 0)),#[eF],#[eF]]],#[eF],eK [#[.int .u64 0],#[.int .u64 0],#[i6 0]],#[.int .u64 0],#[.int .u64 0],#[.int .u64 0]]) (O.enc (mG:aX)):=⟨YG⟩
theorem enw(A:ev w0 o8.v xs)(F:xs.length<=100000)(H:nG xs=(y,0))(n:cq y=0)(I:y.m.sn=[])(K:Laid w0)(o:U en S w0)(q:tX (l4 p d) S):eJ 8 #[o8.v,N p] w0 (λu w'=>∃(eE:oF)(te:(List Instr))(tO:(List iW))(af:eu)(aT:eu),u= .tuple #[.agg (O.enc (⟨aT,eE,af,(n2 y),dE (y.sigs.length:Int) (n2 y),ly y.sigs.length (lN y) ((rQ (ad y)).length:Int) ((n2 y).tK),qp (y.sigs.length:Int) (n2 y) (ly y.sigs.length (lN y) ((rQ (ad y)).length:Int) ((n2 y).tK))⟩:aX)),i6 0]/\U w0 [B aT.v 5 xs,B af.v 66 (ad y),mg eE te tO y] w'):=by
 have W:=g8 o q;have C:=kn.of n;have j3:=y.m.h.rf.toNat_lt;have nw:y.sigs.length<=255:=by have:=C.tk;omega
 have o4:(ad y).length<=64:=by rw[YC];have:=C.Rp;omega
 have z8:=Nat.le_trans (CB (l:=(ad y))) o4;have D:=(CY (y:=y)).1;have gZ:=(CY (y:=y)).2;have cB:=CV (s:=y.sigs.length) (d:=(lN y)) (w:=((rQ (ad y)).length:Int)) (u:=(n2 y).tK);refine eH 10 (eG _) func8 ntmps8 results8 rfl λaF w E=>?_;refine ea (yg (k:=oc 32) (by first|rfl|(simp only[sM,nn];rfl)) (by intro p t;first|(exfalso;simp at t;done)|(simp only[List.map_cons,List.map_nil,List.mem_cons,List.not_mem_nil,or_false]at t;rcases t with rfl|rfl|rfl|rfl<;>exact⟨by simp,rfl⟩)) ?_);refine ej 10 E (Rf (o.ei E.J) q) λCK w E=>?_;refine ea (p9 (v:=i6 11) rfl ?_);refine ea (p9 (v:=i6 2) rfl ?_);refine ej 8 E (Ow) λw E=>?_;refine ej 4 E (CA (xs:=xs) (A.ei E.J) F H n) λb L M nX w E=>?_;rw[yS]at E;refine ew 8 E λw E=>?_;refine ej 11 E (qn) λw E=>?_;refine ej 13 E (eni I (o.jd E) (.ee (.ee (.ee (q)))) .G) λP Q w E=>?_;refine ej 11 E (qn) λw E=>?_;refine ej 11 E (enl n (E.ef .em) (E.ef .G) E .ez) λc w E=>?_;refine ej 6 E (qn) λw E=>?_;refine nV 5 11 (e5 [0,3,4,5,6] (.sx [[1,2,7,8],[9]] (.one 10 .nil))) [] E λw E=>?_;refine e3.sx [λu e=>∃(j:eu)(a:eu),u=[(69,.agg (O.enc (⟨a,b,c,(n2 y),0,0,0⟩:aX))),(68,.agg (O.enc (n2 y))),(63,a.v),(62,j.v)]/\e=[B a.v 5 xs],λu e=>∃(g:Nat),u=[(13,N g)]/\e=[V g (O.enc mG) 53]] E (λw E=>E) (.cons ?_ (.cons ?_ .nil)) ?_
 .refine o5.step rfl rfl (λX w E=>?_);simp only[List.nil_append,List.cons_append]at E;refine Z.call (Rg (xs:=xs) (A.ei E.J) (by first|omega|simp)) rfl ?_;rintro _ w ⟨j,rfl,x⟩;replace E:=ik E x;refine⟨[B j.v 5 xs],E,?_⟩;refine o5.step rfl rfl (λX w E=>?_);simp only[List.nil_append,List.cons_append]at E;refine Z.call (OC (E.pick .em)) rfl ?_;rintro _ w ⟨a,rfl,E⟩;refine⟨[B a.v 5 xs],E,?_⟩;refine o5.step rfl rfl (λX w E=>?_);simp only[List.nil_append,List.cons_append]at E;refine Z.call (enu (K.ei E.J) E .ac) rfl ?_;rintro _ w ⟨rfl,f⟩;replace E:=E.ei f;refine⟨[B a.v 5 xs],E,?_⟩;refine o5.step rfl rfl (λX w E=>?_);simp only[List.nil_append,List.cons_append]at E;refine rV (r:=(⟨a,b,c,(n2 y),0,0,0⟩:aX)) (ps:=aX.parts (⟨a,b,c,(n2 y),0,0,0⟩:aX)) (p4 _) (by first|rfl|(simp only[p4,aX.parts,dm,oF.parts,cy,oe.parts,cW,rr.parts,bS,sD.parts,sM,nn];rfl)) (by exact lE ⟨by decide,rfl,by decide,O.eT b,by decide,rfl,by decide,O.eT (n2 y),trivial⟩) ?_;refine⟨[B a.v 5 xs],E,?_⟩;exact .nil ⟨j,a,rfl,rfl⟩
 .refine o5.step rfl rfl (λX w E=>?_);simp only[List.nil_append,List.cons_append]at E;refine sV E ?_;intro g w _ E;rw[YG]at E;refine⟨[V g (O.enc mG) 53],E,?_⟩;exact .nil ⟨g,rfl,rfl⟩
 refine .cons λ_ _ R=>.cons λ_ _ T=>.nil λw E=>?_;obtain⟨j,a,rfl,rfl⟩:=R;obtain⟨g,rfl,rfl⟩:=T;simp only[List.nil_append,List.cons_append]at E;refine ao 7 E λw E=>?_;refine ea (Z.hL (v:=b.sigs.v) (xs:=y.sigs) rfl ((E.bX .aW).1) ?_);refine ew 8 E λw E=>?_;refine ea (Z.call (enm (by first|omega|simp) D) rfl ?_);rintro _ w ⟨rfl,f⟩;replace E:=E.ei f;refine ea (o9 rfl ?_);refine oA (iU (v:=.int .u64 (dE (y.sigs.length:Int) (n2 y):Int)) (iR:=O.enc (⟨a,b,c,(n2 y),dE (y.sigs.length:Int) (n2 y),0,0⟩:aX)) E rfl rfl .G rfl pZ (o0 _ _) (ZW (⟨a,b,c,(n2 y),0,0,0⟩:aX) (dE (y.sigs.length:Int) (n2 y))) (tA .G λw E=>(ew 3 E λw E=>?_)));refine nV 0 9 (e5 [0,1,4,5,6] (oJ [2,3,7] (.look 8 (.one 9 .nil)))) [] E λw E=>?_;refine tw rfl (λw E=>ap (v:=.agg (O.enc b)) rfl (E.nZ .ac (O.eT b)) eY) (tw rfl (λw E=>oM (v:=c.v) rfl eY) (tw rfl (λw E=>o9 rfl eY) (tw rfl (λw E=>o9 rfl eY) (tw rfl (λw E=>ap (v:=.int .u64 (((n2 y).tK):Int)) rfl (E.aV .G (vE (i:=0) (GL (⟨a,b,c,(n2 y),dE (y.sigs.length:Int) (n2 y),0,0⟩:aX)) (GH (n2 y)) (by decide))) eY) (ol rfl (Z.call (YP (E.ef .Y) (by first|omega|simp)) rfl ?_))))));rintro _ w ⟨z,rfl,x⟩;replace E:=ik E x;refine⟨tF [0] E,?_⟩;refine ol rfl (Z.hL (v:=z.v) (xs:=(rQ (ad y))) rfl (E.ef .em) ?_);refine⟨tF [0] E,?_⟩;refine ol rfl (Z.call (YF (by first|omega|simp) (by first|omega|simp) E .nf) rfl ?_);rintro _ w ⟨rfl,f⟩;replace E:=E.ei f;refine⟨tF [0] E,?_⟩;refine ao 11 E λw E=>?_;refine ea (Z.call (enf (by first|omega|simp) D (by first|omega|simp)) rfl ?_);rintro _ w ⟨rfl,f⟩;replace E:=E.ei f;refine ew 6 E λw E=>?_;refine ea (ap (v:=.agg (O.enc (⟨a,b,c,(n2 y),dE (y.sigs.length:Int) (n2 y),ly y.sigs.length (lN y) ((rQ (ad y)).length:Int) ((n2 y).tK),qp (y.sigs.length:Int) (n2 y) (ly y.sigs.length (lN y) ((rQ (ad y)).length:Int) ((n2 y).tK))⟩:aX))) rfl (E.nZ .Y (O.eT (⟨a,b,c,(n2 y),dE (y.sigs.length:Int) (n2 y),ly y.sigs.length (lN y) ((rQ (ad y)).length:Int) ((n2 y).tK),qp (y.sigs.length:Int) (n2 y) (ly y.sigs.length (lN y) ((rQ (ad y)).length:Int) ((n2 y).tK))⟩:aX))) (ew 5 E λw E=>?_));refine cI (.cell (E.nZ .nE (O.eT (⟨a,b,c,(n2 y),dE (y.sigs.length:Int) (n2 y),ly y.sigs.length (lN y) ((rQ (ad y)).length:Int) ((n2 y).tK),qp (y.sigs.length:Int) (n2 y) (ly y.sigs.length (lN y) ((rQ (ad y)).length:Int) ((n2 y).tK))⟩:aX))) (.hB rfl .nil)) ?_;exact⟨b,L,M,c,a,rfl,(tF [0,2,4,5,6,8] E)⟩
theorem enk(h:ev w0 o8.v xs)(i:xs.length<=100000)(j:nG xs=(y,e))(b:e≠0)(c:U en S w0)(f:tX (l4 p d) S):tN 8 #[o8.v,N p] w0 (.tuple #[.agg (O.enc mG),.int .i64 e]):=by
 have l:=g8 c f;refine eH 10 (eG _) func8 ntmps8 results8 rfl λaF w E=>?_;refine ea (yg (k:=oc 32) (by first|rfl|(simp only[sM,nn];rfl)) (by intro p a;first|(exfalso;simp at a;done)|(simp only[List.map_cons,List.map_nil,List.mem_cons,List.not_mem_nil,or_false]at a;rcases a with rfl|rfl|rfl|rfl<;>exact⟨by simp,rfl⟩)) ?_);refine ej 10 E (Rf (c.ei E.J) f) λm w E=>?_;refine ea (p9 (v:=i6 11) rfl ?_);refine ea (p9 (v:=i6 2) rfl ?_);refine ej 8 E (Ow) λw E=>?_;refine ej 4 E (eif (h.ei E.J) i j b) λn w E=>?_;rw[yS]at E;refine ew 8 E λw E=>?_;refine ej 2 E (qn)<|om 2 0 (λg w E=>?_) (λg w E=>?_)
 .
   refine ea (rV (r:=mG) (ps:=aX.parts mG) (p4 _) (by simp only[mG,p4,aX.parts,dm,oF.parts,cy,oe.parts,cW,rr.parts,bS,sD.parts,sM,nn];rfl) (by exact trivial) ?_);refine ew 8 E λw E=>?_;exact⟨rfl,E.J⟩
 .
   exact absurd g b
theorem enx(h:ev w0 o8.v xs)(i:xs.length<=100000)(j:nG xs=(y,0))(l:cq y=e)(b:e≠0)(c:U en S w0)(f:tX (l4 p d) S):tN 8 #[o8.v,N p] w0 (.tuple #[.agg (O.enc mG),.int .i64 e]):=by
 have m:=g8 c f;refine eH 10 (eG _) func8 ntmps8 results8 rfl λaF w E=>?_;refine ea (yg (k:=oc 32) (by first|rfl|(simp only[sM,nn];rfl)) (by intro p a;first|(exfalso;simp at a;done)|(simp only[List.map_cons,List.map_nil,List.mem_cons,List.not_mem_nil,or_false]at a;rcases a with rfl|rfl|rfl|rfl<;>exact⟨by simp,rfl⟩)) ?_);refine ej 10 E (Rf (c.ei E.J) f) λn w E=>?_;refine ea (p9 (v:=i6 11) rfl ?_);refine ea (p9 (v:=i6 2) rfl ?_);refine ej 8 E (Ow) λw E=>?_;refine ej 4 E (eip (h.ei E.J) i j l b) λo w E=>?_;rw[yS]at E;refine ew 8 E λw E=>?_;refine ej 2 E (qn)<|om 2 0 (λg w E=>?_) (λg w E=>?_)
 .
   refine ea (rV (r:=mG) (ps:=aX.parts mG) (p4 _) (by simp only[mG,p4,aX.parts,dm,oF.parts,cy,oe.parts,cW,rr.parts,bS,sD.parts,sM,nn];rfl) (by exact trivial) ?_);refine ew 8 E λw E=>?_;exact⟨rfl,E.J⟩
 .
   exact absurd g b
theorem enj(f:ev w0 o8.v xs)(g:xs.length<=100000)(h:nG xs=(y,0))(e:cq y=0)(i:y.m.sn≠[])(a:U en S w0)(b:tX (l4 p d) S):tN 8 #[o8.v,N p] w0 (.tuple #[.agg (O.enc mG),i6 11]):=by
 have n:=g8 a b;have o:y.m.tu.length+hI y.m.sn<=64:=(kn.of e).Rp;refine eH 10 (eG _) func8 ntmps8 results8 rfl λaF w E=>?_;refine ea (yg (k:=oc 32) (by first|rfl|(simp only[sM,nn];rfl)) (by intro p c;first|(exfalso;simp at c;done)|(simp only[List.map_cons,List.map_nil,List.mem_cons,List.not_mem_nil,or_false]at c;rcases c with rfl|rfl|rfl|rfl<;>exact⟨by simp,rfl⟩)) ?_);refine ej 10 E (Rf (a.ei E.J) b) λq w E=>?_;refine ea (p9 (v:=i6 11) rfl ?_);refine ea (p9 (v:=i6 2) rfl ?_);refine ej 8 E (Ow) λw E=>?_;refine ej 4 E (CA (f.ei E.J) g h e) λs t u x w E=>?_;rw[yS]at E;refine ew 8 E λw E=>?_;refine ej 11 E (qn) λw E=>?_;refine ej 13 E (ens i (by first|omega|simp) (a.jd E) (.ee (.ee (.ee (b)))) .G) λj l w E=>?_;refine ej 5 E (qn) λw E=>?_;refine ea (rV (r:=mG) (ps:=aX.parts mG) (p4 _) (by simp only[mG,p4,aX.parts,dm,oF.parts,cy,oe.parts,cW,rr.parts,bS,sD.parts,sM,nn];rfl) (by exact trivial) ?_);refine ew 8 E λw E=>?_;exact⟨rfl,E.J⟩
end
section
open Go.Proofs Tryz
variable{S:List eL}{cs:List (UInt8×List UInt8×List UInt8)}{d:ca}{sE is:List Instr}{k m p:Nat}{r:aX}{o8 v:eu}{w w0 en:World}{xs:List UInt8}{y:nD}
structure EH(r:aX)(xs:List UInt8)(y:nD):Prop where
 CJ:nG xs=(y,0)
 CQ:cq y=0
 Rw:y.m.sn=[]
 YB:r.rD=n2 y
 tc:r.tc=dE (y.sigs.length:Int) (n2 y)
 oy:r.oy=ly y.sigs.length (lN y) ((rQ (ad y)).length:Int) (n2 y).tK
 enq:r.priority=qp (y.sigs.length:Int) (n2 y) (ly y.sigs.length (lN y) ((rQ (ad y)).length:Int) (n2 y).tK)
@[irreducible] def az (r:aX) (is:List Instr) (xs:List UInt8) (y:nD):eL:=hD [no (EH r xs y),B r.bytes.v 5 xs,B r.s5.v 66 (ad y),mg r.tQ is [] y]
theorem YV(h:U w0 (B r.bytes.v 5 xs::B r.s5.v 66 (ad y)::mg r.tQ is [] y::S) w)(e1:EH r xs y):U w0 (az r is xs y::S) w:=by
 unfold az;exact U.closed (l:=[no (EH r xs y),B r.bytes.v 5 xs,B r.s5.v 66 (ad y),mg r.tQ is [] y]) (h.pure e1)
theorem U.g9(h:U w0 S w)(a:tX (az r is xs y) S):EH r xs y/\ev w r.bytes.v xs/\ev w r.s5.v (ad y)/\A6 w r.tQ y is []/\pg r.tQ is [] y:=by
 have h:=h.mem a;unfold az at h;have h:=h.dr;have G:=h.get (e:=no (EH r xs y)) .em;rw[mf]at G;exact⟨G,h.ef .G,h.ef .Y,h.bX .ez,(h.xU .ez).1⟩
theorem gr(h:U w0 S w)(a:tX (az r is xs y) S):EH r xs y/\ev w r.bytes.v xs/\ev w r.s5.v (ad y)/\A6 w r.tQ y is []/\ev w r.tQ.sigs.v y.sigs/\ev w r.tQ.m.tu.v y.m.tu/\ev w r.tQ.m.instrs.v is/\ev w r.tQ.m.r1.v ([]:List iW):=by
 obtain⟨G,Y,ez,e6,_⟩:=h.g9 a;exact⟨G,Y,ez,e6,e6.1,e6.2.k,e6.2.i,e6.2.l⟩
instance:AC (az r is xs y) r.s5.v _ (ad y):=⟨λh e=>(gr h e).2.2.1⟩
instance:AC (az r is xs y) r.tQ.sigs.v _ y.sigs:=⟨λh e=>(gr h e).2.2.2.2.1⟩
theorem Ry(e:ev w0 o8.v xs)(f:xs.length<=100000)(b:nG xs=(y,0))(c:cq y=0)(a:y.m.sn=[])(g:Laid w0)(h:U en S w0)(i:tX (l4 p d) S):eJ 8 #[o8.v,N p] w0 (λu w'=>∃(r:aX)(is:List Instr),u= .tuple #[.agg (O.enc r),i6 0]/\U w0 [az r is xs y] w'):=by
 refine(enw e f b c a g h i).mono ?_;rintro u w' ⟨t,is,t8,a2,j,rfl,E⟩;refine⟨_,is,rfl,?_⟩;have k:=(E.xU .Y).1;obtain rfl:t8=[]:=by
  have:=k.2.2.2.2.2.1;rw[a]at this;exact List.length_eq_zero_iff.1 this
 exact YV (r:=⟨j,t,a2,_,_,_,_⟩) E ⟨b,c,a,rfl,rfl,rfl,rfl⟩
theorem enz{v:Value}{xs:List o1}(b:ev w0 v xs)(eM:xs.length<=1000000):eJ 242 #[v] w0 (λu w'=>sN w0 w' u 66 xs/\eB w0 w'):=by
 obtain⟨a,c,rfl⟩:=b.eq;refine eH 9 (eG _) func242 ntmps242 results242 rfl λw E=>?_;refine ea (fS rfl rfl (ew 2 E<|om 8 4 (λd w E=>?_) (λd w E=>?_)))
 .
   cases a with
   |none=>
    obtain⟨rfl,_,_⟩:=b.wb;exact⟨sN.nil _ _ _,E.J⟩
   |some a=>cases d
 .
   refine ho 1 E (sL ([]:List o1)) λe w E=>?_;refine ea (dS (α:=o1) rfl E rfl es ((b.ei E.J)) (by(try simp only[List.length_append,List.length_cons,List.length_nil,List.length_map]);omega) (by simp only[maxLen];(try simp only[List.length_append,List.length_cons,List.length_nil,List.length_map]);omega) ?_);intro f w E;replace E:=E _ es;refine ew 5 E λw E=>?_;have G:=E.ut es;simp only[List.nil_append]at G;exact⟨G,E.J⟩
theorem enE{xs:List o1}(a:ev w0 v.v xs)(eM:xs.length<=1000000):eJ 242 #[v.v] w0 (λu w'=>∃s:eu,u=s.v/\U w0 [B s.v 66 xs] w'):=
 (enz a eM).mono λu w' h=>h.1.eQ h.2
theorem enT{v:Value}{xs:List o1}(a:ev w0 v xs):tN 92 #[v] w0 (nT v 0 xs.length xs.length (O.eo (o1))):=by
 have:=aS a;refine eH 12 (eG _) func92 ntmps92 results92 rfl λw E=>?_;exact ea (hq (a.ei E.J) ⟨⟨_,rfl⟩,a.cap⟩ ⟨⟨_,rfl⟩,Nat.le_refl _⟩ ⟨rfl,Nat.zero_le _⟩ (ew 5 E λw E=>(⟨rfl,E.J⟩)))
theorem enA{xs:List o1}(a:U en (B v.v 66 xs::S) w0):eJ 92 #[v.v] w0 (λu w'=>∃s:eu,u=s.v/\U en (B s.v 66 xs::S) w'):=
 (enT (a.ef .nU)).mono λu w' h=>⟨_,h.1.trans rfl,(a.ei h.2).xd⟩
theorem enO{v:Value}{xs:List hO}(b:ev w0 v xs)(eM:xs.length<=1000000):eJ 243 #[v] w0 (λu w'=>sN w0 w' u 251 xs/\eB w0 w'):=by
 obtain⟨a,c,rfl⟩:=b.eq;refine eH 9 (eG _) func243 ntmps243 results243 rfl λw E=>?_;refine ea (fS rfl rfl (ew 2 E<|om 8 4 (λd w E=>?_) (λd w E=>?_)))
 .
   cases a with
   |none=>
    obtain⟨rfl,_,_⟩:=b.wb;exact⟨sN.nil _ _ _,E.J⟩
   |some a=>cases d
 .
   refine ho 1 E (sL ([]:List hO)) λe w E=>?_;refine ea (dS (α:=Vector UInt8 64) rfl E rfl es ((b.ei E.J)) (by(try simp only[List.length_append,List.length_cons,List.length_nil,List.length_map]);omega) (by simp only[maxLen];(try simp only[List.length_append,List.length_cons,List.length_nil,List.length_map]);omega) ?_);intro f w E;replace E:=E _ es;refine ew 5 E λw E=>?_;have G:=E.ut es;simp only[List.nil_append]at G;exact⟨G,E.J⟩
theorem enI{xs:List hO}(a:ev w0 v.v xs)(eM:xs.length<=1000000):eJ 243 #[v.v] w0 (λu w'=>∃s:eu,u=s.v/\U w0 [B s.v 251 xs] w'):=
 (enO a eM).mono λu w' h=>h.1.eQ h.2
theorem enN{v:Value}{xs:List hO}(a:ev w0 v xs):tN 229 #[v] w0 (nT v 0 xs.length xs.length (O.eo (hO))):=by
 have:=aS a;refine eH 12 (eG _) func229 ntmps229 results229 rfl λw E=>?_;exact ea (hq (a.ei E.J) ⟨⟨_,rfl⟩,a.cap⟩ ⟨⟨_,rfl⟩,Nat.le_refl _⟩ ⟨rfl,Nat.zero_le _⟩ (ew 5 E λw E=>(⟨rfl,E.J⟩)))
theorem enS{xs:List hO}(a:U en (B v.v 251 xs::S) w0):eJ 229 #[v.v] w0 (λu w'=>∃s:eu,u=s.v/\U en (B s.v 251 xs::S) w'):=
 (enN (a.ef .nU)).mono λu w' h=>⟨_,h.1.trans rfl,(a.ei h.2).xd⟩
theorem enR{v:Value}{xs:List av}(b:ev w0 v xs)(eM:xs.length<=1000000):eJ 244 #[v] w0 (λu w'=>sN w0 w' u 60 xs/\eB w0 w'):=by
 obtain⟨a,c,rfl⟩:=b.eq;refine eH 9 (eG _) func244 ntmps244 results244 rfl λw E=>?_;refine ea (fS rfl rfl (ew 2 E<|om 8 4 (λd w E=>?_) (λd w E=>?_)))
 .
   cases a with
   |none=>
    obtain⟨rfl,_,_⟩:=b.wb;exact⟨sN.nil _ _ _,E.J⟩
   |some a=>cases d
 .
   refine ho 1 E (sL ([]:List av)) λe w E=>?_;refine ea (dS (α:=Vector UInt8 32) rfl E rfl es ((b.ei E.J)) (by(try simp only[List.length_append,List.length_cons,List.length_nil,List.length_map]);omega) (by simp only[maxLen];(try simp only[List.length_append,List.length_cons,List.length_nil,List.length_map]);omega) ?_);intro f w E;replace E:=E _ es;refine ew 5 E λw E=>?_;have G:=E.ut es;simp only[List.nil_append]at G;exact⟨G,E.J⟩
theorem enH{xs:List av}(a:ev w0 v.v xs)(eM:xs.length<=1000000):eJ 244 #[v.v] w0 (λu w'=>∃s:eu,u=s.v/\U w0 [B s.v 60 xs] w'):=
 (enR a eM).mono λu w' h=>h.1.eQ h.2
theorem enL{v:Value}{xs:List av}(a:ev w0 v xs):tN 89 #[v] w0 (nT v 0 xs.length xs.length (O.eo (av))):=by
 have:=aS a;refine eH 12 (eG _) func89 ntmps89 results89 rfl λw E=>?_;exact ea (hq (a.ei E.J) ⟨⟨_,rfl⟩,a.cap⟩ ⟨⟨_,rfl⟩,Nat.le_refl _⟩ ⟨rfl,Nat.zero_le _⟩ (ew 5 E λw E=>(⟨rfl,E.J⟩)))
theorem enD{xs:List av}(a:U en (B v.v 60 xs::S) w0):eJ 89 #[v.v] w0 (λu w'=>∃s:eu,u=s.v/\U en (B s.v 60 xs::S) w'):=
 (enL (a.ef .nU)).mono λu w' h=>⟨_,h.1.trans rfl,(a.ei h.2).xd⟩
theorem enC{v:Value}{xs:List Instr}(b:ev w0 v xs)(eM:xs.length<=1000000):eJ 246 #[v] w0 (λu w'=>sN w0 w' u 230 xs/\eB w0 w'):=by
 obtain⟨a,c,rfl⟩:=b.eq;refine eH 9 (eG _) func246 ntmps246 results246 rfl λw E=>?_;refine ea (fS rfl rfl (ew 2 E<|om 8 4 (λd w E=>?_) (λd w E=>?_)))
 .
   cases a with
   |none=>
    obtain⟨rfl,_,_⟩:=b.wb;exact⟨sN.nil _ _ _,E.J⟩
   |some a=>cases d
 .
   refine ho 1 E (sL ([]:List Instr)) λe w E=>?_;refine ea (dS (α:=Instr) rfl E rfl es ((b.ei E.J)) (by(try simp only[List.length_append,List.length_cons,List.length_nil,List.length_map]);omega) (by simp only[maxLen];(try simp only[List.length_append,List.length_cons,List.length_nil,List.length_map]);omega) ?_);intro f w E;replace E:=E _ es;refine ew 5 E λw E=>?_;have G:=E.ut es;simp only[List.nil_append]at G;exact⟨G,E.J⟩
theorem enU{xs:List Instr}(a:ev w0 v.v xs)(eM:xs.length<=1000000):eJ 246 #[v.v] w0 (λu w'=>∃s:eu,u=s.v/\U w0 [B s.v 230 xs] w'):=
 (enC a eM).mono λu w' h=>h.1.eQ h.2
theorem enM{v:Value}{xs:List Instr}(a:ev w0 v xs):tN 245 #[v] w0 (nT v 0 xs.length xs.length (O.eo (Instr))):=by
 have:=aS a;refine eH 12 (eG _) func245 ntmps245 results245 rfl λw E=>?_;exact ea (hq (a.ei E.J) ⟨⟨_,rfl⟩,a.cap⟩ ⟨⟨_,rfl⟩,Nat.le_refl _⟩ ⟨rfl,Nat.zero_le _⟩ (ew 5 E λw E=>(⟨rfl,E.J⟩)))
theorem enF{xs:List Instr}(a:U en (B v.v 230 xs::S) w0):eJ 245 #[v.v] w0 (λu w'=>∃s:eu,u=s.v/\U en (B s.v 230 xs::S) w'):=
 (enM (a.ef .nU)).mono λu w' h=>⟨_,h.1.trans rfl,(a.ei h.2).xd⟩
theorem enP{v:Value}{xs:List iW}(b:ev w0 v xs)(eM:xs.length<=1000000):eJ 248 #[v] w0 (λu w'=>sN w0 w' u 221 xs/\eB w0 w'):=by
 obtain⟨a,c,rfl⟩:=b.eq;refine eH 9 (eG _) func248 ntmps248 results248 rfl λw E=>?_;refine ea (fS rfl rfl (ew 2 E<|om 8 4 (λd w E=>?_) (λd w E=>?_)))
 .
   cases a with
   |none=>
    obtain⟨rfl,_,_⟩:=b.wb;exact⟨sN.nil _ _ _,E.J⟩
   |some a=>cases d
 .
   refine ho 1 E (sL ([]:List iW)) λe w E=>?_;refine ea (dS (α:=iW) rfl E rfl es ((b.ei E.J)) (by(try simp only[List.length_append,List.length_cons,List.length_nil,List.length_map]);omega) (by simp only[maxLen];(try simp only[List.length_append,List.length_cons,List.length_nil,List.length_map]);omega) ?_);intro f w E;replace E:=E _ es;refine ew 5 E λw E=>?_;have G:=E.ut es;simp only[List.nil_append]at G;exact⟨G,E.J⟩
theorem enG{xs:List iW}(a:ev w0 v.v xs)(eM:xs.length<=1000000):eJ 248 #[v.v] w0 (λu w'=>∃s:eu,u=s.v/\U w0 [B s.v 221 xs] w'):=
 (enP a eM).mono λu w' h=>h.1.eQ h.2
theorem enW{v:Value}{xs:List iW}(a:ev w0 v xs):tN 247 #[v] w0 (nT v 0 xs.length xs.length (O.eo (iW))):=by
 have:=aS a;refine eH 12 (eG _) func247 ntmps247 results247 rfl λw E=>?_;exact ea (hq (a.ei E.J) ⟨⟨_,rfl⟩,a.cap⟩ ⟨⟨_,rfl⟩,Nat.le_refl _⟩ ⟨rfl,Nat.zero_le _⟩ (ew 5 E λw E=>(⟨rfl,E.J⟩)))
theorem enY{xs:List iW}(a:U en (B v.v 221 xs::S) w0):eJ 247 #[v.v] w0 (λu w'=>∃s:eu,u=s.v/\U en (B s.v 221 xs::S) w'):=
 (enW (a.ef .nU)).mono λu w' h=>⟨_,h.1.trans rfl,(a.ei h.2).xd⟩
theorem CZ(a:ev w0 v.v xs)(eM:xs.length<=1000000):eJ 182 #[v.v] w0 (λu w'=>∃(eE:eu),u=eE.v/\U w0 [B eE.v 5 xs] w'):=by
 refine eH 8 (eG _) func182 ntmps182 results182 rfl λw E=>?_;refine ej 0 E (Rg (a.ei E.J) eM) λc w E=>?_;refine ej 5 E (OC (E.pick .em)) λb w E=>?_;exact⟨b,rfl,E⟩
theorem enB{xs:List o1}(a:ev w0 v.v xs)(eM:xs.length<=1000000):eJ 183 #[v.v] w0 (λu w'=>∃(eE:eu),u=eE.v/\U w0 [B eE.v 66 xs] w'):=by
 refine eH 8 (eG _) func183 ntmps183 results183 rfl λw E=>?_;refine ej 0 E (enE (a.ei E.J) eM) λc w E=>?_;refine ej 5 E (enA (E.pick .em)) λb w E=>?_;exact⟨b,rfl,E⟩
theorem enV{xs:List hO}(a:ev w0 v.v xs)(eM:xs.length<=1000000):eJ 184 #[v.v] w0 (λu w'=>∃(eE:eu),u=eE.v/\U w0 [B eE.v 251 xs] w'):=by
 refine eH 8 (eG _) func184 ntmps184 results184 rfl λw E=>?_;refine ej 0 E (enI (a.ei E.J) eM) λc w E=>?_;refine ej 5 E (enS (E.pick .em)) λb w E=>?_;exact⟨b,rfl,E⟩
theorem enK{xs:List av}(a:ev w0 v.v xs)(eM:xs.length<=1000000):eJ 185 #[v.v] w0 (λu w'=>∃(eE:eu),u=eE.v/\U w0 [B eE.v 60 xs] w'):=by
 refine eH 8 (eG _) func185 ntmps185 results185 rfl λw E=>?_;refine ej 0 E (enH (a.ei E.J) eM) λc w E=>?_;refine ej 5 E (enD (E.pick .em)) λb w E=>?_;exact⟨b,rfl,E⟩
theorem enX{xs:List Instr}(a:ev w0 v.v xs)(eM:xs.length<=1000000):eJ 186 #[v.v] w0 (λu w'=>∃(eE:eu),u=eE.v/\U w0 [B eE.v 230 xs] w'):=by
 refine eH 8 (eG _) func186 ntmps186 results186 rfl λw E=>?_;refine ej 0 E (enU (a.ei E.J) eM) λc w E=>?_;refine ej 5 E (enF (E.pick .em)) λb w E=>?_;exact⟨b,rfl,E⟩
theorem enJ{xs:List iW}(a:ev w0 v.v xs)(eM:xs.length<=1000000):eJ 187 #[v.v] w0 (λu w'=>∃(eE:eu),u=eE.v/\U w0 [B eE.v 221 xs] w'):=by
 refine eH 8 (eG _) func187 ntmps187 results187 rfl λw E=>?_;refine ej 0 E (enG (a.ei E.J) eM) λc w E=>?_;refine ej 5 E (enY (E.pick .em)) λb w E=>?_;exact⟨b,rfl,E⟩
structure gh(k:Nat)(sE is:List Instr):Prop where
 len:sE.length=is.length
 le:k<=is.length
 prog:sE.map (·.program)=is.map (·.program)
 rest:sE.drop k=is.drop k
theorem gh.zero(is:List Instr):gh 0 is is:=⟨rfl,Nat.zero_le _,rfl,rfl⟩
theorem gh.at(h:gh k sE is)(G:k<sE.length)(Y:k<is.length):sE[k]=is[k]:=by
 have e:=congrArg (λl=>l[0]?) h.rest;simp only[List.getElem?_drop,Nat.add_zero]at e;rw[List.getElem?_eq_getElem G,List.getElem?_eq_getElem Y]at e;exact Option.some.inj e
theorem gh.step(h:gh k sE is)(b:k<sE.length)(a d:eu):gh (k+1) (sE.set k ⟨sE[k].program,a,d⟩) is:=by
 refine⟨by rw[List.length_set];exact h.len,by have:=h.len;omega,?_,?_⟩
 .rw[<-h.prog,List.map_set];exact List.ext_getElem (by simp) λi G Y=>by
   rw[List.getElem_set];split
   .rename_i e;subst e;simp
   rfl
 rw[List.drop_set,if_pos (by omega)];have e:=congrArg (List.drop 1) h.rest;simpa[List.drop_drop,Nat.add_comm]using e
theorem gh.zip(h:gh k sE is)(a:k<sE.length)(b:k<cs.length)(i:Instr):dQ ((sE.set k i).take (k+1)) (cs.take (k+1))=dQ (sE.take k) (cs.take k)++[((i.cG,(cs[k]).2.1),(i.data,(cs[k]).2.2))]:=by
 have c:(sE.set k i).take (k+1)=sE.take k++[i]:=by
  rw[List.take_succ_eq_append_getElem (by rw[List.length_set];exact a),List.take_set,List.getElem_set_self,List.set_eq_of_length_le (by rw[List.length_take];omega)]
 rw[c,List.take_succ_eq_append_getElem b];exact GW (by rw[List.length_take,List.length_take];omega)
theorem pp.enQ{α:Type}{l:List (α×List UInt8×List UInt8)}(h:pp m l)(a:k<l.length):l[k].2.1.length<=m/\l[k].2.2.length<=m:=h _ (List.getElem_mem a)
theorem enZ(h:nG xs=(y,0)):xs.length<=1232:=by
 unfold nG at h;split at h
 .cases h
 omega
theorem pe(h:U w0 S w)(e:tX (az r is xs y) S):xs.length<=1232/\y.m.tu.length<=64/\(ad y).length=y.m.tu.length/\y.sigs.length<=255/\is.length<65536/\y.m.au.length=is.length/\(∀k(b:k<y.m.au.length),(y.m.au[k]).2.1.length<=1232/\(y.m.au[k]).2.2.length<=1232)/\0<y.m.tu.length/\0<y.sigs.length:=by
 obtain⟨e1,_,_,c,f⟩:=h.g9 e;have d:=EO.of e1.CJ f;have a:=kn.of e1.CQ;have ac:=a.tk;have aW:=y.m.h.rf.toNat_lt;have nf:=a.aR;exact⟨enZ e1.CJ,by have:=a.Rp;omega,YC y,by omega,by have:=d.eim;have:=c.2.wF.1;omega,c.2.wF.1.symm,λk b=>d.xS.enQ b,by have:=a.hd;omega,nf⟩
theorem en0:(eK [#[.int .u8 0],#[eF],#[eF]])=O.enc (⟨0,ec,ec⟩:Instr):=by
 simp only[GA,Instr.parts,nn];rfl
instance:gK (eK [#[.int .u8 0],#[eF],#[eF]]) (O.enc (⟨0,ec,ec⟩:Instr)):=⟨en0⟩
theorem en1(D:U en S w0)(F:tX (az r is xs y) S):eJ 113 #[.agg (O.enc r)] w0 (λu w'=>∃(eE:eu)(te:eu)(tO:eu)(af:eu)(aT:eu)(oP:eu)(iN:(List Instr)),u= .agg (O.enc (⟨eE,⟨tO,(⟨r.tQ.m.v0,r.tQ.m.ii,af,r.tQ.m.it,aT,oP⟩:oe)⟩,te,r.rD,r.tc,r.oy,r.priority⟩:aX))/\U w0 [no (gh is.length iN is),hQ (dQ iN y.m.au),B oP.v 221 ([]:List iW),B aT.v 230 iN,B af.v 60 y.m.tu,B tO.v 251 y.sigs,B te.v 66 (ad y),B eE.v 5 xs] w'):=by
 obtain⟨hP,L,M,s,P,Q,R,t⟩:=gr D F;obtain⟨EC,EU,EM,qg,EF,EP,T,EG,xP⟩:=pe D F;refine eH 7 (eG _) func113 ntmps113 results113 rfl λiZ aa=>?_;refine ow 4 7 (e5 [0,1,3,4] (oJ [2,5] (.look 6 (oJ [7,8,9] .nil)))) [] λw E=>?_;refine iK 0 E (CZ (L.ei E.J) (by first|omega|simp)) λd w E=>?_;refine iK 14 E (enB (M.ei E.J) (by first|omega|simp)) λh=>?_;refine ow 18 24 (e5 [0,1,2,3,4,5,7,8,9,10,12,13,14,15,17,18,19,20] (oJ [6,11,16,21] (e5 [22,23] (oJ [24,25,26,27,28,29,30,31,32,33] .nil)))) [] λw E=>?_;refine iK 0 E (enV (P.ei E.J) (by first|omega|simp)) λa w E=>?_;refine iK 0 E (enK (Q.ei E.J) (by first|omega|simp)) λb w E=>?_;refine iK 0 E (enX (R.ei E.J) (by first|omega|simp)) λc w E=>?_;refine iK 2 E (enJ (t.ei E.J) (by first|omega|simp)) λj w E=>?_;refine nP rfl (iU (v:=a.v) (iR:=O.enc (⟨d,⟨a,r.tQ.m⟩,h,r.rD,r.tc,r.oy,r.priority⟩:aX)) E rfl rfl .nf rfl pZ (O.one (α:=eu) a) (vU (o:=1) (e:=1+40) (i:=0) (AG (⟨d,r.tQ,h,r.rD,r.tc,r.oy,r.priority⟩:aX)) (GS r.tQ a) (Sl (⟨d,r.tQ,h,r.rD,r.tc,r.oy,r.priority⟩:aX) (⟨a,r.tQ.m⟩:oF)) (O.eT _) (show 1+0<=40 from by decide) (by decide) (by decide)) (tA .nf λw E=>?_));refine ao 2 E λw E=>?_;refine nP rfl (iU (v:=b.v) (iR:=O.enc (⟨d,⟨a,(⟨r.tQ.m.v0,r.tQ.m.ii,b,r.tQ.m.it,r.tQ.m.instrs,r.tQ.m.r1⟩:oe)⟩,h,r.rD,r.tc,r.oy,r.priority⟩:aX)) E rfl rfl .nf rfl pZ (O.one (α:=eu) b) (vU (o:=1) (e:=1+40) (i:=5) (AG (⟨d,⟨a,r.tQ.m⟩,h,r.rD,r.tc,r.oy,r.priority⟩:aX)) (vU (o:=1) (e:=1+39) (i:=4) (zV (⟨a,r.tQ.m⟩:oF)) (ZL r.tQ.m b) (Sr (⟨a,r.tQ.m⟩:oF) (⟨r.tQ.m.v0,r.tQ.m.ii,b,r.tQ.m.it,r.tQ.m.instrs,r.tQ.m.r1⟩:oe)) (O.eT _) (show 1+4<=39 from by decide) (by decide) (by decide)) (Sl (⟨d,⟨a,r.tQ.m⟩,h,r.rD,r.tc,r.oy,r.priority⟩:aX) (⟨a,⟨r.tQ.m.v0,r.tQ.m.ii,b,r.tQ.m.it,r.tQ.m.instrs,r.tQ.m.r1⟩⟩:oF)) (O.eT _) (show 1+5<=40 from by decide) (by decide) (by decide)) (tA .nf λw E=>?_));refine ao 2 E λw E=>?_;refine nP rfl (iU (v:=c.v) (iR:=O.enc (⟨d,⟨a,(⟨r.tQ.m.v0,r.tQ.m.ii,b,r.tQ.m.it,c,r.tQ.m.r1⟩:oe)⟩,h,r.rD,r.tc,r.oy,r.priority⟩:aX)) E rfl rfl .nf rfl pZ (O.one (α:=eu) c) (vU (o:=1) (e:=1+40) (i:=38) (AG (⟨d,⟨a,(⟨r.tQ.m.v0,r.tQ.m.ii,b,r.tQ.m.it,r.tQ.m.instrs,r.tQ.m.r1⟩:oe)⟩,h,r.rD,r.tc,r.oy,r.priority⟩:aX)) (vU (o:=1) (e:=1+39) (i:=37) (zV (⟨a,⟨r.tQ.m.v0,r.tQ.m.ii,b,r.tQ.m.it,r.tQ.m.instrs,r.tQ.m.r1⟩⟩:oF)) (ZD (⟨r.tQ.m.v0,r.tQ.m.ii,b,r.tQ.m.it,r.tQ.m.instrs,r.tQ.m.r1⟩:oe) c) (Sr (⟨a,⟨r.tQ.m.v0,r.tQ.m.ii,b,r.tQ.m.it,r.tQ.m.instrs,r.tQ.m.r1⟩⟩:oF) (⟨r.tQ.m.v0,r.tQ.m.ii,b,r.tQ.m.it,c,r.tQ.m.r1⟩:oe)) (O.eT _) (show 1+37<=39 from by decide) (by decide) (by decide)) (Sl (⟨d,⟨a,(⟨r.tQ.m.v0,r.tQ.m.ii,b,r.tQ.m.it,r.tQ.m.instrs,r.tQ.m.r1⟩:oe)⟩,h,r.rD,r.tc,r.oy,r.priority⟩:aX) (⟨a,⟨r.tQ.m.v0,r.tQ.m.ii,b,r.tQ.m.it,c,r.tQ.m.r1⟩⟩:oF)) (O.eT _) (show 1+38<=40 from by decide) (by decide) (by decide)) (tA .nf λw E=>?_));refine ao 2 E λw E=>?_;refine nP rfl (iU (v:=j.v) (iR:=O.enc (⟨d,⟨a,(⟨r.tQ.m.v0,r.tQ.m.ii,b,r.tQ.m.it,c,j⟩:oe)⟩,h,r.rD,r.tc,r.oy,r.priority⟩:aX)) E rfl rfl .nf rfl pZ (O.one (α:=eu) j) (vU (o:=1) (e:=1+40) (i:=39) (AG (⟨d,⟨a,(⟨r.tQ.m.v0,r.tQ.m.ii,b,r.tQ.m.it,c,r.tQ.m.r1⟩:oe)⟩,h,r.rD,r.tc,r.oy,r.priority⟩:aX)) (vU (o:=1) (e:=1+39) (i:=38) (zV (⟨a,⟨r.tQ.m.v0,r.tQ.m.ii,b,r.tQ.m.it,c,r.tQ.m.r1⟩⟩:oF)) (ZC (⟨r.tQ.m.v0,r.tQ.m.ii,b,r.tQ.m.it,c,r.tQ.m.r1⟩:oe) j) (Sr (⟨a,⟨r.tQ.m.v0,r.tQ.m.ii,b,r.tQ.m.it,c,r.tQ.m.r1⟩⟩:oF) (⟨r.tQ.m.v0,r.tQ.m.ii,b,r.tQ.m.it,c,j⟩:oe)) (O.eT _) (show 1+38<=39 from by decide) (by decide) (by decide)) (Sl (⟨d,⟨a,(⟨r.tQ.m.v0,r.tQ.m.ii,b,r.tQ.m.it,c,r.tQ.m.r1⟩:oe)⟩,h,r.rD,r.tc,r.oy,r.priority⟩:aX) (⟨a,⟨r.tQ.m.v0,r.tQ.m.ii,b,r.tQ.m.it,c,j⟩⟩:oF)) (O.eT _) (show 1+39<=40 from by decide) (by decide) (by decide)) (tA .nf λw E=>?_));refine ao 14 E λw E=>?_;refine ex.loop (λq f w=>∃(k:Nat)(sE:List Instr),oW [(1,N iZ),(2,N aa),(3,.pointer (some ⟨iZ,2,none⟩)),(51,c.v),(52,i6 is.length),(53,i6 k)] f/\U w0 [hQ (dQ (sE.take k) (y.m.au.take k)),B j.v 221 ([]:List iW),B c.v 230 sE,B b.v 60 y.m.tu,B a.v 251 y.sigs,B h.v 66 (ad y),B d.v 5 xs,V aa (O.enc mG) 53,V iZ (O.enc (⟨d,⟨a,(⟨r.tQ.m.v0,r.tQ.m.ii,b,r.tQ.m.it,c,j⟩:oe)⟩,h,r.rD,r.tc,r.oy,r.priority⟩:aX)) 53] w/\gh k sE is/\q=is.length-k) (is.length) ?_ ?_
 .
   exact⟨0,is,⟨rfl,rfl,rfl,rfl,rfl,sF,trivial⟩,E.vW,gh.zero _,rfl⟩
 .
   rintro q f w ⟨k,sE,G,E,n,th⟩;refine io _ G (λg=>?_);clear G;refine eI 6 E<|om 0 0 (λW w E=>?_) (λW w E=>?_)
   .
     have H:k<is.length:=by omega
     have x:k<sE.length:=by have:=n.len;omega
     have z:k<y.m.au.length:=by have:=s.2.wF.1;omega
     obtain⟨_,I,K⟩:=s.2.wF.2 k H z;rw[<-n.at x H]at I K;obtain⟨X,Y⟩:=T k z;refine eI 8 E ⟨⟨ay⟩,λ_=>rL 6 λiX=>?_⟩;refine ow 14 18 (e5 [0,1,2,3,4,5,6,7,8,9,10,11,13,14] (oJ [12,15] (e5 [16,17] (oJ [18,19,20,21] .nil)))) [] λw E=>?_;refine iK 0 E (CZ (I.ei E.J) (by first|omega|simp)) λA w E=>?_;refine iK 14 E (CZ (K.ei E.J) (by first|omega|simp)) λC=>⟨iA,λw E=>?_⟩;have eX:=s.2.wF.1;replace E:=Dx (p:=((A,(y.m.au[k]).2.1),(C,(y.m.au[k]).2.2))) (l:=dQ (sE.take k) (y.m.au.take k)) (((E.pick (e:=hQ (dQ (sE.take k) (y.m.au.take k))) es).pick (e:=B C.v 5 (y.m.au[k]).2.2) es).pick (e:=B A.v 5 (y.m.au[k]).2.1) es);rw[<-n.zip x z ⟨sE[k].program,A,C⟩]at E;exact⟨is.length-(k+1),by omega,k+1,_,⟨rfl,rfl,rfl,rfl,rfl,sF,trivial⟩,tF [1] E,n.step x _ _,rfl⟩
   .
     obtain rfl:k=is.length:=by have:=n.le;omega
     have Z:sE.take is.length=sE:=List.take_of_length_le (by rw[n.len];exact Nat.le_refl _);have D6:y.m.au.take is.length=y.m.au:=List.take_of_length_le (by rw[s.2.wF.1];exact Nat.le_refl _);rw[Z,D6]at E;replace E:=E.pure n;refine eI 17 E λw E=>?_;refine oU 40 (og.step ?_);refine eI 2 E ?_;refine eP false 17 λw E=>?_;exact⟨d,h,a,b,c,j,sE,rfl,(tF [8,9] E)⟩
theorem YX(f:U en S w0)(g:tX (az r is xs y) S):eJ 113 #[.agg (O.enc r)] w0 (λu w'=>∃(h:aX)(n:List Instr),u= .agg (O.enc h)/\U w0 [az h n xs y] w'):=by
 obtain⟨e1,_,_,_,o⟩:=f.g9 g;refine(en1 f g).mono ?_;rintro u w' ⟨aR,a2,i,j,k,l,sE,rfl,E⟩;have a:=E.get (e:=no (gh is.length sE is)) .em;rw[mf]at a;refine⟨_,sE,rfl,?_⟩;have p:=((((((((E.vW.pick .nf).pick .nE).pick .Y).pick .ac).pick .ac).pick .aW).pick .nf).pick .nE);obtain⟨q,s,t,w,fC,uT,x,b,z,c⟩:=o;have d:pg ⟨i,⟨r.tQ.m.v0,r.tQ.m.ii,j,r.tQ.m.it,k,l⟩⟩ sE [] y:=⟨q,s,t,a.len.trans w,a.prog.trans fC,uT,x,b,z,c⟩;have ez:=U.Ys (S:=[B aR.v 5 xs,B a2.v 66 (ad y),no (gh is.length sE is)]) d p;exact(YV (r:=⟨aR,⟨i,⟨r.tQ.m.v0,r.tQ.m.ii,j,r.tQ.m.it,k,l⟩⟩,a2,r.rD,r.tc,r.oy,r.priority⟩) (Pi [2,2] ez) ⟨e1.CJ,e1.CQ,e1.Rw,e1.YB,e1.tc,e1.oy,e1.enq⟩).sub (.cons₂ _ (.cons _ (List.Sublist.refl _)))
end
end Go.Fer
