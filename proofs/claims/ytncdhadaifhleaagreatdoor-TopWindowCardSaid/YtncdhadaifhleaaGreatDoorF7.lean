import Derived.Test.YtncdhadaifhleaaGreatDoorF5
import Derived.Test.YtncdhadaifhleaaGreatDoorF6
set_option linter.all false
set_option synthInstance.maxSize 100000
set_option synthInstance.maxHeartbeats 400000
set_option maxHeartbeats 8000000
set_option maxRecDepth 100000
namespace Go.Fer
open Go Go.RowKit
section
open Go.Proofs Tryz
variable{e n:Int}{w0:World}
section
variable{P:Program}{f:te}{w:World}{R:Value->World->Prop}{d:Option Tmp}{T:TypeId}{pos:String}{eO:Array Edge}{eQ:Option (Nat×Bool)}
theorem gh{s:TypeId}{k:IntKind}{x:Operand}{v:Value}[ep:hZ P s k](Z:eD f x=v)(h:R (.iface s v) w):J P f ⟨d,.makeInterface s x,T,pos,eO,eQ⟩ w R:=by
 refine iz (v:=.iface s v) (w':=w) ?_ h;have G:P.concrete s=true:=by
  have Y:=ep.out;unfold Program.concrete;simp[Y]
 simp[Go.execOp,Z,run_makeInterface,G]
end
instance:T7 prog 214:=⟨_,underlying214⟩
instance:Lc prog 34:=⟨by kernel_rfl⟩
instance:Na prog 334 34:=⟨_,underlying334,by kernel_rfl⟩
instance:Na prog 337 34:=⟨_,underlying337,by kernel_rfl⟩
instance:Na prog 339 34:=⟨_,underlying339,by kernel_rfl⟩
theorem eaM:tS 84 #[.iface 34 (.int .i64 e),.iface 34 (.int .i64 n),.bool true] w0 (.bool (decide (e=n))):=by
 refine eN 6 (eY _) func84 ntmps84 results84 rfl λw E=>?_;refine oL 40 (oc.step ?_);refine eA 8 E λw E=>?_;refine dp 15 rfl rfl rfl (et (QS (t:=34) (k:=.i64) (a:=e) (b:=n) rfl rfl (ey 3 E<|na 11 6 (λc d w E=>?_) (λc d w E=>?_))))
 .
   exact⟨(congrArg Value.bool c.symm),E.ee⟩
 .
   refine et (Lm (t:=34) rfl ?_);refine ey 28 E λw E=>?_;refine et (Lm (t:=34) rfl ?_);refine ey 7 E λw E=>?_;refine et (Lm (t:=34) rfl ?_);refine ey 21 E λw E=>?_;exact⟨(congrArg Value.bool c.symm),E.ee⟩
theorem AJ:tS 27 #[.iface 34 (.int .i64 e),.iface 34 (.int .i64 n)] w0 (.bool (decide (e=n))):=by
 refine eN 9 (eY _) func27 ntmps27 results27 rfl λw E=>?_;refine et (PN (v:=.iface 34 (.int .i64 e)) rfl ⟨_,_,rfl⟩ ?_);refine ey 2 E λw E=>?_;refine dp 8 rfl rfl rfl (et (PN (v:=.iface 34 (.int .i64 n)) rfl ⟨_,_,rfl⟩ ?_));refine ey 9 E λw E=>?_;refine et (TY (vs:=[.iface 34 (.int .i64 n)]) (v:=.iface 332 (.agg #[.pointer (some ⟨8,34,none⟩)])) (by kernel_rfl) rfl ?_);refine et (QC (r:=.iface 332 (.agg #[.pointer (some ⟨8,34,none⟩)])) (vs:=[]) (v:=.bool true) rfl rfl (by kernel_rfl) ?_);refine ey 8 E λw E=>?_;refine ev 5 E (eaM) λw E=>?_;exact⟨rfl,E.ee⟩
theorem qi:tS 29 #[.int .i64 e] w0 (.bool (!(decide (e=0)))):=by
 refine eN 8 (eY _) func29 ntmps29 results29 rfl λw E=>?_;exact et (gh (v:=.int .i64 e) rfl (et (gh (v:=i6 0) rfl (ev 6 E (AJ) λw E=>(⟨rfl,E.ee⟩)))))
variable{S:List eH}{ao t6:Nat}{ea:World}{x:oW}
def yF:oW:=⟨ed,⟨false,⟨0,0,0⟩,ed,aO 32,ed,ed⟩⟩
theorem WC(b:e≠0)(eC:U ea (B t6 #[.int .i64 e] 34::B ao (O.enc x) 48::S) w0):u6 prog 85 #[N t6,N ao] w0 (λu w'=>u= .tuple #[]/\U ea (B t6 #[.int .i64 e] 34::B ao (O.enc yF) 48::S) w'):=by
 refine u6.enter (args:=[N t6,N ao]) func85 rfl ntmps85 results85 rfl ?_;have E:=eC;refine eA 6 E<|om 1 0 (λa w E=>?_) (λa w E=>?_)
 .
   exact et (sV (r:=yF) (ps:=oW.parts yF) (dr _) (by simp only[yF,dr,oW.parts,cn,oa.parts,cR,ro.parts,sg,iW];rfl) (by exact trivial) (ey 3 E λw E=>(⟨rfl,E⟩)))
 .
   exact absurd a (by simpa using b)
theorem eie(eC:U ea (B t6 #[i6 0] 34::B ao (O.enc x) 48::S) w0):u6 prog 85 #[N t6,N ao] w0 (λu w'=>u= .tuple #[]/\U ea (B t6 #[i6 0] 34::B ao (O.enc x) 48::S) w'):=by
 refine u6.enter (args:=[N t6,N ao]) func85 rfl ntmps85 results85 rfl ?_;have E:=eC;refine eA 3 E ?_;refine eU false 5 λw E=>?_;exact⟨rfl,E⟩
end
section
open Go.Proofs Tryz
variable{S:List eH}{e:Int}{is:List Instr}{t8:List iX}{m n:Nat}{p:Prop}{oD:ec}{t:oW}{w w0 ea:World}{x y:nT}{xs:List UInt8}
@[irreducible] def nn (p:Prop):eH:=⟨λ_=>False,λ_=>p,λ_ _ _ h=>h⟩
theorem md(p:Prop):(nn p).A=λ_=>p:=by unfold nn;rfl
theorem eit(p:Prop):(nn p).F=λ_=>False:=by unfold nn;rfl
theorem U.pure(h:U w0 S w)(a:p):U w0 (nn p::S) w:=
 h.new (eV.refl w) (by rw[md];exact a) (by rw[eit];exactλ_ h=>h.elim)
@[irreducible] def mc (t:oW) (is:List Instr) (t8:List iX) (x:nT):eH:=hC (nn (pb t is t8 x)::ga t is t8 x)
theorem U.WU(a:pb t is t8 x)(h:U w0 (ga t is t8 x++S) w):U w0 (mc t is t8 x::S) w:=by
 unfold mc;exact U.closed (l:=nn (pb t is t8 x)::ga t is t8 x) (h.pure a)
theorem U.eia(h:U w0 (mc t is t8 x::S) w):pb t is t8 x/\U w0 (ga t is t8 x++S) w:=by
 unfold mc at h;have h:=h.de;have G:=h.get (e:=nn (pb t is t8 x)) .em;rw[md]at G;exact⟨G,h.sub (List.sublist_cons_self _ _)⟩
theorem U.mem{e:eH}(h:U w0 S w)(a:tP e S):U w0 [e] w:=h.sub (by simpa using tP.mem a)
theorem U.xD(h:U w0 S w)(a:tP (mc t is t8 x) S):pb t is t8 x/\U w0 (ga t is t8 x) w:=by
 have:=(h.mem a).eia;rwa[List.append_nil]at this
theorem pb.g1(h:pb t is t8 x)(E:U ea (ga t is t8 x) w):AR w t x is t8:=by
 unfold ga at E;exact⟨E.eu (v:=t.sigs.v) (xs:=x.sigs) .em,eeL (c:=x.m) h (E.sub (List.sublist_cons_self _ _))⟩
theorem U.wG(h:U w0 S w)(a:tP (mc t is t8 x) S):AR w t x is t8:=(h.xD a).1.g1 (h.xD a).2
theorem D5(hb:ex w0 oD.v xs)(o2:xs.length<=100000)(o4:nA xs=(y,e)):eJ 86 #[oD.v] w0 (λu w'=>∃(t:oW)(is:List Instr)(t8:List iX),u= .tuple #[.agg (O.enc t),.int .i64 e]/\U w0 [mc t is t8 y] w'):=by
 refine(ee7 hb (by omega)).mono λu w' h=>?_;obtain⟨t,is,t8,G,Y,ej⟩:=ee6 h o4;exact⟨t,is,t8,G,(ej.sub (tp:=ga t is t8 y++[]) (by simp)).WU Y⟩
structure EA(x:nT):Prop where
 xI:py 1232 x.m.ad
 eu:py 1232 x.m.nF
 fg:x.m.td.length<65536
 eio:x.m.ad.length<65536
 tg:x.m.nF.length<65536
theorem py.mono{α:Type}{l:List (α×List UInt8×List UInt8)}(h:py m l)(e5:m<=n):py n l:=λc a=>⟨Nat.le_trans (h c a).1 e5,Nat.le_trans (h c a).2 e5⟩
theorem EA.of(h:nA xs=(y,0))(g:pb t is t8 y):EA y:=by
 obtain⟨_,_,_,_,_,_,_,G,Y,ej⟩:=g;have Z:py 1232 y.m.ad/\py 1232 y.m.nF:=by
  unfold nA at h;split at h
  .cases h
  rename_i eB;split at h
  .rename_i em;split at h
   .cases h
   have d:=(Prod.mk.inj h).1;unfold uj at em d;split at em
   .split at em
    .cases em
    split at em
    .rename_i a b c;rw[if_pos a,if_neg b,if_pos c]at d;have i:y.m=(ut (xs.drop ((gs xs 0 0).2.1.toNat+64*(gs xs 0 0).1.toNat))).1:=by rw[<-d]
     have f:=eeH (xs:=xs.drop ((gs xs 0 0).2.1.toNat+64*(gs xs 0 0).1.toNat)) (c:=_) (t:=_) (e:=_) rfl;rw[i];rw[List.length_drop]at f;exact⟨f.1.mono (by omega),f.2.mono (by omega)⟩
    rename_i a b c;exact absurd em c
   rename_i a;exact absurd em a
  rename_i em;exact absurd (Prod.mk.inj h).2 em
 exact⟨Z.1,Z.2,G,Y,ej⟩
theorem EA.sum(h:EA y):y.m.td.length+hI y.m.nF<=1000000000:=by
 have G:=GE h.eu;have Y:=h.tg;have ej:=h.fg;have e8:y.m.nF.length*(2*1232)<=65536*(2*1232):=Nat.mul_le_mul_right _ (by omega);omega
def lF(y:nT):Int:=bB y.m.h y.sigs y.m.td y.m.nF y.m.ad
theorem WM{x:oW}(o4:nA xs=(y,0))(hr:lF y=e)(a:U ea S w0)(b:tP (mc x is t8 y) S):tS 87 #[.agg (O.enc x)] w0 (.int .i64 e):=by
 have c:=(a.xD b).1;have d:=EA.of o4 c;subst hr;unfold lF;rw[<-c.2.1];exact eo8 (a.wG b) (d.eu.mono (by decide)) d.sum
theorem eii(hb:ex w0 oD.v xs)(o2:xs.length<=100000)(o4:nA xs=(y,e))(a:e≠0):tS 28 #[oD.v] w0 (.tuple #[.agg (O.enc yF),.int .i64 e]):=by
 refine Lp (n:=16) (args:=[oD.v]) (gc:=85) (d:=4) (rU:=λf w'=>∃(ao:Nat)(t6:Nat),oV [(0,oD.v),(2,N ao),(3,N t6)] f/\U w0 ([B t6 #[i6 0] 34,B ao (O.enc yF) 48]) w') func28 rfl ntmps28 results28 rfl rfl ?_ ?_
 .have E:=eY w0;refine eA 2 E λao w E=>?_;rw[gQ]at E;refine ey 2 E λt6 w E=>?_;exact⟨rfl,ao,t6,⟨rfl,rfl,rfl,trivial⟩,E⟩
 rintro f w ⟨ao,t6,c,E⟩;rw[c.eq];refine⟨.func (.func 85) #[] #[N t6,N ao],[N t6,N ao],[],_,Lw rfl,Ly,rfl,λD g=>?_⟩;refine eA 4 E λw E=>?_;refine ev 13 E (D5 (hb.es E.ee) o2 o4) λh i j=>om 0 3 (λb w E=>?_) (λb w E=>?_)
 .
   exact absurd b a
 .
   refine nC 7 4 (eX [0,1] (oA [2,3] .nil)) [] E λw E=>?_;refine zj ?_;refine(WC a (Pi [2,2] E)).mono ?_;rintro _ w ⟨_,E⟩;refine⟨_,(.cell (E.n5 .G (O.ez yF)) (.cell (E.a6 .em rfl) .nil)),?_⟩;exact⟨rfl,E.ee⟩
theorem ein(hb:ex w0 oD.v xs)(o2:xs.length<=100000)(o4:nA xs=(y,0))(hr:lF y=e)(a:e≠0):tS 28 #[oD.v] w0 (.tuple #[.agg (O.enc yF),.int .i64 e]):=by
 refine Lp (n:=16) (args:=[oD.v]) (gc:=85) (d:=4) (rU:=λf w'=>∃(ao:Nat)(t6:Nat),oV [(0,oD.v),(2,N ao),(3,N t6)] f/\U w0 ([B t6 #[i6 0] 34,B ao (O.enc yF) 48]) w') func28 rfl ntmps28 results28 rfl rfl ?_ ?_
 .have E:=eY w0;refine eA 2 E λao w E=>?_;rw[gQ]at E;refine ey 2 E λt6 w E=>?_;exact⟨rfl,ao,t6,⟨rfl,rfl,rfl,trivial⟩,E⟩
 rintro f w ⟨ao,t6,b,E⟩;rw[b.eq];refine⟨.func (.func 85) #[] #[N t6,N ao],[N t6,N ao],[],_,Lw rfl,Ly,rfl,λD c=>?_⟩;refine eA 4 E λw E=>?_;refine ev 10 E (D5 (hb.es E.ee) o2 o4) λg h i=>?_;refine eU true 5 λw E=>?_;refine ev 4 E (WM o4 hr E .em) ?_;refine aC 7 4 (eX [0,1] (oA [2,3] .nil)) [] λw E=>?_;refine zj ?_;refine(WC a (Pi [2,2] E)).mono ?_;rintro _ w ⟨_,E⟩;refine⟨_,(.cell (E.n5 .G (O.ez yF)) (.cell (E.a6 .em rfl) .nil)),?_⟩;exact⟨rfl,E.ee⟩
theorem A8(hb:ex w0 oD.v xs)(o2:xs.length<=100000)(o4:nA xs=(y,0))(hr:lF y=0):eJ 28 #[oD.v] w0 (λu w'=>∃(eE:oW)(tt:(List Instr))(tC:(List iX)),u= .tuple #[.agg (O.enc eE),i6 0]/\U w0 [mc eE tt tC y] w'):=by
 refine Lp (n:=16) (args:=[oD.v]) (gc:=85) (d:=4) (rU:=λf w'=>∃(ao:Nat)(t6:Nat),oV [(0,oD.v),(2,N ao),(3,N t6)] f/\U w0 ([B t6 #[i6 0] 34,B ao (O.enc yF) 48]) w') func28 rfl ntmps28 results28 rfl rfl ?_ ?_
 .have E:=eY w0;refine eA 2 E λao w E=>?_;rw[gQ]at E;refine ey 2 E λt6 w E=>?_;exact⟨rfl,ao,t6,⟨rfl,rfl,rfl,trivial⟩,E⟩
 rintro f w ⟨ao,t6,b,E⟩;rw[b.eq];refine⟨.func (.func 85) #[] #[N t6,N ao],[N t6,N ao],[],_,Lw rfl,Ly,rfl,λD g=>?_⟩;refine eA 4 E λw E=>?_;refine ev 10 E (D5 (hb.es E.ee) o2 o4) λa c e=>?_;refine eU true 5 λw E=>?_;refine ev 4 E (WM o4 hr E .em) ?_;refine aC 7 4 (eX [0,1] (oA [2,3] .nil)) [] λw E=>?_;refine zj ?_;refine(eie (Pi [2,2] E)).mono ?_;rintro _ w ⟨_,E⟩;refine⟨_,(.cell (E.n5 .G (O.ez a)) (.cell (E.a6 .em rfl) .nil)),?_⟩;exact⟨a,c,e,rfl,(tN [0,1] E)⟩
end
section
open Go.Proofs Tryz
variable{S:List eH}{b:sP}{c n p s u tJ:Nat}{d:dl}{e:Int}{is:List Instr}{k:ak}{l:List o6}{t8:List iX}{yM tj tZ A4 A5 A6:Bool}{iv oD v:ec}{t:oW}{w w0 ea:World}{xs:List UInt8}{y:nT}
@[irreducible] def hH (p:Nat) (d:dl):eH:=hC [nn (∀k,d.find k=none),qd p d]
theorem pq(E:U w0 S w)(a:tP (hH p d) S):SU w p d/\(∀k,d.find k=none):=by
 have h:=E.mem a;unfold hH at h;have h:=h.de;have G:=h.get (e:=nn (∀k,d.find k=none)) .em;rw[md]at G;exact⟨h.eil .G,G⟩
theorem EN:eJ 9 #[] w0 (λu w'=>∃(p:Nat)(d:dl),u=N p/\U w0 [hH p d] w'):=by
 refine(eip).mono ?_;rintro u w' ⟨p,d,rfl,a,b,hb⟩;refine⟨p,d,rfl,?_⟩;have h:=((eY w0).TW hb b).pure a;unfold hH;exact U.closed (l:=[nn (∀k,d.find k=none),qd p d]) h
theorem SQ(b:U ea S w0)(c:tP (hH p d) S):eJ 26 #[N p,.agg (O.enc k)] w0 (λu w'=>∃(v:ec),u= .tuple #[v.v,i6 11]/\eV w0 w'):=by
 obtain⟨ep,a⟩:=pq b c;refine(eiy ep (λk l h=>by rw[a]at h;cases h)).mono ?_;rintro u w' ⟨v,e,l,rfl,h,f,hb⟩;obtain⟨s,rfl⟩:=f.1.eu.xl;rcases h with⟨h,_⟩|⟨_,rfl,_⟩
 .rw[a]at h;cases h
 exact⟨s,rfl,hb⟩
theorem ei6(sw:y.m.nF=[])(f:U ea S w0)(i:tP (hH p d) S)(j:tP (mc t is t8 y) S):eJ 30 #[N p,t.m.rJ.v] w0 (λu w'=>∃(iv oD:ec),u= .tuple #[iv.v,oD.v,i6 0]/\U w0 [V iv.v 60 ([]:List ak),V oD.v 60 ([]:List ak)] w'):=by
 obtain⟨ep,o⟩:=pq f i;have g:=f.wG j;have Z:=g.2.l;have k:t8=[]:=List.length_eq_zero_iff.1 (by rw[g.2.LJ.1,sw];rfl);subst k;refine(WB (w0:=w0) (p:=p) (d:=d) (xs:=[]) (t8:=[]) ep Z trivial (by decide)).mono ?_;rintro u w' ⟨am,cT,e,a,b,rfl,c,hr⟩;rcases hr with⟨h,rfl⟩|⟨h,_⟩
 .cases h;obtain⟨aM,rfl⟩:=(c.eu .em).xl;obtain⟨n,rfl⟩:=(c.eu .G).xl;exact⟨aM,n,rfl,c⟩
 cases h
theorem Yr{w:World}:∀{t8:List iX}{cs:List (Vector UInt8 32×List UInt8×List UInt8)},bN w t8 cs->g5 w t8 (cs.map λc=>⟨c.1,c.2.1,c.2.2⟩)
 |[],[],_=>trivial
 |[],_::_,h=>by cases h.1
 |_::_,[],h=>by cases h.1
 |l::t8,c::cs,h=>by
  have em:=h.2 0 (by simp) (by simp);refine⟨⟨em.1,em.2.1,em.2.2⟩,Yr ⟨by simpa using h.1,λi G Y=>?_⟩⟩;exact h.2 (i+1) (by simpa using G) (by simpa using Y)
theorem ei7(cs:List (Vector UInt8 32×List UInt8×List UInt8)):gd (cs.map λc=>⟨c.1,c.2.1,c.2.2⟩)=hI cs:=by
 unfold gd hI;rw[List.map_map];rfl
theorem ei8(sw:y.m.nF≠[])(s:y.m.td.length+hI y.m.nF<=64)(g:U ea S w0)(j:tP (hH p d) S)(k:tP (mc t is t8 y) S):eJ 30 #[N p,t.m.rJ.v] w0 (λu w'=>∃(iv oD:ec),u= .tuple #[iv.v,oD.v,i6 11]/\eV w0 w'):=by
 obtain⟨ep,n⟩:=pq g j;have i:=g.wG k;refine(WB ep i.2.l (Yr i.2.LJ) (by rw[ei7];omega)).mono ?_;rintro u w' ⟨am,cT,e,a,b,rfl,f,hr⟩;obtain⟨aM,rfl⟩:=(f.eu .em).xl;obtain⟨o,rfl⟩:=(f.eu .G).xl;have q:cP d.find (y.m.nF.map λc=>(⟨c.1,c.2.1,c.2.2⟩:gl))= .g4 11:=by
  cases r:y.m.nF with
  |nil=>exact absurd r sw
  |cons c cs=>simp only[List.map_cons,cP,n]
 rw[WG,q]at hr;rcases hr with⟨h,_⟩|⟨h,_⟩
 .cases h
 cases h;exact⟨aM,o,rfl,f.ee⟩
theorem ei9(h:D2 yM tj tZ A4 A5 A6=0):yM=true/\tj=true/\tZ=true/\A4=true/\A5=true/\A6=true:=by
 unfold D2 at h;revert h;cases yM<;>cases tj<;>cases tZ<;>cases A4<;>cases A5<;>cases A6<;>simp
structure yP(y:nT):Prop where
 nU:y.m.td.Nodup
 ti:y.sigs.length=y.m.h.rh.toNat
 ay:0<y.sigs.length
 SZ:y.m.td.length+hI y.m.nF<=64
 hd:y.m.h.fP.toNat<y.m.h.rh.toNat/\y.m.h.rh.toNat+y.m.h.uk.toNat<=y.m.td.length
 ix:SL (y.m.td.length+hI y.m.nF) y.m.td.length y.m.ad=false
theorem yP.of(h:lF y=0):yP y:=by
 unfold lF bB at h;obtain⟨em,G,_,ej,e8,au⟩:=ei9 h;simp only[Bool.and_eq_true,decide_eq_true_eq,Bool.not_eq_true']at em G ej e8 au;exact⟨au,by omega,by omega,by omega,⟨by omega,by omega⟩,e8⟩
def ai(y:nT):List o6:=(uq y.m.h y.m.td).map j9
theorem Yh(y:nT):(ai y).length=y.m.td.length:=by unfold ai;rw[List.length_map,Sh]
theorem ene(h:ro)(td:List ak):(uq h td).map o6.key=td:=by
 unfold uq;apply List.ext_getElem (by simp);intro i G Y;simp[j7]
theorem ent(hr:lF y=0)(d:ex w0 iv.v ([]:List ak))(f:ex w0 oD.v ([]:List ak))(a:U ea S w0)(b:tP (mc t is t8 y) S):eJ 31 #[.agg (O.enc t.m),iv.v,oD.v] w0 (λu w'=>∃(s:ec),u= .tuple #[s.v,i6 0]/\U w0 [V s.v 66 (ai y)] w'):=by
 have g:=a.wG b;have c:=yP.of hr;have i:=(a.xD b).1;have n:y.m.td.length<=64:=by have:=c.SZ;omega
 refine(etr g.2.k d f (by omega) (by decide) (by decide)).mono ?_;rintro u w' ⟨v,e,rfl,h,hb⟩;have j:vZ t.m y.m.td [] []=uq y.m.h y.m.td:=by unfold vZ;rw[List.map_nil,List.map_nil,List.append_nil,List.append_nil,i.2.1]
 unfold GW at h;rw[j,ene]at h;rcases h with⟨_,rfl,l⟩|⟨h,_⟩
 .obtain⟨s,rfl,h⟩:=l.eW hb;exact⟨s,rfl,h⟩
 exact absurd c.nU h
def su(y:nT):sP:=Dv (dS (λi=>xS y.m.td ((y.m.ad.map (·.1)).getD i 0)) (λi=>(y.m.ad.map (·.2.2)).getD i []) y.m.ad.length)
theorem Cd:kn (su y)/\(su y).tJ<=1400000:=by
 unfold su;have h:=Sf (λi=>xS y.m.td ((y.m.ad.map (·.1)).getD i 0)) (λi=>(y.m.ad.map (·.2.2)).getD i []) y.m.ad.length;generalize a:dS (λi=>xS y.m.td ((y.m.ad.map (·.1)).getD i 0)) (λi=>(y.m.ad.map (·.2.2)).getD i []) y.m.ad.length=s at h⊢;unfold Dv kn;refine⟨⟨by simp only;omega,?_⟩,by simp only;omega⟩;simp only;cases G:s.S 1 with
 |none=>decide
 |some n=>exact h.1 1 n G
theorem ena(nJ:Laid w0)(b:U ea S w0)(c:tP (mc t is t8 y) S):tS 34 #[.agg (O.enc t.m)] w0 (.agg (O.enc (su y))):=by
 have a:=b.wG c;obtain⟨_,_,_,f,fH,_,_,_,h,_⟩:=(b.xD c).1;have e:=etF (λi=>(y.m.ad.map (·.2.2)).getD i []) nJ a.2.k a.2.i (by omega) (λi ew=>by
  have d:i<y.m.ad.length:=by omega
  have:=(a.2.wU.2 i ew d).2.2;simpa[List.getD,d]using this)
 have g:lM y.m.td is=λi=>xS y.m.td ((y.m.ad.map (·.1)).getD i 0):=by funext i;unfold lM;rw[fH]
 rw[g,f]at e;exact e
def lO(y:nT):Nat:=(y.m.ad.map λc=>c.2.2.length).sum
theorem Yd{w:World}:∀{is:List Instr}{cs:List (UInt8×List UInt8×List UInt8)},jJ w is cs->dI is=(cs.map λc=>c.2.2.length).sum
 |[],[],_=>rfl
 |[],_::_,h=>by cases h.1
 |_::_,[],h=>by cases h.1
 |l::t8,c::cs,h=>by
  have em:=h.2 0 (by simp) (by simp);have a:=Yd (is:=t8) (cs:=cs) ⟨by simpa using h.1,λi G Y=>h.2 (i+1) (by simpa using G) (by simpa using Y)⟩;unfold dI at a⊢;have G:hD l.data.v=c.2.2.length:=Gl (xs:=c.2.2) em.2.2;rw[List.map_cons,List.sum_cons,List.map_cons,List.sum_cons,a,G]
theorem Yc(g:n<=1000000)(b:tJ<18446744073709551616)(c:U ea S w0)(d:tP (mc t is t8 y) S):tS 36 #[.agg (O.enc t),i6 n,ef tJ] w0 (.int .u64 ((lp y.sigs.length (lO y) (n:Int) tJ:Nat):Int)):=by
 have a:=c.wG d;have e:=eiZ (w0:=w0) (x:=t) (iY:=(n:Int)) (tJ:=tJ) (ti:=y.sigs) (ad:=is) a.1 a.2.i (λe f=>by
  obtain⟨i,ew,rfl⟩:=List.getElem_of_mem f;obtain⟨_,G,Y⟩:=a.2.wU.2 i ew (a.2.wU.1▸ew);exact⟨⟨_,G,λ_ _=>trivial⟩,⟨_,Y,λ_ _=>trivial⟩⟩) (by omega) b
 rw[Yd a.2.wU]at e;exact e
theorem Yu{xs:List o6}(Z:ex w0 v.v xs)(eB:xs.length<=100000):eJ 37 #[v.v] w0 (λu w'=>∃s:ec,u=s.v/\U w0 [V s.v 60 (rG xs)] w'):=
 (etw Z eB).mono λu w' h=>h.1.eW h.2
theorem eno(a:s<=1000000)(hb:kn b):eJ 35 #[i6 s,.agg (O.enc b)] w0 (λu w'=>u= .int .u64 ((uA (s:Int) b:Nat):Int)/\eV w0 w'):=ei4 (by omega) hb
theorem eni(d:s<=1000000)(hb:kn b)(a:c<18446744073709551616):eJ 38 #[i6 s,.agg (O.enc b),ef c] w0 (λu w'=>u= .int .u64 ((qf (s:Int) b c:Nat):Int)/\eV w0 w'):=ei5 (by omega) hb a
theorem Cc:(rG l).length<=l.length:=by unfold rG;rw[List.length_map];exact List.length_filter_le _ _
theorem Cu{d:Nat}{w:Int}:lp s d w u<18446744073709551616:=xC
theorem enn{v:Value}(Z:ex w0 v xs)(eB:xs.length<=1000000):eJ 33 #[v] w0 (λu w'=>sH w0 w' u 5 xs/\eV w0 w'):=by
 obtain⟨a,c,rfl⟩:=Z.eq;refine eN 9 (eY _) func33 ntmps33 results33 rfl λw E=>?_;refine et (fO rfl rfl (ey 2 E<|om 8 4 (λb w E=>?_) (λb w E=>?_)))
 .
   cases a with
   |none=>
    obtain⟨rfl,_,_⟩:=Z.wg;exact⟨sH.nil _ _ _,E.ee⟩
   |some a=>cases b
 .
   refine rF 1 E (nB ([]:List UInt8)) λd w E=>?_;refine et (dj (α:=UInt8) rfl E rfl en ((Z.es E.ee)) (by(try simp only[List.length_append,List.length_cons,List.length_nil,List.length_map]);omega) (by simp only[maxLen];(try simp only[List.length_append,List.length_cons,List.length_nil,List.length_map]);omega) ?_);intro e w E;replace E:=E _ en;refine ey 5 E λw E=>?_;have G:=E.cZ en;simp only[List.nil_append]at G;exact⟨G,E.ee⟩
theorem Cm(Z:ex w0 v.v xs)(eB:xs.length<=1000000):eJ 33 #[v.v] w0 (λu w'=>∃s:ec,u=s.v/\U w0 [V s.v 5 xs] w'):=
 (enn Z eB).mono λu w' h=>h.1.eW h.2
theorem ens{v:Value}(Z:ex w0 v xs):tS 32 #[v] w0 (nz v 0 xs.length xs.length (O.eo (UInt8))):=by
 have:=aL Z;refine eN 12 (eY _) func32 ntmps32 results32 rfl λw E=>?_;exact et (hj (Z.es E.ee) ⟨⟨_,rfl⟩,Z.cap⟩ ⟨⟨_,rfl⟩,Nat.le_refl _⟩ ⟨rfl,Nat.zero_le _⟩ (ey 5 E λw E=>(⟨rfl,E.ee⟩)))
theorem S0(eC:U ea (V v.v 5 xs::S) w0):eJ 32 #[v.v] w0 (λu w'=>∃s:ec,u=s.v/\U ea (V s.v 5 xs::S) w'):=
 (ens (eC.eu .nW)).mono λu w' h=>⟨_,h.1.trans rfl,(eC.es h.2).xd⟩
def mP:aZ:=⟨ed,⟨ed,⟨false,⟨0,0,0⟩,ed,aO 32,ed,ed⟩⟩,ed,⟨0,0,0⟩,0,0,0⟩
theorem Ym:(eK [#[eF],eK [#[eF],eK [#[.bool false],eK [#[.int .u8 0],#[.int .u8 0],#[.int .u8 0]],#[eF],(Array.replicate 32 (.int .u8 0)),#[eF],#[eF]]],#[eF],eK [#[.int .u64 0],#[.int .u64 0],#[i6 0]],#[.int .u64 0],#[.int .u64 0],#[.int .u64 0]])=O.enc (mP:aZ):=by
 simp only[p9,aZ.parts,iW,mP,dr,oW.parts,cn,oa.parts,cR,ro.parts,bA,sP.parts];rfl
instance:wS (eK [#[eF],eK [#[eF],eK [#[.bool false],eK [#[.int .u8 0],#[.int .u8 0],#[.int .u8 0]],#[eF],(Array.replicate 32 (.int .u8 0)),#[eF],#[eF]]],#[eF],eK [#[.int .u64 0],#[.int .u64 0],#[i6 0]],#[.int .u64 0],#[.int .u64 0],#[.int .u64 0]]) (O.enc (mP:aZ)):=⟨Ym⟩
theorem enr(hb:ex w0 oD.v xs)(o2:xs.length<=100000)(o4:nA xs=(y,0))(hr:lF y=0)(sw:y.m.nF=[])(nJ:Laid w0)(n:U ea S w0)(o:tP (hH p d) S):eJ 8 #[oD.v,N p] w0 (λu w'=>∃(eE:oW)(tt:(List Instr))(tC:(List iX))(ap:ec)(aD:ec),u= .tuple #[.agg (O.enc (⟨aD,eE,ap,(su y),uA (y.sigs.length:Int) (su y),lp y.sigs.length (lO y) ((rG (ai y)).length:Int) ((su y).tJ),qf (y.sigs.length:Int) (su y) (lp y.sigs.length (lO y) ((rG (ai y)).length:Int) ((su y).tJ))⟩:aZ)),i6 0]/\U w0 [V aD.v 5 xs,V ap.v 66 (ai y),mc eE tt tC y] w'):=by
 have L:=pq n o;have z:=yP.of hr;have M:=y.m.h.rh.toNat_lt;have nb:y.sigs.length<=255:=by have:=z.ti;omega
 have oy:(ai y).length<=64:=by rw[Yh];have:=z.SZ;omega
 have P:=Nat.le_trans (Cc (l:=(ai y))) oy;have A:=(Cd (y:=y)).1;have gX:=(Cd (y:=y)).2;have cL:=Cu (s:=y.sigs.length) (d:=(lO y)) (w:=((rG (ai y)).length:Int)) (u:=(su y).tJ);refine eN 10 (eY _) func8 ntmps8 results8 rfl λaW w E=>?_;refine et (yf (k:=aO 32) (by first|rfl|(simp only[sg,iW];rfl)) (by intro p q;first|(exfalso;simp at q;done)|(simp only[List.map_cons,List.map_nil,List.mem_cons,List.not_mem_nil,or_false]at q;rcases q with rfl|rfl|rfl|rfl<;>exact⟨by simp,rfl⟩)) ?_);refine ev 10 E (SQ (n.es E.ee) o) λQ w E=>?_;refine et (gh (v:=i6 11) rfl ?_);refine et (gh (v:=i6 2) rfl ?_);refine ev 8 E (AJ) λw E=>?_;refine ev 4 E (A8 (xs:=xs) (hb.es E.ee) o2 o4 hr) λb C D R w E=>?_;rw[gQ]at E;refine ey 8 E λw E=>?_;refine ev 11 E (qi) λw E=>?_;refine ev 13 E (ei6 sw (n.jd E) (.ei (.ei (.ei (o)))) .G) λF H w E=>?_;refine ev 11 E (qi) λw E=>?_;refine ev 11 E (ent hr (E.eu .em) (E.eu .G) E .ej) λc w E=>?_;refine ev 6 E (qi) λw E=>?_;refine nC 5 11 (eX [0,3,4,5,6] (.sL [[1,2,7,8],[9]] (.one 10 .nil))) [] E λw E=>?_;refine e2.sL [λu e=>∃(j:ec)(a:ec),u=[(69,.agg (O.enc (⟨a,b,c,(su y),0,0,0⟩:aZ))),(68,.agg (O.enc (su y))),(63,a.v),(62,j.v)]/\e=[V a.v 5 xs],λu e=>∃(g:Nat),u=[(13,N g)]/\e=[B g (O.enc mP) 53]] E (λw E=>E) (.cons ?_ (.cons ?_ .nil)) ?_
 .refine io.step rfl rfl (λX w E=>?_);simp only[List.nil_append,List.cons_append]at E;refine J.call (Cm (xs:=xs) (hb.es E.ee) (by first|omega|simp)) rfl ?_;rintro _ w ⟨j,rfl,t⟩;replace E:=iq E t;refine⟨[V j.v 5 xs],E,?_⟩;refine io.step rfl rfl (λX w E=>?_);simp only[List.nil_append,List.cons_append]at E;refine J.call (S0 (E.pick .em)) rfl ?_;rintro _ w ⟨a,rfl,E⟩;refine⟨[V a.v 5 xs],E,?_⟩;refine io.step rfl rfl (λX w E=>?_);simp only[List.nil_append,List.cons_append]at E;refine J.call (ena (nJ.es E.ee) E .au) rfl ?_;rintro _ w ⟨rfl,f⟩;replace E:=E.es f;refine⟨[V a.v 5 xs],E,?_⟩;refine io.step rfl rfl (λX w E=>?_);simp only[List.nil_append,List.cons_append]at E;refine sV (r:=(⟨a,b,c,(su y),0,0,0⟩:aZ)) (ps:=aZ.parts (⟨a,b,c,(su y),0,0,0⟩:aZ)) (p9 _) (by first|rfl|(simp only[p9,aZ.parts,dr,oW.parts,cn,oa.parts,cR,ro.parts,bA,sP.parts,sg,iW];rfl)) (by exact hT ⟨by decide,rfl,by decide,O.ez b,by decide,rfl,by decide,O.ez (su y),trivial⟩) ?_;refine⟨[V a.v 5 xs],E,?_⟩;exact .nil ⟨j,a,rfl,rfl⟩
 .refine io.step rfl rfl (λX w E=>?_);simp only[List.nil_append,List.cons_append]at E;refine sI E ?_;intro g w _ E;rw[Ym]at E;refine⟨[B g (O.enc mP) 53],E,?_⟩;exact .nil ⟨g,rfl,rfl⟩
 refine .cons λ_ _ I=>.cons λ_ _ K=>.nil λw E=>?_;obtain⟨j,a,rfl,rfl⟩:=I;obtain⟨g,rfl,rfl⟩:=K;simp only[List.nil_append,List.cons_append]at E;refine t7 7 E λw E=>?_;refine et (J.hD (v:=b.sigs.v) (xs:=y.sigs) rfl ((E.wG .a2).1) ?_);refine ey 8 E λw E=>?_;refine et (J.call (eno (by first|omega|simp) A) rfl ?_);rintro _ w ⟨rfl,f⟩;replace E:=E.es f;refine et (o9 rfl ?_);refine oE (iU (v:=.int .u64 (uA (y.sigs.length:Int) (su y):Int)) (iA:=O.enc (⟨a,b,c,(su y),uA (y.sigs.length:Int) (su y),0,0⟩:aZ)) E rfl rfl .G rfl wH (oZ _ _) (ZH (⟨a,b,c,(su y),0,0,0⟩:aZ) (uA (y.sigs.length:Int) (su y))) (tH .G λw E=>(ey 3 E λw E=>?_)));refine nC 0 9 (eX [0,1,4,5,6] (oA [2,3,7] (.look 8 (.one 9 .nil)))) [] E λw E=>?_;refine tl rfl (λw E=>ag (v:=.agg (O.enc b)) rfl (E.n5 .au (O.ez b)) eG) (tl rfl (λw E=>oI (v:=c.v) rfl eG) (tl rfl (λw E=>o9 rfl eG) (tl rfl (λw E=>o9 rfl eG) (tl rfl (λw E=>ag (v:=.int .u64 (((su y).tJ):Int)) rfl (E.a6 .G (vq (i:=0) (Gs (⟨a,b,c,(su y),uA (y.sigs.length:Int) (su y),0,0⟩:aZ)) (Gi (su y)) (by decide))) eG) (ol rfl (J.call (Yu (E.eu .Y) (by first|omega|simp)) rfl ?_))))));rintro _ w ⟨x,rfl,t⟩;replace E:=iq E t;refine⟨tN [0] E,?_⟩;refine ol rfl (J.hD (v:=x.v) (xs:=(rG (ai y))) rfl (E.eu .em) ?_);refine⟨tN [0] E,?_⟩;refine ol rfl (J.call (Yc (by first|omega|simp) (by first|omega|simp) E .iK) rfl ?_);rintro _ w ⟨rfl,f⟩;replace E:=E.es f;refine⟨tN [0] E,?_⟩;refine t7 11 E λw E=>?_;refine et (J.call (eni (by first|omega|simp) A (by first|omega|simp)) rfl ?_);rintro _ w ⟨rfl,f⟩;replace E:=E.es f;refine ey 6 E λw E=>?_;refine et (ag (v:=.agg (O.enc (⟨a,b,c,(su y),uA (y.sigs.length:Int) (su y),lp y.sigs.length (lO y) ((rG (ai y)).length:Int) ((su y).tJ),qf (y.sigs.length:Int) (su y) (lp y.sigs.length (lO y) ((rG (ai y)).length:Int) ((su y).tJ))⟩:aZ))) rfl (E.n5 .Y (O.ez (⟨a,b,c,(su y),uA (y.sigs.length:Int) (su y),lp y.sigs.length (lO y) ((rG (ai y)).length:Int) ((su y).tJ),qf (y.sigs.length:Int) (su y) (lp y.sigs.length (lO y) ((rG (ai y)).length:Int) ((su y).tJ))⟩:aZ))) (ey 5 E λw E=>?_));refine cJ (.cell (E.n5 .iG (O.ez (⟨a,b,c,(su y),uA (y.sigs.length:Int) (su y),lp y.sigs.length (lO y) ((rG (ai y)).length:Int) ((su y).tJ),qf (y.sigs.length:Int) (su y) (lp y.sigs.length (lO y) ((rG (ai y)).length:Int) ((su y).tJ))⟩:aZ))) (.hB rfl .nil)) ?_;exact⟨b,C,D,c,a,rfl,(tN [0,2,4,5,6,8] E)⟩
theorem enm(hb:ex w0 oD.v xs)(o2:xs.length<=100000)(o4:nA xs=(y,e))(b:e≠0)(c:U ea S w0)(f:tP (hH p d) S):tS 8 #[oD.v,N p] w0 (.tuple #[.agg (O.enc mP),.int .i64 e]):=by
 have h:=pq c f;refine eN 10 (eY _) func8 ntmps8 results8 rfl λaW w E=>?_;refine et (yf (k:=aO 32) (by first|rfl|(simp only[sg,iW];rfl)) (by intro p a;first|(exfalso;simp at a;done)|(simp only[List.map_cons,List.map_nil,List.mem_cons,List.not_mem_nil,or_false]at a;rcases a with rfl|rfl|rfl|rfl<;>exact⟨by simp,rfl⟩)) ?_);refine ev 10 E (SQ (c.es E.ee) f) λi w E=>?_;refine et (gh (v:=i6 11) rfl ?_);refine et (gh (v:=i6 2) rfl ?_);refine ev 8 E (AJ) λw E=>?_;refine ev 4 E (eii (hb.es E.ee) o2 o4 b) λj w E=>?_;rw[gQ]at E;refine ey 8 E λw E=>?_;refine ev 2 E (qi)<|om 2 0 (λg w E=>?_) (λg w E=>?_)
 .
   refine et (sV (r:=mP) (ps:=aZ.parts mP) (p9 _) (by simp only[mP,p9,aZ.parts,dr,oW.parts,cn,oa.parts,cR,ro.parts,bA,sP.parts,sg,iW];rfl) (by exact trivial) ?_);refine ey 8 E λw E=>?_;exact⟨rfl,E.ee⟩
 .
   exact absurd g b
theorem enf(hb:ex w0 oD.v xs)(o2:xs.length<=100000)(o4:nA xs=(y,0))(hr:lF y=e)(b:e≠0)(c:U ea S w0)(f:tP (hH p d) S):tS 8 #[oD.v,N p] w0 (.tuple #[.agg (O.enc mP),.int .i64 e]):=by
 have h:=pq c f;refine eN 10 (eY _) func8 ntmps8 results8 rfl λaW w E=>?_;refine et (yf (k:=aO 32) (by first|rfl|(simp only[sg,iW];rfl)) (by intro p a;first|(exfalso;simp at a;done)|(simp only[List.map_cons,List.map_nil,List.mem_cons,List.not_mem_nil,or_false]at a;rcases a with rfl|rfl|rfl|rfl<;>exact⟨by simp,rfl⟩)) ?_);refine ev 10 E (SQ (c.es E.ee) f) λi w E=>?_;refine et (gh (v:=i6 11) rfl ?_);refine et (gh (v:=i6 2) rfl ?_);refine ev 8 E (AJ) λw E=>?_;refine ev 4 E (ein (hb.es E.ee) o2 o4 hr b) λj w E=>?_;rw[gQ]at E;refine ey 8 E λw E=>?_;refine ev 2 E (qi)<|om 2 0 (λg w E=>?_) (λg w E=>?_)
 .
   refine et (sV (r:=mP) (ps:=aZ.parts mP) (p9 _) (by simp only[mP,p9,aZ.parts,dr,oW.parts,cn,oa.parts,cR,ro.parts,bA,sP.parts,sg,iW];rfl) (by exact trivial) ?_);refine ey 8 E λw E=>?_;exact⟨rfl,E.ee⟩
 .
   exact absurd g b
theorem enp(hb:ex w0 oD.v xs)(o2:xs.length<=100000)(o4:nA xs=(y,0))(hr:lF y=0)(sw:y.m.nF≠[])(a:U ea S w0)(b:tP (hH p d) S):tS 8 #[oD.v,N p] w0 (.tuple #[.agg (O.enc mP),i6 11]):=by
 have g:=pq a b;have h:y.m.td.length+hI y.m.nF<=64:=(yP.of hr).SZ;refine eN 10 (eY _) func8 ntmps8 results8 rfl λaW w E=>?_;refine et (yf (k:=aO 32) (by first|rfl|(simp only[sg,iW];rfl)) (by intro p c;first|(exfalso;simp at c;done)|(simp only[List.map_cons,List.map_nil,List.mem_cons,List.not_mem_nil,or_false]at c;rcases c with rfl|rfl|rfl|rfl<;>exact⟨by simp,rfl⟩)) ?_);refine ev 10 E (SQ (a.es E.ee) b) λi w E=>?_;refine et (gh (v:=i6 11) rfl ?_);refine et (gh (v:=i6 2) rfl ?_);refine ev 8 E (AJ) λw E=>?_;refine ev 4 E (A8 (hb.es E.ee) o2 o4 hr) λj l n o w E=>?_;rw[gQ]at E;refine ey 8 E λw E=>?_;refine ev 11 E (qi) λw E=>?_;refine ev 13 E (ei8 sw (by first|omega|simp) (a.jd E) (.ei (.ei (.ei (b)))) .G) λe f w E=>?_;refine ev 5 E (qi) λw E=>?_;refine et (sV (r:=mP) (ps:=aZ.parts mP) (p9 _) (by simp only[mP,p9,aZ.parts,dr,oW.parts,cn,oa.parts,cR,ro.parts,bA,sP.parts,sg,iW];rfl) (by exact trivial) ?_);refine ey 8 E λw E=>?_;exact⟨rfl,E.ee⟩
end
section
open Go.Proofs Tryz
variable{S:List eH}{cs:List (UInt8×List UInt8×List UInt8)}{d:dl}{sA is:List Instr}{k m p:Nat}{r:aZ}{oD v:ec}{w w0 ea:World}{xs:List UInt8}{y:nT}
structure ES(r:aZ)(xs:List UInt8)(y:nT):Prop where
 Cg:nA xs=(y,0)
 Cw:lF y=0
 S1:y.m.nF=[]
 Yg:r.rN=su y
 tv:r.tv=uA (y.sigs.length:Int) (su y)
 ow:r.ow=lp y.sigs.length (lO y) ((rG (ai y)).length:Int) (su y).tJ
 eng:r.priority=qf (y.sigs.length:Int) (su y) (lp y.sigs.length (lO y) ((rG (ai y)).length:Int) (su y).tJ)
@[irreducible] def ax (r:aZ) (is:List Instr) (xs:List UInt8) (y:nT):eH:=hC [nn (ES r xs y),V r.bytes.v 5 xs,V r.rI.v 66 (ai y),mc r.tQ is [] y]
theorem Yw(h:U w0 (V r.bytes.v 5 xs::V r.rI.v 66 (ai y)::mc r.tQ is [] y::S) w)(e1:ES r xs y):U w0 (ax r is xs y::S) w:=by
 unfold ax;exact U.closed (l:=[nn (ES r xs y),V r.bytes.v 5 xs,V r.rI.v 66 (ai y),mc r.tQ is [] y]) (h.pure e1)
theorem U.g6(h:U w0 S w)(a:tP (ax r is xs y) S):ES r xs y/\ex w r.bytes.v xs/\ex w r.rI.v (ai y)/\AR w r.tQ y is []/\pb r.tQ is [] y:=by
 have h:=h.mem a;unfold ax at h;have h:=h.de;have G:=h.get (e:=nn (ES r xs y)) .em;rw[md]at G;exact⟨G,h.eu .G,h.eu .Y,h.wG .ej,(h.xD .ej).1⟩
theorem xU(h:U w0 S w)(a:tP (ax r is xs y) S):ES r xs y/\ex w r.bytes.v xs/\ex w r.rI.v (ai y)/\AR w r.tQ y is []/\ex w r.tQ.sigs.v y.sigs/\ex w r.tQ.m.td.v y.m.td/\ex w r.tQ.m.instrs.v is/\ex w r.tQ.m.rJ.v ([]:List iX):=by
 obtain⟨G,Y,ej,e8,_⟩:=h.g6 a;exact⟨G,Y,ej,e8,e8.1,e8.2.k,e8.2.i,e8.2.l⟩
instance:Af (ax r is xs y) r.rI.v _ (ai y):=⟨λh e=>(xU h e).2.2.1⟩
instance:Af (ax r is xs y) r.tQ.sigs.v _ y.sigs:=⟨λh e=>(xU h e).2.2.2.2.1⟩
theorem ER(hb:ex w0 oD.v xs)(o2:xs.length<=100000)(o4:nA xs=(y,0))(hr:lF y=0)(sw:y.m.nF=[])(nJ:Laid w0)(a:U ea S w0)(b:tP (hH p d) S):eJ 8 #[oD.v,N p] w0 (λu w'=>∃(r:aZ)(is:List Instr),u= .tuple #[.agg (O.enc r),i6 0]/\U w0 [ax r is xs y] w'):=by
 refine(enr hb o2 o4 hr sw nJ a b).mono ?_;rintro u w' ⟨t,is,t8,aM,c,rfl,E⟩;refine⟨_,is,rfl,?_⟩;have e:=(E.xD .Y).1;obtain rfl:t8=[]:=by
  have:=e.2.2.2.2.2.1;rw[sw]at this;exact List.length_eq_zero_iff.1 this
 exact Yw (r:=⟨c,t,aM,_,_,_,_⟩) E ⟨o4,hr,sw,rfl,rfl,rfl,rfl⟩
theorem enw{v:Value}{xs:List o6}(Z:ex w0 v xs)(eB:xs.length<=1000000):eJ 242 #[v] w0 (λu w'=>sH w0 w' u 66 xs/\eV w0 w'):=by
 obtain⟨a,c,rfl⟩:=Z.eq;refine eN 9 (eY _) func242 ntmps242 results242 rfl λw E=>?_;refine et (fO rfl rfl (ey 2 E<|om 8 4 (λb w E=>?_) (λb w E=>?_)))
 .
   cases a with
   |none=>
    obtain⟨rfl,_,_⟩:=Z.wg;exact⟨sH.nil _ _ _,E.ee⟩
   |some a=>cases b
 .
   refine rF 1 E (nB ([]:List o6)) λd w E=>?_;refine et (dj (α:=o6) rfl E rfl en ((Z.es E.ee)) (by(try simp only[List.length_append,List.length_cons,List.length_nil,List.length_map]);omega) (by simp only[maxLen];(try simp only[List.length_append,List.length_cons,List.length_nil,List.length_map]);omega) ?_);intro e w E;replace E:=E _ en;refine ey 5 E λw E=>?_;have G:=E.cZ en;simp only[List.nil_append]at G;exact⟨G,E.ee⟩
theorem eny{xs:List o6}(Z:ex w0 v.v xs)(eB:xs.length<=1000000):eJ 242 #[v.v] w0 (λu w'=>∃s:ec,u=s.v/\U w0 [V s.v 66 xs] w'):=
 (enw Z eB).mono λu w' h=>h.1.eW h.2
theorem enb{v:Value}{xs:List o6}(Z:ex w0 v xs):tS 92 #[v] w0 (nz v 0 xs.length xs.length (O.eo (o6))):=by
 have:=aL Z;refine eN 12 (eY _) func92 ntmps92 results92 rfl λw E=>?_;exact et (hj (Z.es E.ee) ⟨⟨_,rfl⟩,Z.cap⟩ ⟨⟨_,rfl⟩,Nat.le_refl _⟩ ⟨rfl,Nat.zero_le _⟩ (ey 5 E λw E=>(⟨rfl,E.ee⟩)))
theorem env{xs:List o6}(eC:U ea (V v.v 66 xs::S) w0):eJ 92 #[v.v] w0 (λu w'=>∃s:ec,u=s.v/\U ea (V s.v 66 xs::S) w'):=
 (enb (eC.eu .nW)).mono λu w' h=>⟨_,h.1.trans rfl,(eC.es h.2).xd⟩
theorem enk{v:Value}{xs:List sd}(Z:ex w0 v xs)(eB:xs.length<=1000000):eJ 243 #[v] w0 (λu w'=>sH w0 w' u 251 xs/\eV w0 w'):=by
 obtain⟨a,c,rfl⟩:=Z.eq;refine eN 9 (eY _) func243 ntmps243 results243 rfl λw E=>?_;refine et (fO rfl rfl (ey 2 E<|om 8 4 (λb w E=>?_) (λb w E=>?_)))
 .
   cases a with
   |none=>
    obtain⟨rfl,_,_⟩:=Z.wg;exact⟨sH.nil _ _ _,E.ee⟩
   |some a=>cases b
 .
   refine rF 1 E (nB ([]:List sd)) λd w E=>?_;refine et (dj (α:=Vector UInt8 64) rfl E rfl en ((Z.es E.ee)) (by(try simp only[List.length_append,List.length_cons,List.length_nil,List.length_map]);omega) (by simp only[maxLen];(try simp only[List.length_append,List.length_cons,List.length_nil,List.length_map]);omega) ?_);intro e w E;replace E:=E _ en;refine ey 5 E λw E=>?_;have G:=E.cZ en;simp only[List.nil_append]at G;exact⟨G,E.ee⟩
theorem enx{xs:List sd}(Z:ex w0 v.v xs)(eB:xs.length<=1000000):eJ 243 #[v.v] w0 (λu w'=>∃s:ec,u=s.v/\U w0 [V s.v 251 xs] w'):=
 (enk Z eB).mono λu w' h=>h.1.eW h.2
theorem enj{v:Value}{xs:List sd}(Z:ex w0 v xs):tS 229 #[v] w0 (nz v 0 xs.length xs.length (O.eo (sd))):=by
 have:=aL Z;refine eN 12 (eY _) func229 ntmps229 results229 rfl λw E=>?_;exact et (hj (Z.es E.ee) ⟨⟨_,rfl⟩,Z.cap⟩ ⟨⟨_,rfl⟩,Nat.le_refl _⟩ ⟨rfl,Nat.zero_le _⟩ (ey 5 E λw E=>(⟨rfl,E.ee⟩)))
theorem enq{xs:List sd}(eC:U ea (V v.v 251 xs::S) w0):eJ 229 #[v.v] w0 (λu w'=>∃s:ec,u=s.v/\U ea (V s.v 251 xs::S) w'):=
 (enj (eC.eu .nW)).mono λu w' h=>⟨_,h.1.trans rfl,(eC.es h.2).xd⟩
theorem enz{v:Value}{xs:List ak}(Z:ex w0 v xs)(eB:xs.length<=1000000):eJ 244 #[v] w0 (λu w'=>sH w0 w' u 60 xs/\eV w0 w'):=by
 obtain⟨a,c,rfl⟩:=Z.eq;refine eN 9 (eY _) func244 ntmps244 results244 rfl λw E=>?_;refine et (fO rfl rfl (ey 2 E<|om 8 4 (λb w E=>?_) (λb w E=>?_)))
 .
   cases a with
   |none=>
    obtain⟨rfl,_,_⟩:=Z.wg;exact⟨sH.nil _ _ _,E.ee⟩
   |some a=>cases b
 .
   refine rF 1 E (nB ([]:List ak)) λd w E=>?_;refine et (dj (α:=Vector UInt8 32) rfl E rfl en ((Z.es E.ee)) (by(try simp only[List.length_append,List.length_cons,List.length_nil,List.length_map]);omega) (by simp only[maxLen];(try simp only[List.length_append,List.length_cons,List.length_nil,List.length_map]);omega) ?_);intro e w E;replace E:=E _ en;refine ey 5 E λw E=>?_;have G:=E.cZ en;simp only[List.nil_append]at G;exact⟨G,E.ee⟩
theorem enE{xs:List ak}(Z:ex w0 v.v xs)(eB:xs.length<=1000000):eJ 244 #[v.v] w0 (λu w'=>∃s:ec,u=s.v/\U w0 [V s.v 60 xs] w'):=
 (enz Z eB).mono λu w' h=>h.1.eW h.2
theorem enT{v:Value}{xs:List ak}(Z:ex w0 v xs):tS 89 #[v] w0 (nz v 0 xs.length xs.length (O.eo (ak))):=by
 have:=aL Z;refine eN 12 (eY _) func89 ntmps89 results89 rfl λw E=>?_;exact et (hj (Z.es E.ee) ⟨⟨_,rfl⟩,Z.cap⟩ ⟨⟨_,rfl⟩,Nat.le_refl _⟩ ⟨rfl,Nat.zero_le _⟩ (ey 5 E λw E=>(⟨rfl,E.ee⟩)))
theorem enA{xs:List ak}(eC:U ea (V v.v 60 xs::S) w0):eJ 89 #[v.v] w0 (λu w'=>∃s:ec,u=s.v/\U ea (V s.v 60 xs::S) w'):=
 (enT (eC.eu .nW)).mono λu w' h=>⟨_,h.1.trans rfl,(eC.es h.2).xd⟩
theorem enO{v:Value}{xs:List Instr}(Z:ex w0 v xs)(eB:xs.length<=1000000):eJ 246 #[v] w0 (λu w'=>sH w0 w' u 230 xs/\eV w0 w'):=by
 obtain⟨a,c,rfl⟩:=Z.eq;refine eN 9 (eY _) func246 ntmps246 results246 rfl λw E=>?_;refine et (fO rfl rfl (ey 2 E<|om 8 4 (λb w E=>?_) (λb w E=>?_)))
 .
   cases a with
   |none=>
    obtain⟨rfl,_,_⟩:=Z.wg;exact⟨sH.nil _ _ _,E.ee⟩
   |some a=>cases b
 .
   refine rF 1 E (nB ([]:List Instr)) λd w E=>?_;refine et (dj (α:=Instr) rfl E rfl en ((Z.es E.ee)) (by(try simp only[List.length_append,List.length_cons,List.length_nil,List.length_map]);omega) (by simp only[maxLen];(try simp only[List.length_append,List.length_cons,List.length_nil,List.length_map]);omega) ?_);intro e w E;replace E:=E _ en;refine ey 5 E λw E=>?_;have G:=E.cZ en;simp only[List.nil_append]at G;exact⟨G,E.ee⟩
theorem enI{xs:List Instr}(Z:ex w0 v.v xs)(eB:xs.length<=1000000):eJ 246 #[v.v] w0 (λu w'=>∃s:ec,u=s.v/\U w0 [V s.v 230 xs] w'):=
 (enO Z eB).mono λu w' h=>h.1.eW h.2
theorem enN{v:Value}{xs:List Instr}(Z:ex w0 v xs):tS 245 #[v] w0 (nz v 0 xs.length xs.length (O.eo (Instr))):=by
 have:=aL Z;refine eN 12 (eY _) func245 ntmps245 results245 rfl λw E=>?_;exact et (hj (Z.es E.ee) ⟨⟨_,rfl⟩,Z.cap⟩ ⟨⟨_,rfl⟩,Nat.le_refl _⟩ ⟨rfl,Nat.zero_le _⟩ (ey 5 E λw E=>(⟨rfl,E.ee⟩)))
theorem enS{xs:List Instr}(eC:U ea (V v.v 230 xs::S) w0):eJ 245 #[v.v] w0 (λu w'=>∃s:ec,u=s.v/\U ea (V s.v 230 xs::S) w'):=
 (enN (eC.eu .nW)).mono λu w' h=>⟨_,h.1.trans rfl,(eC.es h.2).xd⟩
theorem enR{v:Value}{xs:List iX}(Z:ex w0 v xs)(eB:xs.length<=1000000):eJ 248 #[v] w0 (λu w'=>sH w0 w' u 221 xs/\eV w0 w'):=by
 obtain⟨a,c,rfl⟩:=Z.eq;refine eN 9 (eY _) func248 ntmps248 results248 rfl λw E=>?_;refine et (fO rfl rfl (ey 2 E<|om 8 4 (λb w E=>?_) (λb w E=>?_)))
 .
   cases a with
   |none=>
    obtain⟨rfl,_,_⟩:=Z.wg;exact⟨sH.nil _ _ _,E.ee⟩
   |some a=>cases b
 .
   refine rF 1 E (nB ([]:List iX)) λd w E=>?_;refine et (dj (α:=iX) rfl E rfl en ((Z.es E.ee)) (by(try simp only[List.length_append,List.length_cons,List.length_nil,List.length_map]);omega) (by simp only[maxLen];(try simp only[List.length_append,List.length_cons,List.length_nil,List.length_map]);omega) ?_);intro e w E;replace E:=E _ en;refine ey 5 E λw E=>?_;have G:=E.cZ en;simp only[List.nil_append]at G;exact⟨G,E.ee⟩
theorem enH{xs:List iX}(Z:ex w0 v.v xs)(eB:xs.length<=1000000):eJ 248 #[v.v] w0 (λu w'=>∃s:ec,u=s.v/\U w0 [V s.v 221 xs] w'):=
 (enR Z eB).mono λu w' h=>h.1.eW h.2
theorem enL{v:Value}{xs:List iX}(Z:ex w0 v xs):tS 247 #[v] w0 (nz v 0 xs.length xs.length (O.eo (iX))):=by
 have:=aL Z;refine eN 12 (eY _) func247 ntmps247 results247 rfl λw E=>?_;exact et (hj (Z.es E.ee) ⟨⟨_,rfl⟩,Z.cap⟩ ⟨⟨_,rfl⟩,Nat.le_refl _⟩ ⟨rfl,Nat.zero_le _⟩ (ey 5 E λw E=>(⟨rfl,E.ee⟩)))
theorem enD{xs:List iX}(eC:U ea (V v.v 221 xs::S) w0):eJ 247 #[v.v] w0 (λu w'=>∃s:ec,u=s.v/\U ea (V s.v 221 xs::S) w'):=
 (enL (eC.eu .nW)).mono λu w' h=>⟨_,h.1.trans rfl,(eC.es h.2).xd⟩
theorem Cy(Z:ex w0 v.v xs)(eB:xs.length<=1000000):eJ 182 #[v.v] w0 (λu w'=>∃(eE:ec),u=eE.v/\U w0 [V eE.v 5 xs] w'):=by
 refine eN 8 (eY _) func182 ntmps182 results182 rfl λw E=>?_;refine ev 0 E (Cm (Z.es E.ee) eB) λb w E=>?_;refine ev 5 E (S0 (E.pick .em)) λa w E=>?_;exact⟨a,rfl,E⟩
theorem enC{xs:List o6}(Z:ex w0 v.v xs)(eB:xs.length<=1000000):eJ 183 #[v.v] w0 (λu w'=>∃(eE:ec),u=eE.v/\U w0 [V eE.v 66 xs] w'):=by
 refine eN 8 (eY _) func183 ntmps183 results183 rfl λw E=>?_;refine ev 0 E (eny (Z.es E.ee) eB) λb w E=>?_;refine ev 5 E (env (E.pick .em)) λa w E=>?_;exact⟨a,rfl,E⟩
theorem enU{xs:List sd}(Z:ex w0 v.v xs)(eB:xs.length<=1000000):eJ 184 #[v.v] w0 (λu w'=>∃(eE:ec),u=eE.v/\U w0 [V eE.v 251 xs] w'):=by
 refine eN 8 (eY _) func184 ntmps184 results184 rfl λw E=>?_;refine ev 0 E (enx (Z.es E.ee) eB) λb w E=>?_;refine ev 5 E (enq (E.pick .em)) λa w E=>?_;exact⟨a,rfl,E⟩
theorem enM{xs:List ak}(Z:ex w0 v.v xs)(eB:xs.length<=1000000):eJ 185 #[v.v] w0 (λu w'=>∃(eE:ec),u=eE.v/\U w0 [V eE.v 60 xs] w'):=by
 refine eN 8 (eY _) func185 ntmps185 results185 rfl λw E=>?_;refine ev 0 E (enE (Z.es E.ee) eB) λb w E=>?_;refine ev 5 E (enA (E.pick .em)) λa w E=>?_;exact⟨a,rfl,E⟩
theorem enF{xs:List Instr}(Z:ex w0 v.v xs)(eB:xs.length<=1000000):eJ 186 #[v.v] w0 (λu w'=>∃(eE:ec),u=eE.v/\U w0 [V eE.v 230 xs] w'):=by
 refine eN 8 (eY _) func186 ntmps186 results186 rfl λw E=>?_;refine ev 0 E (enI (Z.es E.ee) eB) λb w E=>?_;refine ev 5 E (enS (E.pick .em)) λa w E=>?_;exact⟨a,rfl,E⟩
theorem enP{xs:List iX}(Z:ex w0 v.v xs)(eB:xs.length<=1000000):eJ 187 #[v.v] w0 (λu w'=>∃(eE:ec),u=eE.v/\U w0 [V eE.v 221 xs] w'):=by
 refine eN 8 (eY _) func187 ntmps187 results187 rfl λw E=>?_;refine ev 0 E (enH (Z.es E.ee) eB) λb w E=>?_;refine ev 5 E (enD (E.pick .em)) λa w E=>?_;exact⟨a,rfl,E⟩
structure gf(k:Nat)(sA is:List Instr):Prop where
 len:sA.length=is.length
 le:k<=is.length
 prog:sA.map (·.program)=is.map (·.program)
 rest:sA.drop k=is.drop k
theorem gf.zero(is:List Instr):gf 0 is is:=⟨rfl,Nat.zero_le _,rfl,rfl⟩
theorem gf.at(h:gf k sA is)(G:k<sA.length)(Y:k<is.length):sA[k]=is[k]:=by
 have e:=congrArg (λl=>l[0]?) h.rest;simp only[List.getElem?_drop,Nat.add_zero]at e;rw[List.getElem?_eq_getElem G,List.getElem?_eq_getElem Y]at e;exact Option.some.inj e
theorem gf.step(h:gf k sA is)(b:k<sA.length)(a d:ec):gf (k+1) (sA.set k ⟨sA[k].program,a,d⟩) is:=by
 refine⟨by rw[List.length_set];exact h.len,by have:=h.len;omega,?_,?_⟩
 .rw[<-h.prog,List.map_set];exact List.ext_getElem (by simp) λi G Y=>by
   rw[List.getElem_set];split
   .rename_i e;subst e;simp
   rfl
 rw[List.drop_set,if_pos (by omega)];have e:=congrArg (List.drop 1) h.rest;simpa[List.drop_drop,Nat.add_comm]using e
theorem gf.zip(h:gf k sA is)(a:k<sA.length)(b:k<cs.length)(i:Instr):dY ((sA.set k i).take (k+1)) (cs.take (k+1))=dY (sA.take k) (cs.take k)++[((i.cS,(cs[k]).2.1),(i.data,(cs[k]).2.2))]:=by
 have c:(sA.set k i).take (k+1)=sA.take k++[i]:=by
  rw[List.take_succ_eq_append_getElem (by rw[List.length_set];exact a),List.take_set,List.getElem_set_self,List.set_eq_of_length_le (by rw[List.length_take];omega)]
 rw[c,List.take_succ_eq_append_getElem b];exact Gp (by rw[List.length_take,List.length_take];omega)
theorem py.enG{α:Type}{l:List (α×List UInt8×List UInt8)}(h:py m l)(a:k<l.length):l[k].2.1.length<=m/\l[k].2.2.length<=m:=h _ (List.getElem_mem a)
theorem enW(h:nA xs=(y,0)):xs.length<=1232:=by
 unfold nA at h;split at h
 .cases h
 omega
theorem fZ(h:U w0 S w)(e:tP (ax r is xs y) S):xs.length<=1232/\y.m.td.length<=64/\(ai y).length=y.m.td.length/\y.sigs.length<=255/\is.length<65536/\y.m.ad.length=is.length/\(∀k(b:k<y.m.ad.length),(y.m.ad[k]).2.1.length<=1232/\(y.m.ad[k]).2.2.length<=1232)/\0<y.m.td.length/\0<y.sigs.length:=by
 obtain⟨e1,_,_,c,f⟩:=h.g6 e;have d:=EA.of e1.Cg f;have a:=yP.of e1.Cw;have au:=a.ti;have a2:=y.m.h.rh.toNat_lt;have iK:=a.ay;exact⟨enW e1.Cg,by have:=a.SZ;omega,Yh y,by omega,by have:=d.eio;have:=c.2.wU.1;omega,c.2.wU.1.symm,λk b=>d.xI.enG b,by have:=a.hd;omega,iK⟩
theorem enY:(eK [#[.int .u8 0],#[eF],#[eF]])=O.enc (⟨0,ed,ed⟩:Instr):=by
 simp only[P7,Instr.parts,iW];rfl
instance:wS (eK [#[.int .u8 0],#[eF],#[eF]]) (O.enc (⟨0,ed,ed⟩:Instr)):=⟨enY⟩
theorem enB(D:U ea S w0)(F:tP (ax r is xs y) S):eJ 113 #[.agg (O.enc r)] w0 (λu w'=>∃(eE:ec)(tt:ec)(tC:ec)(ap:ec)(aD:ec)(o8:ec)(iF:(List Instr)),u= .agg (O.enc (⟨eE,⟨tC,(⟨r.tQ.m.v0,r.tQ.m.ic,ap,r.tQ.m.oT,aD,o8⟩:oa)⟩,tt,r.rN,r.tv,r.ow,r.priority⟩:aZ))/\U w0 [nn (gf is.length iF is),hX (dY iF y.m.ad),V o8.v 221 ([]:List iX),V aD.v 230 iF,V ap.v 60 y.m.td,V tC.v 251 y.sigs,V tt.v 66 (ai y),V eE.v 5 xs] w'):=by
 obtain⟨hP,K,L,s,M,P,Q,t⟩:=xU D F;obtain⟨EL,ED,EC,qp,EU,EM,R,EF,xF⟩:=fZ D F;refine eN 7 (eY _) func113 ntmps113 results113 rfl λni ao=>?_;refine aC 4 7 (eX [0,1,3,4] (oA [2,5] (.look 6 (oA [7,8,9] .nil)))) [] λw E=>?_;refine o0 0 E (Cy (K.es E.ee) (by first|omega|simp)) λd w E=>?_;refine o0 14 E (enC (L.es E.ee) (by first|omega|simp)) λh=>?_;refine aC 18 24 (eX [0,1,2,3,4,5,7,8,9,10,12,13,14,15,17,18,19,20] (oA [6,11,16,21] (eX [22,23] (oA [24,25,26,27,28,29,30,31,32,33] .nil)))) [] λw E=>?_;refine o0 0 E (enU (M.es E.ee) (by first|omega|simp)) λa w E=>?_;refine o0 0 E (enM (P.es E.ee) (by first|omega|simp)) λb w E=>?_;refine o0 0 E (enF (Q.es E.ee) (by first|omega|simp)) λc w E=>?_;refine o0 2 E (enP (t.es E.ee) (by first|omega|simp)) λj w E=>?_;refine nH rfl (iU (v:=a.v) (iA:=O.enc (⟨d,⟨a,r.tQ.m⟩,h,r.rN,r.tv,r.ow,r.priority⟩:aZ)) E rfl rfl .iK rfl wH (O.one (α:=ec) a) (vL (o:=1) (e:=1+40) (i:=0) (Ab (⟨d,r.tQ,h,r.rN,r.tv,r.ow,r.priority⟩:aZ)) (Gt r.tQ a) (NY (⟨d,r.tQ,h,r.rN,r.tv,r.ow,r.priority⟩:aZ) (⟨a,r.tQ.m⟩:oW)) (O.ez _) (show 1+0<=40 from by decide) (by decide) (by decide)) (tH .iK λw E=>?_));refine t7 2 E λw E=>?_;refine nH rfl (iU (v:=b.v) (iA:=O.enc (⟨d,⟨a,(⟨r.tQ.m.v0,r.tQ.m.ic,b,r.tQ.m.oT,r.tQ.m.instrs,r.tQ.m.rJ⟩:oa)⟩,h,r.rN,r.tv,r.ow,r.priority⟩:aZ)) E rfl rfl .iK rfl wH (O.one (α:=ec) b) (vL (o:=1) (e:=1+40) (i:=5) (Ab (⟨d,⟨a,r.tQ.m⟩,h,r.rN,r.tv,r.ow,r.priority⟩:aZ)) (vL (o:=1) (e:=1+39) (i:=4) (zV (⟨a,r.tQ.m⟩:oW)) (ZE r.tQ.m b) (NW (⟨a,r.tQ.m⟩:oW) (⟨r.tQ.m.v0,r.tQ.m.ic,b,r.tQ.m.oT,r.tQ.m.instrs,r.tQ.m.rJ⟩:oa)) (O.ez _) (show 1+4<=39 from by decide) (by decide) (by decide)) (NY (⟨d,⟨a,r.tQ.m⟩,h,r.rN,r.tv,r.ow,r.priority⟩:aZ) (⟨a,⟨r.tQ.m.v0,r.tQ.m.ic,b,r.tQ.m.oT,r.tQ.m.instrs,r.tQ.m.rJ⟩⟩:oW)) (O.ez _) (show 1+5<=40 from by decide) (by decide) (by decide)) (tH .iK λw E=>?_));refine t7 2 E λw E=>?_;refine nH rfl (iU (v:=c.v) (iA:=O.enc (⟨d,⟨a,(⟨r.tQ.m.v0,r.tQ.m.ic,b,r.tQ.m.oT,c,r.tQ.m.rJ⟩:oa)⟩,h,r.rN,r.tv,r.ow,r.priority⟩:aZ)) E rfl rfl .iK rfl wH (O.one (α:=ec) c) (vL (o:=1) (e:=1+40) (i:=38) (Ab (⟨d,⟨a,(⟨r.tQ.m.v0,r.tQ.m.ic,b,r.tQ.m.oT,r.tQ.m.instrs,r.tQ.m.rJ⟩:oa)⟩,h,r.rN,r.tv,r.ow,r.priority⟩:aZ)) (vL (o:=1) (e:=1+39) (i:=37) (zV (⟨a,⟨r.tQ.m.v0,r.tQ.m.ic,b,r.tQ.m.oT,r.tQ.m.instrs,r.tQ.m.rJ⟩⟩:oW)) (ZT (⟨r.tQ.m.v0,r.tQ.m.ic,b,r.tQ.m.oT,r.tQ.m.instrs,r.tQ.m.rJ⟩:oa) c) (NW (⟨a,⟨r.tQ.m.v0,r.tQ.m.ic,b,r.tQ.m.oT,r.tQ.m.instrs,r.tQ.m.rJ⟩⟩:oW) (⟨r.tQ.m.v0,r.tQ.m.ic,b,r.tQ.m.oT,c,r.tQ.m.rJ⟩:oa)) (O.ez _) (show 1+37<=39 from by decide) (by decide) (by decide)) (NY (⟨d,⟨a,(⟨r.tQ.m.v0,r.tQ.m.ic,b,r.tQ.m.oT,r.tQ.m.instrs,r.tQ.m.rJ⟩:oa)⟩,h,r.rN,r.tv,r.ow,r.priority⟩:aZ) (⟨a,⟨r.tQ.m.v0,r.tQ.m.ic,b,r.tQ.m.oT,c,r.tQ.m.rJ⟩⟩:oW)) (O.ez _) (show 1+38<=40 from by decide) (by decide) (by decide)) (tH .iK λw E=>?_));refine t7 2 E λw E=>?_;refine nH rfl (iU (v:=j.v) (iA:=O.enc (⟨d,⟨a,(⟨r.tQ.m.v0,r.tQ.m.ic,b,r.tQ.m.oT,c,j⟩:oa)⟩,h,r.rN,r.tv,r.ow,r.priority⟩:aZ)) E rfl rfl .iK rfl wH (O.one (α:=ec) j) (vL (o:=1) (e:=1+40) (i:=39) (Ab (⟨d,⟨a,(⟨r.tQ.m.v0,r.tQ.m.ic,b,r.tQ.m.oT,c,r.tQ.m.rJ⟩:oa)⟩,h,r.rN,r.tv,r.ow,r.priority⟩:aZ)) (vL (o:=1) (e:=1+39) (i:=38) (zV (⟨a,⟨r.tQ.m.v0,r.tQ.m.ic,b,r.tQ.m.oT,c,r.tQ.m.rJ⟩⟩:oW)) (ZA (⟨r.tQ.m.v0,r.tQ.m.ic,b,r.tQ.m.oT,c,r.tQ.m.rJ⟩:oa) j) (NW (⟨a,⟨r.tQ.m.v0,r.tQ.m.ic,b,r.tQ.m.oT,c,r.tQ.m.rJ⟩⟩:oW) (⟨r.tQ.m.v0,r.tQ.m.ic,b,r.tQ.m.oT,c,j⟩:oa)) (O.ez _) (show 1+38<=39 from by decide) (by decide) (by decide)) (NY (⟨d,⟨a,(⟨r.tQ.m.v0,r.tQ.m.ic,b,r.tQ.m.oT,c,r.tQ.m.rJ⟩:oa)⟩,h,r.rN,r.tv,r.ow,r.priority⟩:aZ) (⟨a,⟨r.tQ.m.v0,r.tQ.m.ic,b,r.tQ.m.oT,c,j⟩⟩:oW)) (O.ez _) (show 1+39<=40 from by decide) (by decide) (by decide)) (tH .iK λw E=>?_));refine t7 14 E λw E=>?_;refine ek.loop (λq f w=>∃(k:Nat)(sA:List Instr),oV [(1,N ni),(2,N ao),(3,.pointer (some ⟨ni,2,none⟩)),(51,c.v),(52,i6 is.length),(53,i6 k)] f/\U w0 [hX (dY (sA.take k) (y.m.ad.take k)),V j.v 221 ([]:List iX),V c.v 230 sA,V b.v 60 y.m.td,V a.v 251 y.sigs,V h.v 66 (ai y),V d.v 5 xs,B ao (O.enc mP) 53,B ni (O.enc (⟨d,⟨a,(⟨r.tQ.m.v0,r.tQ.m.ic,b,r.tQ.m.oT,c,j⟩:oa)⟩,h,r.rN,r.tv,r.ow,r.priority⟩:aZ)) 53] w/\gf k sA is/\q=is.length-k) (is.length) ?_ ?_
 .
   exact⟨0,is,⟨rfl,rfl,rfl,rfl,rfl,sJ,trivial⟩,E.vG,gf.zero _,rfl⟩
 .
   rintro q f w ⟨k,sA,G,E,n,e5⟩;refine il _ G (λg=>?_);clear G;refine eA 6 E<|om 0 0 (λT w E=>?_) (λT w E=>?_)
   .
     have H:k<is.length:=by omega
     have x:k<sA.length:=by have:=n.len;omega
     have z:k<y.m.ad.length:=by have:=s.2.wU.1;omega
     obtain⟨_,I,J⟩:=s.2.wU.2 k H z;rw[<-n.at x H]at I J;obtain⟨W,X⟩:=R k z;refine eA 8 E ⟨⟨aj⟩,λ_=>rO 6 λiD=>?_⟩;refine aC 14 18 (eX [0,1,2,3,4,5,6,7,8,9,10,11,13,14] (oA [12,15] (eX [16,17] (oA [18,19,20,21] .nil)))) [] λw E=>?_;refine o0 0 E (Cy (I.es E.ee) (by first|omega|simp)) λA w E=>?_;refine o0 14 E (Cy (J.es E.ee) (by first|omega|simp)) λC=>⟨ib,λw E=>?_⟩;have e0:=s.2.wU.1;replace E:=L3 (p:=((A,(y.m.ad[k]).2.1),(C,(y.m.ad[k]).2.2))) (l:=dY (sA.take k) (y.m.ad.take k)) (((E.pick (e:=hX (dY (sA.take k) (y.m.ad.take k))) en).pick (e:=V C.v 5 (y.m.ad[k]).2.2) en).pick (e:=V A.v 5 (y.m.ad[k]).2.1) en);rw[<-n.zip x z ⟨sA[k].program,A,C⟩]at E;exact⟨is.length-(k+1),by omega,k+1,_,⟨rfl,rfl,rfl,rfl,rfl,sJ,trivial⟩,tN [1] E,n.step x _ _,rfl⟩
   .
     obtain rfl:k=is.length:=by have:=n.le;omega
     have Y:sA.take is.length=sA:=List.take_of_length_le (by rw[n.len];exact Nat.le_refl _);have Z:y.m.ad.take is.length=y.m.ad:=List.take_of_length_le (by rw[s.2.wU.1];exact Nat.le_refl _);rw[Y,Z]at E;replace E:=E.pure n;refine eA 17 E λw E=>?_;refine oL 40 (oc.step ?_);refine eA 2 E ?_;refine eU false 17 λw E=>?_;exact⟨d,h,a,b,c,j,sA,rfl,(tN [8,9] E)⟩
theorem Yb(f:U ea S w0)(g:tP (ax r is xs y) S):eJ 113 #[.agg (O.enc r)] w0 (λu w'=>∃(h:aZ)(n:List Instr),u= .agg (O.enc h)/\U w0 [ax h n xs y] w'):=by
 obtain⟨e1,_,_,_,o⟩:=f.g6 g;refine(enB f g).mono ?_;rintro u w' ⟨ay,aM,i,j,k,l,sA,rfl,E⟩;have a:=E.get (e:=nn (gf is.length sA is)) .em;rw[md]at a;refine⟨_,sA,rfl,?_⟩;have p:=((((((((E.vG.pick .iK).pick .iG).pick .Y).pick .au).pick .au).pick .a2).pick .iK).pick .iG);obtain⟨q,s,t,w,fH,up,x,b,z,c⟩:=o;have d:pb ⟨i,⟨r.tQ.m.v0,r.tQ.m.ic,j,r.tQ.m.oT,k,l⟩⟩ sA [] y:=⟨q,s,t,a.len.trans w,a.prog.trans fH,up,x,b,z,c⟩;have ej:=U.WU (S:=[V ay.v 5 xs,V aM.v 66 (ai y),nn (gf is.length sA is)]) d p;exact(Yw (r:=⟨ay,⟨i,⟨r.tQ.m.v0,r.tQ.m.ic,j,r.tQ.m.oT,k,l⟩⟩,aM,r.rN,r.tv,r.ow,r.priority⟩) (Pi [2,2] ej) ⟨e1.Cg,e1.Cw,e1.S1,e1.Yg,e1.tv,e1.ow,e1.eng⟩).sub (.cons₂ _ (.cons _ (List.Sublist.refl _)))
end
end Go.Fer
