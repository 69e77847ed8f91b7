import Derived.Test.YtncdhadaifhleaaGreatDoorF17
set_option linter.all false
set_option synthInstance.maxSize 100000
set_option synthInstance.maxHeartbeats 400000
set_option maxHeartbeats 8000000
set_option maxRecDepth 100000
namespace Go.Fer
open Go Go.RowKit
section
open Go.Proofs
variable{L a u:Nat}{S:List eH}{b:Bool}{is:List Instr}{r:aZ}{w w0:World}{xs:List UInt8}{y:nT}
structure qP where
 (ea:World)
 (ti d tk eW ar oG b tI tg eP eM p q ay aM c1 nU m tB ih no nd eu oO nM oN rV:Nat)
 (aI aJ tf co:Value)
 (aT tY eZ th tK tV v0 am:ec)
 (c:rj)
 (ou:aZ)
 (cw:Bool)
 (is:List Instr)
 (xs:List UInt8)
 (y:nT)
 (oy:nl)
 (a1:List iM)
 (D:iL)
 (f0:UInt8)
 (oh:Nat->Nat)
variable{t:qP}
structure qP.w7(t:qP)(ef9:Bool):Prop where
 epe:lg t.c
 tB:t.tB<t.c.eg.length
 eP:t.y.m.oT∈t.a1.take 150
 Me:fK t.D
 Kd:cF (uA (t.y.sigs.length:Int) (su t.y)) (ai t.y) (iE t.D (ai t.y))=ef9
 g4:ErrLaid t.ea
 nM:1099511627776<=t.nM
 oN:1099511627776<=t.oN
 rV:1099511627776<=t.rV
 ept:Tab t.ea t.oh
inductive pP(t:qP):Bool->Nat->List aR->List eL->eH->eH->eH->List eH->Prop
 |xc (b:Bool) (og:Nat) (aU:r0) (aV:rY) (aF:nG) (ox:sa) (ab:i9):pP t b 0 ((List.replicate t.c.eg.length (⟨0,ed⟩:aR)).set t.tB (⟨0,ed⟩:aR)) ((List.replicate t.c.eg.length (⟨0⟩:eL)).set t.tB (⟨1⟩:eL)) (sj t.tg ab t.c.eg.length (some t.tB)) (B t.oG #[.pointer (some ⟨t.eW,0,none⟩),.pointer (some ⟨t.eP,0,none⟩),.pointer (some ⟨t.eM,0,none⟩),.pointer (some ⟨t.ih,0,none⟩),.bool false,eF,eF,.int .u64 0] 302) (a7 t.p t.tK t.tV t.m (some (⟨1,t.ou,1,t.cw⟩:Item))) [ax t.ou t.is t.xs t.y,o3 t.eP t.oy t.a1,n2 t.tI t.c.eg.length t.no t.nd aU aV,V t.co 23 ((List.replicate t.c.eg.length (⟨0⟩:aa)).set t.tB (⟨og⟩:aa)),V t.aT.v 77 ([t.f0]:List UInt8),it t.eM aF [],rn t.ih ox t.nM t.oN t.rV,iC t.eW t.D]
 |jD (b:Bool) (og:Nat) (aU:r0) (aV:rY) (aF:nG) (ox:sa) (ab:i9) (r:aZ) (sq:List Instr) (g cap:Nat):pP t b 1 ((List.replicate t.c.eg.length (⟨0,ed⟩:aR)).set t.tB (⟨1,(tE g 1 cap)⟩:aR)) ((List.replicate t.c.eg.length (⟨0⟩:eL)).set t.tB (⟨1⟩:eL)) (rf t.tg ab t.c.eg.length) (B t.oG #[.pointer (some ⟨t.eW,0,none⟩),.pointer (some ⟨t.eP,0,none⟩),.pointer (some ⟨t.eM,0,none⟩),.pointer (some ⟨t.ih,0,none⟩),.bool false,eF,eF,.int .u64 0] 302) (a7 t.p t.tK t.tV t.m (some (⟨1,t.ou,1,t.cw⟩:Item))) [ax t.ou t.is t.xs t.y,o3 t.eP t.oy t.a1,n2 t.tI t.c.eg.length t.no t.nd aU aV,V t.co 23 ((List.replicate t.c.eg.length (⟨0⟩:aa)).set t.tB (⟨og⟩:aa)),V t.aT.v 77 ([t.f0]:List UInt8),it t.eM aF [],rn t.ih ox t.nM t.oN t.rV,iC t.eW t.D,ax r sq t.xs t.y,V (ta g 1 cap) 417 [(⟨0,1,ed,⟨r,nV⟩,0⟩:ia)]]
 |bj (og:Nat) (aU:r0) (aV:rY) (aF:nG) (ox:sa) (ab:i9) (r:aZ) (sq:List Instr) (g cap:Nat):pP t false 2 ((List.replicate t.c.eg.length (⟨0,ed⟩:aR)).set t.tB (⟨2,(tE g 1 cap)⟩:aR)) ((List.replicate t.c.eg.length (⟨0⟩:eL)).set t.tB (⟨1⟩:eL)) (rf t.tg ab t.c.eg.length) (B t.oG #[.pointer (some ⟨t.eW,0,none⟩),.pointer (some ⟨t.eP,0,none⟩),.pointer (some ⟨t.eM,0,none⟩),.pointer (some ⟨t.ih,0,none⟩),.bool false,eF,eF,.int .u64 0] 302) (a7 t.p t.tK t.tV t.m (some (⟨1,t.ou,1,t.cw⟩:Item))) [ax t.ou t.is t.xs t.y,o3 t.eP t.oy t.a1,n2 t.tI t.c.eg.length t.no t.nd aU aV,V t.co 23 ((List.replicate t.c.eg.length (⟨0⟩:aa)).set t.tB (⟨og⟩:aa)),V t.aT.v 77 ([t.f0]:List UInt8),it t.eM aF [],rn t.ih ox t.nM t.oN t.rV,iC t.eW t.D,ax r sq t.xs t.y,V (ta g 1 cap) 417 [(⟨0,1,ed,⟨r,nV⟩,22⟩:ia)]]
 |Kc (og:Nat) (aU:r0) (aV:rY) (aF:nG) (ox:sa) (ab:i9) (r:aZ) (sq:List Instr) (g cap:Nat):pP t false 3 ((List.replicate t.c.eg.length (⟨0,ed⟩:aR)).set t.tB (⟨3,(tE g 1 cap)⟩:aR)) ((List.replicate t.c.eg.length (⟨0⟩:eL)).set t.tB (⟨1⟩:eL)) (rf t.tg ab t.c.eg.length) (B t.oG #[.pointer (some ⟨t.eW,0,none⟩),.pointer (some ⟨t.eP,0,none⟩),.pointer (some ⟨t.eM,0,none⟩),.pointer (some ⟨t.ih,0,none⟩),.bool false,eF,eF,.int .u64 0] 302) (a7 t.p t.tK t.tV t.m (some (⟨1,t.ou,1,t.cw⟩:Item))) [ax t.ou t.is t.xs t.y,o3 t.eP t.oy t.a1,n2 t.tI t.c.eg.length t.no t.nd aU aV,V t.co 23 ((List.replicate t.c.eg.length (⟨0⟩:aa)).set t.tB (⟨og⟩:aa)),V t.aT.v 77 ([t.f0]:List UInt8),it t.eM aF [],rn t.ih ox t.nM t.oN t.rV,iC t.eW t.D,ax r sq t.xs t.y,V (ta g 1 cap) 417 [(⟨0,1,ed,⟨r,nV⟩,22⟩:ia)]]
 |Ku (og:Nat) (aU:r0) (aV:rY) (aF:nG) (ox:sa) (ab:i9) (r:aZ) (sq:List Instr) (g cap:Nat):pP t false 4 ((List.replicate t.c.eg.length (⟨0,ed⟩:aR)).set t.tB (⟨4,(tE g 1 cap)⟩:aR)) ((List.replicate t.c.eg.length (⟨0⟩:eL)).set t.tB (⟨1⟩:eL)) (rf t.tg ab t.c.eg.length) (B t.oG #[.pointer (some ⟨t.eW,0,none⟩),.pointer (some ⟨t.eP,0,none⟩),.pointer (some ⟨t.eM,0,none⟩),.pointer (some ⟨t.ih,0,none⟩),.bool false,eF,eF,.int .u64 0] 302) (a7 t.p t.tK t.tV t.m (some (⟨1,t.ou,1,t.cw⟩:Item))) [ax t.ou t.is t.xs t.y,o3 t.eP t.oy t.a1,n2 t.tI t.c.eg.length t.no t.nd aU aV,V t.co 23 ((List.replicate t.c.eg.length (⟨0⟩:aa)).set t.tB (⟨og⟩:aa)),V t.aT.v 77 ([t.f0]:List UInt8),it t.eM aF [],rn t.ih ox t.nM t.oN t.rV,iC t.eW t.D,ax r sq t.xs t.y,V (ta g 1 cap) 417 [(⟨0,1,ed,⟨r,nV⟩,22⟩:ia)]]
 |Km (og:Nat) (aU:r0) (aV:rY) (aF:nG) (ox:sa) (ab:i9):pP t false 5 ((List.replicate t.c.eg.length (⟨0,ed⟩:aR)).set t.tB (⟨0,ed⟩:aR)) ((List.replicate t.c.eg.length (⟨0⟩:eL)).set t.tB (⟨0⟩:eL)) (rf t.tg ab t.c.eg.length) (B t.oG #[.pointer (some ⟨t.eW,0,none⟩),.pointer (some ⟨t.eP,0,none⟩),.pointer (some ⟨t.eM,0,none⟩),.pointer (some ⟨t.ih,0,none⟩),.bool false,eF,eF,.int .u64 0] 302) (a7 t.p t.tK t.tV t.m none) [ax t.ou t.is t.xs t.y,o3 t.eP t.oy t.a1,n2 t.tI t.c.eg.length t.no t.nd aU aV,V t.co 23 ((List.replicate t.c.eg.length (⟨0⟩:aa)).set t.tB (⟨og⟩:aa)),V t.aT.v 77 ([7]:List UInt8),it t.eM aF [],rn t.ih ox t.nM t.oN t.rV,iC t.eW t.D]
 |cT (og:Nat) (aU:r0) (aV:rY) (aF:nG) (ox:sa) (ab:i9) (r:aZ) (sq:List Instr) (g cap:Nat) (iv:ec):pP t true 2 ((List.replicate t.c.eg.length (⟨0,ed⟩:aR)).set t.tB (⟨2,(tE g 1 cap)⟩:aR)) ((List.replicate t.c.eg.length (⟨0⟩:eL)).set t.tB (⟨1⟩:eL)) (rf t.tg ab t.c.eg.length) (B t.oG #[.pointer (some ⟨t.eW,0,none⟩),.pointer (some ⟨t.eP,0,none⟩),.pointer (some ⟨t.eM,0,none⟩),.pointer (some ⟨t.ih,0,none⟩),.bool false,eF,eF,.int .u64 0] 302) (a7 t.p t.tK t.tV t.m (some (⟨1,t.ou,1,t.cw⟩:Item))) [ax t.ou t.is t.xs t.y,o3 t.eP t.oy t.a1,n2 t.tI t.c.eg.length t.no t.nd aU aV,V t.co 23 ((List.replicate t.c.eg.length (⟨0⟩:aa)).set t.tB (⟨og⟩:aa)),V t.aT.v 77 ([t.f0]:List UInt8),it t.eM aF [],rn t.ih ox t.nM t.oN t.rV,iC t.eW t.D,ax r sq t.xs t.y,V (ta g 1 cap) 417 [(⟨0,1,iv,⟨r,nV⟩,0⟩:ia)],V iv.v 62 (gr r.tv (iE t.D (ai t.y)))]
 |v3 (og:Nat) (aU:r0) (aV:rY) (aF:nG) (ox:sa) (ab:i9) (r:aZ) (sq:List Instr) (g cap:Nat) (iv:ec) (o:tr) (ch:List tX) (e1:xY r t.y o ch):pP t true 3 ((List.replicate t.c.eg.length (⟨0,ed⟩:aR)).set t.tB (⟨3,(tE g 1 cap)⟩:aR)) ((List.replicate t.c.eg.length (⟨0⟩:eL)).set t.tB (⟨1⟩:eL)) (rf t.tg ab t.c.eg.length) (B t.oG #[.pointer (some ⟨t.eW,0,none⟩),.pointer (some ⟨t.eP,0,none⟩),.pointer (some ⟨t.eM,0,none⟩),.pointer (some ⟨t.ih,0,none⟩),.bool false,eF,eF,.int .u64 0] 302) (a7 t.p t.tK t.tV t.m (some (⟨1,t.ou,1,t.cw⟩:Item))) [ax t.ou t.is t.xs t.y,o3 t.eP t.oy t.a1,n2 t.tI t.c.eg.length t.no t.nd aU aV,V t.co 23 ((List.replicate t.c.eg.length (⟨0⟩:aa)).set t.tB (⟨og⟩:aa)),V t.aT.v 77 ([t.f0]:List UInt8),it t.eM aF [],rn t.ih ox t.nM t.oN t.rV,iC t.eW t.D,ax r sq t.xs t.y,V (ta g 1 cap) 417 [(⟨0,1,iv,⟨r,o⟩,0⟩:ia)],V o.ha.v 64 ch]
 |v4 (og:Nat) (aU:r0) (aV:rY) (aF:nG) (ox:sa) (ab:i9) (r:aZ) (sq:List Instr) (g cap:Nat) (iv:ec) (o:tr) (ch:List tX) (oz oS h7 m2:ec) (oF:Nat) (e1:xY r t.y o ch) (r1:r.tQ.m.oT=t.y.m.oT):pP t true 4 ((List.replicate t.c.eg.length (⟨0,ed⟩:aR)).set t.tB (⟨4,(tE g 1 cap)⟩:aR)) ((List.replicate t.c.eg.length (⟨0⟩:eL)).set t.tB (⟨1⟩:eL)) (rf t.tg ab t.c.eg.length) (B t.oG #[.pointer (some ⟨t.eW,0,none⟩),.pointer (some ⟨t.eP,0,none⟩),.pointer (some ⟨t.eM,0,none⟩),.pointer (some ⟨t.ih,0,none⟩),.bool false,oz.v,oS.v,ef oF] 302) (a7 t.p t.tK t.tV t.m (some (⟨1,t.ou,1,t.cw⟩:Item))) [ax t.ou t.is t.xs t.y,o3 t.eP t.oy t.a1,n2 t.tI t.c.eg.length t.no t.nd aU aV,V t.co 23 ((List.replicate t.c.eg.length (⟨0⟩:aa)).set t.tB (⟨og⟩:aa)),V t.aT.v 77 ([t.f0]:List UInt8),it t.eM aF [((db t.y),r.tQ.m.oT)],cW t.ih ox,iC t.eW t.D,ax r sq t.xs t.y,V (ta g 1 cap) 417 [(⟨0,1,iv,⟨r,o⟩,0⟩:ia)],V o.ha.v 64 ch,V oz.v 30 ([h7]:List ec),V h7.v 5 (([1,0,0,0,0,0,0,0]:List UInt8)++t.xs),V oS.v 189 [(⟨o.fail,o.ot,o.tJ,o.tv,o.tq,m2⟩:tr)],V m2.v 64 ch]
 |v5 (og:Nat) (aU:r0) (aV:rY) (aF:nG) (ox:sa) (ab:i9) (r:aZ) (o:tr) (ch:List tX) (oz oS h7 m2:ec) (oF:Nat) (e1:xY r t.y o ch) (r1:r.tQ.m.oT=t.y.m.oT):pP t true 5 ((List.replicate t.c.eg.length (⟨0,ed⟩:aR)).set t.tB (⟨0,ed⟩:aR)) ((List.replicate t.c.eg.length (⟨0⟩:eL)).set t.tB (⟨0⟩:eL)) (rf t.tg ab t.c.eg.length) (B t.oG #[.pointer (some ⟨t.eW,0,none⟩),.pointer (some ⟨t.eP,0,none⟩),.pointer (some ⟨t.eM,0,none⟩),.pointer (some ⟨t.ih,0,none⟩),.bool false,oz.v,oS.v,ef oF] 302) (a7 t.p t.tK t.tV t.m none) [ax t.ou t.is t.xs t.y,o3 t.eP t.oy t.a1,n2 t.tI t.c.eg.length t.no t.nd aU aV,V t.co 23 ((List.replicate t.c.eg.length (⟨0⟩:aa)).set t.tB (⟨og⟩:aa)),V t.aT.v 77 ([8]:List UInt8),it t.eM aF [((db t.y),r.tQ.m.oT)],cW t.ih ox,iC t.eW (f3 t.D ch),V oz.v 30 ([h7]:List ec),V h7.v 5 (([1,0,0,0,0,0,0,0]:List UInt8)++t.xs),V oS.v 189 [(⟨o.fail,o.ot,o.tJ,o.tv,o.tq,m2⟩:tr)],V m2.v 64 ch]
def hW(t:qP)(b:Bool)(i:Nat)(S:List eH)(w:World):Prop:=∃(HL:List aR)(FLs:List eL)(LA cK ck:eH)(X:List eH),pP t b i HL FLs LA cK ck X/\U t.ea (B t.ti #[.pointer (some ⟨t.d,0,none⟩),.pointer (some ⟨t.tk,0,none⟩),.pointer (some ⟨t.eW,0,none⟩),.pointer (some ⟨t.ar,0,none⟩),.pointer (some ⟨t.oG,0,none⟩),t.aI,ef t.eu,ef t.oO,t.aT.v,t.aJ] 105::B t.tk #[.pointer (some ⟨t.d,0,none⟩),t.tY.v] 208::V t.tY.v 407 HL::aN t.d t.eZ t.th t.c t.b t.tI t.tg t.eP t.eM t.tf t.co::LA::V t.tf 3 FLs::cK::B t.b #[.pointer (some ⟨t.p,0,none⟩),.pointer (some ⟨t.q,0,none⟩)] 259::ck::rm t.q t.ay t.aM t.c1 t.nU t.v0 t.am::(X++S)) w
theorem Kf{b:Nat}(h:a*b<18446744073709551616):gm a b 1 false=a*b:=by
 unfold gm bK;rw[Nat.div_eq_of_lt h,Nat.mod_eq_of_lt h];simp
theorem Kp(K:Nat):∀l:List Nat,(∀x∈l,x<=K) ->l.sum<=K*l.length
 |[],_=>by simp
 |x::l,h=>by
  have G:=h x List.mem_cons_self;have Y:=Kp K l λy a=>h y (List.mem_cons_of_mem _ a);rw[List.sum_cons,List.length_cons,Nat.mul_succ];omega
theorem Kg(h:U w0 S w)(d:tP (ax r is xs y) S)(i:u<=1400000)(j:1099511627776<=L):lp y.sigs.length (lO y) ((rG (ai y)).length:Int) u<=L:=by
 obtain⟨n,o,p,q,s,t,e,v,z⟩:=fZ h d;have ej:(rG (ai y)).length<=64:=by have:=Cc (l:=(ai y));omega
 unfold lp;rw[eiW];refine Nat.le_trans (Nat.min_le_left _ _) ?_;have hd:lO y%18446744073709551616/4<=1099000000000:=by
  have G:lO y<=1232*y.m.ad.length:=by
   have h:=Kp 1232 (y.m.ad.map λc=>c.2.2.length) λx Z=>by
    obtain⟨c,f,rfl⟩:=List.mem_map.1 Z;obtain⟨k,g,rfl⟩:=List.getElem_of_mem f;exact(e k g).2
   rw[List.length_map]at h;exact h
  have:=Nat.mod_le (lO y) 18446744073709551616;omega
 have A:=Kf (a:=y.sigs.length) (b:=720) (by omega);have B:=Kf (a:=(max 0 ((rG (ai y)).length:Int)).toNat) (b:=300) (by omega);simp only[fw,List.map_cons,List.map_nil,List.sum_cons,List.sum_nil];have e8:(max 0 ((rG (ai y)).length:Int)).toNat<=64:=by omega
 omega
theorem epa(a:t.w7 b)(h:hW t b 0 S w0):eJ 56 #[.pointer (some ⟨t.ti,0,none⟩),i6 t.tB] w0 (λ_ w'=>hW t b 1 S w'):=by
 obtain⟨HL,FLs,LA,cK,ck,X,c,E⟩:=h;cases c;rename_i og aU aV aF ox ab;simp only[List.cons_append,List.nil_append]at E;refine(ef0 a.tB (by simp) (by simp;exact a.tB) (by simp;exact a.tB) (Pi [6,6,10,9,9,9,9,9,9,9] E)).mono ?_;rintro u w' ⟨r,sq,d,g,cap,rfl,E⟩;exact⟨_,_,_,_,_,_,.jD b og aU aV aF ox d r sq g cap,(((((((((((((((((((Pi [0,1] E).pick (.ei (.ei (.ei (.ei (.ei (.az))))))).pick (.ei (.ei (.ei (.ei (.ei (.az))))))).pick (.ei (.ei (.ei (.ei (.ei (.az))))))).pick (.ei (.ei (.ei (.ei (.ei (.az))))))).pick (.ei (.ei (.ei (.ei (.ei (.az))))))).pick (.ei (.ei (.ei (.ei (.ei (.az))))))).pick (.ei (.ei (.ei (.ei (.ei (.az))))))).pick (.ei (.az))).pick (.ei (.ei (.ei (.ei (.ei (.az))))))).pick (.ei (.ei (.az)))).pick (.ei (.ei (.az)))).pick (.ei (.ei (.ei (.ei (.ei (.az))))))).pick (.ei (.ei (.ei (.ei (.ei (.az))))))).pick (.ei (.az))).pick (.ei (.ei (.ei (.ei (.az)))))).pick (.ei (.ei (.ei (.ei (.az)))))).pick (.ei (.ei (.ei (.ei (.az)))))).pick (.ei (.ei (.ei (.ei (.ei (.az)))))))⟩
theorem epo(a:t.w7 false)(h:hW t false 1 S w0):eJ 56 #[.pointer (some ⟨t.ti,0,none⟩),i6 t.tB] w0 (λ_ w'=>hW t false 2 S w'):=by
 obtain⟨HL,FLs,LA,cK,ck,X,c,E⟩:=h;cases c;rename_i og aU aV aF ox ab r sq g cap;simp only[List.cons_append,List.nil_append]at E;have b:=E.g6 (r:=r) (is:=sq) (.i 18);have r1:r.tQ.m.oT=t.y.m.oT:=b.2.2.2.2.2.2.1;have d:r.tv=uA (t.y.sigs.length:Int) (su t.y):=b.1.tv;refine(ef1 (by simp;exact a.tB) (by rw[r1];exact a.eP) a.Me (by rw[d];exact a.Kd) (by simp;exact a.tB) ((((((((((Pi [5,4] E).pick (.ei (.az))).pick .uV).pick (.ei (.ei (.ei (.ei (.az)))))).pick (.ei (.ei (.ei (.ei (.az)))))).pick .hh).pick (.ei (.ei (.ei (.ei (.ei (.az))))))).pick .hh).pick .hh).pick .hh)).mono ?_;rintro u w' ⟨rfl,E⟩;exact⟨_,_,_,_,_,_,.bj og aU aV aF ox ab r sq g cap,((((((((((((((((((Pi [7,2,2] E).pick (.ei (.ei (.ei (.ei (.ei (.az))))))).pick .a2).pick (.ei (.ei (.ei (.ei (.ei (.az))))))).pick (.ei (.ei (.ei (.ei (.ei (.az))))))).pick (.ei (.ei (.ei (.ei (.ei (.az))))))).pick .sr).pick (.ei (.ei (.ei (.ei (.ei (.az))))))).pick (.ei (.ei (.ei (.ei (.ei (.az))))))).pick (.ei (.ei (.ei (.ei (.ei (.az))))))).pick (.ei (.ei (.ei (.ei (.ei (.az))))))).pick .mx).pick (.ei (.ei (.ei (.ei (.az)))))).pick (.ei (.ei (.ei (.ei (.ei (.az))))))).pick (.ei (.ei (.ei (.ei (.ei (.az))))))).pick (.ei (.ei (.ei (.ei (.az)))))).pick (.ei (.ei (.ei (.ei (.az)))))).pick (.ei (.ei (.ei (.ei (.ei (.az)))))))⟩
theorem epi(a:t.w7 true)(h:hW t true 1 S w0):eJ 56 #[.pointer (some ⟨t.ti,0,none⟩),i6 t.tB] w0 (λ_ w'=>hW t true 2 S w'):=by
 obtain⟨HL,FLs,LA,cK,ck,X,c,E⟩:=h;cases c;rename_i og aU aV aF ox ab r sq g cap;simp only[List.cons_append,List.nil_append]at E;have b:=E.g6 (r:=r) (is:=sq) (.i 18);have r1:r.tQ.m.oT=t.y.m.oT:=b.2.2.2.2.2.2.1;have d:r.tv=uA (t.y.sigs.length:Int) (su t.y):=b.1.tv;refine(ef2 (by simp;exact a.tB) (by rw[r1];exact a.eP) a.Me (by rw[d];exact a.Kd) (by simp;exact a.tB) ((((((((((Pi [5,4] E).pick (.ei (.az))).pick .uV).pick (.ei (.ei (.ei (.ei (.az)))))).pick (.ei (.ei (.ei (.ei (.az)))))).pick .hh).pick (.ei (.ei (.ei (.ei (.ei (.az))))))).pick .hh).pick .hh).pick .hh)).mono ?_;rintro u w' ⟨iv,rfl,E⟩;exact⟨_,_,_,_,_,_,.cT og aU aV aF ox ab r sq g cap iv,((((((((((((((((((Pi [2,8,3,3] E).pick (.ei (.ei (.ei (.ei (.ei (.ei (.az)))))))).pick .iK).pick (.ei (.ei (.ei (.ei (.ei (.ei (.az)))))))).pick (.ei (.ei (.ei (.ei (.ei (.ei (.az)))))))).pick (.ei (.ei (.ei (.ei (.ei (.ei (.az)))))))).pick .hh).pick (.ei (.ei (.ei (.ei (.ei (.ei (.az)))))))).pick (.ei (.ei (.ei (.ei (.ei (.ei (.az)))))))).pick (.ei (.ei (.ei (.ei (.ei (.ei (.az)))))))).pick (.ei (.ei (.ei (.ei (.ei (.ei (.az)))))))).pick .az).pick (.ei (.ei (.ei (.ei (.ei (.az))))))).pick (.ei (.ei (.ei (.ei (.ei (.ei (.az)))))))).pick (.ei (.ei (.ei (.ei (.ei (.ei (.az)))))))).pick (.ei (.ei (.ei (.ei (.ei (.az))))))).pick (.ei (.ei (.ei (.ei (.ei (.az))))))).pick (.ei (.ei (.ei (.ei (.ei (.ei (.az))))))))⟩
theorem epn(a:t.w7 false)(h:hW t false 2 S w0):eJ 56 #[.pointer (some ⟨t.ti,0,none⟩),i6 t.tB] w0 (λ_ w'=>hW t false 3 S w'):=by
 obtain⟨HL,FLs,LA,cK,ck,X,b,E⟩:=h;cases b;rename_i og aU aV aF ox ab r sq g cap;simp only[List.cons_append,List.nil_append]at E;refine(ef3 (by simp;exact a.tB) (by simp;exact a.tB) (((((Pi [6,6,5] E).pick (.ei (.ei (.ei (.ei (.ei (.az))))))).pick .a2).pick .a2).pick .a2)).mono ?_;rintro u w' ⟨rfl,E⟩;exact⟨_,_,_,_,_,_,.Kc og aU aV aF ox ab r sq g cap,(Pi [2,19,19,19,19,19,19,19,19,19,19,19,19,18,18,19,19,18,18,19] E)⟩
theorem eps(a:t.w7 true)(h:hW t true 2 S w0):eJ 56 #[.pointer (some ⟨t.ti,0,none⟩),i6 t.tB] w0 (λ_ w'=>hW t true 3 S w'):=by
 obtain⟨HL,FLs,LA,cK,ck,X,b,E⟩:=h;cases b;rename_i og aU aV aF ox ab r sq g cap iv;simp only[List.cons_append,List.nil_append]at E;refine(ef4 (by simp;exact a.tB) (by rw[eri,DM]) (era (ero a.Me)) a.g4 (by simp;exact a.tB) (((((((Pi [6,6,5] E).pick (.ei (.ei (.ei (.ei (.az)))))).pick (.ei (.ei (.ei (.ei (.ei (.ei (.az)))))))).pick (.ei (.ei (.ei (.ei (.ei (.ei (.az)))))))).pick .iG).pick .iG).pick .iG)).mono ?_;rintro u w' ⟨o,ch,rfl,E⟩;have e1:xY r t.y o ch:=by have h:=E.get .em;rwa[md]at h
 exact⟨_,_,_,_,_,_,.v3 og aU aV aF ox ab r sq g cap iv o ch e1,((((((((((((((((((((Pi [1,4,6] E).pick (.ei (.ei (.ei (.ei (.ei (.ei (.ei (.ei (.az)))))))))).pick (.ei (.ei (.ei (.ei (.ei (.ei (.ei (.ei (.az)))))))))).pick (.ei (.ei (.ei (.ei (.ei (.ei (.ei (.ei (.az)))))))))).pick (.ei (.ei (.ei (.ei (.ei (.ei (.ei (.ei (.az)))))))))).pick (.ei (.ei (.ei (.ei (.ei (.ei (.ei (.ei (.az)))))))))).pick (.ei (.ei (.ei (.ei (.ei (.ei (.ei (.ei (.az)))))))))).pick (.ei (.ei (.ei (.ei (.ei (.ei (.ei (.ei (.az)))))))))).pick (.ei (.ei (.ei (.ei (.ei (.ei (.ei (.ei (.az)))))))))).pick (.ei (.ei (.ei (.ei (.ei (.ei (.ei (.ei (.az)))))))))).pick (.ei (.ei (.ei (.ei (.ei (.ei (.ei (.ei (.az)))))))))).pick (.ei (.ei (.ei (.ei (.ei (.ei (.ei (.ei (.az)))))))))).pick (.ei (.ei (.ei (.ei (.ei (.ei (.ei (.az))))))))).pick (.ei (.ei (.ei (.ei (.ei (.ei (.ei (.az))))))))).pick (.ei (.ei (.ei (.ei (.ei (.ei (.ei (.ei (.az)))))))))).pick (.ei (.ei (.ei (.ei (.ei (.ei (.ei (.ei (.az)))))))))).pick (.ei (.ei (.ei (.ei (.ei (.ei (.az)))))))).pick (.ei (.ei (.ei (.ei (.ei (.ei (.az)))))))).pick (.ei (.ei (.ei (.ei (.ei (.ei (.ei (.ei (.az)))))))))).sub (.cons₂ _ (.cons₂ _ (.cons₂ _ (.cons₂ _ (.cons₂ _ (.cons₂ _ (.cons₂ _ (.cons₂ _ (.cons₂ _ (.cons₂ _ (.cons₂ _ (.cons₂ _ (.cons₂ _ (.cons₂ _ (.cons₂ _ (.cons₂ _ (.cons₂ _ (.cons₂ _ (.cons₂ _ (.cons₂ _ (.cons₂ _ (.cons _ (.cons _ (List.Sublist.refl _)))))))))))))))))))))))))⟩
theorem epr(a:t.w7 false)(h:hW t false 3 S w0):eJ 56 #[.pointer (some ⟨t.ti,0,none⟩),i6 t.tB] w0 (λ_ w'=>hW t false 4 S w'):=by
 obtain⟨HL,FLs,LA,cK,ck,X,b,E⟩:=h;cases b;rename_i og aU aV aF ox ab r sq g cap;simp only[List.cons_append,List.nil_append]at E;refine(ef5 (by simp;exact a.tB) (by simp;exact a.tB) (((((Pi [5,4,6] E).pick (.ei (.ei (.ei (.ei (.ei (.az))))))).pick .a2).pick .a2).pick .a2)).mono ?_;rintro u w' ⟨rfl,E⟩;exact⟨_,_,_,_,_,_,.Ku og aU aV aF ox ab r sq g cap,(Pi [1,19,19,19,19,19,19,19,19,19,19,19,19,14,18,19,19,17,18,19] E)⟩
theorem eph(a:t.w7 true)(h:hW t true 3 S w0):eJ 56 #[.pointer (some ⟨t.ti,0,none⟩),i6 t.tB] w0 (λ_ w'=>hW t true 4 S w'):=by
 obtain⟨HL,FLs,LA,cK,ck,X,e,E⟩:=h;cases e;rename_i og aU aV aF ox ab r sq g cap iv o ch e1;simp only[List.cons_append,List.nil_append]at E;have d:=E.g6 (r:=r) (is:=sq) (.i 18);have r1:r.tQ.m.oT=t.y.m.oT:=d.2.2.2.2.2.2.1;have f:r.tv=uA (t.y.sigs.length:Int) (su t.y):=d.1.tv;obtain⟨j,k,l,n,p,q,s,v,w⟩:=fZ (r:=r) (is:=sq) E (.i 18);refine(ef6 (by simp;exact a.tB) (by rw[r1];exact a.eP) e1.len (by rw[e1.tv,f];exact xC) (Kg E (.i 18) e1.tJ a.nM) (Kg E (.i 18) e1.tJ a.oN) (by have:=e1.tq;have:=a.rV;omega) e1.tJ (by have:=e1.tq;omega) (by simp;exact a.tB) (((((((((((Pi [5,4] E).pick (.ei (.ei (.ei (.ei (.ei (.ei (.az)))))))).pick (.ei (.ei (.az)))).pick .mx).pick (.ei (.ei (.ei (.ei (.ei (.az))))))).pick (.ei (.ei (.ei (.ei (.az)))))).pick .l5).pick (.ei (.ei (.ei (.ei (.ei (.ei (.az)))))))).pick .l5).pick .l5).pick .l5)).mono ?_;rintro u w' ⟨b,c,m2,oS,h7,oz,rfl,E⟩;exact⟨_,_,_,_,_,_,.v4 og aU aV c b ab r sq g cap iv o ch oz oS h7 m2 _ e1 r1,(((((((((((((((((((Pi [3,3,3,3,9,11,9] E).pick (.ei (.ei (.ei (.ei (.ei (.ei (.ei (.ei (.ei (.ei (.az)))))))))))).pick .sr).pick .sr).pick (.ei (.ei (.ei (.ei (.ei (.ei (.ei (.ei (.ei (.ei (.az)))))))))))).pick (.ei (.ei (.ei (.ei (.ei (.ei (.ei (.ei (.ei (.ei (.az)))))))))))).pick (.ei (.ei (.ei (.ei (.ei (.ei (.ei (.ei (.ei (.ei (.az)))))))))))).pick .az).pick (.ei (.ei (.ei (.ei (.ei (.ei (.ei (.ei (.ei (.ei (.az)))))))))))).pick (.ei (.ei (.ei (.ei (.ei (.ei (.ei (.ei (.ei (.ei (.az)))))))))))).pick (.ei (.ei (.ei (.ei (.ei (.ei (.ei (.ei (.ei (.ei (.az)))))))))))).pick (.ei (.ei (.ei (.ei (.ei (.ei (.ei (.ei (.ei (.ei (.az)))))))))))).pick (.ei (.ei (.ei (.ei (.az)))))).pick (.ei (.ei (.ei (.ei (.ei (.ei (.ei (.ei (.ei (.az))))))))))).pick (.ei (.ei (.ei (.ei (.ei (.ei (.ei (.ei (.ei (.ei (.az)))))))))))).pick (.ei (.ei (.ei (.ei (.ei (.ei (.ei (.ei (.ei (.ei (.az)))))))))))).pick (.ei (.ei (.ei (.ei (.ei (.ei (.ei (.ei (.az)))))))))).pick (.ei (.ei (.ei (.ei (.ei (.ei (.ei (.ei (.ei (.az))))))))))).pick (.ei (.ei (.ei (.ei (.ei (.ei (.ei (.ei (.ei (.ei (.az))))))))))))⟩
theorem epc(a:t.w7 false)(h:hW t false 4 S w0):eJ 56 #[.pointer (some ⟨t.ti,0,none⟩),i6 t.tB] w0 (λ_ w'=>hW t false 5 S w'):=by
 obtain⟨HL,FLs,LA,cK,ck,X,b,E⟩:=h;cases b;rename_i og aU aV aF ox ab r sq g cap;simp only[List.cons_append,List.nil_append]at E;refine(ef7 (by simp;exact a.tB) a.tB (by simp;exact a.tB) (by simp;exact a.tB) ((((((((((((Pi [14,7] E).pick (.ei (.ei (.ei (.ei (.ei (.az))))))).pick (.ei (.az))).pick .sr).pick (.ei (.ei (.ei (.ei (.ei (.az))))))).pick (.ei (.ei (.az)))).pick .mx).pick .mx).pick .uV).pick .uV).pick .uV).pick .uV)).mono ?_;rintro u w' ⟨c,d,e,f,rfl,E⟩;exact⟨_,_,_,_,_,_,.Km c d e aF ox ab,((Pi [20,20,20,4,14,11,20,20,20,10,11,19,18,20,17,19,18,17] E).sub (.cons₂ _ (.cons₂ _ (.cons₂ _ (.cons₂ _ (.cons₂ _ (.cons₂ _ (.cons₂ _ (.cons₂ _ (.cons₂ _ (.cons₂ _ (.cons₂ _ (.cons₂ _ (.cons₂ _ (.cons₂ _ (.cons₂ _ (.cons₂ _ (.cons₂ _ (.cons₂ _ (.cons _ (.cons _ (.cons _ (List.Sublist.refl _)))))))))))))))))))))))⟩
theorem epm(a:t.w7 true)(h:hW t true 4 S w0):eJ 56 #[.pointer (some ⟨t.ti,0,none⟩),i6 t.tB] w0 (λ_ w'=>hW t true 5 S w'):=by
 obtain⟨HL,FLs,LA,cK,ck,X,b,E⟩:=h;cases b;rename_i og aU aV aF ox ab r sq g cap iv o ch oz oS h7 m2 oF e1 r1;simp only[List.cons_append,List.nil_append]at E;refine(ef8 (by simp;exact a.tB) a.tB (by simp;exact a.tB) (by simp;exact a.tB) e1.len (Pi [14,20,18,9,20,17,11,20,18,15,15,14,14,14,14] E)).mono ?_;rintro u w' ⟨c,d,e,f,rfl,E⟩;exact⟨_,_,_,_,_,_,.v5 c d e aF ox ab r o ch oz oS h7 m2 oF e1 r1,((Pi [25,25,25,25,13,25,25,8,20,15,25,25,25,14,15,21,23,25,21,24,22,21] E).sub (.cons₂ _ (.cons₂ _ (.cons₂ _ (.cons₂ _ (.cons₂ _ (.cons₂ _ (.cons₂ _ (.cons₂ _ (.cons₂ _ (.cons₂ _ (.cons₂ _ (.cons₂ _ (.cons₂ _ (.cons₂ _ (.cons₂ _ (.cons₂ _ (.cons₂ _ (.cons₂ _ (.cons₂ _ (.cons₂ _ (.cons₂ _ (.cons₂ _ (.cons _ (.cons _ (.cons _ (.cons _ (List.Sublist.refl _))))))))))))))))))))))))))))⟩
variable{cK LA ck:eH}{FLs:List eL}{HL:List aR}{X:List eH}{i k:Nat}
theorem pP.RU(h:pP t b i HL FLs LA cK ck X):
 (HL.length=t.c.eg.length/\FLs.length=t.c.eg.length/\(∀k(e:k<HL.length),k≠t.tB->HL[k].phase=0)/\∃(oz oS:Value)(oF:Nat),cK=B t.oG #[.pointer (some ⟨t.eW,0,none⟩),.pointer (some ⟨t.eP,0,none⟩),.pointer (some ⟨t.eM,0,none⟩),.pointer (some ⟨t.ih,0,none⟩),.bool false,oz,oS,ef oF] 302)/\
 ((∃ab,LA=sj t.tg ab t.c.eg.length (some t.tB)/\∀a,pP t b i HL FLs (sj t.tg a t.c.eg.length (some t.tB)) cK ck X)∨(∃ab,LA=rf t.tg ab t.c.eg.length/\∀a,pP t b i HL FLs (rf t.tg a t.c.eg.length) cK ck X))/\
 ((i<5/\ck=a7 t.p t.tK t.tV t.m (some (⟨1,t.ou,1,t.cw⟩:Item)))∨(i=5/\ck=a7 t.p t.tK t.tV t.m none)):=by
 have d:∀(x:aR)(k:Nat)(e:k<(((List.replicate t.c.eg.length (⟨0,ed⟩:aR))).set t.tB x).length),k≠t.tB->((((List.replicate t.c.eg.length (⟨0,ed⟩:aR))).set t.tB x)[k]).phase=0:=by
  intro x k e f;rw[List.getElem_set_ne (Ne.symm f),List.getElem_replicate]
 cases h
 .rename_i og aU aV aF ox ab;exact⟨⟨by simp,by simp,d _,_,_,0,rfl⟩,.inl ⟨ab,rfl,λa=>.xc _ og aU aV aF ox a⟩,.inl ⟨by decide,rfl⟩⟩
 .rename_i og aU aV aF ox ab r sq g cap;exact⟨⟨by simp,by simp,d _,_,_,0,rfl⟩,.inr ⟨ab,rfl,λa=>.jD _ og aU aV aF ox a r sq g cap⟩,.inl ⟨by decide,rfl⟩⟩
 .rename_i og aU aV aF ox ab r sq g cap;exact⟨⟨by simp,by simp,d _,_,_,0,rfl⟩,.inr ⟨ab,rfl,λa=>.bj og aU aV aF ox a r sq g cap⟩,.inl ⟨by decide,rfl⟩⟩
 .rename_i og aU aV aF ox ab r sq g cap;exact⟨⟨by simp,by simp,d _,_,_,0,rfl⟩,.inr ⟨ab,rfl,λa=>.Kc og aU aV aF ox a r sq g cap⟩,.inl ⟨by decide,rfl⟩⟩
 .rename_i og aU aV aF ox ab r sq g cap;exact⟨⟨by simp,by simp,d _,_,_,0,rfl⟩,.inr ⟨ab,rfl,λa=>.Ku og aU aV aF ox a r sq g cap⟩,.inl ⟨by decide,rfl⟩⟩
 .rename_i og aU aV aF ox ab;exact⟨⟨by simp,by simp,d _,_,_,0,rfl⟩,.inr ⟨ab,rfl,λa=>.Km og aU aV aF ox a⟩,.inr ⟨rfl,rfl⟩⟩
 .rename_i og aU aV aF ox ab r sq g cap iv;exact⟨⟨by simp,by simp,d _,_,_,0,rfl⟩,.inr ⟨ab,rfl,λa=>.cT og aU aV aF ox a r sq g cap iv⟩,.inl ⟨by decide,rfl⟩⟩
 .rename_i og aU aV aF ox ab r sq g cap iv o ch e1;exact⟨⟨by simp,by simp,d _,_,_,0,rfl⟩,.inr ⟨ab,rfl,λa=>.v3 og aU aV aF ox a r sq g cap iv o ch e1⟩,.inl ⟨by decide,rfl⟩⟩
 .rename_i og aU aV aF ox ab r sq g cap iv o ch oz oS h7 m2 oF e1 r1;exact⟨⟨by simp,by simp,d _,_,_,_,rfl⟩,.inr ⟨ab,rfl,λa=>.v4 og aU aV aF ox a r sq g cap iv o ch oz oS h7 m2 oF e1 r1⟩,.inl ⟨by decide,rfl⟩⟩
 rename_i og aU aV aF ox ab r o ch oz oS h7 m2 oF e1 r1;exact⟨⟨by simp,by simp,d _,_,_,_,rfl⟩,.inr ⟨ab,rfl,λa=>.v5 og aU aV aF ox a r o ch oz oS h7 m2 oF e1 r1⟩,.inr ⟨rfl,rfl⟩⟩
theorem epf(g:k<t.c.eg.length)(d:k≠t.tB)(h:hW t b i S w0):eJ 56 #[.pointer (some ⟨t.ti,0,none⟩),i6 k] w0 (λ_ w'=>hW t b i S w'):=by
 obtain⟨HL,FLs,LA,cK,ck,X,j,E⟩:=h;obtain⟨⟨G,Y,ej,oz,oS,oF,rfl⟩,l,_⟩:=j.RU;have a:k<HL.length:=by omega
 rcases l with⟨ab,rfl,e⟩|⟨ab,rfl,e⟩
 .refine(efQ g G a (ej k a d) (by simp;exact Ne.symm d) (by omega) E).mono ?_;rintro u w' ⟨f,rfl,E⟩;exact⟨_,_,_,_,_,_,e f,(Pi [9,9,9,9,9,5,7,8,8,9] E)⟩
 refine(efZ g G a (ej k a d) (by omega) E).mono ?_;rintro u w' ⟨f,rfl,E⟩;exact⟨_,_,_,_,_,_,e f,(Pi [9,9,9,9,9,5,7,8,8,9] E)⟩
theorem epp(c:t.w7 b)(ew:i<5)(h:hW t b i S w0):eJ 55 #[.pointer (some ⟨t.ti,0,none⟩)] w0 (λu w'=>u= .tuple #[i6 0,i6 1,i6 0]/\hW t b i S w'):=by
 obtain⟨HL,FLs,LA,cK,ck,X,a,E⟩:=h;obtain⟨_,_,⟨_,rfl⟩|⟨au,_⟩⟩:=a.RU
 .refine(emj t.oh c.ept (Pi [9,9,9,6,4] E)).mono ?_;rintro u w' ⟨rfl,E⟩;exact⟨rfl,_,_,_,_,_,_,a,(Pi [4,2,2,9,9,9,7,9,9,9] E)⟩
 omega
theorem epg(h:hW t b 5 S w0):eJ 55 #[.pointer (some ⟨t.ti,0,none⟩)] w0 (λu w'=>u= .tuple #[i6 0,i6 0,i6 0]/\hW t b 5 S w'):=by
 obtain⟨HL,FLs,LA,cK,ck,X,a,E⟩:=h;obtain⟨_,_,⟨au,_⟩|⟨_,rfl⟩⟩:=a.RU
 .omega
 refine(emx (E.tb .em) (E.tb .iK) E .ej .iG .sr).mono ?_;rintro u w' ⟨rfl,c⟩;exact⟨rfl,_,_,_,_,_,_,a,E.es c⟩
theorem epw(h:hW t b i S w0):eJ 19 #[.pointer (some ⟨t.ti,0,none⟩)] w0 (λu w'=>u= .int .u8 1/\hW t b i S w'):=by
 obtain⟨HL,FLs,LA,cK,ck,X,a,E⟩:=h;obtain⟨⟨_,_,_,oz,oS,oF,rfl⟩,_⟩:=a.RU;refine(Ti (E.tb .em) (E.tb .a2)).mono ?_;rintro u w' ⟨rfl,c⟩;exact⟨rfl,_,_,_,_,_,_,a,E.es c⟩
theorem epy(a:t.w7 b)(ew:i<5)(h:hW t b i S w0):eJ 56 #[.pointer (some ⟨t.ti,0,none⟩),i6 t.tB] w0 (λ_ w'=>hW t b (i+1) S w'):=by
 match i,ew,b with
 |0,_,b=>exact epa a h
 |1,_,false=>exact epo a h
 |1,_,true=>exact epi a h
 |2,_,false=>exact epn a h
 |2,_,true=>exact eps a h
 |3,_,false=>exact epr a h
 |3,_,true=>exact eph a h
 |4,_,false=>exact epc a h
 |4,_,true=>exact epm a h
open Tryz
theorem Kb(l:t.w7 b)(h:hW t b 0 S w0):eJ 14 #[.pointer (some ⟨t.ti,0,none⟩),i6 t.c.eg.length] w0 (λu w'=>u= .tuple #[]/\hW t b 5 S w'):=by
 have K:=l.epe.nR;have L:=l.tB;refine nr.enter (args:=[.pointer (some ⟨t.ti,0,none⟩),i6 t.c.eg.length]) func14 rfl ntmps14 results14 rfl ?_;refine ek.seq (λM y=>(ek.region (et (iP rfl ?_))));refine ts.nil ?_;refine aE (y _ _ ?_);refine ek.block ?_;refine ek.loop (λq f w=>∃i:Nat,oV [(0,.pointer (some ⟨t.ti,0,none⟩)),(1,i6 t.c.eg.length),(4,i6 i)] f/\hW t b i S w/\i<=5/\q=5-i) 5 ?_ ?_
 .exact⟨0,⟨rfl,rfl,rfl,trivial⟩,h,by omega,rfl⟩
 rintro q f w ⟨i,e,a,ew,e5⟩;refine il _ e (λg=>?_);clear e h;refine ek.seq (λN z=>(ek.seq (λO A=>(ek.region (et (oP rfl (et (ft (decide_eq_true (by omega)) (J.lss rfl rfl ⟨rfl,rfl⟩) ?_))))))));refine ts.nil ?_;refine aE (A _ _ ?_);refine zb rfl ?_;refine ek.skip ?_;refine aE (z _ _ (ek.seq (λP B=>?_)));refine ek.block ?_;refine ek.seq (λQ p=>(ek.region (et (oI (v:=.pointer (some ⟨t.ti,0,none⟩)) rfl ?_))));by_cases au:i<5
 .refine et (J.call (epp l au a) rfl ?_);rintro _ w ⟨rfl,a⟩;refine et (oI (v:=.tuple #[i6 0,i6 1,i6 0]) rfl ?_)
  iterate 3 refine et (J.extract rfl rfl ?_)
  iterate 3 refine et (iP rfl ?_)
  refine ts.nil ?_;refine aE (p _ _ (ek.seq (λC r=>(ek.seq (λD m=>(ek.region (et (oP rfl (et (yi rfl (J.eql rfl rfl ⟨rfl,rfl⟩) (et (u0 rfl ?_))))))))))))
  iterate 3 refine MY 21 rfl rfl rfl rfl ?_
  refine et (kC rfl rfl ?_);refine ts.nil ?_;refine aE (m _ _ ?_);refine vH rfl ?_;refine ek.skip ?_;refine aE (r _ _ (ek.seq (λR E=>(ek.region (et (iP rfl ?_))))));refine ts.nil ?_;refine aE (E _ _ ?_);refine ek.block ?_;refine ek.loop (λq f w=>∃k j:Nat,oV [(0,.pointer (some ⟨t.ti,0,none⟩)),(1,i6 t.c.eg.length),(4,i6 i),(8,i6 k)] f/\hW t b j S w/\k<=t.c.eg.length/\(k<=t.tB->j=i)/\(t.tB<k->j=i+1)/\q=t.c.eg.length-k) t.c.eg.length ?_ ?_
  .exact⟨0,i,⟨rfl,rfl,rfl,rfl,trivial⟩,a,by omega,λ_=>rfl,λh=>by omega,rfl⟩
  rintro q f w ⟨k,j,e,a,T,n,s,U⟩;refine il _ e (λg=>?_);clear e;refine ek.seq (λV F=>(ek.seq (λW G=>(ek.region (et (oP rfl (et (oP rfl (et (J.lss rfl rfl ?_))))))))));refine ts.nil ?_;refine aE (G _ _ ?_);refine ek.cond _ rfl (λo=>?_) (λo=>?_)
  .simp only[decide_eq_true_eq]at o;refine ek.skip ?_;refine aE (F _ _ (ek.seq (λX H=>?_)));refine ek.block ?_;refine ek.region (et (oI (v:=.pointer (some ⟨t.ti,0,none⟩)) rfl (et (oP rfl ?_))));have I:eJ 56 #[.pointer (some ⟨t.ti,0,none⟩),i6 k] w (λ_ w'=>hW t b (if k=t.tB then j+1 else j) S w'):=by
    by_cases d:k=t.tB
    .rw[if_pos d,d];have x:=n (by omega);exact epy l (by omega) a
    rw[if_neg d];exact epf (by omega) d a
   refine et (J.call I rfl ?_);intro u w a;refine ts.nil ?_;refine m9 (aE (H _ _ (ek.region (et (oP rfl (et (J.add rfl rfl (wrap_i64 (by omega)) (et (iP rfl ?_)))))))));refine ts.nil ?_;refine aE ?_;refine⟨t.c.eg.length-(k+1),by omega,k+1,_,⟨rfl,rfl,rfl,congrArg (Value.int .i64) (by omega),trivial⟩,a,by omega,λh=>?_,λh=>?_,rfl⟩
   .rw[if_neg (by omega)];exact n (by omega)
   by_cases d:k=t.tB
   .rw[if_pos d];have:=n (by omega);omega
   rw[if_neg d];exact s (by omega)
  simp only[decide_eq_false_iff_not,Int.not_lt]at o;refine ek.exit ?_;refine uZ ?_;refine uZ ?_;refine ya (m9 (aE (B _ _ (ek.region (et (oP rfl (et (J.add rfl rfl (wrap_i64 (by omega)) (et (iP rfl ?_))))))))));refine ts.nil ?_;refine aE ?_;have x:=s (by omega);subst x;exact⟨5-(i+1),by omega,i+1,⟨rfl,rfl,congrArg (Value.int .i64) (by omega),trivial⟩,a,by omega,rfl⟩
 obtain rfl:i=5:=by omega
 refine et (J.call (epg a) rfl ?_);rintro _ w ⟨rfl,a⟩;refine et (oI (v:=.tuple #[i6 0,i6 0,i6 0]) rfl ?_)
 iterate 3 refine et (J.extract rfl rfl ?_)
 iterate 3 refine et (iP rfl ?_)
 refine ts.nil ?_;refine aE (p _ _ (ek.seq (λC r=>(ek.seq (λD m=>(ek.region (et (oP rfl (et (ft rfl (J.eql rfl rfl ⟨rfl,rfl⟩) (et (u0 rfl (dp 21 rfl rfl rfl (et (oI (v:=.pointer (some ⟨t.ti,0,none⟩)) rfl (dp 21 rfl rfl rfl (et (J.call (epw a) rfl ?_))))))))))))))))));rintro _ w ⟨rfl,a⟩;refine dp 21 rfl rfl rfl (et (ft rfl (J.neq rfl rfl ⟨rfl,rfl⟩) (et (kC rfl rfl ?_))));refine ts.nil ?_;refine aE (m _ _ ?_);refine zb rfl ?_;refine ek.ret ?_;refine pQ ?_;refine kL ?_;refine pQ ?_;refine pQ ?_;refine kL ?_;refine cJ .nil ?_;exact⟨rfl,a⟩
end
end Go.Fer
