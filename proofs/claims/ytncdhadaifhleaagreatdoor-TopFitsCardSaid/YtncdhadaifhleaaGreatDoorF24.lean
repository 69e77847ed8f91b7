import Derived.Test.YtncdhadaifhleaaGreatDoorF23
set_option linter.all false
set_option synthInstance.maxSize 100000
set_option synthInstance.maxHeartbeats 400000
set_option maxHeartbeats 8000000
set_option maxRecDepth 100000
namespace Go.Fer
open Go Go.RowKit
section
open Go.Proofs
variable{L a u:Nat}{S:List eL}{b:Bool}{is:List Instr}{r:aX}{w w0:World}{xs:List UInt8}{y:nD}
structure qW where
 (en:World)
 (tk d tY eQ aH oY b tJ tH e2 eZ p q aR a2 uO sq m tV ip iG iY ef iI nY oS r5:Nat)
 (aZ oQ tT co:Value)
 (oj tB e7 tL ah ai v0 ab:eu)
 (c:h1)
 (ou:aX)
 (c4:Bool)
 (is:List Instr)
 (xs:List UInt8)
 (y:nD)
 (o4:sg)
 (oX:List sW)
 (D:im)
 (f0:UInt8)
 (oh:Nat->Nat)
variable{t:qW}
structure qW.w4(t:qW)(efd:Bool):Prop where
 efc:ll t.c
 tV:t.tV<t.c.eg.length
 e2:t.y.m.it∈t.oX.take 150
 Mw:f4 t.D
 KA:dz (dE (t.y.sigs.length:Int) (n2 t.y)) (ad t.y) (ir t.D (ad t.y))=efd
 g6:ErrLaid t.en
 nY:1099511627776<=t.nY
 oS:1099511627776<=t.oS
 r5:1099511627776<=t.r5
 efu:Tab t.en t.oh
inductive pS(t:qW):Bool->Nat->List aN->List eU->eL->eL->eL->List eL->Prop
 |xc (b:Bool) (ob:Nat) (aL:hh) (aG:r4) (oq:sY) (oE:sw) (ax:ni):pS t b 0 ((List.replicate t.c.eg.length (⟨0,ec⟩:aN)).set t.tV (⟨0,ec⟩:aN)) ((List.replicate t.c.eg.length (⟨0⟩:eU)).set t.tV (⟨1⟩:eU)) (sl t.tH ax t.c.eg.length (some t.tV)) (V t.oY #[.pointer (some ⟨t.eQ,0,none⟩),.pointer (some ⟨t.e2,0,none⟩),.pointer (some ⟨t.eZ,0,none⟩),.pointer (some ⟨t.ip,0,none⟩),.bool false,eF,eF,.int .u64 0] 302) (oO t.p t.ah t.ai t.m (some (⟨1,t.ou,1,t.c4⟩:Item))) [az t.ou t.is t.xs t.y,iF t.e2 t.o4 t.oX,nC t.tJ t.c.eg.length t.iG t.iY aL aG,B t.co 23 ((List.replicate t.c.eg.length (⟨0⟩:t7)).set t.tV (⟨ob⟩:t7)),B t.oj.v 77 ([t.f0]:List UInt8),iQ t.eZ oq [],rl t.ip oE t.nY t.oS t.r5,iC t.eQ t.D]
 |jL (b:Bool) (ob:Nat) (aL:hh) (aG:r4) (oq:sY) (oE:sw) (ax:ni) (r:aX) (sy:List Instr) (g cap:Nat):pS t b 1 ((List.replicate t.c.eg.length (⟨0,ec⟩:aN)).set t.tV (⟨1,(ts g 1 cap)⟩:aN)) ((List.replicate t.c.eg.length (⟨0⟩:eU)).set t.tV (⟨1⟩:eU)) (rA t.tH ax t.c.eg.length) (V t.oY #[.pointer (some ⟨t.eQ,0,none⟩),.pointer (some ⟨t.e2,0,none⟩),.pointer (some ⟨t.eZ,0,none⟩),.pointer (some ⟨t.ip,0,none⟩),.bool false,eF,eF,.int .u64 0] 302) (oO t.p t.ah t.ai t.m (some (⟨1,t.ou,1,t.c4⟩:Item))) [az t.ou t.is t.xs t.y,iF t.e2 t.o4 t.oX,nC t.tJ t.c.eg.length t.iG t.iY aL aG,B t.co 23 ((List.replicate t.c.eg.length (⟨0⟩:t7)).set t.tV (⟨ob⟩:t7)),B t.oj.v 77 ([t.f0]:List UInt8),iQ t.eZ oq [],rl t.ip oE t.nY t.oS t.r5,iC t.eQ t.D,az r sy t.xs t.y,B (e4 g 1 cap) 417 [(⟨0,1,ec,⟨r,nW⟩,0⟩:o7)]]
 |bE (ob:Nat) (aL:hh) (aG:r4) (oq:sY) (oE:sw) (ax:ni) (r:aX) (sy:List Instr) (g cap:Nat):pS t false 2 ((List.replicate t.c.eg.length (⟨0,ec⟩:aN)).set t.tV (⟨2,(ts g 1 cap)⟩:aN)) ((List.replicate t.c.eg.length (⟨0⟩:eU)).set t.tV (⟨1⟩:eU)) (rA t.tH ax t.c.eg.length) (V t.oY #[.pointer (some ⟨t.eQ,0,none⟩),.pointer (some ⟨t.e2,0,none⟩),.pointer (some ⟨t.eZ,0,none⟩),.pointer (some ⟨t.ip,0,none⟩),.bool false,eF,eF,.int .u64 0] 302) (oO t.p t.ah t.ai t.m (some (⟨1,t.ou,1,t.c4⟩:Item))) [az t.ou t.is t.xs t.y,iF t.e2 t.o4 t.oX,nC t.tJ t.c.eg.length t.iG t.iY aL aG,B t.co 23 ((List.replicate t.c.eg.length (⟨0⟩:t7)).set t.tV (⟨ob⟩:t7)),B t.oj.v 77 ([t.f0]:List UInt8),iQ t.eZ oq [],rl t.ip oE t.nY t.oS t.r5,iC t.eQ t.D,az r sy t.xs t.y,B (e4 g 1 cap) 417 [(⟨0,1,ec,⟨r,nW⟩,22⟩:o7)]]
 |KO (ob:Nat) (aL:hh) (aG:r4) (oq:sY) (oE:sw) (ax:ni) (r:aX) (sy:List Instr) (g cap:Nat):pS t false 3 ((List.replicate t.c.eg.length (⟨0,ec⟩:aN)).set t.tV (⟨3,(ts g 1 cap)⟩:aN)) ((List.replicate t.c.eg.length (⟨0⟩:eU)).set t.tV (⟨1⟩:eU)) (rA t.tH ax t.c.eg.length) (V t.oY #[.pointer (some ⟨t.eQ,0,none⟩),.pointer (some ⟨t.e2,0,none⟩),.pointer (some ⟨t.eZ,0,none⟩),.pointer (some ⟨t.ip,0,none⟩),.bool false,eF,eF,.int .u64 0] 302) (oO t.p t.ah t.ai t.m (some (⟨1,t.ou,1,t.c4⟩:Item))) [az t.ou t.is t.xs t.y,iF t.e2 t.o4 t.oX,nC t.tJ t.c.eg.length t.iG t.iY aL aG,B t.co 23 ((List.replicate t.c.eg.length (⟨0⟩:t7)).set t.tV (⟨ob⟩:t7)),B t.oj.v 77 ([t.f0]:List UInt8),iQ t.eZ oq [],rl t.ip oE t.nY t.oS t.r5,iC t.eQ t.D,az r sy t.xs t.y,B (e4 g 1 cap) 417 [(⟨0,1,ec,⟨r,nW⟩,22⟩:o7)]]
 |KI (ob:Nat) (aL:hh) (aG:r4) (oq:sY) (oE:sw) (ax:ni) (r:aX) (sy:List Instr) (g cap:Nat):pS t false 4 ((List.replicate t.c.eg.length (⟨0,ec⟩:aN)).set t.tV (⟨4,(ts g 1 cap)⟩:aN)) ((List.replicate t.c.eg.length (⟨0⟩:eU)).set t.tV (⟨1⟩:eU)) (rA t.tH ax t.c.eg.length) (V t.oY #[.pointer (some ⟨t.eQ,0,none⟩),.pointer (some ⟨t.e2,0,none⟩),.pointer (some ⟨t.eZ,0,none⟩),.pointer (some ⟨t.ip,0,none⟩),.bool false,eF,eF,.int .u64 0] 302) (oO t.p t.ah t.ai t.m (some (⟨1,t.ou,1,t.c4⟩:Item))) [az t.ou t.is t.xs t.y,iF t.e2 t.o4 t.oX,nC t.tJ t.c.eg.length t.iG t.iY aL aG,B t.co 23 ((List.replicate t.c.eg.length (⟨0⟩:t7)).set t.tV (⟨ob⟩:t7)),B t.oj.v 77 ([t.f0]:List UInt8),iQ t.eZ oq [],rl t.ip oE t.nY t.oS t.r5,iC t.eQ t.D,az r sy t.xs t.y,B (e4 g 1 cap) 417 [(⟨0,1,ec,⟨r,nW⟩,22⟩:o7)]]
 |KN (ob:Nat) (aL:hh) (aG:r4) (oq:sY) (oE:sw) (ax:ni):pS t false 5 ((List.replicate t.c.eg.length (⟨0,ec⟩:aN)).set t.tV (⟨0,ec⟩:aN)) ((List.replicate t.c.eg.length (⟨0⟩:eU)).set t.tV (⟨0⟩:eU)) (rA t.tH ax t.c.eg.length) (V t.oY #[.pointer (some ⟨t.eQ,0,none⟩),.pointer (some ⟨t.e2,0,none⟩),.pointer (some ⟨t.eZ,0,none⟩),.pointer (some ⟨t.ip,0,none⟩),.bool false,eF,eF,.int .u64 0] 302) (oO t.p t.ah t.ai t.m none) [az t.ou t.is t.xs t.y,iF t.e2 t.o4 t.oX,nC t.tJ t.c.eg.length t.iG t.iY aL aG,B t.co 23 ((List.replicate t.c.eg.length (⟨0⟩:t7)).set t.tV (⟨ob⟩:t7)),B t.oj.v 77 ([7]:List UInt8),iQ t.eZ oq [],rl t.ip oE t.nY t.oS t.r5,iC t.eQ t.D]
 |cD (ob:Nat) (aL:hh) (aG:r4) (oq:sY) (oE:sw) (ax:ni) (r:aX) (sy:List Instr) (g cap:Nat) (iq:eu):pS t true 2 ((List.replicate t.c.eg.length (⟨0,ec⟩:aN)).set t.tV (⟨2,(ts g 1 cap)⟩:aN)) ((List.replicate t.c.eg.length (⟨0⟩:eU)).set t.tV (⟨1⟩:eU)) (rA t.tH ax t.c.eg.length) (V t.oY #[.pointer (some ⟨t.eQ,0,none⟩),.pointer (some ⟨t.e2,0,none⟩),.pointer (some ⟨t.eZ,0,none⟩),.pointer (some ⟨t.ip,0,none⟩),.bool false,eF,eF,.int .u64 0] 302) (oO t.p t.ah t.ai t.m (some (⟨1,t.ou,1,t.c4⟩:Item))) [az t.ou t.is t.xs t.y,iF t.e2 t.o4 t.oX,nC t.tJ t.c.eg.length t.iG t.iY aL aG,B t.co 23 ((List.replicate t.c.eg.length (⟨0⟩:t7)).set t.tV (⟨ob⟩:t7)),B t.oj.v 77 ([t.f0]:List UInt8),iQ t.eZ oq [],rl t.ip oE t.nY t.oS t.r5,iC t.eQ t.D,az r sy t.xs t.y,B (e4 g 1 cap) 417 [(⟨0,1,iq,⟨r,nW⟩,0⟩:o7)],B iq.v 62 (p8 r.tc (ir t.D (ad t.y)))]
 |v3 (ob:Nat) (aL:hh) (aG:r4) (oq:sY) (oE:sw) (ax:ni) (r:aX) (sy:List Instr) (g cap:Nat) (iq:eu) (o:ta) (ch:List tf) (e1:xY r t.y o ch):pS t true 3 ((List.replicate t.c.eg.length (⟨0,ec⟩:aN)).set t.tV (⟨3,(ts g 1 cap)⟩:aN)) ((List.replicate t.c.eg.length (⟨0⟩:eU)).set t.tV (⟨1⟩:eU)) (rA t.tH ax t.c.eg.length) (V t.oY #[.pointer (some ⟨t.eQ,0,none⟩),.pointer (some ⟨t.e2,0,none⟩),.pointer (some ⟨t.eZ,0,none⟩),.pointer (some ⟨t.ip,0,none⟩),.bool false,eF,eF,.int .u64 0] 302) (oO t.p t.ah t.ai t.m (some (⟨1,t.ou,1,t.c4⟩:Item))) [az t.ou t.is t.xs t.y,iF t.e2 t.o4 t.oX,nC t.tJ t.c.eg.length t.iG t.iY aL aG,B t.co 23 ((List.replicate t.c.eg.length (⟨0⟩:t7)).set t.tV (⟨ob⟩:t7)),B t.oj.v 77 ([t.f0]:List UInt8),iQ t.eZ oq [],rl t.ip oE t.nY t.oS t.r5,iC t.eQ t.D,az r sy t.xs t.y,B (e4 g 1 cap) 417 [(⟨0,1,iq,⟨r,o⟩,0⟩:o7)],B o.rp.v 64 ch]
 |v4 (ob:Nat) (aL:hh) (aG:r4) (oq:sY) (oE:sw) (ax:ni) (r:aX) (sy:List Instr) (g cap:Nat) (iq:eu) (o:ta) (ch:List tf) (ot od h7 mZ:eu) (oa:Nat) (e1:xY r t.y o ch) (dg:r.tQ.m.it=t.y.m.it):pS t true 4 ((List.replicate t.c.eg.length (⟨0,ec⟩:aN)).set t.tV (⟨4,(ts g 1 cap)⟩:aN)) ((List.replicate t.c.eg.length (⟨0⟩:eU)).set t.tV (⟨1⟩:eU)) (rA t.tH ax t.c.eg.length) (V t.oY #[.pointer (some ⟨t.eQ,0,none⟩),.pointer (some ⟨t.e2,0,none⟩),.pointer (some ⟨t.eZ,0,none⟩),.pointer (some ⟨t.ip,0,none⟩),.bool false,ot.v,od.v,eb oa] 302) (oO t.p t.ah t.ai t.m (some (⟨1,t.ou,1,t.c4⟩:Item))) [az t.ou t.is t.xs t.y,iF t.e2 t.o4 t.oX,nC t.tJ t.c.eg.length t.iG t.iY aL aG,B t.co 23 ((List.replicate t.c.eg.length (⟨0⟩:t7)).set t.tV (⟨ob⟩:t7)),B t.oj.v 77 ([t.f0]:List UInt8),iQ t.eZ oq [((y3 t.y),r.tQ.m.it)],cZ t.ip oE,iC t.eQ t.D,az r sy t.xs t.y,B (e4 g 1 cap) 417 [(⟨0,1,iq,⟨r,o⟩,0⟩:o7)],B o.rp.v 64 ch,B ot.v 30 ([h7]:List eu),B h7.v 5 (([1,0,0,0,0,0,0,0]:List UInt8)++t.xs),B od.v 189 [(⟨o.fail,o.aQ,o.tK,o.tc,o.tv,mZ⟩:ta)],B mZ.v 64 ch]
 |v5 (ob:Nat) (aL:hh) (aG:r4) (oq:sY) (oE:sw) (ax:ni) (r:aX) (o:ta) (ch:List tf) (ot od h7 mZ:eu) (oa:Nat) (e1:xY r t.y o ch) (dg:r.tQ.m.it=t.y.m.it):pS t true 5 ((List.replicate t.c.eg.length (⟨0,ec⟩:aN)).set t.tV (⟨0,ec⟩:aN)) ((List.replicate t.c.eg.length (⟨0⟩:eU)).set t.tV (⟨0⟩:eU)) (rA t.tH ax t.c.eg.length) (V t.oY #[.pointer (some ⟨t.eQ,0,none⟩),.pointer (some ⟨t.e2,0,none⟩),.pointer (some ⟨t.eZ,0,none⟩),.pointer (some ⟨t.ip,0,none⟩),.bool false,ot.v,od.v,eb oa] 302) (oO t.p t.ah t.ai t.m none) [az t.ou t.is t.xs t.y,iF t.e2 t.o4 t.oX,nC t.tJ t.c.eg.length t.iG t.iY aL aG,B t.co 23 ((List.replicate t.c.eg.length (⟨0⟩:t7)).set t.tV (⟨ob⟩:t7)),B t.oj.v 77 ([8]:List UInt8),iQ t.eZ oq [((y3 t.y),r.tQ.m.it)],cZ t.ip oE,iC t.eQ (fg t.D ch),B ot.v 30 ([h7]:List eu),B h7.v 5 (([1,0,0,0,0,0,0,0]:List UInt8)++t.xs),B od.v 189 [(⟨o.fail,o.aQ,o.tK,o.tc,o.tv,mZ⟩:ta)],B mZ.v 64 ch]
def hW(t:qW)(b:Bool)(i:Nat)(S:List eL)(w:World):Prop:=∃(HL:List aN)(FLs:List eU)(LA c6 cT:eL)(X:List eL),pS t b i HL FLs LA c6 cT X/\U t.en (V t.tk #[.pointer (some ⟨t.d,0,none⟩),.pointer (some ⟨t.tY,0,none⟩),.pointer (some ⟨t.eQ,0,none⟩),.pointer (some ⟨t.aH,0,none⟩),.pointer (some ⟨t.oY,0,none⟩),t.aZ,eb t.ef,eb t.iI,t.oj.v,t.oQ] 105::V t.tY #[.pointer (some ⟨t.d,0,none⟩),t.tB.v] 208::B t.tB.v 407 HL::a6 t.d t.e7 t.tL t.c t.b t.tJ t.tH t.e2 t.eZ t.tT t.co::LA::B t.tT 3 FLs::c6::V t.b #[.pointer (some ⟨t.p,0,none⟩),.pointer (some ⟨t.q,0,none⟩)] 259::cT::h0 t.q t.aR t.a2 t.uO t.sq t.v0 t.ab::(X++S)) w
theorem My{b:Nat}(h:a*b<18446744073709551616):gn a b 1 false=a*b:=by
 unfold gn bQ;rw[Nat.div_eq_of_lt h,Nat.mod_eq_of_lt h];simp
theorem KS(K:Nat):∀l:List Nat,(∀x∈l,x<=K) ->l.sum<=K*l.length
 |[],_=>by simp
 |x::l,h=>by
  have G:=h x List.mem_cons_self;have Y:=KS K l λy a=>h y (List.mem_cons_of_mem _ a);rw[List.sum_cons,List.length_cons,Nat.mul_succ];omega
theorem KR(h:U w0 S w)(d:tX (az r is xs y) S)(j:u<=1400000)(n:1099511627776<=L):ly y.sigs.length (lN y) ((rQ (ad y)).length:Int) u<=L:=by
 obtain⟨o,p,q,s,t,v,e,z,A⟩:=pe h d;have ez:(rQ (ad y)).length<=64:=by have:=CB (l:=(ad y));omega
 unfold ly;rw[YE];refine Nat.le_trans (Nat.min_le_left _ _) ?_;have hd:lN y%18446744073709551616/4<=1099000000000:=by
  have G:lN y<=1232*y.m.au.length:=by
   have h:=KS 1232 (y.m.au.map λc=>c.2.2.length) λx f=>by
    obtain⟨c,g,rfl⟩:=List.mem_map.1 f;obtain⟨k,i,rfl⟩:=List.getElem_of_mem g;exact(e k i).2
   rw[List.length_map]at h;exact h
  have:=Nat.mod_le (lN y) 18446744073709551616;omega
 have B:=My (a:=y.sigs.length) (b:=720) (by omega);have C:=My (a:=(max 0 ((rQ (ad y)).length:Int)).toNat) (b:=300) (by omega);simp only[fp,List.map_cons,List.map_nil,List.sum_cons,List.sum_nil];have e6:(max 0 ((rQ (ad y)).length:Int)).toNat<=64:=by omega
 omega
theorem efm(a:t.w4 b)(h:hW t b 0 S w0):eJ 56 #[.pointer (some ⟨t.tk,0,none⟩),i6 t.tV] w0 (λ_ w'=>hW t b 1 S w'):=by
 obtain⟨HL,FLs,LA,c6,cT,X,c,E⟩:=h;cases c;rename_i ob aL aG oq oE ax;simp only[List.cons_append,List.nil_append]at E;refine(emB a.tV (by simp) (by simp;exact a.tV) (by simp;exact a.tV) (Pi [6,6,10,9,9,9,9,9,9,9] E)).mono ?_;rintro u w' ⟨r,sy,d,g,cap,rfl,E⟩;exact⟨_,_,_,_,_,_,.jL b ob aL aG oq oE d r sy g cap,(((((((((((((((((((Pi [0,1] E).pick (.ee (.ee (.ee (.ee (.ee (.ak))))))).pick (.ee (.ee (.ee (.ee (.ee (.ak))))))).pick (.ee (.ee (.ee (.ee (.ee (.ak))))))).pick (.ee (.ee (.ee (.ee (.ee (.ak))))))).pick (.ee (.ee (.ee (.ee (.ee (.ak))))))).pick (.ee (.ee (.ee (.ee (.ee (.ak))))))).pick (.ee (.ee (.ee (.ee (.ee (.ak))))))).pick (.ee (.ak))).pick (.ee (.ee (.ee (.ee (.ee (.ak))))))).pick (.ee (.ee (.ak)))).pick (.ee (.ee (.ak)))).pick (.ee (.ee (.ee (.ee (.ee (.ak))))))).pick (.ee (.ee (.ee (.ee (.ee (.ak))))))).pick (.ee (.ak))).pick (.ee (.ee (.ee (.ee (.ak)))))).pick (.ee (.ee (.ee (.ee (.ak)))))).pick (.ee (.ee (.ee (.ee (.ak)))))).pick (.ee (.ee (.ee (.ee (.ee (.ak)))))))⟩
theorem eff(a:t.w4 false)(h:hW t false 1 S w0):eJ 56 #[.pointer (some ⟨t.tk,0,none⟩),i6 t.tV] w0 (λ_ w'=>hW t false 2 S w'):=by
 obtain⟨HL,FLs,LA,c6,cT,X,c,E⟩:=h;cases c;rename_i ob aL aG oq oE ax r sy g cap;simp only[List.cons_append,List.nil_append]at E;have b:=E.g9 (r:=r) (is:=sy) (.i 18);have dg:r.tQ.m.it=t.y.m.it:=b.2.2.2.2.2.2.1;have d:r.tc=dE (t.y.sigs.length:Int) (n2 t.y):=b.1.tc;refine(emV (by simp;exact a.tV) (by rw[dg];exact a.e2) a.Mw (by rw[d];exact a.KA) (by simp;exact a.tV) ((((((((((Pi [5,4] E).pick (.ee (.ak))).pick .u1).pick (.ee (.ee (.ee (.ee (.ak)))))).pick (.ee (.ee (.ee (.ee (.ak)))))).pick .hR).pick (.ee (.ee (.ee (.ee (.ee (.ak))))))).pick .hR).pick .hR).pick .hR)).mono ?_;rintro u w' ⟨rfl,E⟩;exact⟨_,_,_,_,_,_,.bE ob aL aG oq oE ax r sy g cap,((((((((((((((((((Pi [7,2,2] E).pick (.ee (.ee (.ee (.ee (.ee (.ak))))))).pick .aW).pick (.ee (.ee (.ee (.ee (.ee (.ak))))))).pick (.ee (.ee (.ee (.ee (.ee (.ak))))))).pick (.ee (.ee (.ee (.ee (.ee (.ak))))))).pick .n9).pick (.ee (.ee (.ee (.ee (.ee (.ak))))))).pick (.ee (.ee (.ee (.ee (.ee (.ak))))))).pick (.ee (.ee (.ee (.ee (.ee (.ak))))))).pick (.ee (.ee (.ee (.ee (.ee (.ak))))))).pick .mz).pick (.ee (.ee (.ee (.ee (.ak)))))).pick (.ee (.ee (.ee (.ee (.ee (.ak))))))).pick (.ee (.ee (.ee (.ee (.ee (.ak))))))).pick (.ee (.ee (.ee (.ee (.ak)))))).pick (.ee (.ee (.ee (.ee (.ak)))))).pick (.ee (.ee (.ee (.ee (.ee (.ak)))))))⟩
theorem efp(a:t.w4 true)(h:hW t true 1 S w0):eJ 56 #[.pointer (some ⟨t.tk,0,none⟩),i6 t.tV] w0 (λ_ w'=>hW t true 2 S w'):=by
 obtain⟨HL,FLs,LA,c6,cT,X,c,E⟩:=h;cases c;rename_i ob aL aG oq oE ax r sy g cap;simp only[List.cons_append,List.nil_append]at E;have b:=E.g9 (r:=r) (is:=sy) (.i 18);have dg:r.tQ.m.it=t.y.m.it:=b.2.2.2.2.2.2.1;have d:r.tc=dE (t.y.sigs.length:Int) (n2 t.y):=b.1.tc;refine(emK (by simp;exact a.tV) (by rw[dg];exact a.e2) a.Mw (by rw[d];exact a.KA) (by simp;exact a.tV) ((((((((((Pi [5,4] E).pick (.ee (.ak))).pick .u1).pick (.ee (.ee (.ee (.ee (.ak)))))).pick (.ee (.ee (.ee (.ee (.ak)))))).pick .hR).pick (.ee (.ee (.ee (.ee (.ee (.ak))))))).pick .hR).pick .hR).pick .hR)).mono ?_;rintro u w' ⟨iq,rfl,E⟩;exact⟨_,_,_,_,_,_,.cD ob aL aG oq oE ax r sy g cap iq,((((((((((((((((((Pi [2,8,3,3] E).pick (.ee (.ee (.ee (.ee (.ee (.ee (.ak)))))))).pick .nf).pick (.ee (.ee (.ee (.ee (.ee (.ee (.ak)))))))).pick (.ee (.ee (.ee (.ee (.ee (.ee (.ak)))))))).pick (.ee (.ee (.ee (.ee (.ee (.ee (.ak)))))))).pick .hR).pick (.ee (.ee (.ee (.ee (.ee (.ee (.ak)))))))).pick (.ee (.ee (.ee (.ee (.ee (.ee (.ak)))))))).pick (.ee (.ee (.ee (.ee (.ee (.ee (.ak)))))))).pick (.ee (.ee (.ee (.ee (.ee (.ee (.ak)))))))).pick .ak).pick (.ee (.ee (.ee (.ee (.ee (.ak))))))).pick (.ee (.ee (.ee (.ee (.ee (.ee (.ak)))))))).pick (.ee (.ee (.ee (.ee (.ee (.ee (.ak)))))))).pick (.ee (.ee (.ee (.ee (.ee (.ak))))))).pick (.ee (.ee (.ee (.ee (.ee (.ak))))))).pick (.ee (.ee (.ee (.ee (.ee (.ee (.ak))))))))⟩
theorem efg(a:t.w4 false)(h:hW t false 2 S w0):eJ 56 #[.pointer (some ⟨t.tk,0,none⟩),i6 t.tV] w0 (λ_ w'=>hW t false 3 S w'):=by
 obtain⟨HL,FLs,LA,c6,cT,X,b,E⟩:=h;cases b;rename_i ob aL aG oq oE ax r sy g cap;simp only[List.cons_append,List.nil_append]at E;refine(emX (by simp;exact a.tV) (by simp;exact a.tV) (((((Pi [6,6,5] E).pick (.ee (.ee (.ee (.ee (.ee (.ak))))))).pick .aW).pick .aW).pick .aW)).mono ?_;rintro u w' ⟨rfl,E⟩;exact⟨_,_,_,_,_,_,.KO ob aL aG oq oE ax r sy g cap,(Pi [2,19,19,19,19,19,19,19,19,19,19,19,19,18,18,19,19,18,18,19] E)⟩
theorem efw(a:t.w4 true)(h:hW t true 2 S w0):eJ 56 #[.pointer (some ⟨t.tk,0,none⟩),i6 t.tV] w0 (λ_ w'=>hW t true 3 S w'):=by
 obtain⟨HL,FLs,LA,c6,cT,X,b,E⟩:=h;cases b;rename_i ob aL aG oq oE ax r sy g cap iq;simp only[List.cons_append,List.nil_append]at E;refine(emJ (by simp;exact a.tV) (by rw[eru,Cr]) (erd (erc a.Mw)) a.g6 (by simp;exact a.tV) (((((((Pi [6,6,5] E).pick (.ee (.ee (.ee (.ee (.ak)))))).pick (.ee (.ee (.ee (.ee (.ee (.ee (.ak)))))))).pick (.ee (.ee (.ee (.ee (.ee (.ee (.ak)))))))).pick .nE).pick .nE).pick .nE)).mono ?_;rintro u w' ⟨o,ch,rfl,E⟩;have e1:xY r t.y o ch:=by have h:=E.get .em;rwa[mf]at h
 exact⟨_,_,_,_,_,_,.v3 ob aL aG oq oE ax r sy g cap iq o ch e1,((((((((((((((((((((Pi [1,4,6] E).pick (.ee (.ee (.ee (.ee (.ee (.ee (.ee (.ee (.ak)))))))))).pick (.ee (.ee (.ee (.ee (.ee (.ee (.ee (.ee (.ak)))))))))).pick (.ee (.ee (.ee (.ee (.ee (.ee (.ee (.ee (.ak)))))))))).pick (.ee (.ee (.ee (.ee (.ee (.ee (.ee (.ee (.ak)))))))))).pick (.ee (.ee (.ee (.ee (.ee (.ee (.ee (.ee (.ak)))))))))).pick (.ee (.ee (.ee (.ee (.ee (.ee (.ee (.ee (.ak)))))))))).pick (.ee (.ee (.ee (.ee (.ee (.ee (.ee (.ee (.ak)))))))))).pick (.ee (.ee (.ee (.ee (.ee (.ee (.ee (.ee (.ak)))))))))).pick (.ee (.ee (.ee (.ee (.ee (.ee (.ee (.ee (.ak)))))))))).pick (.ee (.ee (.ee (.ee (.ee (.ee (.ee (.ee (.ak)))))))))).pick (.ee (.ee (.ee (.ee (.ee (.ee (.ee (.ee (.ak)))))))))).pick (.ee (.ee (.ee (.ee (.ee (.ee (.ee (.ak))))))))).pick (.ee (.ee (.ee (.ee (.ee (.ee (.ee (.ak))))))))).pick (.ee (.ee (.ee (.ee (.ee (.ee (.ee (.ee (.ak)))))))))).pick (.ee (.ee (.ee (.ee (.ee (.ee (.ee (.ee (.ak)))))))))).pick (.ee (.ee (.ee (.ee (.ee (.ee (.ak)))))))).pick (.ee (.ee (.ee (.ee (.ee (.ee (.ak)))))))).pick (.ee (.ee (.ee (.ee (.ee (.ee (.ee (.ee (.ak)))))))))).sub (.cons₂ _ (.cons₂ _ (.cons₂ _ (.cons₂ _ (.cons₂ _ (.cons₂ _ (.cons₂ _ (.cons₂ _ (.cons₂ _ (.cons₂ _ (.cons₂ _ (.cons₂ _ (.cons₂ _ (.cons₂ _ (.cons₂ _ (.cons₂ _ (.cons₂ _ (.cons₂ _ (.cons₂ _ (.cons₂ _ (.cons₂ _ (.cons _ (.cons _ (List.Sublist.refl _)))))))))))))))))))))))))⟩
theorem efy(a:t.w4 false)(h:hW t false 3 S w0):eJ 56 #[.pointer (some ⟨t.tk,0,none⟩),i6 t.tV] w0 (λ_ w'=>hW t false 4 S w'):=by
 obtain⟨HL,FLs,LA,c6,cT,X,b,E⟩:=h;cases b;rename_i ob aL aG oq oE ax r sy g cap;simp only[List.cons_append,List.nil_append]at E;refine(emQ (by simp;exact a.tV) (by simp;exact a.tV) (((((Pi [5,4,6] E).pick (.ee (.ee (.ee (.ee (.ee (.ak))))))).pick .aW).pick .aW).pick .aW)).mono ?_;rintro u w' ⟨rfl,E⟩;exact⟨_,_,_,_,_,_,.KI ob aL aG oq oE ax r sy g cap,(Pi [1,19,19,19,19,19,19,19,19,19,19,19,19,14,18,19,19,17,18,19] E)⟩
theorem efb(a:t.w4 true)(h:hW t true 3 S w0):eJ 56 #[.pointer (some ⟨t.tk,0,none⟩),i6 t.tV] w0 (λ_ w'=>hW t true 4 S w'):=by
 obtain⟨HL,FLs,LA,c6,cT,X,e,E⟩:=h;cases e;rename_i ob aL aG oq oE ax r sy g cap iq o ch e1;simp only[List.cons_append,List.nil_append]at E;have d:=E.g9 (r:=r) (is:=sy) (.i 18);have dg:r.tQ.m.it=t.y.m.it:=d.2.2.2.2.2.2.1;have f:r.tc=dE (t.y.sigs.length:Int) (n2 t.y):=d.1.tc;obtain⟨j,k,l,n,p,q,s,v,w⟩:=pe (r:=r) (is:=sy) E (.i 18);refine(emZ (by simp;exact a.tV) (by rw[dg];exact a.e2) e1.len (by rw[e1.tc,f];exact xM) (KR E (.i 18) e1.tK a.nY) (KR E (.i 18) e1.tK a.oS) (by have:=e1.tv;have:=a.r5;omega) e1.tK (by have:=e1.tv;omega) (by simp;exact a.tV) (((((((((((Pi [5,4] E).pick (.ee (.ee (.ee (.ee (.ee (.ee (.ak)))))))).pick (.ee (.ee (.ak)))).pick .mz).pick (.ee (.ee (.ee (.ee (.ee (.ak))))))).pick (.ee (.ee (.ee (.ee (.ak)))))).pick .dN).pick (.ee (.ee (.ee (.ee (.ee (.ee (.ak)))))))).pick .dN).pick .dN).pick .dN)).mono ?_;rintro u w' ⟨b,c,mZ,od,h7,ot,rfl,E⟩;exact⟨_,_,_,_,_,_,.v4 ob aL aG c b ax r sy g cap iq o ch ot od h7 mZ _ e1 dg,(((((((((((((((((((Pi [3,3,3,3,9,11,9] E).pick (.ee (.ee (.ee (.ee (.ee (.ee (.ee (.ee (.ee (.ee (.ak)))))))))))).pick .n9).pick .n9).pick (.ee (.ee (.ee (.ee (.ee (.ee (.ee (.ee (.ee (.ee (.ak)))))))))))).pick (.ee (.ee (.ee (.ee (.ee (.ee (.ee (.ee (.ee (.ee (.ak)))))))))))).pick (.ee (.ee (.ee (.ee (.ee (.ee (.ee (.ee (.ee (.ee (.ak)))))))))))).pick .ak).pick (.ee (.ee (.ee (.ee (.ee (.ee (.ee (.ee (.ee (.ee (.ak)))))))))))).pick (.ee (.ee (.ee (.ee (.ee (.ee (.ee (.ee (.ee (.ee (.ak)))))))))))).pick (.ee (.ee (.ee (.ee (.ee (.ee (.ee (.ee (.ee (.ee (.ak)))))))))))).pick (.ee (.ee (.ee (.ee (.ee (.ee (.ee (.ee (.ee (.ee (.ak)))))))))))).pick (.ee (.ee (.ee (.ee (.ak)))))).pick (.ee (.ee (.ee (.ee (.ee (.ee (.ee (.ee (.ee (.ak))))))))))).pick (.ee (.ee (.ee (.ee (.ee (.ee (.ee (.ee (.ee (.ee (.ak)))))))))))).pick (.ee (.ee (.ee (.ee (.ee (.ee (.ee (.ee (.ee (.ee (.ak)))))))))))).pick (.ee (.ee (.ee (.ee (.ee (.ee (.ee (.ee (.ak)))))))))).pick (.ee (.ee (.ee (.ee (.ee (.ee (.ee (.ee (.ee (.ak))))))))))).pick (.ee (.ee (.ee (.ee (.ee (.ee (.ee (.ee (.ee (.ee (.ak))))))))))))⟩
theorem efx(a:t.w4 false)(h:hW t false 4 S w0):eJ 56 #[.pointer (some ⟨t.tk,0,none⟩),i6 t.tV] w0 (λ_ w'=>hW t false 5 S w'):=by
 obtain⟨HL,FLs,LA,c6,cT,X,b,E⟩:=h;cases b;rename_i ob aL aG oq oE ax r sy g cap;simp only[List.cons_append,List.nil_append]at E;refine(em0 (by simp;exact a.tV) a.tV (by simp;exact a.tV) (by simp;exact a.tV) ((((((((((((Pi [14,7] E).pick (.ee (.ee (.ee (.ee (.ee (.ak))))))).pick (.ee (.ak))).pick .n9).pick (.ee (.ee (.ee (.ee (.ee (.ak))))))).pick (.ee (.ee (.ak)))).pick .mz).pick .mz).pick .u1).pick .u1).pick .u1).pick .u1)).mono ?_;rintro u w' ⟨c,d,e,f,rfl,E⟩;exact⟨_,_,_,_,_,_,.KN c d e oq oE ax,((Pi [20,20,20,4,14,11,20,20,20,10,11,19,18,20,17,19,18,17] E).sub (.cons₂ _ (.cons₂ _ (.cons₂ _ (.cons₂ _ (.cons₂ _ (.cons₂ _ (.cons₂ _ (.cons₂ _ (.cons₂ _ (.cons₂ _ (.cons₂ _ (.cons₂ _ (.cons₂ _ (.cons₂ _ (.cons₂ _ (.cons₂ _ (.cons₂ _ (.cons₂ _ (.cons _ (.cons _ (.cons _ (List.Sublist.refl _)))))))))))))))))))))))⟩
theorem efq(a:t.w4 true)(h:hW t true 4 S w0):eJ 56 #[.pointer (some ⟨t.tk,0,none⟩),i6 t.tV] w0 (λ_ w'=>hW t true 5 S w'):=by
 obtain⟨HL,FLs,LA,c6,cT,X,b,E⟩:=h;cases b;rename_i ob aL aG oq oE ax r sy g cap iq o ch ot od h7 mZ oa e1 dg;simp only[List.cons_append,List.nil_append]at E;refine(em1 (by simp;exact a.tV) a.tV (by simp;exact a.tV) (by simp;exact a.tV) e1.len (Pi [14,20,18,9,20,17,11,20,18,15,15,14,14,14,14] E)).mono ?_;rintro u w' ⟨c,d,e,f,rfl,E⟩;exact⟨_,_,_,_,_,_,.v5 c d e oq oE ax r o ch ot od h7 mZ oa e1 dg,((Pi [25,25,25,25,13,25,25,8,20,15,25,25,25,14,15,21,23,25,21,24,22,21] E).sub (.cons₂ _ (.cons₂ _ (.cons₂ _ (.cons₂ _ (.cons₂ _ (.cons₂ _ (.cons₂ _ (.cons₂ _ (.cons₂ _ (.cons₂ _ (.cons₂ _ (.cons₂ _ (.cons₂ _ (.cons₂ _ (.cons₂ _ (.cons₂ _ (.cons₂ _ (.cons₂ _ (.cons₂ _ (.cons₂ _ (.cons₂ _ (.cons₂ _ (.cons _ (.cons _ (.cons _ (.cons _ (List.Sublist.refl _))))))))))))))))))))))))))))⟩
variable{c6 LA cT:eL}{FLs:List eU}{HL:List aN}{X:List eL}{i k:Nat}
theorem pS.R2(h:pS t b i HL FLs LA c6 cT X):
 (HL.length=t.c.eg.length/\FLs.length=t.c.eg.length/\(∀k(e:k<HL.length),k≠t.tV->HL[k].phase=0)/\∃(ot od:Value)(oa:Nat),c6=V t.oY #[.pointer (some ⟨t.eQ,0,none⟩),.pointer (some ⟨t.e2,0,none⟩),.pointer (some ⟨t.eZ,0,none⟩),.pointer (some ⟨t.ip,0,none⟩),.bool false,ot,od,eb oa] 302)/\
 ((∃ax,LA=sl t.tH ax t.c.eg.length (some t.tV)/\∀a,pS t b i HL FLs (sl t.tH a t.c.eg.length (some t.tV)) c6 cT X)∨(∃ax,LA=rA t.tH ax t.c.eg.length/\∀a,pS t b i HL FLs (rA t.tH a t.c.eg.length) c6 cT X))/\
 ((i<5/\cT=oO t.p t.ah t.ai t.m (some (⟨1,t.ou,1,t.c4⟩:Item)))∨(i=5/\cT=oO t.p t.ah t.ai t.m none)):=by
 have d:∀(x:aN)(k:Nat)(e:k<(((List.replicate t.c.eg.length (⟨0,ec⟩:aN))).set t.tV x).length),k≠t.tV->((((List.replicate t.c.eg.length (⟨0,ec⟩:aN))).set t.tV x)[k]).phase=0:=by
  intro x k e f;rw[List.getElem_set_ne (Ne.symm f),List.getElem_replicate]
 cases h
 .rename_i ob aL aG oq oE ax;exact⟨⟨by simp,by simp,d _,_,_,0,rfl⟩,.inl ⟨ax,rfl,λa=>.xc _ ob aL aG oq oE a⟩,.inl ⟨by decide,rfl⟩⟩
 .rename_i ob aL aG oq oE ax r sy g cap;exact⟨⟨by simp,by simp,d _,_,_,0,rfl⟩,.inr ⟨ax,rfl,λa=>.jL _ ob aL aG oq oE a r sy g cap⟩,.inl ⟨by decide,rfl⟩⟩
 .rename_i ob aL aG oq oE ax r sy g cap;exact⟨⟨by simp,by simp,d _,_,_,0,rfl⟩,.inr ⟨ax,rfl,λa=>.bE ob aL aG oq oE a r sy g cap⟩,.inl ⟨by decide,rfl⟩⟩
 .rename_i ob aL aG oq oE ax r sy g cap;exact⟨⟨by simp,by simp,d _,_,_,0,rfl⟩,.inr ⟨ax,rfl,λa=>.KO ob aL aG oq oE a r sy g cap⟩,.inl ⟨by decide,rfl⟩⟩
 .rename_i ob aL aG oq oE ax r sy g cap;exact⟨⟨by simp,by simp,d _,_,_,0,rfl⟩,.inr ⟨ax,rfl,λa=>.KI ob aL aG oq oE a r sy g cap⟩,.inl ⟨by decide,rfl⟩⟩
 .rename_i ob aL aG oq oE ax;exact⟨⟨by simp,by simp,d _,_,_,0,rfl⟩,.inr ⟨ax,rfl,λa=>.KN ob aL aG oq oE a⟩,.inr ⟨rfl,rfl⟩⟩
 .rename_i ob aL aG oq oE ax r sy g cap iq;exact⟨⟨by simp,by simp,d _,_,_,0,rfl⟩,.inr ⟨ax,rfl,λa=>.cD ob aL aG oq oE a r sy g cap iq⟩,.inl ⟨by decide,rfl⟩⟩
 .rename_i ob aL aG oq oE ax r sy g cap iq o ch e1;exact⟨⟨by simp,by simp,d _,_,_,0,rfl⟩,.inr ⟨ax,rfl,λa=>.v3 ob aL aG oq oE a r sy g cap iq o ch e1⟩,.inl ⟨by decide,rfl⟩⟩
 .rename_i ob aL aG oq oE ax r sy g cap iq o ch ot od h7 mZ oa e1 dg;exact⟨⟨by simp,by simp,d _,_,_,_,rfl⟩,.inr ⟨ax,rfl,λa=>.v4 ob aL aG oq oE a r sy g cap iq o ch ot od h7 mZ oa e1 dg⟩,.inl ⟨by decide,rfl⟩⟩
 rename_i ob aL aG oq oE ax r o ch ot od h7 mZ oa e1 dg;exact⟨⟨by simp,by simp,d _,_,_,_,rfl⟩,.inr ⟨ax,rfl,λa=>.v5 ob aL aG oq oE a r o ch ot od h7 mZ oa e1 dg⟩,.inr ⟨rfl,rfl⟩⟩
theorem efz(g:k<t.c.eg.length)(d:k≠t.tV)(h:hW t b i S w0):eJ 56 #[.pointer (some ⟨t.tk,0,none⟩),i6 k] w0 (λ_ w'=>hW t b i S w'):=by
 obtain⟨HL,FLs,LA,c6,cT,X,j,E⟩:=h;obtain⟨⟨G,Y,ez,ot,od,oa,rfl⟩,l,_⟩:=j.R2;have a:k<HL.length:=by omega
 rcases l with⟨ax,rfl,e⟩|⟨ax,rfl,e⟩
 .refine(emW g G a (ez k a d) (by simp;exact Ne.symm d) (by omega) E).mono ?_;rintro u w' ⟨f,rfl,E⟩;exact⟨_,_,_,_,_,_,e f,(Pi [9,9,9,9,9,5,7,8,8,9] E)⟩
 refine(emY g G a (ez k a d) (by omega) E).mono ?_;rintro u w' ⟨f,rfl,E⟩;exact⟨_,_,_,_,_,_,e f,(Pi [9,9,9,9,9,5,7,8,8,9] E)⟩
theorem efE(c:t.w4 b)(ey:i<5)(h:hW t b i S w0):eJ 55 #[.pointer (some ⟨t.tk,0,none⟩)] w0 (λu w'=>u= .tuple #[i6 0,i6 1,i6 0]/\hW t b i S w'):=by
 obtain⟨HL,FLs,LA,c6,cT,X,a,E⟩:=h;obtain⟨_,_,⟨_,rfl⟩|⟨ac,_⟩⟩:=a.R2
 .refine(emA t.oh c.efu (Pi [9,9,9,6,4] E)).mono ?_;rintro u w' ⟨rfl,E⟩;exact⟨rfl,_,_,_,_,_,_,a,(Pi [4,2,2,9,9,9,7,9,9,9] E)⟩
 omega
theorem efT(h:hW t b 5 S w0):eJ 55 #[.pointer (some ⟨t.tk,0,none⟩)] w0 (λu w'=>u= .tuple #[i6 0,i6 0,i6 0]/\hW t b 5 S w'):=by
 obtain⟨HL,FLs,LA,c6,cT,X,a,E⟩:=h;obtain⟨_,_,⟨ac,_⟩|⟨_,rfl⟩⟩:=a.R2
 .omega
 refine(emT (E.tU .em) (E.tU .nf) E .ez .nE .n9).mono ?_;rintro u w' ⟨rfl,c⟩;exact⟨rfl,_,_,_,_,_,_,a,E.ei c⟩
theorem efA(h:hW t b i S w0):eJ 19 #[.pointer (some ⟨t.tk,0,none⟩)] w0 (λu w'=>u= .int .u8 1/\hW t b i S w'):=by
 obtain⟨HL,FLs,LA,c6,cT,X,a,E⟩:=h;obtain⟨⟨_,_,_,ot,od,oa,rfl⟩,_⟩:=a.R2;refine(Tl (E.tU .em) (E.tU .aW)).mono ?_;rintro u w' ⟨rfl,c⟩;exact⟨rfl,_,_,_,_,_,_,a,E.ei c⟩
theorem efO(a:t.w4 b)(ey:i<5)(h:hW t b i S w0):eJ 56 #[.pointer (some ⟨t.tk,0,none⟩),i6 t.tV] w0 (λ_ w'=>hW t b (i+1) S w'):=by
 match i,ey,b with
 |0,_,b=>exact efm a h
 |1,_,false=>exact eff a h
 |1,_,true=>exact efp a h
 |2,_,false=>exact efg a h
 |2,_,true=>exact efw a h
 |3,_,false=>exact efy a h
 |3,_,true=>exact efb a h
 |4,_,false=>exact efx a h
 |4,_,true=>exact efq a h
open Tryz
theorem KD(l:t.w4 b)(h:hW t b 0 S w0):eJ 14 #[.pointer (some ⟨t.tk,0,none⟩),i6 t.c.eg.length] w0 (λu w'=>u= .tuple #[]/\hW t b 5 S w'):=by
 have J:=l.efc.sd;have K:=l.tV;refine nk.enter (args:=[.pointer (some ⟨t.tk,0,none⟩),i6 t.c.eg.length]) func14 rfl ntmps14 results14 rfl ?_;refine ex.seq (λL y=>(ex.region (ea (iM rfl ?_))));refine tn.nil ?_;refine aE (y _ _ ?_);refine ex.block ?_;refine ex.loop (λq f w=>∃i:Nat,oW [(0,.pointer (some ⟨t.tk,0,none⟩)),(1,i6 t.c.eg.length),(4,i6 i)] f/\hW t b i S w/\i<=5/\q=5-i) 5 ?_ ?_
 .exact⟨0,⟨rfl,rfl,rfl,trivial⟩,h,by omega,rfl⟩
 rintro q f w ⟨i,e,a,ey,th⟩;refine io _ e (λg=>?_);clear e h;refine ex.seq (λM z=>(ex.seq (λN A=>(ex.region (ea (oD rfl (ea (pG (decide_eq_true (by omega)) (Z.lss rfl rfl ⟨rfl,rfl⟩) ?_))))))));refine tn.nil ?_;refine aE (A _ _ ?_);refine zb rfl ?_;refine ex.skip ?_;refine aE (z _ _ (ex.seq (λO B=>?_)));refine ex.block ?_;refine ex.seq (λP p=>(ex.region (ea (oM (v:=.pointer (some ⟨t.tk,0,none⟩)) rfl ?_))));by_cases ac:i<5
 .refine ea (Z.call (efE l ac a) rfl ?_);rintro _ w ⟨rfl,a⟩;refine ea (oM (v:=.tuple #[i6 0,i6 1,i6 0]) rfl ?_)
  iterate 3 refine ea (Z.extract rfl rfl ?_)
  iterate 3 refine ea (iM rfl ?_)
  refine tn.nil ?_;refine aE (p _ _ (ex.seq (λC r=>(ex.seq (λD m=>(ex.region (ea (oD rfl (ea (gS rfl (Z.eql rfl rfl ⟨rfl,rfl⟩) (ea (di rfl ?_))))))))))))
  iterate 3 refine Fl 21 rfl rfl rfl rfl ?_
  refine ea (m9 rfl rfl ?_);refine tn.nil ?_;refine aE (m _ _ ?_);refine xo rfl ?_;refine ex.skip ?_;refine aE (r _ _ (ex.seq (λQ E=>(ex.region (ea (iM rfl ?_))))));refine tn.nil ?_;refine aE (E _ _ ?_);refine ex.block ?_;refine ex.loop (λq f w=>∃k j:Nat,oW [(0,.pointer (some ⟨t.tk,0,none⟩)),(1,i6 t.c.eg.length),(4,i6 i),(8,i6 k)] f/\hW t b j S w/\k<=t.c.eg.length/\(k<=t.tV->j=i)/\(t.tV<k->j=i+1)/\q=t.c.eg.length-k) t.c.eg.length ?_ ?_
  .exact⟨0,i,⟨rfl,rfl,rfl,rfl,trivial⟩,a,by omega,λ_=>rfl,λh=>by omega,rfl⟩
  rintro q f w ⟨k,j,e,a,R,n,s,T⟩;refine io _ e (λg=>?_);clear e;refine ex.seq (λU F=>(ex.seq (λV G=>(ex.region (ea (oD rfl (ea (oD rfl (ea (Z.lss rfl rfl ?_))))))))));refine tn.nil ?_;refine aE (G _ _ ?_);refine ex.cond _ rfl (λo=>?_) (λo=>?_)
  .simp only[decide_eq_true_eq]at o;refine ex.skip ?_;refine aE (F _ _ (ex.seq (λW H=>?_)));refine ex.block ?_;refine ex.region (ea (oM (v:=.pointer (some ⟨t.tk,0,none⟩)) rfl (ea (oD rfl ?_))));have I:eJ 56 #[.pointer (some ⟨t.tk,0,none⟩),i6 k] w (λ_ w'=>hW t b (if k=t.tV then j+1 else j) S w'):=by
    by_cases d:k=t.tV
    .rw[if_pos d,d];have x:=n (by omega);exact efO l (by omega) a
    rw[if_neg d];exact efz (by omega) d a
   refine ea (Z.call I rfl ?_);intro u w a;refine tn.nil ?_;refine m7 (aE (H _ _ (ex.region (ea (oD rfl (ea (Z.add rfl rfl (wrap_i64 (by omega)) (ea (iM rfl ?_)))))))));refine tn.nil ?_;refine aE ?_;refine⟨t.c.eg.length-(k+1),by omega,k+1,_,⟨rfl,rfl,rfl,congrArg (Value.int .i64) (by omega),trivial⟩,a,by omega,λh=>?_,λh=>?_,rfl⟩
   .rw[if_neg (by omega)];exact n (by omega)
   by_cases d:k=t.tV
   .rw[if_pos d];have:=n (by omega);omega
   rw[if_neg d];exact s (by omega)
  simp only[decide_eq_false_iff_not,Int.not_lt]at o;refine ex.exit ?_;refine u4 ?_;refine u4 ?_;refine yl (m7 (aE (B _ _ (ex.region (ea (oD rfl (ea (Z.add rfl rfl (wrap_i64 (by omega)) (ea (iM rfl ?_))))))))));refine tn.nil ?_;refine aE ?_;have x:=s (by omega);subst x;exact⟨5-(i+1),by omega,i+1,⟨rfl,rfl,congrArg (Value.int .i64) (by omega),trivial⟩,a,by omega,rfl⟩
 obtain rfl:i=5:=by omega
 refine ea (Z.call (efT a) rfl ?_);rintro _ w ⟨rfl,a⟩;refine ea (oM (v:=.tuple #[i6 0,i6 0,i6 0]) rfl ?_)
 iterate 3 refine ea (Z.extract rfl rfl ?_)
 iterate 3 refine ea (iM rfl ?_)
 refine tn.nil ?_;refine aE (p _ _ (ex.seq (λC r=>(ex.seq (λD m=>(ex.region (ea (oD rfl (ea (pG rfl (Z.eql rfl rfl ⟨rfl,rfl⟩) (ea (di rfl (sk 21 rfl rfl rfl (ea (oM (v:=.pointer (some ⟨t.tk,0,none⟩)) rfl (sk 21 rfl rfl rfl (ea (Z.call (efA a) rfl ?_))))))))))))))))));rintro _ w ⟨rfl,a⟩;refine sk 21 rfl rfl rfl (ea (pG rfl (Z.neq rfl rfl ⟨rfl,rfl⟩) (ea (m9 rfl rfl ?_))));refine tn.nil ?_;refine aE (m _ _ ?_);refine zb rfl ?_;refine ex.ret ?_;refine pP ?_;refine kC ?_;refine pP ?_;refine pP ?_;refine kC ?_;refine cI .nil ?_;exact⟨rfl,a⟩
end
end Go.Fer
