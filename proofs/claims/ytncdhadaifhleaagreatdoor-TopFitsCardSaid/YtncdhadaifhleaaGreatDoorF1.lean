import Derived.Test.YtncdhadaifhleaaGreatDoorRows
import Derived.WalkKit
import Derived.ProofKit
import Derived.StillTail
import Derived.JoinedCond
import Derived.Laws.OwnMore
set_option linter.all false
set_option synthInstance.maxSize 100000
set_option synthInstance.maxHeartbeats 400000
set_option maxHeartbeats 8000000
set_option maxRecDepth 100000
namespace Go.Fer
open Go Go.RowKit
section
variable{P:Program}{g:FuncId}{w:World}{R:Value->World->Prop}{t:Tmp}{aw:List ResultVar}{vs:List Value}{n:Nat}{a:Act}{fn:Func}
abbrev tr:=Nat->Value
def o2(f:tr)(d:Nat)(v:Value):tr:=λi=>cond (Nat.beq i d) v (f i)
def dB(f:tr):Option Tmp->Value->tr
 |some d,v=>o2 f d v
 |none,_=>f
def eC(f:tr):Operand->Value
 | .tmp t=>f t
 | .const v=>v
 | .global g=>.pointer (some ⟨g,0,none⟩)
 | .func g=>.func (.func g) #[] #[]
def mq(l:List Value):tr:=λi=>(l[i]?).getD undef
theorem y9(f:tr)(d:Nat)(v:Value):o2 f d v d=v:=by simp[o2]
theorem kN(f:tr){d i:Nat}(v:Value)(h:i≠d):o2 f d v i=f i:=by
 have:Nat.beq i d=false:=by rw[<-Bool.not_eq_true,Nat.beq_eq];exact h
 simp[o2,this]
class lH where
 uZ:List Deferred
instance vu:lH:=⟨[]⟩
section
variable[D:lH]
structure sa(n:Nat)(a:Act)(f:tr):Prop where
 defers:a.defers=D.uZ
 size:a.tmps.size=n
 aQ:∀i,a.tmps.getD i undef=f i
theorem sa.eval{n:Nat}{a:Act}{f:tr}(h:sa n a f):a.eval=eC f:=by
 funext x;cases x with
 |tmp t=>exact h.aQ t
 |_=>rfl
theorem sa.put{n:Nat}{a:Act}{f:tr}(h:sa n a f){dst:Option Tmp}(hd:∀d,dst=some d->d<n)(v:Value):
 sa n (a.put dst v) (dB f dst v):=by
 cases dst with
 |none=>exact h
 |some d=>
  have b:=hd d rfl;refine⟨h.defers,by simp[Act.put,h.size],λi=>?_⟩;by_cases ey:i=d
  .subst ey;simp only[dB,y9,Act.put];have:i<a.tmps.size:=by rw[h.size];exact b
   simp[this]
  simp only[dB,kN f v ey,Act.put];rw[<-h.aQ i];simp[Array.getElem?_setIfInBounds_ne (Ne.symm ey)]
theorem sa.M0{n:Nat}{a:Act}{f:tr}{dst:Option Tmp}{v:Value}(h:sa n (a.put dst v) f):sa n a (λi=>a.tmps.getD i undef):=by
 cases dst with
 |none=>exact⟨h.defers,h.size,λ_=>rfl⟩
 |some d=>exact⟨h.defers,by have:=h.size;simpa[Act.put]using this,λ_=>rfl⟩
@[irreducible] def Z (P:Program) (f:tr) (o:Oper) (w:World) (R:Value->World->Prop):Prop:=
 match(execOp (eC f) o).run P w with
 | .ok (.value v) w'=>R v w'
 | .ok .skip w'=>R undef w'
 | .ok (.enter g args) w'=>Calls P g args w' λe hl=>∃v,e= .returned v/\R v hl
 |_=>False
theorem Hm{P:Program}{f:tr}{o:Oper}{w:World}{R R':Value->World->Prop}(h:Z P f o w R)(a:∀v w',R v w'->R' v w'):Z P f o w R':=by
 unfold Z at*;generalize(execOp (eC f) o).run P w=r at*;cases r with
 |ok x w'=>
  cases x<;>first
   |exact a _ _ h
   |exact(h:False).elim
   |exact Calls.mono h λe w'⟨v,b,tC⟩=>⟨v,b,a _ _ tC⟩
 |halt x w'=>exact(h:False).elim
theorem pL{P:Program}{n:Nat}{a:Act}{f:tr}{o:Oper}{w:World}{R:Value->World->Prop}{K:Act->World->Prop}{Q:Exit->Act->World->Prop}
 (c:sa n a f) (h:Z P f o w R) (b:∀v w',R v w'->K (a.put o.dst v) w'):o.wp P a w K Q:=by
 unfold Z at h;unfold Oper.wp;rw[c.eval];generalize(execOp (eC f) o).run P w=r at*;cases r with
 |ok x w'=>
  cases x<;>simp only[Oper.upon]at* <;>try exact b _ _ h
  all_goals first
   |exact(h:False).elim
   |(refine Calls.mono h λe g⟨v,d,tC⟩=>?_
     subst d;exact b _ _ tC)
 |halt x w'=>exact(h:False).elim
@[irreducible] def tn (P:Program) (n:Nat) (ops:Array Oper) (Q:Exit->tr->World->Prop) (l:List Oper) (f:tr) (w:World):Prop:=
 ∀a,sa n a f->wpList P ops (λe tm w'=>∃an,sa n tm an/\Q e an w') l a w
@[irreducible] def ex (P:Program) (n:Nat) (c:Code) (Q:Exit->tr->World->Prop) (f:tr) (w:World):Prop:=
 ∀a,sa n a f->c.wp P (λe tm w'=>∃an,sa n tm an/\Q e an w') a w
def fE(K:tr->World->Prop)(Q:Exit->tr->World->Prop):Exit->tr->World->Prop
 | .normal,f,w=>K f w
 |e,f,w=>Q e f w
def blockQ(id:Nat)(Q:Exit->tr->World->Prop):Exit->tr->World->Prop
 | .exit vm,f,w=>cond (Nat.beq vm id) (Q .normal f w) (Q (.exit vm) f w)
 |e,f,w=>Q e f w
section
variable{P:Program}{n:Nat}{ops:Array Oper}{Q:Exit->tr->World->Prop}{f:tr}{w:World}
theorem tn.nil(h:Q .normal f w):tn P n ops Q [] f w:=by
 unfold tn;exactλa ep=>⟨f,ep,h⟩
theorem tn.cons{d:Option Tmp}{op:Op}{T:TypeId}{pos:String}{eO:Array Edge}{rest:List Oper}
 (h:Z P f ⟨d,op,T,pos,eO,none⟩ w (λv w'=>tn P n ops Q rest (dB f d v) w'))
 (hd:∀x,d=some x->x<n):tn P n ops Q (⟨d,op,T,pos,eO,none⟩::rest) f w:=by
 unfold tn at h⊢;intro a ep;refine wpList_plain rfl λK b=>pL ep h λv w' tC=>b _ _ ?_;exact tC _ (ep.put hd v)
theorem tn.op{d:Nat}{op:Op}{T:TypeId}{pos:String}{eO:Array Edge}{rest:List Oper}(hd:Nat.blt d n=true)
 (h:Z P f ⟨some d,op,T,pos,eO,none⟩ w (λv w'=>tn P n ops Q rest (o2 f d v) w')):
 tn P n ops Q (⟨some d,op,T,pos,eO,none⟩::rest) f w:=
 tn.cons (d:=some d) h (by intro x a;cases a;simpa using hd)
theorem Hf{op:Op}{T:TypeId}{pos:String}{eO:Array Edge}{rest:List Oper}
 (h:Z P f ⟨none,op,T,pos,eO,none⟩ w (λ_ w'=>tn P n ops Q rest f w')):
 tn P n ops Q (⟨none,op,T,pos,eO,none⟩::rest) f w:=
 tn.cons (d:=none) h (by intro x a;cases a)
theorem vf{a:Act}(ep:sa n a f){t:Nat}(b:t<n):a.tmps[t]? =some (f t):=by
 have c:t<a.tmps.size:=by rw[ep.size];exact b
 have:=ep.aQ t;rw[<-this];simp[c]
theorem tn.guard{d:Nat}{op:Op}{T:TypeId}{pos:String}{eO:Array Edge}{g:Nat}{a1:Bool}{rest:List Oper}(b:Bool)(t:Nat)
 (i:(ops[g]?).bind (·.dst)=some t) (j:Nat.blt t n=true) (k:f t= .bool b) (hd:Nat.blt d n=true)
 (l:b=a1->tn P n ops Q (⟨some d,op,T,pos,eO,none⟩::rest) f w)
 (m:b=(!a1) ->tn P n ops Q rest (o2 f d undef) w):tn P n ops Q (⟨some d,op,T,pos,eO,some (g,a1)⟩::rest) f w:=by
 unfold tn at*;intro a ep;have e:yielded ops a.tmps g=some b:=by
  unfold yielded;simp only[i,Option.bind_some,vf ep (t:=t) (by simpa using j),k]
 by_cases c:b=a1
 .have h:=l c a ep;simp only[wpList,Region.wanted]at h⊢;simp only[e,c,beq_self_eq_true,if_true]at h⊢;exact h
 have o:b= !a1:=by cases b<;>cases a1<;>simp_all
 have h:=m o _ (ep.put (dst:=some d) (by intro x p;cases p;simpa using hd) undef);simp only[wpList,Region.wanted,e];have:(some b==some a1)=false:=by simp[c]
 simp only[this];exact h
end
section
variable{P:Program}{n:Nat}{Q:Exit->tr->World->Prop}{f:tr}{w:World}
theorem ex.region{id:Nat}{l:List Oper}(h:tn P n l.toArray Q l f w):ex P n (.region id l.toArray false) Q f w:=by
 unfold ex;unfold tn at h;exactλa ep=>wp_region_lit (h a ep)
theorem ex.mono{c:Code}{b:Exit->tr->World->Prop}(h:ex P n c Q f w)(d:∀e f w,Q e f w->b e f w):ex P n c b f w:=by
 unfold ex at*;exactλa ep=>wp_mono (h a ep) λe a w⟨an,g,q⟩=>⟨an,g,d _ _ _ q⟩
theorem ex.seq{n3 nr:Code}(h:∀K:tr->World->Prop,(∀f w,ex P n nr Q f w->K f w) ->ex P n n3 (fE K Q) f w):ex P n (.seq n3 nr) Q f w:=by
 have h:=h (λf w=>∀(a:Act),sa n a f->nr.wp P (λe tm w'=>∃an,sa n tm an/\Q e an w') a w) (λ_ _ h=>by unfold ex at h;exact h);unfold ex at h⊢;intro a ep;refine wp_seq (wp_mono (h a ep) λe tm w'⟨an,b,q⟩=>?_);cases e with
 |normal=>
  exact q tm b
 |_=>exact⟨an,b,q⟩
theorem lK{n3 nr:Code}(M:tr->World->Prop)(G:ex P n n3 (fE M Q) f w)(Y:∀f w,M f w->ex P n nr Q f w):ex P n (.seq n3 nr) Q f w:=
 ex.seq λK a=>ex.mono G λe f w q=>by
  cases e with
  |normal=>exact a _ _ (Y _ _ q)
  |_=>exact q
theorem ex.cond{c:Operand}{x y:Code}(b:Bool)(e:eC f c= .bool b)(g:b=true->ex P n x Q f w)(h:b=false->ex P n y Q f w):
 ex P n (.cond c x y) Q f w:=by
 unfold ex at*;intro a ep;have i:a.eval c= .bool b:=by rw[ep.eval];exact e
 exact wp_cond_split i (λd=>g d a ep) (λd=>h d a ep)
theorem ex.block{id:Nat}{c:Code}(h:ex P n c (blockQ id Q) f w):ex P n (.block id c) Q f w:=by
 unfold ex at*;intro a ep;refine wp_block (wp_mono (h a ep) λe tm w'⟨an,b,q⟩=>?_);cases e with
 |exit g=>
  simp only[Exit.inBlock];split
  .rename_i d;subst d;exact⟨an,b,by simpa[blockQ]using q⟩
  rename_i d;have:Nat.beq g id=false:=by rw[<-Bool.not_eq_true,Nat.beq_eq];exact d
  exact⟨an,b,by simpa[blockQ,this]using q⟩
 |_=>exact⟨an,b,q⟩
theorem ex.skip(h:Q .normal f w):ex P n .skip Q f w:=by unfold ex;exactλa ep=>wp_skip ⟨f,ep,h⟩
theorem ex.exit{id:Nat}(h:Q (.exit id) f w):ex P n (.exit id) Q f w:=by unfold ex;exactλa ep=>wp_exit ⟨f,ep,h⟩
theorem ex.ret(h:Q .ret f w):ex P n .ret Q f w:=by unfold ex;exactλa ep=>wp_ret ⟨f,ep,h⟩
theorem ex.loop{c:Code}(I:Nat->tr->World->Prop)(m:Nat)(em:I m f w)
 (round:∀m f w,I m f w->ex P n c (fE (λan w'=>∃o,o<m/\I o an w') Q) f w):ex P n (.loop c) Q f w:=by
 unfold ex at*;intro a ep;have key:∀(m:Nat)(a:Act)(f:tr)(w:World),sa n a f->I m f w->(Code.loop c).wp P (λe tm w'=>∃an,sa n tm an/\Q e an w') a w:=by
  intro m a f w ep p b k cs;have q:∀(m:Nat)(a:Act)(f:tr)(w:World),sa n a f->I m f w->
   ∃e tm w',(∃an,sa n tm an/\Q e an w')/\Arrives P (lone (b.at a (.code c:: .inLoop c::k)) cs w) b k cs e tm w':=by
   intro m;induction m using Nat.strongRecOn with
   |_ m r=>
    intro a f w ep p;obtain⟨e,h,i,⟨an,j,d⟩,g⟩:=round m f w p a ep b (.inLoop c::k) cs;cases e with
    |normal=>
     obtain⟨o,th,s⟩:=d;obtain⟨t,u,v,y,z⟩:=r o th h an i j s;exact⟨t,u,v,y,.of_steps (Steps.trans g (.one step_inLoop)) z⟩
    |exit id=>exact⟨_,h,i,⟨an,j,d⟩,.pass (x:=.inLoop c) rfl (λ_ _=>.inl (by simp)) g⟩
    |goto l=>exact⟨_,h,i,⟨an,j,d⟩,.pass (x:=.inLoop c) rfl (λ_ _=>.inl (by simp)) g⟩
    |ret=>exact⟨_,h,i,⟨an,j,d⟩,.pass (x:=.inLoop c) rfl (λ_ _=>.inl (by simp)) g⟩
    |panic ch=>exact⟨_,h,i,⟨an,j,d⟩,.pass (x:=.inLoop c) rfl (λ_ _=>.inl (by simp)) g⟩
    |outgrown=>exact⟨_,h,i,⟨an,j,d⟩,.pass (x:=.inLoop c) rfl (λ_ _=>.inl (by simp)) g⟩
  obtain⟨e,tm,w',d,g⟩:=q m a f w ep p;exact⟨e,tm,w',d,.of_steps (.one step_loop) g⟩
 exact key m a f w ep em
end
end
@[irreducible] def nk (P:Program) (g:FuncId) (args:Array Value) (w:World) (R:Value->World->Prop):Prop:=
 Calls P g args w λe w'=>∃v,e= .returned v/\R v w'
theorem nk.mono{args:Array Value}{R':Value->World->Prop}(h:nk P g args w R)(a:∀v w',R v w'->R' v w'):nk P g args w R':=by
 unfold nk at*;exact Calls.mono h λe w'⟨v,b,tC⟩=>⟨v,b,a _ _ tC⟩
@[irreducible] def s0 (P:Program) (T:TypeId) (w:World) (ov v:Value):Prop:=
 ∃oI,ov= .pointer (some oI)/\(loadVar T oI).run P w= .ok v w
inductive hY(P:Program)(f:tr)(w:World):List ResultVar->List Value->Prop
 |nil:hY P f w [] []
 |tmp {t:Tmp} {aw:List ResultVar} {vs:List Value} (h:hY P f w aw vs):hY P f w (.tmp t::aw) (f t::vs)
 |cell {a:Tmp} {T:TypeId} {v:Value} {aw:List ResultVar} {vs:List Value} (eM:s0 P T w (f a) v) (h:hY P f w aw vs):hY P f w (.cell a T::aw) (v::vs)
theorem hY.yi{f:tr}{v:Value}(tC:f t=v)(h:hY P f w aw vs):hY P f w (.tmp t::aw) (v::vs):=by subst tC;exact .tmp h
theorem hY.hB{f:tr}{k:IntKind}{n:Int}(tC:f t= .int k n)(h:hY P f w aw vs):hY P f w (.tmp t::aw) (.int k n::vs):=.yi tC h
def u0:List Value->Value
 |[v]=>v
 |vs=>.tuple vs.toArray
def x9(P:Program)(aw:List ResultVar)(R:Value->World->Prop):Exit->tr->World->Prop
 | .normal,f,w| .ret,f,w=>∃vs,hY P f w aw vs/\R (u0 vs) w
 |_,_,_=>False
theorem cI{f:tr}(h:hY P f w aw vs)(a:R (u0 vs) w):x9 P aw R .ret f w:=⟨vs,h,a⟩
theorem Xg{f:tr}(h:hY P f w aw vs)(a:R (u0 vs) w):x9 P aw R .normal f w:=⟨vs,h,a⟩
theorem Hq{α a:Type}(P:Program)(w:World)(g:α->Sem a):∀(l:List α)(vs:List a),(∀(i:Nat)(x:α),l[i]? =some x->∃v,vs[i]? =some v/\(g x).run P w= .ok v w) ->l.length=vs.length->(l.mapM g).run P w= .ok vs w
 |[],[],_,_=>by simp
 |x::l,v::vs,h,eM=>by
  obtain⟨f,b,c⟩:=h 0 x rfl;simp at b;subst b;have d:=Hq P w g l vs (λi x e=>by simpa using h (i+1) x (by simpa using e)) (by simpa using eM);simp[List.mapM_cons,c,d]
 |[],_::_,_,eM=>by simp at eM
 |_::_,[],_,eM=>by simp at eM
theorem hY.len{f:tr}(h:hY P f w aw vs):aw.length=vs.length:=by
 induction h<;>simp_all
def TH(tmps:Array Value):ResultVar->Sem Value
 | .tmp t=>pure (tmps.getD t undef)
 | .cell a t=>do loadVar t (<-asAddr (tmps.getD a undef))
theorem hY.Xw{f:tr}(ep:sa n a f)(h:hY P f w aw vs):
 ∀(i:Nat)(x:ResultVar),aw[i]? =some x->∃v,vs[i]? =some v/\(TH a.tmps x).run P w= .ok v w:=by
 induction h with
 |nil=>intro i x b;simp at b
 | @tmp t aw vs h d=>
   intro i x b;cases i with
   |zero=>simp at b;subst b;exact⟨_,rfl,by simp only[TH,ep.aQ];rfl⟩
   |succ i=>simpa using d i x (by simpa using b)
 | @cell c T v aw vs eM h d=>
   intro i x b;cases i with
   |zero=>
    simp at b;subst b;unfold s0 at eM;obtain⟨j,e,g⟩:=eM;refine⟨v,rfl,?_⟩;simp only[TH,ep.aQ,e,asAddr,pure_bind];exact g
   |succ i=>simpa using d i x (by simpa using b)
theorem hY.run{f:tr}(ep:sa n a f)(h:hY P f w fn.results.toList vs):
 (results fn a.tmps).run P w= .ok (u0 vs) w:=by
 have b:results fn a.tmps=(do let vs<-fn.results.mapM (TH a.tmps);pure (if h:vs.size=1 then vs[0]else .tuple vs)):=by
  unfold results;congr 1
 have c:=Hq P w (TH a.tmps) fn.results.toList vs (h.Xw ep) h.len;rw[b,Array.mapM_eq_mapM_toList];simp only[Sem.run_bind,Sem.run_map,c,Result.andThen_ok,Sem.run_pure];congr 1
 match vs with
 |[]=>simp[u0]
 |[v]=>simp[u0]
 |v::u::vs=>simp[u0]
theorem nk.enter{c:Code}{args:List Value}
 (f:P.funcs[g]? =some fn) (j:fn.body=some c) (k:fn.ntmps=n) (b:fn.results=aw.toArray) (l:Nat.ble args.length n=true)
 (h:ex P n c (x9 P aw R) (mq args) w):nk P g args.toArray w R:=by
 unfold nk;refine calls_of_wp f j ?_;unfold ex at h;have p:args.length<=n:=by simpa using l
 have m:sa n {tmps:=args.toArray++Array.replicate (fn.ntmps-args.toArray.size) undef,defers:=[]} (mq args):=by
  refine⟨rfl,by simp[k];omega,λi=>?_⟩;simp only[mq,Array.getD_eq_getD_getElem?,Array.getElem?_append,List.size_toArray];split
  .simp
  rename_i ey;have:args[i]? =none:=List.getElem?_eq_none (by omega);simp only[this,Option.getD_none,Array.getElem?_replicate];split<;>rfl
 have o:fn.results.toList=aw:=by rw[b]
 subst o;refine wp_mono (h _ m) λe a w⟨an,b,q⟩=>?_;cases e with
 |normal=>
  obtain⟨vs,tC,d⟩:=q;exact⟨b.defers,_,tC.run b,_,rfl,d⟩
 |ret=>
  obtain⟨vs,tC,d⟩:=q;exact⟨b.defers,_,tC.run b,_,rfl,d⟩
 |_=>exact(q:False).elim
end
section
variable{b:Nat}{w w' w0:World}
abbrev eB(w w':World):Prop:=Below w.heap.size w w'
theorem eB.refl(w:World):eB w w:=Below.refl _ _
theorem eB.trans{a b c:World}(h:eB a b)(k:eB b c):eB a c:=Below.trans h (Below.mono k h.size)
theorem eB.drawn(w:World)(n:Nat):eB w {w with drawn:=n}:=⟨rfl,rfl,rfl,Nat.le_refl _,λ_ _=>rfl⟩
theorem eB.get(h:eB w w'){o:Obj}(a:w.heap[b]? =some o):w'.heap[b]? =some o:=by
 rw[h.block b (Array.getElem?_eq_some_iff.1 a).1];exact a
theorem eB.cell(h:eB w w'){a:Addr}{v:Value}(b:w.cell? a=some v):w'.cell? a=some v:=by
 rw[World.cell?_of_block (w:=w) (h.block a.block (World.block_lt_of_cell? w a b))];exact b
theorem eB.alloc(w:World)(o:Obj):eB w (w.alloc o):=(Below.refl _ _).alloc (Nat.le_refl _) o
structure eL where
 F:Nat->Prop
 A:World->Prop
 eQ:∀w w':World,(∀b,F b->w'.heap[b]? =w.heap[b]?) ->A w->A w'
structure U(w0:World)(S:List eL)(w:World):Prop where
 J:eB w0 w
 yn:S.Pairwise (λa b=>∀k,a.F k->¬b.F k)
 all:∀e∈S,e.A w/\∀k,e.F k->w0.heap.size<=k/\k<w.heap.size
theorem eG(w:World):U w [] w:=⟨eB.refl w,List.Pairwise.nil,by simp⟩
theorem U.ei{S:List eL}(h:U w0 S w)(c:eB w w'):U w0 S w':=
 ⟨h.J.trans c,h.yn,λe a=>⟨e.eQ w w' (λb f=>c.block b ((h.all e a).2 b f).2) (h.all e a).1,λk d=>⟨((h.all e a).2 k d).1,Nat.lt_of_lt_of_le ((h.all e a).2 k d).2 c.size⟩⟩⟩
theorem U.new{S:List eL}(h:U w0 S w)(d:eB w w'){e:eL}(f:e.A w')(c:∀k,e.F k->w.heap.size<=k/\k<w'.heap.size):U w0 (e::S) w':=by
 have h':=h.ei d;refine⟨h'.J,List.Pairwise.cons (λx a k b g=>?_) h'.yn,λx a=>?_⟩
 .have:=((h.all x a).2 k g).2;have:=(c k b).1;omega
 rcases List.mem_cons.1 a with rfl|a
 .exact⟨f,λk b=>⟨Nat.le_trans h.J.size (c k b).1,(c k b).2⟩⟩
 exact h'.all x a
theorem U.sub{S tg:List eL}(h:U w0 S w)(a:tg.Sublist S):U w0 tg w:=
 ⟨h.J,h.yn.sublist a,λe b=>h.all e (a.subset b)⟩
inductive tX(e:eL):List eL->Prop
 |nU {S:List eL}:tX e (e::S)
 |ee {x:eL} {S:List eL} (h:tX e S):tX e (x::S)
theorem tX.mem{e:eL}{S:List eL}(h:tX e S):e∈S:=by
 induction h with
 |nU=>exact List.mem_cons_self
 |ee _ a=>exact List.mem_cons_of_mem _ a
theorem U.get{S:List eL}{e:eL}(h:U w0 S w)(a:tX e S):e.A w:=(h.all e a.mem).1
inductive iD(e oZ:eL):List eL->List eL->Prop
 |nU {S:List eL}:iD e oZ (e::S) (oZ::S)
 |ee {x:eL} {S tg:List eL} (h:iD e oZ S tg):iD e oZ (x::S) (x::tg)
theorem iD.kR{e oZ:eL}{S tg:List eL}(h:iD e oZ S tg):tX e S:=by
 induction h with
 |nU=>exact .nU
 |ee _ a=>exact .ee a
section
variable{e oZ:eL}{S:List eL}{eE te tO af aT oP iN nB sb rF ld dw cu cN:eL}
theorem tX.em:tX e (e::S):=.nU
theorem iD.em:iD e oZ (e::S) (oZ::S):=.nU
theorem tX.G:tX e (eE::e::S):=.ee .em
theorem iD.G:iD e oZ (eE::e::S) (eE::oZ::S):=.ee .em
theorem tX.Y:tX e (eE::te::e::S):=.ee .G
theorem iD.Y:iD e oZ (eE::te::e::S) (eE::te::oZ::S):=.ee .G
theorem tX.ez:tX e (eE::te::tO::e::S):=.ee .Y
theorem iD.ez:iD e oZ (eE::te::tO::e::S) (eE::te::tO::oZ::S):=.ee .Y
theorem tX.e6:tX e (eE::te::tO::af::e::S):=.ee .ez
theorem iD.e6:iD e oZ (eE::te::tO::af::e::S) (eE::te::tO::af::oZ::S):=.ee .ez
theorem tX.ac:tX e (eE::te::tO::af::aT::e::S):=.ee .e6
theorem iD.ac:iD e oZ (eE::te::tO::af::aT::e::S) (eE::te::tO::af::aT::oZ::S):=.ee .e6
theorem tX.aW:tX e (eE::te::tO::af::aT::oP::e::S):=.ee .ac
theorem iD.aW:iD e oZ (eE::te::tO::af::aT::oP::e::S) (eE::te::tO::af::aT::oP::oZ::S):=.ee .ac
theorem tX.nf:tX e (eE::te::tO::af::aT::oP::iN::e::S):=.ee .aW
theorem iD.nf:iD e oZ (eE::te::tO::af::aT::oP::iN::e::S) (eE::te::tO::af::aT::oP::iN::oZ::S):=.ee .aW
theorem tX.nE:tX e (eE::te::tO::af::aT::oP::iN::nB::e::S):=.ee .nf
theorem iD.nE:iD e oZ (eE::te::tO::af::aT::oP::iN::nB::e::S) (eE::te::tO::af::aT::oP::iN::nB::oZ::S):=.ee .nf
theorem tX.n9:tX e (eE::te::tO::af::aT::oP::iN::nB::sb::e::S):=.ee .nE
theorem iD.n9:iD e oZ (eE::te::tO::af::aT::oP::iN::nB::sb::e::S) (eE::te::tO::af::aT::oP::iN::nB::sb::oZ::S):=.ee .nE
theorem tX.hR:tX e (eE::te::tO::af::aT::oP::iN::nB::sb::rF::e::S):=.ee .n9
theorem iD.hR:iD e oZ (eE::te::tO::af::aT::oP::iN::nB::sb::rF::e::S) (eE::te::tO::af::aT::oP::iN::nB::sb::rF::oZ::S):=.ee .n9
theorem tX.dN:tX e (eE::te::tO::af::aT::oP::iN::nB::sb::rF::ld::e::S):=.ee .hR
theorem iD.dN:iD e oZ (eE::te::tO::af::aT::oP::iN::nB::sb::rF::ld::e::S) (eE::te::tO::af::aT::oP::iN::nB::sb::rF::ld::oZ::S):=.ee .hR
theorem tX.u1:tX e (eE::te::tO::af::aT::oP::iN::nB::sb::rF::ld::dw::e::S):=.ee .dN
theorem tX.mz:tX e (eE::te::tO::af::aT::oP::iN::nB::sb::rF::ld::dw::cu::e::S):=.ee .u1
theorem iD.mz:iD e oZ (eE::te::tO::af::aT::oP::iN::nB::sb::rF::ld::dw::cu::e::S) (eE::te::tO::af::aT::oP::iN::nB::sb::rF::ld::dw::cu::oZ::S):=.ee (.ee .dN)
theorem tX.ak:tX e (eE::te::tO::af::aT::oP::iN::nB::sb::rF::ld::dw::cu::cN::e::S):=.ee .mz
theorem iD.ak:iD e oZ (eE::te::tO::af::aT::oP::iN::nB::sb::rF::ld::dw::cu::cN::e::S) (eE::te::tO::af::aT::oP::iN::nB::sb::rF::ld::dw::cu::cN::oZ::S):=.ee .mz
end
structure qK(F:Nat->Prop)(w w':World):Prop where
 os:w'.os=w.os
 tape:w'.tape=w.tape
 output:w'.output=w.output
 size:w.heap.size<=w'.heap.size
 block:∀k,k<w.heap.size->¬F k->w'.heap[k]? =w.heap[k]?
theorem iD.Xb{e oZ:eL}{S tg:List eL}(h:iD e oZ S tg):∀x,x∈tg->x=oZ∨x∈S:=by
 induction h with
 |nU=>intro x a;rcases List.mem_cons.1 a with h|h;exact .inl h;exact .inr (List.mem_cons_of_mem _ h)
 |ee _ b=>
  intro x a;rcases List.mem_cons.1 a with h|h
  .subst h;exact .inr List.mem_cons_self
  rcases b x h with h|h
  .exact .inl h
  exact .inr (List.mem_cons_of_mem _ h)
theorem lk{e oZ:eL}(f:qK e.F w w')(o:oZ.A w')
 (j:∀k,oZ.F k->e.F k∨(w.heap.size<=k/\k<w'.heap.size)):
 ∀{S tg:List eL},U w0 S w->iD e oZ S tg->U w0 tg w':=by
 intro S tg h g;have lL:eB w0 w':=by
  refine⟨f.os.trans h.J.os,f.tape.trans h.J.tape,f.output.trans h.J.output,Nat.le_trans h.J.size f.size,λk d=>?_⟩;rw[f.block k (Nat.lt_of_lt_of_le d h.J.size) (λp=>by have:=((h.all e g.kR.mem).2 k p).1;omega)];exact h.J.block k d
 have key:∀{S tg:List eL},iD e oZ S tg->S.Pairwise (λa b=>∀k,a.F k->¬b.F k) ->(∀x∈S,x.A w/\∀k,x.F k->w0.heap.size<=k/\k<w.heap.size) ->
  tg.Pairwise (λa b=>∀k,a.F k->¬b.F k)/\∀x∈tg,x.A w'/\∀k,x.F k->w0.heap.size<=k/\k<w'.heap.size:=by
  have other:∀x:eL,(∀k,x.F k->¬e.F k) ->(x.A w/\∀k,x.F k->w0.heap.size<=k/\k<w.heap.size) ->x.A w'/\∀k,x.F k->w0.heap.size<=k/\k<w'.heap.size:=
   λx hd c=>⟨x.eQ w w' (λb l=>f.block b (c.2 b l).2 (hd b l)) c.1,λk d=>⟨(c.2 k d).1,Nat.lt_of_lt_of_le (c.2 k d).2 f.size⟩⟩
  have q:(e.A w/\∀k,e.F k->w0.heap.size<=k/\k<w.heap.size) ->oZ.A w'/\∀k,oZ.F k->w0.heap.size<=k/\k<w'.heap.size:=λm=>⟨o,λk d=>by
   rcases j k d with G|G
   .exact⟨(m.2 k G).1,Nat.lt_of_lt_of_le (m.2 k G).2 f.size⟩
   exact⟨Nat.le_trans h.J.size G.1,G.2⟩⟩
  intro S tg g;induction g with
  | @nU S=>
    intro hd ep;obtain⟨G,Y⟩:=List.pairwise_cons.1 hd;refine⟨List.pairwise_cons.2 ⟨λx c k d i=>?_,Y⟩,λx c=>?_⟩
    .rcases j k d with ez|ez
     .exact G x c k ez i
     have:=((ep x (List.mem_cons_of_mem _ c)).2 k i).2;omega
    rcases List.mem_cons.1 c with rfl|c
    .exact q (ep e List.mem_cons_self)
    exact other x (λk d i=>G x c k i d) (ep x (List.mem_cons_of_mem _ c))
  | @ee y S tg g r=>
    intro hd ep;obtain⟨G,Y⟩:=List.pairwise_cons.1 hd;obtain⟨i1,i2⟩:=r Y λx c=>ep x (List.mem_cons_of_mem _ c);have n:∀k,y.F k->¬e.F k:=G e g.kR.mem;refine⟨List.pairwise_cons.2 ⟨λx c k d i=>?_,i1⟩,λx c=>?_⟩
    .rcases g.Xb x c with rfl|c
     .rcases j k i with ez|ez
      .exact n k d ez
      have:=((ep y List.mem_cons_self).2 k d).2;omega
     exact G x c k d i
    rcases List.mem_cons.1 c with rfl|c
    .exact other x n (ep x List.mem_cons_self)
    exact i2 x c
 obtain⟨s,t⟩:=key g h.yn h.all;exact⟨lL,s,t⟩
@[irreducible] def V (b:Nat) (cs:Array Value) (T:TypeId):eL:=
 ⟨λk=>k=b,λw=>w.heap[b]? =some (.cells cs T (0,0)),λw w' h ra=>by rw[h b rfl];exact ra⟩
theorem U.dV{S:List eL}{cs:Array Value}{T:TypeId}(h:U w0 S w)(a:tX (V b cs T) S):w.heap[b]? =some (.cells cs T (0,0)):=by
 have:=h.get a;unfold V at this;exact this
theorem U.alloc{S:List eL}(h:U w0 S w)(cs:Array Value)(T:TypeId):U w0 (V w.heap.size cs T::S) (w.alloc (.cells cs T)):=by
 refine h.new (eB.alloc w _) ?_ ?_
 .unfold V;exact heap_alloc_new w _
 unfold V;intro k a;have a:k=w.heap.size:=a;subst a;exact⟨Nat.le_refl _,by simp⟩
end
section
class nh(P:Program)(T:TypeId)(eo:outParam Nat):Prop where out:(P.info? T).map (·.size)=some eo:=by kernel_rfl
class ba(P:Program)(T:TypeId)(r8:outParam Nat):Prop where out:(P.info? T).map (·.bytes)=some r8:=by kernel_rfl
class oG(P:Program)(T:TypeId)(z:outParam Value):Prop where out:(P.info? T).bind (·.zero)=some z:=by kernel_rfl
def vg(P:Program)(T:TypeId):Option Bool:=(P.underlying T).map λ| .struct _| .array _ _=>true|_=>false
class u2(P:Program)(T:TypeId):Prop where out:vg P T=some false:=by kernel_rfl
class mE(P:Program)(T:TypeId):Prop where out:vg P T=some true:=by kernel_rfl
class hc(P:Program)(T:TypeId)(ek:outParam TypeId):Prop where out:P.underlying T=some (.slice ek)
class de(P:Program)(T:TypeId)(n:outParam Nat)(ek:outParam TypeId):Prop where out:P.underlying T=some (.array n ek)
class fA(P:Program)(T:TypeId)(ek:outParam TypeId):Prop where out:P.underlying T=some (.pointer ek)
class rP(P:Program)(T:TypeId)(K:outParam TypeId)(ek:outParam TypeId):Prop where out:P.underlying T=some (.map K ek)
class lc(P:Program)(T:TypeId)(k:outParam IntKind):Prop where out:P.underlying T=some (.int k)
class TL(P:Program)(T:TypeId):Prop where out:P.underlying T=some .bool
class dy(P:Program)(g:FuncId):Prop where out:(P.funcs[g]?).map (λfn=>fn.body.isSome&&decide (fn.name≠ "runtime.NumGoroutine"))=some true:=by kernel_rfl
class je(P:Program)(S:TypeId)(i:Nat)(off:outParam Nat):Prop where
 out:∃nx f,P.underlying S=some (.struct nx)/\nx[i]? =some f/\f.offset=off/\∃k,(P.info? f.type).map (·.size)=some (k+1)
theorem Xk{P:Program}{S i off:Nat}{nx:Array Field}{f:Field}(k:Nat)(h:P.underlying S=some (.struct nx))(G:nx[i]? =some f:=by rfl)(Y:f.offset=off:=by rfl)(ez:(P.info? f.type).map (·.size)=some (k+1):=by kernel_rfl):je P S i off:=⟨nx,f,h,G,Y,k,ez⟩
section
variable{P:Program}{w:World}
theorem m3{T eo:Nat}(h:nh P T eo)(w:World):(sizeOf T).run P w= .ok eo w:=by
 have h:=h.out;cases ey:P.info? T with
 |none=>simp[ey]at h
 |some i=>simp[ey]at h;subst h;simp[sizeOf,typeInfo,ey]
theorem vw{T:Nat}{z:Value}(h:oG P T z)(w:World):(zeroValue T).run P w= .ok z w:=by
 have h:=h.out;cases ey:P.info? T with
 |none=>simp[ey]at h
 |some i=>simp[ey]at h;simp[zeroValue,typeInfo,ey,h]
theorem TD{T:Nat}{b:Bool}(h:vg P T=some b)(w:World):(isAgg T).run P w= .ok b w:=by
 unfold vg at h;cases a:P.underlying T with
 |none=>simp[a]at h
 |some d=>
  simp[a]at h;simp only[isAgg,Sem.run_bind,run_underlying a,Result.andThen_ok];subst h;cases d<;>rfl
theorem wd(b o n:Nat):(⟨b,o,none⟩:Addr).add n=⟨b,o+n,none⟩:=by
 unfold Addr.add;split<;>simp_all
def rd(ov:Value)(n:Nat):Value:=match ov with| .pointer (some a)=>.pointer (some ⟨a.block,a.off+n,none⟩)|_=>undef
def oK(v:Value)(i eo:Nat):Value:=match v with| .slice (some a) _ _=>.pointer (some ⟨a.block,a.off+i*eo,none⟩)|_=>undef
def m4(ov:Value):Prop:=∃b o,ov= .pointer (some ⟨b,o,none⟩)
theorem m4.mk(b o:Nat):m4 (.pointer (some ⟨b,o,none⟩)):=⟨b,o,rfl⟩
theorem m4.add{ov:Value}(h:m4 ov)(n:Nat):m4 (rd ov n):=by obtain⟨b,o,rfl⟩:=h;exact⟨b,o+n,rfl⟩
def ar(w:World)(ov:Value)(x:Array Value):Prop:=
 ∃b o,ov= .pointer (some ⟨b,o,none⟩)/\∀(j:Nat)(u:Value),x[j]? =some u->w.cell? ⟨b,o+j,none⟩=some u
theorem ar.sv{ov:Value}{x:Array Value}(h:ar w ov x):m4 ov:=by obtain⟨b,o,rfl,_⟩:=h;exact⟨b,o,rfl⟩
theorem ar.ei{w':World}{ov:Value}{x:Array Value}(a:eB w w')(h:ar w ov x):ar w' ov x:=by
 obtain⟨b,o,rfl,h⟩:=h;exact⟨b,o,rfl,λj u c=>a.cell (h j u c)⟩
theorem M3{T eo:Nat}(ep:mE P T)(a:nh P T eo)(b o:Nat)(c:Array Value)(d:c.size=eo)
 (h:∀(j:Nat)(u:Value),c[j]? =some u->w.cell? ⟨b,o+j,none⟩=some u):(loadVar T ⟨b,o,none⟩).run P w= .ok (.agg c) w:=by
 simp only[loadVar,Sem.run_bind,TD ep.out,Result.andThen_ok,if_true,m3 a];have eM:c.toList.length=eo:=by simpa using d
 have:=run_loadCells_list (P:=P) w ⟨b,o,none⟩ c.toList (by intro j v tC;rw[wd];exact h j v (by simpa using tC));rw[eM]at this;simp[this]
theorem M4{T:Nat}(ep:u2 P T)(b o:Nat)(v:Value)(h:w.cell? ⟨b,o,none⟩=some v):(loadVar T ⟨b,o,none⟩).run P w= .ok v w:=by
 simp[loadVar,TD ep.out,h]
theorem s0.wc{T eo:Nat}[ep:mE P T][e:nh P T eo]{ov:Value}{x c:Array Value}(f:ar w ov x)(off:Nat)(d:x.extract off (off+eo)=c)(g:off+eo<=x.size):
 s0 P T w (rd ov off) (.agg c):=by
 unfold s0;obtain⟨b,o,rfl,h⟩:=f;refine⟨_,rfl,M3 ep e b (o+off) c (by subst d;simp;omega) λj u a=>?_⟩;subst d;have:=h (off+j) u (by
  rw[Array.getElem?_extract]at a;split at a
  .exact a
  cases a)
 rw[Nat.add_assoc];exact this
theorem dK{T:Nat}[ep:u2 P T]{ov v:Value}{x:Array Value}(a:ar w ov x)(off:Nat)(c:x[off]? =some v):s0 P T w (rd ov off) v:=by
 unfold s0;obtain⟨b,o,rfl,h⟩:=a;exact⟨_,rfl,M4 ep b (o+off) v (h off v c)⟩
theorem M5{T eo:Nat}[ep:mE P T][a:nh P T eo]{ov:Value}{x:Array Value}(c:ar w ov x)(d:x.size=eo):s0 P T w ov (.agg x):=by
 unfold s0;obtain⟨b,o,rfl,h⟩:=c;exact⟨_,rfl,M3 ep a b o x d h⟩
theorem II{T:Nat}[ep:u2 P T]{ov v:Value}{x:Array Value}(a:ar w ov x)(c:x[0]? =some v):s0 P T w ov v:=by
 unfold s0;obtain⟨b,o,rfl,h⟩:=a;exact⟨_,rfl,M4 ep b o v (h 0 v c)⟩
theorem ar.ax{T:Nat}[u2 P T]{ov v:Value}{x:Array Value}(a:ar w ov x)(b:x[0]? =some v):s0 P T w ov v:=II a b
theorem ar.nZ{T eo:Nat}[mE P T][nh P T eo]{ov:Value}{x:Array Value}(a:ar w ov x)(b:x.size=eo):s0 P T w ov (.agg x):=M5 a b
theorem TC{b j:Nat}{cs:Array Value}{T:TypeId}(h:w.heap[b]? =some (.cells cs T (0,0))):w.cell? ⟨b,j,none⟩=cs[j]? :=by simp[World.cell?,h]
theorem ar.dV{b:Nat}{cs:Array Value}{T:TypeId}(h:w.heap[b]? =some (.cells cs T (0,0))):ar w (.pointer (some ⟨b,0,none⟩)) cs:=
 ⟨b,0,rfl,λj u a=>by rw[TC h,Nat.zero_add];exact a⟩
section
variable{w0:World}{S:List eL}
theorem U.tU{b:Nat}{cs:Array Value}{ek:TypeId}(h:U w0 S w)(a:tX (V b cs ek) S):ar w (.pointer (some ⟨b,0,none⟩)) cs:=ar.dV (h.dV a)
theorem U.nZ{T eo b:Nat}[mE P T][nh P T eo]{cs:Array Value}{ek:TypeId}(h:U w0 S w)(a:tX (V b cs ek) S)(c:cs.size=eo):s0 P T w (.pointer (some ⟨b,0,none⟩)) (.agg cs):=M5 (h.tU a) c
theorem U.HE{T eo b o:Nat}[mE P T][nh P T eo]{cs c:Array Value}{ek:TypeId}(h:U w0 S w)(a:tX (V b cs ek) S)(d:cs.extract o (o+eo)=c)(e:o+eo<=cs.size):s0 P T w (.pointer (some ⟨b,o,none⟩)) (.agg c):=by
 have:=s0.wc (P:=P) (T:=T) (h.tU a) o d e;simpa[rd]using this
theorem U.aV{T b o:Nat}[u2 P T]{cs:Array Value}{v:Value}{ek:TypeId}(h:U w0 S w)(a:tX (V b cs ek) S)(c:cs[o]? =some v):s0 P T w (.pointer (some ⟨b,o,none⟩)) v:=by
 have:=dK (P:=P) (T:=T) (h.tU a) o c;simpa[rd]using this
end
end
section
variable{P:Program}{f:tr}{w:World}{R:Value->World->Prop}{d:Option Tmp}{T:TypeId}{pos:String}{eO:Array Edge}{eV:Option (Nat×Bool)}
theorem iv{o:Oper}{v:Value}{w':World}(a:(execOp (eC f) o).run P w= .ok (.value v) w')(h:R v w'):Z P f o w R:=by unfold Z;rw[a];exact h
theorem qX{o:Oper}{w':World}(a:(execOp (eC f) o).run P w= .ok .skip w')(h:R undef w'):Z P f o w R:=by unfold Z;rw[a];exact h
theorem Z.move{x:Operand}(h:R (eC f x) w):Z P f ⟨d,.move x,T,pos,eO,eV⟩ w R:=iv rfl h
theorem Z.assign{x:Operand}(h:R (eC f x) w):Z P f ⟨d,.assign x,T,pos,eO,eV⟩ w R:=iv rfl h
theorem Z.pick{c a b:Operand}{t:Bool}(e:eC f c= .bool t)(h:R (cond t (eC f a) (eC f b)) w):Z P f ⟨d,.pick c a b,T,pos,eO,eV⟩ w R:=by
 refine iv (v:=cond t (eC f a) (eC f b)) (w':=w) ?_ h;cases t<;>simp[execOp,e,asBool]
theorem Z.box{ek:TypeId}{x:Operand}{w0:World}{S:List eL}(E:U w0 S w)
 (h:∀b w',eB w w'->U w0 (V b (eC f x).cells ek::S) w'->R (.pointer (some ⟨b,0,none⟩)) w'):Z P f ⟨d,.box ek x,T,pos,eO,eV⟩ w R:=by
 refine iv (v:=.pointer (some ⟨w.heap.size,0,none⟩)) (w':=w.alloc (.cells (eC f x).cells ek)) rfl (h _ _ (eB.alloc w _) (E.alloc _ _))
theorem Z.alloc{ek:TypeId}{z:Value}[a:oG P ek z]{w0:World}{S:List eL}(E:U w0 S w)
 (h:∀b w',eB w w'->U w0 (V b z.cells ek::S) w'->R (.pointer (some ⟨b,0,none⟩)) w'):Z P f ⟨d,.alloc ek,T,pos,eO,eV⟩ w R:=by
 refine iv (v:=.pointer (some ⟨w.heap.size,0,none⟩)) (w':=w.alloc (.cells z.cells ek)) ?_ (h _ _ (eB.alloc w _) (E.alloc _ _));simp[execOp,Instr.alloc,vw a,newVar,newRow]
theorem Z.load{ek:TypeId}{x:Operand}{v:Value}(eM:s0 P ek w (eC f x) v)(h:R v w):Z P f ⟨d,.load ek x,T,pos,eO,eV⟩ w R:=by
 unfold s0 at eM;obtain⟨c,a,b⟩:=eM;refine iv (v:=v) (w':=w) ?_ h;simp[execOp,Instr.loadAt,a,Instr.sureAddr,b]
theorem Z.nilCheck{x:Operand}{ov:Value}(a:eC f x=ov)(c:m4 ov)(h:R ov w):Z P f ⟨d,.nilCheck x,T,pos,eO,eV⟩ w R:=by
 obtain⟨b,o,rfl⟩:=c;refine iv (v:=.pointer (some ⟨b,o,none⟩)) (w':=w) ?_ h;simp[execOp,a]
theorem Z.fieldAddr{s i off:Nat}[a:je P s i off]{x:Operand}{ov:Value}(c:eC f x=ov)(e:m4 ov)(h:R (rd ov off) w):Z P f ⟨d,.fieldAddr s x i,T,pos,eO,eV⟩ w R:=by
 obtain⟨b,o,rfl⟩:=e;obtain⟨nx,tT,g,j,l,k,m⟩:=a.out;refine iv (v:=rd (.pointer (some ⟨b,o,none⟩)) off) (w':=w) ?_ h;have n:(sizeOf tT.type).run P w= .ok (k+1) w:=m3 ⟨m⟩ w;simp[execOp,Instr.fieldAt,run_underlying g,j,c,Instr.sureAddr,fieldPlace,n,wd,rd,l]
theorem gI{g:FuncId}(a:dy P g)(args:Array Value)(w:World):(callFunc g args).run P w= .ok (.enter g args) w:=by
 have a:=a.out;cases b:P.funcs[g]? with
 |none=>simp[b]at a
 |some fn=>
  simp only[b,Option.map_some,Option.some.injEq,Bool.and_eq_true,decide_eq_true_eq]at a;have c:fn.body.isNone=false:=by cases h:fn.body<;>simp_all
  have d:fn.body≠none:=by intro h;simp[h]at c
  simp[callFunc,b,a.2,d]
theorem Z.call{g:FuncId}[b:dy P g]{args:Array Operand}{nN:Array TypeId}{vs:List Value}{R':Value->World->Prop}(a:nk P g vs.toArray w R')(c:args.toList.map (eC f)=vs)(h:∀v w',R' v w'->R v w'):
 Z P f ⟨d,.call {callee:=.value (.func g),args:=args,argTypes:=nN},T,pos,eO,eV⟩ w R:=by
 unfold nk at a;have ep:args.map (eC f)=vs.toArray:=by subst c;apply Array.ext';simp
 rw[<-ep]at a;have i:(execOp (eC f) ⟨d,.call {callee:=.value (.func g),args:=args,argTypes:=nN},T,pos,eO,eV⟩).run P w= .ok (.enter g (args.map (eC f))) w:=by
  simp[execOp,resolve,eC,Deferred.ofValue,invoke,gI b]
 unfold Z;rw[i];exact Calls.mono a λe w'⟨v,j,tC⟩=>⟨v,j,h _ _ tC⟩
theorem Z.extract{x:Operand}{i:Nat}{vs:Array Value}{v:Value}(a:eC f x= .tuple vs)(tC:vs[i]? =some v)(h:R v w):Z P f ⟨d,.extract x i,T,pos,eO,eV⟩ w R:=by
 refine iv (v:=v) (w':=w) ?_ h;simp[execOp,a,Instr.extract,tC]
theorem Z.len{x:Operand}{S ek n c:Nat}[b:hc P S ek]{a:Option Addr}(e:eC f x= .slice a n c)(h:R (.int .i64 n) w):
 Z P f ⟨d,.call {callee:=.builtin .len,args:=#[x],argTypes:=#[S]},T,pos,eO,eV⟩ w R:=by
 refine iv (v:=.int .i64 n) (w':=w) ?_ h;simp[execOp,resolve,invoke,builtin,Builtin.len_,e,run_underlying b.out,goInt]
theorem Z.conv{s t:TypeId}{k j:IntKind}{x:Operand}{n m:Int}[a:lc P s j][b:lc P t k](c:eC f x= .int j n)(th:k.wrap n=m)(h:R (.int k m) w):
 Z P f ⟨d,.convert s t x,T,pos,eO,eV⟩ w R:=by
 subst th;refine iv (v:=.int k (k.wrap n)) (w':=w) ?_ h;simp[execOp,convert,run_underlying a.out,run_underlying b.out,c,Conv.intToInt]
theorem Xj(op:BinOp)(t:TypeId)(x y:Operand)(k j:IntKind)(a b:Int)(w:World):(eqGuard op t x y (.int k a) (.int j b)).run P w= .ok () w:=by
 unfold eqGuard;cases op<;>rfl
theorem fO{op:BinOp}{s t:TypeId}{x y:Operand}{k j:IntKind}{a b:Int}{v:Value}(c:eC f x= .int k a)(e:eC f y= .int j b)
 (tC:(binOp op s (.int k a) (.int j b)).run P w= .ok v w) (h:R v w):Z P f ⟨d,.binOp op s x y t,T,pos,eO,eV⟩ w R:=by
 refine iv (v:=v) (w':=w) ?_ h;simp[execOp,c,e,Xj,tC]
theorem Z.lss{s t:TypeId}{x y:Operand}{k:IntKind}{a b:Int}(c:eC f x= .int k a)(e:eC f y= .int k b)(h:R (.bool (decide (a<b))) w):Z P f ⟨d,.binOp .lss s x y t,T,pos,eO,eV⟩ w R:=
 fO c e (by simp[binOp,Op.intCmp]) h
theorem Z.leq{s t:TypeId}{x y:Operand}{k:IntKind}{a b:Int}(c:eC f x= .int k a)(e:eC f y= .int k b)(h:R (.bool (decide (a<=b))) w):Z P f ⟨d,.binOp .leq s x y t,T,pos,eO,eV⟩ w R:=
 fO c e (by simp[binOp,Op.intCmp]) h
theorem Z.gtr{s t:TypeId}{x y:Operand}{k:IntKind}{a b:Int}(c:eC f x= .int k a)(e:eC f y= .int k b)(h:R (.bool (decide (b<a))) w):Z P f ⟨d,.binOp .gtr s x y t,T,pos,eO,eV⟩ w R:=
 fO c e (by simp[binOp,Op.intCmp]) h
theorem Z.geq{s t:TypeId}{x y:Operand}{k:IntKind}{a b:Int}(c:eC f x= .int k a)(e:eC f y= .int k b)(h:R (.bool (decide (b<=a))) w):Z P f ⟨d,.binOp .geq s x y t,T,pos,eO,eV⟩ w R:=
 fO c e (by simp[binOp,Op.intCmp]) h
theorem Z.eql{s t:TypeId}{x y:Operand}{k:IntKind}{a b:Int}(c:eC f x= .int k a)(e:eC f y= .int k b)(h:R (.bool (decide (a=b))) w):Z P f ⟨d,.binOp .eql s x y t,T,pos,eO,eV⟩ w R:=
 fO c e (by simp[binOp,Op.intCmp];rfl) h
theorem Z.neq{s t:TypeId}{x y:Operand}{k:IntKind}{a b:Int}(c:eC f x= .int k a)(e:eC f y= .int k b)(h:R (.bool (!decide (a=b))) w):Z P f ⟨d,.binOp .neq s x y t,T,pos,eO,eV⟩ w R:=
 fO c e (by simp[binOp,Op.intCmp];rfl) h
theorem Z.add{s t:TypeId}{x y:Operand}{k:IntKind}{a b c:Int}(e:eC f x= .int k a)(g:eC f y= .int k b)(i:k.wrap (a+b)=c)(h:R (.int k c) w):Z P f ⟨d,.binOp .add s x y t,T,pos,eO,eV⟩ w R:=
 fO e g (by subst i;simp[binOp,Op.intArith]) h
theorem Z.sub{s t:TypeId}{x y:Operand}{k:IntKind}{a b c:Int}(e:eC f x= .int k a)(g:eC f y= .int k b)(i:k.wrap (a-b)=c)(h:R (.int k c) w):Z P f ⟨d,.binOp .sub s x y t,T,pos,eO,eV⟩ w R:=
 fO e g (by subst i;simp[binOp,Op.intArith]) h
theorem Z.mul{s t:TypeId}{x y:Operand}{k:IntKind}{a b c:Int}(e:eC f x= .int k a)(g:eC f y= .int k b)(i:k.wrap (a*b)=c)(h:R (.int k c) w):Z P f ⟨d,.binOp .mul s x y t,T,pos,eO,eV⟩ w R:=
 fO e g (by subst i;simp[binOp,Op.intArith]) h
theorem Z.quo{s t:TypeId}{x y:Operand}{k:IntKind}{a b c:Int}(e:eC f x= .int k a)(g:eC f y= .int k b)(i:b≠0)(j:k.wrap (a.tdiv b)=c)(h:R (.int k c) w):Z P f ⟨d,.binOp .quo s x y t,T,pos,eO,eV⟩ w R:=
 fO e g (by subst j;simp[binOp,Op.intDiv,i]) h
theorem Z.rem{s t:TypeId}{x y:Operand}{k:IntKind}{a b c:Int}(e:eC f x= .int k a)(g:eC f y= .int k b)(i:b≠0)(j:a.tmod b=c)(h:R (.int k c) w):Z P f ⟨d,.binOp .rem s x y t,T,pos,eO,eV⟩ w R:=
 fO e g (by subst j;simp[binOp,Op.intDiv,i]) h
theorem Z.shl{s t:TypeId}{x y:Operand}{k j:IntKind}{a b c:Int}(e:eC f x= .int k a)(g:eC f y= .int j b)(i:0<=b)(l:k.wrap (a*2^(min b.toNat k.bits))=c)(h:R (.int k c) w):Z P f ⟨d,.binOp .shl s x y t,T,pos,eO,eV⟩ w R:=
 fO e g (by subst l;simp[binOp,Op.shift,Int.not_lt.2 i]) h
theorem Z.shr{s t:TypeId}{x y:Operand}{k j:IntKind}{a b c:Int}(e:eC f x= .int k a)(g:eC f y= .int j b)(i:0<=b)(l:a.fdiv (2^(min b.toNat k.bits))=c)(h:R (.int k c) w):Z P f ⟨d,.binOp .shr s x y t,T,pos,eO,eV⟩ w R:=
 fO e g (by subst l;simp[binOp,Op.shift,Int.not_lt.2 i]) h
def hH(op:BinOp)(k:IntKind)(a b:Int):Int:=
 let x:=BitVec.ofInt k.bits a
 let y:=BitVec.ofInt k.bits b
 match op with
 | .and=>k.wrap (x&&&y).toNat
 | .or=>k.wrap (x|||y).toNat
 | .xor=>k.wrap (x^^^y).toNat
 | .andNot=>k.wrap (x&&& ~~~y).toNat
 |_=>0
theorem Z.and{s t:TypeId}{x y:Operand}{k:IntKind}{a b c:Int}(e:eC f x= .int k a)(g:eC f y= .int k b)(i:hH .and k a b=c)(h:R (.int k c) w):Z P f ⟨d,.binOp .and s x y t,T,pos,eO,eV⟩ w R:=
 fO e g (by subst i;simp[binOp,Op.intBits,hH]) h
theorem Z.or{s t:TypeId}{x y:Operand}{k:IntKind}{a b c:Int}(e:eC f x= .int k a)(g:eC f y= .int k b)(i:hH .or k a b=c)(h:R (.int k c) w):Z P f ⟨d,.binOp .or s x y t,T,pos,eO,eV⟩ w R:=
 fO e g (by subst i;simp[binOp,Op.intBits,hH]) h
theorem Z.andNot{s t:TypeId}{x y:Operand}{k:IntKind}{a b c:Int}(e:eC f x= .int k a)(g:eC f y= .int k b)(i:hH .andNot k a b=c)(h:R (.int k c) w):Z P f ⟨d,.binOp .andNot s x y t,T,pos,eO,eV⟩ w R:=
 fO e g (by subst i;simp[binOp,Op.intBits,hH]) h
theorem Z.not{s:TypeId}{x:Operand}{a:Bool}(b:eC f x= .bool a)(h:R (.bool (!a)) w):Z P f ⟨d,.unOp .not s x,T,pos,eO,eV⟩ w R:=by
 refine iv (v:=.bool (!a)) (w':=w) ?_ h;simp[execOp,b,Op.unary]
theorem wrap_i64{n:Int}(h: -9223372036854775808<=n/\n<=9223372036854775807):IntKind.i64.wrap n=n:=by
 simp[IntKind.wrap,IntKind.bits,IntKind.signed];omega
theorem wrap_u64{n:Int}(h:0<=n/\n<=18446744073709551615):IntKind.u64.wrap n=n:=by
 simp[IntKind.wrap,IntKind.bits,IntKind.signed];omega
theorem M6{n:Int}(h:0<=n/\n<=255):IntKind.u8.wrap n=n:=by
 simp[IntKind.wrap,IntKind.bits,IntKind.signed];omega
theorem HT(n:Int):IntKind.u64.wrap n=n%18446744073709551616:=by simp[IntKind.wrap,IntKind.bits,IntKind.signed]
end
end
section
class O(α:Type)where
 enc:α->Array Value
 eo:Nat
 pos:0<eo
 eT:∀a,(enc a).size=eo
 one:∀a,∀u∈(enc a).toList,u.oneCell'=true
section
variable{α:Type}[O α]
def iE(xs:List α):List Value:=xs.flatMap λx=>(O.enc x).toList
theorem Xq:iE ([]:List α)=[]:=rfl
theorem yr(x:α)(xs:List α):iE (x::xs)=(O.enc x).toList++iE xs:=by simp[iE]
theorem vy(xs ys:List α):iE (xs++ys)=iE xs++iE ys:=by simp[iE]
theorem uj(xs:List α):(iE xs).length=xs.length*O.eo α:=by
 induction xs with
 |nil=>simp[iE]
 |cons x xs a=>rw[yr,List.length_append,a,Array.length_toList,O.eT,List.length_cons,Nat.add_mul];omega
theorem IN(xs:List α):∀u∈iE xs,u.oneCell'=true:=by
 intro u a;simp only[iE,List.mem_flatMap]at a;obtain⟨x,_,b⟩:=a;exact O.one x u b
theorem IS(xs:List α):∀(i:Nat)(x:α),xs[i]? =some x->∀(j:Nat)(u:Value),(O.enc x)[j]? =some u->(iE xs)[i*O.eo α+j]? =some u:=by
 induction xs with
 |nil=>intro i x a;simp at a
 |cons y ys c=>
  intro i x a j u b;have d:j<O.eo α:=by
   have:=(Array.getElem?_eq_some_iff.1 b).1;rw[O.eT]at this;exact this
  rw[yr];cases i with
  |zero=>
   simp at a;subst a;rw[Nat.zero_mul,Nat.zero_add,List.getElem?_append_left (by rw[Array.length_toList,O.eT];exact d)];simpa using b
  |succ i=>
   rw[List.getElem?_append_right (by rw[Array.length_toList,O.eT,Nat.succ_mul];omega),Array.length_toList,O.eT];have:=c i x (by simpa using a) j u b;rw[show(i+1)*O.eo α+j-O.eo α=i*O.eo α+j by rw[Nat.succ_mul];omega];exact this
theorem IR(xs:List α)(n:Nat):iE (xs.take n)=(iE xs).take (n*O.eo α):=by
 rcases Nat.le_total n xs.length with h|h
 .have e:iE xs=iE (xs.take n)++iE (xs.drop n):=by rw[<-vy,List.take_append_drop]
  rw[e,List.take_left' (by rw[uj,List.length_take,Nat.min_eq_left h])]
 rw[List.take_of_length_le h,List.take_of_length_le];rw[uj];exact Nat.mul_le_mul_right _ h
theorem IH(xs:List α)(n:Nat):iE (xs.drop n)=(iE xs).drop (n*O.eo α):=by
 rcases Nat.le_total n xs.length with h|h
 .have e:iE xs=iE (xs.take n)++iE (xs.drop n):=by rw[<-vy,List.take_append_drop]
  rw[e,List.drop_left' (by rw[uj,List.length_take,Nat.min_eq_left h])]
 rw[List.drop_of_length_le h,List.drop_of_length_le]
 .rfl
 rw[uj];exact Nat.mul_le_mul_right _ h
def Row(w:World)(oI:Addr)(l:List Value):Prop:=oI.spot=none/\∀(j:Nat)(u:Value),l[j]? =some u->w.cell? ⟨oI.block,oI.off+j,none⟩=some u
theorem Row.ei{w w':World}{a:Addr}{l:List Value}(b:eB w w')(h:Row w a l):Row w' a l:=⟨h.1,λj u c=>b.cell (h.2 j u c)⟩
def ev(w:World)(v:Value)(xs:List α):Prop:=
 ∃a cap,v= .slice a xs.length cap/\xs.length<=cap/\cap<=maxLen/\(a=none->cap=0)/\∀oI,a=some oI->0<cap->Row w oI (iE xs)
theorem ev.ei{w w':World}{v:Value}{xs:List α}(b:eB w w')(h:ev w v xs):ev w' v xs:=by
 obtain⟨a,cap,G,Y,ez,e6,ac⟩:=h;exact⟨a,cap,G,Y,ez,e6,λc d e=>(ac c d e).ei b⟩
theorem ev.nil(w:World):ev w (.slice none 0 0) ([]:List α):=⟨none,0,rfl,Nat.le_refl _,Nat.zero_le _,λ_=>rfl,by simp⟩
theorem ev.le{w:World}{v:Value}{xs:List α}(h:ev w v xs):xs.length<=maxLen:=by obtain⟨a,cap,_,G,Y,_⟩:=h;omega
theorem ev.eq{w:World}{v:Value}{xs:List α}(h:ev w v xs):∃a c,v= .slice a xs.length c:=by obtain⟨a,cap,h,_⟩:=h;exact⟨a,cap,h⟩
theorem ev.jt{w:World}{v:Value}{xs:List α}(h:ev w v xs)(em:0<xs.length):∃b cap,v= .slice (some b) xs.length cap/\xs.length<=cap/\Row w b (iE xs):=by
 obtain⟨a,cap,G,Y,ez,e6,ac⟩:=h;cases a with
 |none=>have:=e6 rfl;omega
 |some b=>exact⟨b,cap,G,Y,ac b rfl (by omega)⟩
theorem ev.tU{w:World}{v:Value}{xs:List α}(h:ev w v xs){i:Nat}{x:α}(a:xs[i]? =some x):ar w (oK v i (O.eo α)) (O.enc x):=by
 obtain⟨b,cap,rfl,_,c⟩:=h.jt (Nat.lt_of_le_of_lt (Nat.zero_le _) (List.getElem?_eq_some_iff.1 a).1);refine⟨b.block,b.off+i*O.eo α,rfl,λj u d=>?_⟩;rw[Nat.add_assoc];exact c.2 _ u (IS xs i x a j u d)
theorem ev.sv{w:World}{v:Value}{xs:List α}(h:ev w v xs){i eo:Nat}(ey:i<xs.length):m4 (oK v i eo):=by
 obtain⟨a,cap,rfl,_,b⟩:=h.jt (by omega);exact⟨a.block,_,rfl⟩
theorem ev.se{w:World}{v:Value}{xs:List α}(h:ev w v xs){i:Nat}(ey:i<xs.length):ar w (oK v i (O.eo α)) (O.enc (xs[i]'ey)):=h.tU (List.getElem?_eq_getElem ey)
def nT(v:Value)(l h m eo:Nat):Value:=match v with
 | .slice a _ _=>.slice (if m=l then a else a.map λoI=>⟨oI.block,oI.off+l*eo,none⟩) (h-l) (m-l)
 |_=>undef
def s1(v:Value):Nat:=match v with| .slice _ _ c=>c|_=>0
theorem ev.cut{w:World}{v:Value}{xs:List α}(e:ev w v xs){l h m:Nat}(G:l<=h)(Y:h<=xs.length)(ez:h<=m)(e6:m<=s1 v):
 ev w (nT v l h m (O.eo α)) ((xs.take h).drop l):=by
 obtain⟨a,cap,rfl,i2,i3,i4,i5⟩:=e;have hlen:((xs.take h).drop l).length=h-l:=by simp;omega
 simp only[s1]at e6;refine⟨if m=l then a else a.map λb=>⟨b.block,b.off+l*O.eo α,none⟩,m-l,by simp only[nT,hlen],by rw[hlen];omega,by simp only[maxLen]at*;omega,?_,?_⟩
 .intro f;by_cases th:m=l
  .omega
  cases a with
  |none=>have:=i4 rfl;omega
  |some b=>simp[th]at f
 intro b c i;by_cases th:m=l
 .omega
 simp only[th,if_false]at c;cases a with
 |none=>simp at c
 |some g=>
  simp at c;subst c;refine⟨rfl,λj u d=>?_⟩;rw[IH,IR,List.getElem?_drop,List.getElem?_take]at d;split at d
  .have:=(i5 g rfl (by omega)).2 _ u d;simpa[Nat.add_assoc]using this
  cases d
def dt(w:World)(v:Value)(e:TypeId)(xs:List α):Prop:=
 (v= .slice none 0 0/\xs=[])∨
 ∃g cap i9,v= .slice (some ⟨g,0,none⟩) xs.length cap/\w.heap[g]? =some (.cells i9 e (0,0))/\xs.length<=cap/\cap<=maxLen/\cap*O.eo α<=i9.size/\
  i9.toList.take (xs.length*O.eo α)=iE xs
theorem dt.eQ{w w':World}{v:Value}{e:TypeId}{xs:List α}(h:∀b,v.ownBlock=some b->w'.heap[b]? =w.heap[b]?)(e1:dt w v e xs):dt w' v e xs:=by
 rcases e1 with e1|⟨g,cap,i9,rfl,a,rest⟩
 .exact .inl e1
 exact .inr ⟨g,cap,i9,rfl,by rw[h g rfl];exact a,rest⟩
@[irreducible] def B (v:Value) (e:TypeId) (xs:List α):eL:=⟨λk=>v.ownBlock=some k,λw=>dt w v e xs,λ_ _ h ra=>ra.eQ h⟩
theorem db(v:Value)(e:TypeId)(xs:List α):(B v e xs).F=λk=>v.ownBlock=some k:=by unfold B;rfl
theorem dv(v:Value)(e:TypeId)(xs:List α):(B v e xs).A=λw=>dt w v e xs:=by unfold B;rfl
theorem dt.ef{w:World}{v:Value}{e:TypeId}{xs:List α}(h:dt w v e xs):ev w v xs:=by
 rcases h with⟨rfl,rfl⟩|⟨g,cap,i9,rfl,c,G,Y,ez,e6⟩
 .exact ev.nil w
 refine⟨some ⟨g,0,none⟩,cap,rfl,G,Y,by simp,λd b _=>?_⟩;simp at b;subst b;refine⟨rfl,λj u a=>?_⟩;rw[TC c,Nat.zero_add];rw[<-e6,List.getElem?_take]at a;split at a
 .simpa using a
 cases a
section
variable{w0 w:World}{S:List eL}
theorem U.ue{v:Value}{e:TypeId}{xs:List α}(h:U w0 S w)(a:tX (B v e xs) S):dt w v e xs:=by have:=h.get a;rw[dv]at this;exact this
theorem U.ef{v:Value}{e:TypeId}{xs:List α}(h:U w0 S w)(a:tX (B v e xs) S):ev w v xs:=(h.ue a).ef
theorem U.lD(h:U w0 S w)(e:TypeId):U w0 (B (α:=α) (.slice none 0 0) e []::S) w:=
 h.new (eB.refl w) (by rw[dv];exact .inl ⟨rfl,rfl⟩) (by rw[db];intro k a;simp[Value.ownBlock]at a)
theorem U.pD{w':World}{v:Value}{e:TypeId}{xs:List α}(h:U w0 S w)(b:eB w w')(e1:dt w' v e xs)(c:∀k,v.ownBlock=some k->w.heap.size<=k):U w0 (B v e xs::S) w':=
 h.new b (by rw[dv];exact e1) (by
  rw[db];intro k a;refine⟨c k a,?_⟩;rcases e1 with⟨rfl,_⟩|⟨g,cap,i9,rfl,d,_⟩
  .simp[Value.ownBlock]at a
  simp[Value.ownBlock]at a;subst a;exact(Array.getElem?_eq_some_iff.1 d).1)
theorem U.ut{v:Value}{e:TypeId}{xs:List α}(h:U w0 S w)(a:tX (B v e xs) S):dt w v e xs/\∀k,v.ownBlock=some k->w0.heap.size<=k:=by
 have Y:=(h.all _ a.mem).2;rw[db]at Y;exact⟨h.ue a,λk b=>(Y k b).1⟩
end
def sN(w w':World)(v:Value)(e:TypeId)(xs:List α):Prop:=dt w' v e xs/\∀k,v.ownBlock=some k->w.heap.size<=k
theorem M7{P:Program}{w:World}{t ty e:TypeId}{r8:Nat}(m:hc P t e)(N:nh P e (O.eo α))(Q:ba P e r8){z:Value}(R:oG P e z)(S:z.cells.size=O.eo α)
 {v u:Value} {xs ys:List α} (e1:dt w v e xs) (C:ev w u ys) (hlen:(xs.length+ys.length)*r8<=140737488355328) (D:xs.length+ys.length<=maxLen):
 ∃r w',(Builtin.append_ #[t,t] ty #[v,u]).run P w= .ok r w'/\dt w' r e (xs++ys)/\qK (λk=>v.ownBlock=some k) w w'/\
  ∀k,r.ownBlock=some k->v.ownBlock=some k∨(w.heap.size<=k/\k<w'.heap.size):=by
 obtain⟨i,ey,n,E,F⟩:∃i,P.info? e=some i/\i.size=O.eo α/\i.bytes=r8/\i.zero=some z:=by
  have G:=N.out;have Y:=Q.out;have ez:=R.out;cases ey:P.info? e with
  |none=>simp[ey]at G
  |some i=>simp[ey]at G Y ez;exact⟨i,rfl,G,Y,ez⟩
 have pU:=O.pos (α:=α);have H:((xs.length+ys.length:Nat):Int)<=9223372036854775807:=by simp only[maxLen]at D;omega
 have I:(iE (xs++ys)).length=(xs.length+ys.length)*O.eo α:=by rw[uj,List.length_append]
 have T:qK (λk=>v.ownBlock=some k) w w:=⟨rfl,rfl,rfl,Nat.le_refl _,λ_ _ _=>rfl⟩;have K:∀(J:Nat),qK (λk=>v.ownBlock=some k) w (w.drew.alloc (.cells ((iE xs).toArray++(iE ys).toArray++Builtin.zeroCells z.cells (grownCap w (xs.length+ys.length) J e-(xs.length+ys.length))) e))/\
  dt (w.drew.alloc (.cells ((iE xs).toArray++(iE ys).toArray++Builtin.zeroCells z.cells (grownCap w (xs.length+ys.length) J e-(xs.length+ys.length))) e))
   (.slice (some ⟨w.heap.size,0,none⟩) (xs.length+ys.length) (grownCap w (xs.length+ys.length) J e)) e (xs++ys)/\
  ∀k,(Value.slice (some ⟨w.heap.size,0,none⟩) (xs.length+ys.length) (grownCap w (xs.length+ys.length) J e)).ownBlock=some k->v.ownBlock=some k∨
   (w.heap.size<=k/\k<(w.drew.alloc (.cells ((iE xs).toArray++(iE ys).toArray++Builtin.zeroCells z.cells (grownCap w (xs.length+ys.length) J e-(xs.length+ys.length))) e)).heap.size):=by
  intro J;have U:=grownCap_ge w (xs.length+ys.length) J e;have V:grownCap w (xs.length+ys.length) J e<=maxLen:=grownCap_le_maxLen w _ J e D;refine⟨⟨rfl,rfl,rfl,by simp,λk d _=>heap_alloc_old w.drew _ d⟩,.inr ⟨w.heap.size,_,_,by rw[List.length_append],heap_alloc_new w.drew _,by rw[List.length_append];exact U,V,?_,?_⟩,?_⟩
  .simp only[Array.size_append,List.size_toArray,size_zeroCells,S,uj,<-Nat.add_mul];refine Nat.mul_le_mul_right _ ?_;omega
  .simp only[Array.toList_append];rw[List.length_append,<-vy,<-I];exact List.take_left
  intro k d;simp[Value.ownBlock]at d;subst d;exact .inr ⟨Nat.le_refl _,by simp⟩
 by_cases W:ys.length=0
 .have X:ys=[]:=List.eq_nil_of_length_eq_zero W;subst X;refine⟨v,w,?_,by simpa using e1,T,λk d=>.inl d⟩;obtain⟨a,c,x,_,_,_,_⟩:=C;subst x;rcases e1 with⟨rfl,rfl⟩|⟨g,cap,i9,rfl,q,G,Y,ez,e6⟩
  .cases a<;>simp[Builtin.append_,run_underlying m.out,sizeOf,typeInfo,ey,Builtin.lenOf,Builtin.firstCells,loadCells,loadCellsFrom]
  cases a<;>simp[Builtin.append_,run_underlying m.out,sizeOf,typeInfo,ey,Builtin.lenOf,Builtin.firstCells,loadCells,loadCellsFrom,G,storeCells]
 obtain⟨h,y,x,Z,L⟩:=C.jt (by omega);subst x;have A:∀(j:Nat)(u:Value),(iE ys)[j]? =some u->w.cell? (h.add j)=some u:=by
  intro j u l;have:=L.2 j u l;have e:h.add j=⟨h.block,h.off+j,none⟩:=by
   have G:=L.1;obtain⟨b,o,s⟩:=h;simp only at G;subst G;exact wd b o j
  rw[e];exact this
 have eM:(iE ys).length=ys.length*i.size:=by rw[uj,n]
 rcases e1 with⟨rfl,rfl⟩|⟨g,cap,i9,rfl,q,G,Y,ez,e6⟩
 .have p:=run_append_nil (P:=P) w t ty e i z m.out ey F h ys.length y (iE ys) eM A (by omega) (by simp at H;omega) (by rw[E];simp at hlen;omega);have f:=K 0;simp only[List.length_nil,Nat.zero_add,List.nil_append,Xq]at f⊢;simp only[show(#[]:Array Value)++(iE ys).toArray=(iE ys).toArray by simp]at f;exact⟨_,_,p,f.2.1,f.1,f.2.2⟩
 by_cases B:xs.length+ys.length<=cap
 .have M:xs.length*i.size+(iE ys).length<=i9.size:=by
   rw[eM,<-Nat.add_mul,n];exact Nat.le_trans (Nat.mul_le_mul_right _ B) ez
  have p:=run_append_room (P:=P) w t ty e i m.out ey g xs.length cap i9 q h ys.length y (iE ys) eM A (IN ys) B M;refine⟨_,_,p,.inr ⟨g,cap,_,by rw[List.length_append],setRow_heap w g i9 _ e _ q,by rw[List.length_append];exact B,Y,?_,?_⟩,⟨rfl,rfl,rfl,by simp[World.setRow],λk _ d=>setRow_other w g k _ (λe=>d (by simp[Value.ownBlock,e]))⟩,λk d=>.inl (by simpa[Value.ownBlock]using d)⟩
  .simp only[List.size_toArray,List.length_append,List.length_take,List.length_drop,Array.length_toList,n]at M⊢;omega
  rw[n,e6,List.length_append,<-vy,<-I];exact List.take_left
 have holds:∀(j:Nat)(u:Value),(iE xs)[j]? =some u->w.cell? ((⟨g,0,none⟩:Addr).add j)=some u:=by
  intro j u l;rw[wd,TC q,Nat.zero_add];rw[<-e6,List.getElem?_take]at l;split at l
  .simpa using l
  cases l
 have p:=run_append_grow (P:=P) w t ty e i z m.out ey F ⟨g,0,none⟩ xs.length cap (iE xs) (by rw[uj,n]) holds h ys.length y (iE ys) eM A (by omega) H (growslice_fits (by omega) (by rw[E];exact hlen));have f:=K cap;exact⟨_,_,p,f.2.1,f.1,f.2.2⟩
end
section
variable{α:Type}[O α]{P:Program}{f:tr}{w w0:World}{S:List eL}{R:Value->World->Prop}{d:Option Tmp}{T:TypeId}{pos:String}{eO:Array Edge}{eV:Option (Nat×Bool)}
theorem XA{x:Operand}{t ek:Nat}{xs:List α}[hc P t ek](b:ev w (eC f x) xs)(h:R (.int .i64 xs.length) w):
 Z P f ⟨d,.call {callee:=.builtin .len,args:=#[x],argTypes:=#[t]},T,pos,eO,eV⟩ w R:=by
 obtain⟨a,c,e⟩:=b.eq;exact Z.len e h
theorem XO{x ix:Operand}{t ek:Nat}{k:IntKind}{i:Int}{xs:List α}[c:hc P t ek][g:nh P ek (O.eo α)](j:ev w (eC f x) xs)(ey:eC f ix= .int k i)(l:0<=i/\i<(xs.length:Int))
 (h:R (oK (eC f x) i.toNat (O.eo α)) w):Z P f ⟨d,.indexAddr t x ix,T,pos,eO,eV⟩ w R:=by
 obtain⟨a,cap,m,p,n⟩:=j.jt (by omega);refine iv (v:=oK (eC f x) i.toNat (O.eo α)) (w':=w) ?_ h;have e:a.add (i.toNat*O.eo α)=⟨a.block,a.off+i.toNat*O.eo α,none⟩:=by
  have G:=n.1;obtain⟨b,o,s⟩:=a;simp only at G;subst G;exact wd b o _
 simp[execOp,Instr.indexAt,ey,asIntOf,run_underlying c.out,m,l,m3 g,e,oK]
theorem Z.cut{x:Operand}{r9 ey j:Option Operand}{t ek eo:Nat}{a:Option Addr}{n c l h' m:Nat}[B:hc P t ek][C:nh P ek eo](u:eC f x= .slice a n c)
 (th:(match j with|some o=>∃k,eC f o= .int k (m:Int)|none=>m=c)/\m<=c)
 (D:(match ey with|some o=>∃k,eC f o= .int k (h':Int)|none=>h'=n/\j=none)/\h'<=m)
 (eM:(match r9 with|some o=>∃k,eC f o= .int k (l:Int)|none=>l=0)/\l<=h')
 (E:m≠l->∀g,a=some g->g.spot=none)
 (h:R (nT (eC f x) l h' m eo) w):Z P f ⟨d,.slice t x r9 ey j,T,pos,eO,eV⟩ w R:=by
 refine iv (v:=nT (eC f x) l h' m eo) (w':=w) ?_ h;obtain⟨q,A⟩:=th;obtain⟨p,r⟩:=D;obtain⟨i,z⟩:=eM;have e:m≠l->∀g,a=some g->g.add (l*eo)=⟨g.block,g.off+l*eo,none⟩:=by
  intro F g H;have G:=E F g H;obtain⟨b,o,s⟩:=g;simp only at G;subst G;exact wd b o _
 have o8:∀(x:Operand)(y k:Nat)(code:BoundsCode),(∃wm,eC f x= .int wm (k:Int)) ->k<=y->(Instr.sliceBound (eC f x) y code).run P w= .ok k w:=by
  intro x y k code ⟨wm,u⟩ J;have:(k:Int)<=(y:Int):=by omega
  simp[Instr.sliceBound,u,asIntOf,this]
 have I:(Instr.sliceBounds true n c (r9.map (eC f)) (ey.map (eC f)) (j.map (eC f))).run P w= .ok (l,h',m) w:=by
  unfold Instr.sliceBounds;cases j with
  |none=>
   simp only at q;subst q;cases ey with
   |none=>
    obtain⟨rfl,_⟩:=p;cases r9 with
    |none=>simp only at i;subst i;simp
    |some r9=>simp[o8 r9 h' l _ i z]
   |some ey=>
    cases r9 with
    |none=>simp only at i;subst i;simp[o8 ey m h' _ p r]
    |some r9=>simp[o8 ey m h' _ p r,o8 r9 h' l _ i z]
  |some j=>
   cases ey with
   |none=>simp at p
   |some ey=>
    cases r9 with
    |none=>simp only at i;subst i;simp[o8 j c m _ q A,o8 ey m h' _ p r]
    |some r9=>simp[o8 j c m _ q A,o8 ey m h' _ p r,o8 r9 h' l _ i z]
 simp only[execOp,Instr.sliceAt,Sem.run_bind,run_underlying B.out,Result.andThen_ok,u,Instr.slice,I,m3 C,Sem.run_pure];cases a with
 |none=>simp[nT]
 |some g=>
  by_cases th:m=l
  .simp[nT,th]
  simp[nT,th,e th g rfl]
theorem ev.cap{v:Value}{xs:List α}(h:ev w v xs):xs.length<=s1 v:=by obtain⟨a,c,rfl,G,_⟩:=h;exact G
theorem hq{x:Operand}{r9 ey b:Option Operand}{t ek:Nat}{xs:List α}{l h' m:Nat}[hc P t ek][nh P ek (O.eo α)](g:ev w (eC f x) xs)
 (th:(match b with|some o=>∃k,eC f o= .int k (m:Int)|none=>m=s1 (eC f x))/\m<=s1 (eC f x))
 (i:(match ey with|some o=>∃k,eC f o= .int k (h':Int)|none=>h'=xs.length/\b=none)/\h'<=m)
 (eM:(match r9 with|some o=>∃k,eC f o= .int k (l:Int)|none=>l=0)/\l<=h')
 (h:R (nT (eC f x) l h' m (O.eo α)) w):Z P f ⟨d,.slice t x r9 ey b,T,pos,eO,eV⟩ w R:=by
 obtain⟨a,c,e,G,Y,ez,j⟩:=g;have n:s1 (eC f x)=c:=by rw[e];rfl
 rw[n]at th;exact Z.cut e th i eM (λr p q=>(j p q (by omega)).1) h
theorem dS{x y:Operand}{t ek r8:Nat}{z v:Value}{xs ys:List α}[b:hc P t ek][c:nh P ek (O.eo α)][e:ba P ek r8][g:oG P ek z](i:z.cells.size=O.eo α)
 (E:U w0 S w) (j:eC f x=v) (e1:tX (B v ek xs) S) (k:ev w (eC f y) ys) (l:(xs.length+ys.length)*r8<=140737488355328) (m:xs.length+ys.length<=maxLen)
 (h:∀a w',(∀tg,iD (B v ek xs) (B a ek (xs++ys)) S tg->U w0 tg w') ->R a w'):
 Z P f ⟨d,.call {callee:=.builtin .append,args:=#[x,y],argTypes:=#[t,t]},T,pos,eO,eV⟩ w R:=by
 obtain⟨a,w',n,G,Y,ez⟩:=M7 (P:=P) (ty:=T) b c e g i (E.ue e1) k l m;refine iv (v:=a) (w':=w') ?_ (h a w' λtg o=>lk (by rw[db];exact Y) (by rw[dv];exact G) (by rw[db,db];exact ez) E o);simp[execOp,resolve,invoke,builtin,j,n]
theorem U.Fe{cs:Array Value}{ek:TypeId}(E:U w0 S w)(xs:List α)(a:cs.toList=iE xs)(eM:xs.length<=maxLen):
 U w0 (B (.slice (some ⟨w.heap.size,0,none⟩) xs.length xs.length) ek xs::S) (w.alloc (.cells cs ek)):=by
 refine E.pD (eB.alloc w _) (.inr ⟨w.heap.size,xs.length,cs,rfl,heap_alloc_new w _,Nat.le_refl _,eM,?_,?_⟩) ?_
 .rw[<-Array.length_toList,a,uj];exact Nat.le_refl _
 .rw[List.take_of_length_le (by rw[a,uj];exact Nat.le_refl _),a]
 intro k b;simp[Value.ownBlock]at b;omega
end
end
section
def eK(ps:List (Array Value)):Array Value:=ps.foldr (·++·) #[]
theorem yh:eK []=#[]:=rfl
theorem cR(p:Array Value)(ps:List (Array Value)):eK (p::ps)=p++eK ps:=rfl
theorem qZ(ps da:List (Array Value)):eK (ps++da)=eK ps++eK da:=by
 induction ps with
 |nil=>simp[yh]
 |cons p ps a=>simp[cR,a]
theorem iw(ps:List (Array Value)):(eK ps).size=(ps.map Array.size).sum:=by
 induction ps with
 |nil=>rfl
 |cons p ps a=>simp[cR,a]
def iH(cells:Array Value)(off:Nat)(v:Array Value):Array Value:=cells.extract 0 off++v++cells.extract (off+v.size) cells.size
theorem rG(a b:List (Array Value))(p v:Array Value)(tC:v.size=p.size):iH (eK (a++p::b)) (eK a).size v=eK (a++v::b):=by
 unfold iH;rw[qZ,qZ,cR,cR];have G:(eK a++(p++eK b)).extract 0 (eK a).size=eK a:=by simp
 have Y:(eK a++(p++eK b)).extract ((eK a).size+v.size) (eK a++(p++eK b)).size=eK b:=by
  rw[tC,<-Array.append_assoc];have:(eK a).size+p.size=(eK a++p).size:=by simp
  rw[this];simp
 rw[G,Y,Array.append_assoc]
theorem XN(v:List Value):∀(k off:Nat)(cells:Array Value),off+k+v.length<=cells.size->∀i:Nat,
 ((v.zipIdx k).foldl (λcs(x:Value×Nat)=>cs.setIfInBounds (off+x.2) x.1) cells)[i]? =if off+k<=i/\i<off+k+v.length then v[i-(off+k)]? else cells[i]? :=by
 induction v with
 |nil=>
  intro k off cells h i;have:¬(off+k<=i/\i<off+k+([]:List Value).length):=by simp only[List.length_nil];omega
  rw[if_neg this];rfl
 |cons x v a=>
  intro k off cells h i;simp only[List.length_cons]at h;simp only[List.zipIdx_cons,List.foldl_cons];rw[a (k+1) off _ (by simp;omega) i,Array.getElem?_setIfInBounds];by_cases G:off+(k+1)<=i/\i<off+(k+1)+v.length
  .have Y:off+k<=i/\i<off+k+(v.length+1):=by omega
   have e:i-(off+k)=(i-(off+(k+1)))+1:=by omega
   simp only[G,Y,and_self,if_true,List.length_cons,e,List.getElem?_cons_succ]
  simp only[G,if_false,List.length_cons];by_cases ez:off+k=i
  .subst ez;have e6:off+k<cells.size:=by omega
   simp[e6]
  have ac:¬(off+k<=i/\i<off+k+(v.length+1)):=by omega
  simp[ez,ac]
theorem wg(cells v:Array Value)(off:Nat)(h:off+v.size<=cells.size)(i:Nat):(iH cells off v)[i]? =if off<=i/\i<off+v.size then v[i-off]? else cells[i]? :=by
 unfold iH;have TU:min off cells.size=off:=by omega
 rw[Array.getElem?_append,Array.getElem?_append];simp only[Array.size_append,Array.size_extract,Nat.sub_zero,TU];by_cases G:i<off
 .have Y:¬(off<=i/\i<off+v.size):=by omega
  have ez:i<off+v.size:=by omega
  rw[if_neg Y,if_pos ez,if_pos G];simp only[Array.getElem?_extract,Nat.sub_zero,TU,Nat.zero_add,G,if_true]
 by_cases Y:i<off+v.size
 .have ez:off<=i/\i<off+v.size:=by omega
  rw[if_pos ez,if_pos Y,if_neg G]
 have ez:¬(off<=i/\i<off+v.size):=by omega
 rw[if_neg ez,if_neg Y];simp only[Array.getElem?_extract];have e:off+v.size+(i-(off+v.size))=i:=by omega
 rw[e,Nat.min_self];split
 .rfl
 rw[Array.getElem?_eq_none (by omega)]
theorem XS(v:Array Value)(off:Nat)(cells:Array Value)(h:off+v.size<=cells.size):
 (v.zipIdx.foldl (λcs(x:Value×Nat)=>cs.setIfInBounds (off+x.2) x.1) cells)=iH cells off v:=by
 apply Array.ext_getElem?;intro i;rw[wg cells v off h i,<-Array.foldl_toList,Array.toList_zipIdx,XN v.toList 0 off cells (by simpa using h) i];simp
theorem Ft{place:Nat->Option (Nat×Nat)}{cells:Array Value}{i off size:Nat}{v:Value}{rest:List (Nat×Value)}(a:place i=some (off,size))(tC:v.cells.size=size)(b:off+size<=cells.size):
 Instr.fill place cells ((i,v)::rest)=Instr.fill place (iH cells off v.cells) rest:=by
 have G:¬(v.cells.size≠size∨cells.size<off+v.cells.size):=by rw[tC];omega
 simp only[Instr.fill,a];simp only[ne_eq,Bool.or_eq_true,decide_eq_true_eq,gt_iff_lt,G,if_false];congr 1;exact XS v.cells off cells (by omega)
class nM(P:Program)(T:TypeId)(zs:outParam (List (Array Value))):Prop where
 out:∃nx,P.underlying T=some (.struct nx)/\(P.info? T).bind (·.zero)=some (.agg (eK zs))/\
  (nx.toList.map λf=>(P.info? f.type).map λi=>(f.offset,i.size))=(List.range zs.length).map λi=>some ((eK (zs.take i)).size,(zs.getD i #[]).size)
theorem sm{P:Program}{T:TypeId}{nx:Array Field}{zs:List (Array Value)}(a:P.underlying T=some (.struct nx))
 (h:((P.info? T).bind (·.zero),nx.toList.map λf=>(P.info? f.type).map λi=>(f.offset,i.size))=(some (.agg (eK zs)),(List.range zs.length).map λi=>some ((eK (zs.take i)).size,(zs.getD i #[]).size))):
 nM P T zs:=⟨nx,a,congrArg Prod.fst h,congrArg Prod.snd h⟩
def u3(zs:List (Array Value)):List (Nat×Value) ->List (Array Value)
 |[]=>zs
 |(i,v)::rest=>u3 (zs.set i v.cells) rest
def po:List (Array Value) ->List (Nat×Value) ->Prop
 |_,[]=>True
 |zs,(i,v)::rest=>i<zs.length/\v.cells.size=(zs.getD i #[]).size/\po (zs.set i v.cells) rest
section
variable{P:Program}{f:tr}{w:World}{R:Value->World->Prop}{d:Option Tmp}{T:TypeId}{pos:String}{eO:Array Edge}{eV:Option (Nat×Bool)}
theorem HN{place:Nat->Option (Nat×Nat)}:∀(parts:List (Nat×Value))(zs:List (Array Value)),(∀i,i<zs.length->place i=some ((eK (zs.take i)).size,(zs.getD i #[]).size)) ->po zs parts->
 Instr.fill place (eK zs) parts=some (eK (u3 zs parts))
 |[],zs,_,_=>rfl
 |(i,v)::rest,zs,b,e=>by
  obtain⟨G,Y,ez⟩:=e;have c:zs=zs.take i++(zs.getD i #[])::zs.drop (i+1):=by
   have:zs.getD i #[]=zs[i]:=by simp[G]
   rw[this,List.getElem_cons_drop,List.take_append_drop]
  have f:zs.set i v.cells=zs.take i++v.cells::zs.drop (i+1):=by rw[List.set_eq_take_append_cons_drop,if_pos G]
  have m:(eK zs).size=(eK (zs.take i)).size+(zs.getD i #[]).size+(eK (zs.drop (i+1))).size:=by
   rw[iw,iw,iw]
   conv=>lhs;rw[c]
   simp[Nat.add_assoc]
  rw[Ft (b i G) Y (by omega)];have g:iH (eK zs) (eK (zs.take i)).size v.cells=eK (zs.set i v.cells):=by
   rw[f]
   conv=>lhs;rw[c]
   rw[show(eK ((zs.take i++zs.getD i #[]::zs.drop (i+1)).take i)).size=(eK (zs.take i)).size by
    rw[List.take_append_of_le_length (by simp;omega),List.take_take,Nat.min_self]]
   exact rG _ _ _ _ Y
  rw[g];exact HN rest (zs.set i v.cells) (λj d=>by
   rw[List.length_set]at d;rw[b j d];have h:(zs.set i v.cells).getD j #[]=if i=j then v.cells else zs.getD j #[]:=by
    by_cases a:i=j
    .subst a;simp[G]
    simp[a,List.getElem?_set_ne a]
   have k:((zs.set i v.cells).getD j #[]).size=(zs.getD j #[]).size:=by
    rw[h];split
    .rename_i a;subst a;exact Y
    rfl
   have l:(eK ((zs.set i v.cells).take j)).size=(eK (zs.take j)).size:=by
    rw[iw,iw,List.map_take,List.map_take,List.map_set,Y];congr 2;have:(zs.getD i #[]).size=(zs.map Array.size)[i]'(by simpa using G):=by simp[G]
    rw[this,List.set_getElem_self]
   rw[k,l]) ez
theorem Z.build{s:TypeId}{parts:Array (Nat×Operand)}{zs:List (Array Value)}[e:nM P s zs](g:po zs (parts.toList.map λ(i,x)=>(i,eC f x)))
 (h:R (.agg (eK (u3 zs (parts.toList.map λ(i,x)=>(i,eC f x))))) w):Z P f ⟨d,.build s parts,T,pos,eO,eV⟩ w R:=by
 obtain⟨nx,j,k,b⟩:=e.out;refine iv (v:=.agg (eK (u3 zs (parts.toList.map λ(i,x)=>(i,eC f x))))) (w':=w) ?_ h;have hlen:nx.size=zs.length:=by have:=congrArg List.length b;simpa using this
 have th:(nx.mapM λf=>do pure (f.offset,<-sizeOf f.type):Sem _).run P w= .ok ((List.range zs.length).map λi=>((eK (zs.take i)).size,(zs.getD i #[]).size)).toArray w:=by
  rw[Array.mapM_eq_mapM_toList];have:=Hq P w (λ(f:Field)=>(do pure (f.offset,<-sizeOf f.type):Sem (Nat×Nat))) nx.toList ((List.range zs.length).map λi=>((eK (zs.take i)).size,(zs.getD i #[]).size)) (λi x c=>by
   have G:=congrArg (λl=>l[i]?) b;simp only[List.getElem?_map,c,Option.map_some]at G;have ey:i<zs.length:=by rw[<-hlen];have:=(List.getElem?_eq_some_iff.1 c).1;simpa using this
   simp only[List.getElem?_range ey,Option.map_some,Option.some.injEq]at G;cases a:P.info? x.type with
   |none=>simp[a]at G
   |some m=>
    simp only[a,Option.map_some,Option.some.injEq,Prod.mk.injEq]at G;refine⟨((eK (zs.take i)).size,(zs.getD i #[]).size),by simp[ey],?_⟩;simp[sizeOf,typeInfo,a,G.1,G.2]) (by simpa using hlen)
  simp only[Sem.run_map,this,Result.andThen_ok]
 have hzero:(zeroValue s).run P w= .ok (.agg (eK zs)) w:=vw ⟨k⟩ w;have n:=HN (place:=λi=>(((List.range zs.length).map λi=>((eK (zs.take i)).size,(zs.getD i #[]).size)).toArray)[i]?) (parts.toList.map λ(i,x)=>(i,eC f x)) zs (λi ey=>by simp[ey]) g;simp only[execOp,Instr.build,Sem.run_bind,hzero,Result.andThen_ok,run_underlying j,th,Value.cells,Array.toList_map];erw[n];simp
def TM:Array Value->List (Nat×Value) ->Array Value
 |cells,[]=>cells
 |cells,(i,v)::rest=>TM (cells.setIfInBounds i v) rest
theorem XR(cells:Array Value)(i:Nat)(v:Value)(h:i<cells.size):iH cells i #[v]=cells.setIfInBounds i v:=by
 apply Array.ext_getElem?;intro j;rw[wg cells #[v] i (by simp;omega) j,Array.getElem?_setIfInBounds];by_cases a:i=j
 .subst a;rw[if_pos (by simp),if_pos rfl,if_pos h];simp
 rw[if_neg (by simp;omega),if_neg a]
theorem Fo:∀(parts:List (Nat×Value))(cells:Array Value),(∀p∈parts,p.1<cells.size/\p.2.cells=#[p.2]) ->Instr.fill (λi=>some (i*1,1)) cells parts=some (TM cells parts)
 |[],cells,_=>rfl
 |(i,v)::rest,cells,h=>by
  obtain⟨G,Y⟩:=h (i,v) List.mem_cons_self;simp only at G Y;rw[Ft (off:=i*1) (size:=1) rfl (by rw[Y];rfl) (by omega),Y,Nat.mul_one,XR cells i v G];exact Fo rest _ λp a=>by
   have:=h p (List.mem_cons_of_mem _ a);simpa using this
theorem jr{s n ek:TypeId}{parts:Array (Nat×Operand)}{fI:Array Value}[a:de P s n ek][b:oG P s (.agg fI)][c:nh P ek 1]
 (e:∀p∈parts.toList.map (λ(i,x)=>(i,eC f x)),p.1<fI.size/\p.2.cells=#[p.2])
 (h:R (.agg (TM fI (parts.toList.map λ(i,x)=>(i,eC f x)))) w):Z P f ⟨d,.build s parts,T,pos,eO,eV⟩ w R:=by
 refine iv (v:=.agg (TM fI (parts.toList.map λ(i,x)=>(i,eC f x)))) (w':=w) ?_ h;have hzero:(zeroValue s).run P w= .ok (.agg fI) w:=vw b w;have g:=Fo (parts.toList.map λ(i,x)=>(i,eC f x)) fI e;simp only[execOp,Instr.build,Sem.run_bind,hzero,Result.andThen_ok,run_underlying a.out,m3 c,Value.cells,Array.toList_map];erw[g];simp
theorem XH{α:Type}[O α](xs:List α):eK (xs.map O.enc)=(iE xs).toArray:=by
 induction xs with
 |nil=>rfl
 |cons x xs a=>rw[List.map_cons,cR,a,yr];simp
theorem XL(z:Array Value)(n:Nat):eK (List.replicate n z)=(Array.range (n*z.size)).map (z[·%z.size]!):=by
 induction n with
 |zero=>simp[yh]
 |succ n a=>
  rw[List.replicate_succ',qZ,a,cR,yh,Array.append_empty,Nat.succ_mul];apply Array.ext_getElem?;intro i;rw[Array.getElem?_append];simp only[Array.size_map,Array.size_range,Array.getElem?_map,Array.getElem?_range];by_cases G:i<n*z.size
  .simp[G,show i<n*z.size+z.size by omega]
  simp only[G,if_false];by_cases Y:i<n*z.size+z.size
  .have ez:i%z.size=i-n*z.size:=by
    have:i=(i-n*z.size)+z.size*n:=by rw[Nat.mul_comm z.size n];omega
    rw[this,Nat.add_mul_mod_self_left,Nat.mod_eq_of_lt (by omega),Nat.mul_comm z.size n];omega
   have e6:i-n*z.size<z.size:=by omega
   simp[Y,ez,e6]
  rw[Array.getElem?_eq_none (by omega)];simp[Y]
def pF(vs:List Value)(k:Nat):List (Nat×Value):=(vs.zipIdx k).map λ(v,i)=>(i,v)
theorem Fi:∀(vs:List Value)(k:Nat)(done zs:List (Array Value)),done.length=k->zs.length=vs.length->u3 (done++zs) (pF vs k)=done++vs.map Value.cells
 |[],k,done,zs,_,h=>by simp at h;simp[pF,u3,h]
 |v::vs,k,done,[],_,h=>by simp at h
 |v::vs,k,done,z::zs,a,h=>by
  have e:pF (v::vs) k=(k,v)::pF vs (k+1):=by simp[pF]
  rw[e,u3];have:(done++z::zs).set k v.cells=(done++[v.cells])++zs:=by
   rw[List.set_append_right _ _ (by omega)];simp[a]
  rw[this,Fi vs (k+1) (done++[v.cells]) zs (by simp[a]) (by simpa using h)];simp
theorem Fs(n:Nat):∀(vs:List Value)(k:Nat)(zs:List (Array Value)),k+vs.length<=zs.length->(∀z∈zs,z.size=n) ->(∀v∈vs,v.cells.size=n) ->po zs (pF vs k)
 |[],k,zs,_,_,_=>by simp[pF,po]
 |v::vs,k,zs,h,a,tC=>by
  have e:pF (v::vs) k=(k,v)::pF vs (k+1):=by simp[pF]
  simp only[List.length_cons]at h;have b:k<zs.length:=by omega
  rw[e,po];refine⟨b,?_,Fs n vs (k+1) _ (by rw[List.length_set];omega) ?_ (λu c=>tC u (List.mem_cons_of_mem _ c))⟩
  .rw[tC v List.mem_cons_self];simp[b,a]
  intro z d;rcases List.mem_or_eq_of_mem_set d with h|h
  .exact a z h
  subst h;exact tC v List.mem_cons_self
theorem n4{α:Type}[O α]{s ek:TypeId}{len:Nat}{z:Value}{parts:Array (Nat×Operand)}[l:hc P s ek][m:nh P ek (O.eo α)][n:oG P ek z]{w0:World}{S:List eL}(E:U w0 S w)(xs:List α)(vs:List Value)
 (c:z.cells.size=O.eo α) (j:parts.toList.map (λ(i,x)=>(i,eC f x))=pF vs 0) (e:vs.map Value.cells=xs.map O.enc) (hlen:len=xs.length) (t:len*O.eo α<=16777216)
 (h:∀b w',eB w w'->U w0 (B (.slice (some ⟨b,0,none⟩) xs.length xs.length) ek xs::S) w'->R (.slice (some ⟨b,0,none⟩) xs.length xs.length) w'):
 Z P f ⟨d,.buildSlice s len parts,T,pos,eO,eV⟩ w R:=by
 subst hlen;have eM:vs.length=xs.length:=by have:=congrArg List.length e;simpa using this
 have o:xs.length<=maxLen:=by
  have:=O.pos (α:=α);have:xs.length*1<=xs.length*O.eo α:=Nat.mul_le_mul_left _ this;simp only[maxLen];omega
 refine iv (v:=.slice (some ⟨w.heap.size,0,none⟩) xs.length xs.length) (w':=w.alloc (.cells (eK (xs.map O.enc)) ek)) ?_ (h _ _ (eB.alloc w _) (E.Fe xs (by rw[XH]) o));have p:¬(16777216<xs.length*O.eo α):=by omega
 have a:((Array.range (xs.length*O.eo α)).map ((if xs.length*O.eo α=0 then#[]else z.cells)[·%(if xs.length*O.eo α=0 then#[]else z.cells).size]!))=eK (List.replicate xs.length z.cells):=by
  by_cases em:xs.length*O.eo α=0
  .have:xs.length=0:=by
    have:=O.pos (α:=α);rcases Nat.mul_eq_zero.1 em with h|h<;>omega
   simp[this,yh]
  rw[if_neg em,XL,c]
 have g:=HN (place:=λi=>some (i*O.eo α,O.eo α)) (pF vs 0) (List.replicate xs.length z.cells) (λi ey=>by
  rw[List.length_replicate]at ey;rw[iw];simp[ey,c,Nat.min_eq_left (Nat.le_of_lt ey)]) (Fs (O.eo α) vs 0 _ (by simp[eM]) (λu q=>by rw[List.eq_of_mem_replicate q];exact c) (λv tC=>by
   have:v.cells∈xs.map O.enc:=by rw[<-e];exact List.mem_map_of_mem tC
   obtain⟨x,_,r⟩:=List.mem_map.1 this;rw[<-r];exact O.eT x))
 have k:=Fi vs 0 [] (List.replicate xs.length z.cells) rfl (by simp[eM]);simp only[List.nil_append]at k;rw[k,e]at g;simp only[execOp,Instr.buildSlice,Sem.run_bind,run_underlying l.out,Result.andThen_ok,m3 m,Array.toList_map];simp only[gt_iff_lt,show(2:Nat)^24=16777216 from rfl,p,if_false,Sem.run_bind,Sem.run_pure,Result.andThen_ok];by_cases em:xs.length*O.eo α=0
 .rw[if_pos em]at a;simp only[em,if_true,Sem.run_bind,Sem.run_pure,Result.andThen_ok];rw[em]at a;erw[a,j,g];simp[newRow]
 rw[if_neg em]at a;simp only[em,if_false,Sem.run_bind,vw n,Sem.run_pure,Result.andThen_ok]at a⊢;erw[a,j,g];simp[newRow]
end
end
section
variable{nS:Bool}{x v:Value}{α:Type}{w:World}
variable[D:lH]
section
variable{K:tr->World->Prop}{Q:Exit->tr->World->Prop}{f:tr}{w:World}
theorem aE(h:K f w):fE K Q .normal f w:=h
theorem u4{i:Nat}(h:Q (.exit i) f w):fE K Q (.exit i) f w:=h
theorem pP(h:Q .ret f w):fE K Q .ret f w:=h
theorem m7{id:Nat}(h:Q .normal f w):blockQ id Q .normal f w:=h
theorem kC{id:Nat}(h:Q .ret f w):blockQ id Q .ret f w:=h
theorem yl{id:Nat}(h:Q .normal f w):blockQ id Q (.exit id) f w:=by
 have:Nat.beq id id=true:=by simp
 simp only[blockQ,this,cond_true];exact h
theorem HR{id i:Nat}(ey:Nat.beq i id=false)(h:Q (.exit i) f w):blockQ id Q (.exit i) f w:=by
 simp only[blockQ,ey,cond_false];exact h
end
def oR:List (Nat×Value) ->tr->tr
 |[],f=>f
 |(i,v)::l,f=>o2 (oR l f) i v
def oW:List (Nat×Value) ->tr->Prop
 |[],_=>True
 |(i,v)::l,f=>f i=v/\oW l f
theorem oW.eq:∀{l:List (Nat×Value)}{f:tr},oW l f->f=oR l f
 |[],f,_=>rfl
 |(i,v)::l,f,h=>by
  have b:=oW.eq h.2;funext j;simp only[oR];by_cases a:j=i
  .subst a;rw[y9];exact h.1
  rw[kN _ _ a,<-b]
section
variable{P:Program}{n:Nat}{Q:Exit->tr->World->Prop}{f:tr}{w:World}
theorem io{c:Code}(l:List (Nat×Value))(a:oW l f)(h:∀g:tr,ex P n c Q (oR l g) w):ex P n c Q f w:=by
 rw[a.eq];exact h f
end
@[irreducible] def rI (nS:Bool) (v:Value):Value:=cond nS v undef
theorem gN(h:nS=true)(v:Value):rI nS v=v:=by subst h;unfold rI;rfl
theorem a7(h:x=rI nS v)(a:nS=true):x=v:=h.trans (gN a v)
theorem Fh{e:Bool}(h:x=rI (nS&&e) v)(a:nS=true):x=rI e v:=by subst a;simpa using h
theorem bi(h:nS=false)(v:Value):rI nS v=undef:=by subst h;unfold rI;rfl
section
variable{P:Program}{n:Nat}{ops:Array Oper}{Q:Exit->tr->World->Prop}{f:tr}{w:World}
theorem tn.eV{d:Nat}{op:Op}{T:TypeId}{pos:String}{eO:Array Edge}{g:Nat}{a1:Bool}{rest:List Oper}(b:Bool)(t:Nat)(v:Value)
 (i:(ops[g]?).bind (·.dst)=some t) (j:Nat.blt t n=true) (k:f t= .bool b) (hd:Nat.blt d n=true)
 (l:(b==a1)=true->Z P f ⟨some d,op,T,pos,eO,none⟩ w (λe w'=>e=v/\eB w w'))
 (h:∀w',eB w w'->tn P n ops Q rest (o2 f d (rI (b==a1) v)) w'):tn P n ops Q (⟨some d,op,T,pos,eO,some (g,a1)⟩::rest) f w:=by
 refine tn.guard b t i j k hd (λc=>?_) (λc=>?_)
 .have a:(b==a1)=true:=by subst c;simp
  refine tn.op hd (Hm (l a) λe w' tC=>?_);obtain⟨rfl,m⟩:=tC;have:=h w' m;rw[gN a]at this;exact this
 have a:(b==a1)=false:=by subst c;cases a1<;>rfl
 have:=h w (eB.refl w);rw[bi a]at this;exact this
theorem Fl{d:Nat}{op:Op}{T:TypeId}{pos:String}{eO:Array Edge}{g:Nat}{a1:Bool}{rest:List Oper}(t:Nat)
 (a:(ops[g]?).bind (·.dst)=some t) (b:Nat.blt t n=true) (hd:Nat.blt d n=true) (c:f t= .bool (!a1))
 (h:tn P n ops Q rest (o2 f d undef) w):tn P n ops Q (⟨some d,op,T,pos,eO,some (g,a1)⟩::rest) f w:=
 tn.guard (!a1) t a b c hd (λe=>by cases a1<;>simp at e) (λ_=>h)
theorem sk{d:Nat}{op:Op}{T:TypeId}{pos:String}{eO:Array Edge}{g:Nat}{a1:Bool}{rest:List Oper}(t:Nat)
 (b:(ops[g]?).bind (·.dst)=some t) (c:Nat.blt t n=true) (e:f t= .bool a1)
 (h:tn P n ops Q (⟨some d,op,T,pos,eO,none⟩::rest) f w):tn P n ops Q (⟨some d,op,T,pos,eO,some (g,a1)⟩::rest) f w:=by
 unfold tn at*;intro a ep;have i:yielded ops a.tmps g=some a1:=by
  unfold yielded;simp only[b,Option.bind_some,vf ep (t:=t) (by simpa using c),e]
 have Y:=h a ep;simp only[wpList,Region.wanted,i,beq_self_eq_true,if_true]at Y⊢;exact Y
theorem Fd{d:Nat}{op:Op}{T:TypeId}{pos:String}{eO:Array Edge}{g:Nat}{a1:Bool}{rest:List Oper}(t:Nat)
 (b:(ops[g]?).bind (·.dst)=some t) (c:Nat.blt t n=true) (hd:Nat.blt d n=true) (e:f t=undef)
 (h:tn P n ops Q rest (o2 f d undef) w):tn P n ops Q (⟨some d,op,T,pos,eO,some (g,a1)⟩::rest) f w:=by
 unfold tn at h⊢;intro a ep;have Y:=h _ (ep.put (dst:=some d) (by intro x i;cases i;simpa using hd) undef);have j:yielded ops a.tmps g=none:=by
  unfold yielded;simp only[b,Option.bind_some,vf ep (t:=t) (by simpa using c),e,undef]
 simp only[wpList,Region.wanted,j];exact Y
theorem IF{d:Nat}{op:Op}{T:TypeId}{pos:String}{eO:Array Edge}{g:Nat}{a1:Bool}{rest:List Oper}(nS b:Bool)(t:Nat)(v:Value)
 (c:(ops[g]?).bind (·.dst)=some t) (e:Nat.blt t n=true) (i:f t=rI nS (.bool b)) (hd:Nat.blt d n=true)
 (k:(nS&&(b==a1))=true->Z P f ⟨some d,op,T,pos,eO,none⟩ w (λl w'=>l=v/\eB w w'))
 (h:∀w',eB w w'->tn P n ops Q rest (o2 f d (rI (nS&&(b==a1)) v)) w'):tn P n ops Q (⟨some d,op,T,pos,eO,some (g,a1)⟩::rest) f w:=by
 cases j:nS with
 |true=>
  subst j;refine tn.eV b t v c e (by rw[i,gN rfl]) hd (λm=>k (by simpa using m)) λw' o=>?_;simpa using h w' o
 |false=>
  subst j;have p:f t=undef:=by rw[i,bi rfl]
  have G:=h w (eB.refl w);simp only[Bool.false_and]at G;rw[bi rfl]at G;unfold tn at G⊢;intro a ep;have Y:=G _ (ep.put (dst:=some d) (by intro x q;cases q;simpa using hd) undef);have r:yielded ops a.tmps g=none:=by
   unfold yielded;simp only[c,Option.bind_some,vf ep (t:=t) (by simpa using e),p,undef]
  simp only[wpList,Region.wanted,r];exact Y
end
section
variable{P:Program}{f:tr}{w:World}{R:Value->World->Prop}{d:Option Tmp}{T:TypeId}{pos:String}{eO:Array Edge}{eV:Option (Nat×Bool)}
theorem fN{c a b:Operand}{t u:Bool}(e:eC f c= .bool t)(ep:eC f a=rI (t==true) (.bool u))(g:eC f b= .bool false)(h:R (.bool (t&&u)) w):Z P f ⟨d,.pick c a b,T,pos,eO,eV⟩ w R:=by
 refine Z.pick e ?_;cases t with
 |true=>rw[ep,gN (nS:=(true==true)) rfl];exact h
 |false=>rw[g];exact h
theorem m8{c a b:Operand}{t u:Bool}(e:eC f c= .bool t)(ep:eC f a= .bool true)(g:eC f b=rI (t==false) (.bool u))(h:R (.bool (t||u)) w):Z P f ⟨d,.pick c a b,T,pos,eO,eV⟩ w R:=by
 refine Z.pick e ?_;cases t with
 |true=>rw[ep];exact h
 |false=>rw[g,gN (nS:=(false==false)) rfl];exact h
theorem m9{c a b:Operand}{t u:Bool}(e:eC f c= .bool t)(ep:cond t (eC f a) (eC f b)= .bool u)(h:R (.bool u) w):Z P f ⟨d,.pick c a b,T,pos,eO,eV⟩ w R:=
 Z.pick e (by rw[ep];exact h)
theorem oD{x:Operand}{k:IntKind}{a:Int}(b:eC f x= .int k a)(h:R (.int k a) w):Z P f ⟨d,.move x,T,pos,eO,eV⟩ w R:=Z.move (by rw[b];exact h)
theorem di{x:Operand}{a:Bool}(b:eC f x= .bool a)(h:R (.bool a) w):Z P f ⟨d,.move x,T,pos,eO,eV⟩ w R:=Z.move (by rw[b];exact h)
theorem oM{x:Operand}{v:Value}(a:eC f x=v)(h:R v w):Z P f ⟨d,.move x,T,pos,eO,eV⟩ w R:=Z.move (by rw[a];exact h)
theorem iM{x:Operand}{k:IntKind}{a:Int}(b:eC f x= .int k a)(h:R (.int k a) w):Z P f ⟨d,.assign x,T,pos,eO,eV⟩ w R:=Z.assign (by rw[b];exact h)
theorem ww{x:Operand}{a:Bool}(b:eC f x= .bool a)(h:R (.bool a) w):Z P f ⟨d,.assign x,T,pos,eO,eV⟩ w R:=Z.assign (by rw[b];exact h)
theorem wy{x:Operand}{v:Value}(a:eC f x=v)(h:R v w):Z P f ⟨d,.assign x,T,pos,eO,eV⟩ w R:=Z.assign (by rw[a];exact h)
theorem br{ek:TypeId}{x:Operand}{c:Array Value}{w0:World}{S:List eL}(E:U w0 S w)(a:eC f x= .agg c)
 (h:∀b w',eB w w'->U w0 (V b c ek::S) w'->R (.pointer (some ⟨b,0,none⟩)) w'):Z P f ⟨d,.box ek x,T,pos,eO,eV⟩ w R:=by
 refine Z.box E ?_;rw[a];exact h
theorem Fc{ek:TypeId}{x:Operand}{v:Value}{w0:World}{S:List eL}(E:U w0 S w)(a:eC f x=v)(tC:v.cells=#[v])
 (h:∀b w',eB w w'->U w0 (V b #[v] ek::S) w'->R (.pointer (some ⟨b,0,none⟩)) w'):Z P f ⟨d,.box ek x,T,pos,eO,eV⟩ w R:=by
 refine Z.box E ?_;rw[a,tC];exact h
theorem sV{ek:TypeId}{c:Array Value}[oG P ek (.agg c)]{w0:World}{S:List eL}(E:U w0 S w)
 (h:∀b w',eB w w'->U w0 (V b c ek::S) w'->R (.pointer (some ⟨b,0,none⟩)) w'):Z P f ⟨d,.alloc ek,T,pos,eO,eV⟩ w R:=Z.alloc (z:=.agg c) E h
theorem jh{ek:TypeId}{v:Value}[oG P ek v]{w0:World}{S:List eL}(E:U w0 S w)(tC:v.cells=#[v])
 (h:∀b w',eB w w'->U w0 (V b #[v] ek::S) w'->R (.pointer (some ⟨b,0,none⟩)) w'):Z P f ⟨d,.alloc ek,T,pos,eO,eV⟩ w R:=by
 refine Z.alloc (z:=v) E ?_;rw[tC];exact h
theorem o9{s i off b o:Nat}[je P s i off]{x:Operand}(a:eC f x= .pointer (some ⟨b,o,none⟩))(h:R (.pointer (some ⟨b,o+off,none⟩)) w):Z P f ⟨d,.fieldAddr s x i,T,pos,eO,eV⟩ w R:=
 Z.fieldAddr a (m4.mk b o) h
theorem sS{x:Operand}{b o:Nat}(a:eC f x= .pointer (some ⟨b,o,none⟩))(h:R (.pointer (some ⟨b,o,none⟩)) w):Z P f ⟨d,.nilCheck x,T,pos,eO,eV⟩ w R:=
 Z.nilCheck a (m4.mk b o) h
theorem IP{P:Program}{w:World}{T eo b:Nat}(c:nh P T eo){cs:Array Value}{ek:TypeId}(d:w.heap[b]? =some (.cells cs ek (0,0)))(o:Nat)(v:Value)(tC:v.cells.size=eo)(e1:o+eo<=cs.size)(G:∀u∈v.cells.toList,u.oneCell'=true):
 (storeVar T ⟨b,o,none⟩ v).run P w= .ok () (w.setRow b (cs.toList.take o++v.cells.toList++cs.toList.drop (o+v.cells.toList.length)).toArray):=by
 have a:=run_storeCells_at P b o ek v.cells.toList 0 cs w d (by simp;omega) G;simp only[Nat.add_zero]at a;simp only[storeVar,Sem.run_bind,m3 c,Result.andThen_ok,tC,ne_eq,not_true_eq_false,if_false];exact a
theorem Z.store{ek a eo b o:Nat}[i:nh P ek eo]{x y:Operand}{v:Value}{cs:Array Value}{w0:World}{S:List eL}(E:U w0 S w)(l:eC f x= .pointer (some ⟨b,o,none⟩))(n:eC f y=v)(p:tX (V b cs a) S)
 (tC:v.cells.size=eo) (e1:o+eo<=cs.size) (G:∀u∈v.cells.toList,u.oneCell'=true)
 (h:∀w',(∀tg,iD (V b cs a) (V b (iH cs o v.cells) a) S tg->U w0 tg w') ->R undef w'):Z P f ⟨d,.store ek x y,T,pos,eO,eV⟩ w R:=by
 have e:=E.dV p;have g:=IP (P:=P) i e o v tC e1 G;have q:(cs.toList.take o++v.cells.toList++cs.toList.drop (o+v.cells.toList.length)).toArray=iH cs o v.cells:=by
  apply Array.ext_getElem?;intro j;rw[wg cs v.cells o (by omega) j];simp only[List.getElem?_toArray,List.getElem?_append,List.length_append,List.length_take,Array.length_toList,List.getElem?_take,List.getElem?_drop,Array.getElem?_toList];have m:min o cs.size=o:=by omega
  rw[m];by_cases G:j<o
  .rw[if_pos (by omega),if_pos G,if_pos G,if_neg (by omega)]
  by_cases Y:j<o+v.cells.size
  .rw[if_pos Y,if_neg G,if_pos (by omega)]
  rw[if_neg Y,if_neg (by omega)];congr 1;omega
 rw[q]at g;refine qX (w':=w.setRow b (iH cs o v.cells)) ?_ (h _ λtg r=>lk ?_ ?_ ?_ E r)
 .simp[execOp,Instr.storeAt,l,n,Instr.sureAddr,g]
 .unfold V;exact⟨rfl,rfl,rfl,by simp[World.setRow],λk _ c=>setRow_other w b k _ c⟩
 .unfold V;exact setRow_heap w b cs _ a _ e
 unfold V;intro k c;exact .inl c
theorem mT{cs v:Array Value}(h:v.size=cs.size):iH cs 0 v=v:=by
 unfold iH;rw[h];simp
theorem IG{ek a eo b:Nat}[k:nh P ek eo]{x y:Operand}{c cs:Array Value}{w0:World}{S:List eL}(E:U w0 S w)(e:eC f x= .pointer (some ⟨b,0,none⟩))(g:(eC f y).cells=c)(i:tX (V b cs a) S)
 (tC:c.size=eo) (e1:cs.size=eo) (G:∀u∈c.toList,u.oneCell'=true)
 (h:∀w',(∀tg,iD (V b cs a) (V b c a) S tg->U w0 tg w') ->R undef w'):Z P f ⟨d,.store ek x y,T,pos,eO,eV⟩ w R:=by
 subst g;refine Z.store E e rfl i tC (by omega) G λw' h'=>h w' λtg j=>h' tg ?_;rw[mT (by omega)];exact j
end
section
variable{P:Program}{f:tr}{w:World}{R:Value->World->Prop}{d:Option Tmp}{T:TypeId}{pos:String}{eO:Array Edge}{eV:Option (Nat×Bool)}
theorem HH{x y:Operand}{k:IntKind}{a b c:Int}{nN:Array TypeId}(e:eC f x= .int k a)(g:eC f y= .int k b)(i:(if b<a then b else a)=c)(h:R (.int k c) w):
 Z P f ⟨d,.call {callee:=.builtin .min,args:=#[x,y],argTypes:=nN},T,pos,eO,eV⟩ w R:=by
 subst i;refine iv (v:=.int k (if b<a then b else a)) (w':=w) ?_ h;simp[execOp,resolve,invoke,builtin,Builtin.min_,Builtin.min2,e,g]
theorem Fu{x y:Operand}{k:IntKind}{a b c:Int}{nN:Array TypeId}(e:eC f x= .int k a)(g:eC f y= .int k b)(i:(if a<b then b else a)=c)(h:R (.int k c) w):
 Z P f ⟨d,.call {callee:=.builtin .max,args:=#[x,y],argTypes:=nN},T,pos,eO,eV⟩ w R:=by
 subst i;refine iv (v:=.int k (if a<b then b else a)) (w':=w) ?_ h;simp[execOp,resolve,invoke,builtin,Builtin.max_,Builtin.max2,e,g]
theorem pG{op:BinOp}{s t:TypeId}{x y:Operand}{b:Bool}(a:b=true)(c:Z P f ⟨d,.binOp op s x y t,T,pos,eO,eV⟩ w (λv w'=>v= .bool b/\w'=w))(h:R (.bool true) w):Z P f ⟨d,.binOp op s x y t,T,pos,eO,eV⟩ w R:=
 Hm c λv w'⟨G,Y⟩=>by subst G;subst Y;subst a;exact h
theorem gS{op:BinOp}{s t:TypeId}{x y:Operand}{b:Bool}(a:b=false)(c:Z P f ⟨d,.binOp op s x y t,T,pos,eO,eV⟩ w (λv w'=>v= .bool b/\w'=w))(h:R (.bool false) w):Z P f ⟨d,.binOp op s x y t,T,pos,eO,eV⟩ w R:=
 Hm c λv w'⟨G,Y⟩=>by subst G;subst Y;subst a;exact h
theorem XM{s ek n c:Nat}(b:hc P s ek)(a:Option Addr)(w:World):(Op.equal s (.slice a n c) (.slice none 0 0)).run P w= .ok a.isNone w:=by
 unfold Op.equal;show(Op.equalIn (9999+1) s (.slice a n c) (.slice none 0 0)).run P w= .ok a.isNone w;generalize 9999=k;cases a<;>simp[Op.equalIn,run_underlying b.out]
theorem fS{s t ek n c:Nat}{x y:Operand}{a:Option Addr}[b:hc P s ek](e:eC f x= .slice a n c)(g:eC f y= .slice none 0 0)(h:R (.bool a.isNone) w):Z P f ⟨d,.binOp .eql s x y t,T,pos,eO,eV⟩ w R:=by
 refine iv (v:=.bool a.isNone) (w':=w) ?_ h;have i:eqGuard .eql s x y (.slice a n c) (.slice none 0 0)=pure ():=rfl;have j:binOp .eql s (.slice a n c) (.slice none 0 0)=(do pure (.bool (<-Op.equal s (.slice a n c) (.slice none 0 0)))):=rfl;simp only[execOp,e,g,i,j,Sem.run_bind,Sem.run_pure,Result.andThen_ok,XM b]
end
theorem ev.wb[O α]{n c:Nat}{xs:List α}(h:ev w (.slice none n c) xs):xs=[]/\n=0/\c=0:=by
 obtain⟨a,cap,b,G,Y,ez,_⟩:=h;cases b;have:=ez rfl;subst this;exact⟨List.eq_nil_of_length_eq_zero (by omega),by omega,rfl⟩
theorem sN.cut{w':World}{e:TypeId}[O α]{xs:List α}(h:sN w w' v e xs):sN w w' (nT v 0 xs.length xs.length (O.eo α)) e xs:=by
 obtain⟨e1,b⟩:=h;rcases e1 with⟨rfl,rfl⟩|⟨g,cap,i9,rfl,c,G,Y,ez,e6⟩
 .exact⟨.inl ⟨by simp[nT],rfl⟩,by simp[nT,Value.ownBlock]⟩
 refine⟨.inr ⟨g,xs.length,i9,?_,c,Nat.le_refl _,by omega,Nat.le_trans (Nat.mul_le_mul_right _ G) ez,e6⟩,?_⟩
 .simp[nT]
 intro k a;refine b k ?_;by_cases eM:xs.length=0<;>simp[nT,Value.ownBlock,eM]at a⊢<;>exact a
theorem sN.nil(w w':World)(e:TypeId)[O α]:sN (α:=α) w w' (.slice none 0 0) e []:=⟨.inl ⟨rfl,rfl⟩,by simp[Value.ownBlock]⟩
instance:O UInt8 where
 enc c:=#[.int .u8 c.toNat]
 eo:=1
 pos:=by omega
 eT _:=rfl
 one c u a:=by simp at a;subst a;rfl
theorem Fm(c:UInt8):O.enc c=#[.int .u8 c.toNat]:=rfl
end
section
variable[D:lH]
section
variable{P:Program}{ops:Array Oper}{so:Region.Mode}{Q:Exit->Act->World->Prop}
def gR(so:Region.Mode)(ops:Array Oper)(i:Nat):Bool:=
 match ops[i]? with
 |some ⟨some _,.move _,_,_,eO,none⟩=>eO.all (λe=> !Region.binds so e)
 |_=>false
theorem HD{i:Nat}(h:gR so ops i=true):∃d x T pos eO,ops[i]? =some ⟨some d,.move x,T,pos,eO,none⟩/\∀e∈eO,Region.binds so e=false:=by
 unfold gR at h;split at h
 .rename_i d x T pos eO ey;exact⟨d,x,T,pos,eO,ey,λe a=>by simpa using Array.all_eq_true'.1 h e a⟩
 cases h
theorem XF{j i:Nat}(h:Region.waitsFor so ops j i=true):gR so ops j=false:=by
 rw[<-Bool.not_eq_true];intro c;obtain⟨d,x,T,pos,eO,f,ep⟩:=HD c;obtain⟨k,a,e,g,b,_⟩:=Region.waitsFor_spec h;rw[f]at a;cases a;rw[ep e g]at b;cases b
def HC(so:Region.Mode)(ops:Array Oper)(n:Nat):Bool:=
 (List.range n).all λi=>gR so ops i||(List.range (n+1)).any λj=>decide (i<j)&&Region.waitsFor so ops j i
theorem XP{n:Nat}{listed:Array Bool}(r:HC so ops n=true)(s:Region.chainB so ops n=true)(E:n<ops.size)(f:HeadInv so ops n listed):
 ∀(d i:Nat),n-i=d->i<n->gR so ops i=false->listed.getD i true=false->∀t,n<=t->t∉Region.ready so ops listed:=by
 intro d;induction d using Nat.strongRecOn with
 |_ d u=>
  intro i hd ey v k t F l;obtain⟨_,m,g,o⟩:=mem_ready.1 l;have w:t<ops.size:=(Array.getElem?_eq_some_iff.1 g).1;by_cases x:t=n
  .subst x;have G:=List.all_eq_true.1 r i (List.mem_range.2 ey);rw[v,Bool.false_or]at G;obtain⟨j,y,h⟩:=List.any_eq_true.1 G;simp only[Bool.and_eq_true,decide_eq_true_eq]at h;obtain⟨p,q,e,a,b,c⟩:=Region.waitsFor_spec h.2;have z:j<=t:=by have:=List.mem_range.1 y;omega
   by_cases A:j=t
   .subst A;have:p=m:=Option.some.inj (q.symm.trans g);subst this;have Y:=o e a b;rw[c,getD_both k]at Y;cases Y
   cases eM:listed.getD j false with
   |true=>
    have Y:=f.closed j p q eM e a b;rw[c,getD_both k]at Y;cases Y
   |false=>
    have B:j<listed.size:=by rw[f.size];omega
    exact u (t-j) (by omega) j rfl (by omega) (XF h.2) (getD_in B eM) t (Nat.le_refl _) l
  have G:=List.all_eq_true.1 s t (List.mem_range.2 w);simp only[Bool.or_eq_true,decide_eq_true_eq]at G;rcases G with G|G
  .omega
  obtain⟨C,D,e,a,b,c⟩:=Region.waitsFor_spec G;have:C=m:=Option.some.inj (D.symm.trans g);subst this;have Y:=o e a b;rw[c,getD_both (f.tail (t-1) (by omega) (by omega))]at Y;cases Y
def gH(so:Region.Mode)(ops:Array Oper)(n:Nat)(listed:Array Bool):Prop:=n=ops.size∨(n<ops.size/\HC so ops n=true/\Region.chainB so ops n=true/\HeadInv so ops n listed)
theorem gH.lt{n i:Nat}{listed:Array Bool}(h:gH so ops n listed)(b:i<n)(c:gR so ops i=false)(d:listed.getD i true=false):∀j∈Region.ready so ops listed,j<n:=by
 intro j a;rcases h with rfl|⟨e,f,g,k⟩
 .obtain⟨_,o,e1,_⟩:=mem_ready.1 a;exact(Array.getElem?_eq_some_iff.1 e1).1
 rcases Nat.lt_or_ge j n with h|h
 .exact h
 exact absurd a (XP f g e k _ i rfl b c d j h)
theorem gH.set{n i:Nat}{listed:Array Bool}(h:gH so ops n listed)(ey:i∈Region.ready so ops listed)(a:i<n):gH so ops n (listed.setIfInBounds i true):=by
 rcases h with h|⟨b,c,d,e⟩
 .exact .inl h
 exact .inr ⟨b,c,d,e.set ey a⟩
theorem XB{j:Nat}(b:gR so ops j=true){K:Act->World->Prop}{a:Act}{w:World}(h:wpOp P ops Q j K a w):wpOp P ops Q j (λtm w'=>K tm w'/\w'=w) a w:=by
 obtain⟨d,x,T,pos,eO,c,_⟩:=HD b;unfold Go.wpOp at*;simp only[c,Region.wanted,if_true]at*;rcases h with h|h
 .refine .inl ?_;simp only[Oper.wp,execOp,Sem.run_pure,Oper.upon]at*;simp_all
 exact .inr h
end
section
variable{P:Program}{ops:Array Oper}{so:Region.Mode}{Q:Exit->Act->World->Prop}
def wv(P:Program)(so:Region.Mode)(ops:Array Oper)(tt:Nat)(I:World->Prop)(Q:Exit->Act->World->Prop):Nat->Array Bool->Act->World->Prop
 |0,listed,a,w=>Region.ready so ops listed=[]/\Q .normal a w
 |f+1,listed,a,w=>(Region.ready so ops listed=[] ->Q .normal a w)/\∀i∈Region.ready so ops listed,wpOp P ops Q i (λtm w'=>(i<tt->gR so ops i=false->I w')/\wv P so ops tt I Q f (listed.setIfInBounds i true) tm w') a w
theorem IY{tt:Nat}{I:World->Prop}:∀(f:Nat)(listed:Array Bool)(a:Act)(w:World),wv P so ops tt I Q f listed a w->wpAny P so ops Q f listed a w
 |0,_,_,_,h=>h
 |f+1,_,_,_,h=>⟨h.1,λi ey=>wpOp_mono (λtm w' h'=>IY f _ tm w' h'.2) (h.2 i ey)⟩
def fe(P:Program)(ops:Array Oper)(I:World->Prop)(o:Oper)(v:Value)(a:Act):Prop:=
 (Region.wanted o (yielded ops a.tmps)=true/\∀w',I w'->(execOp a.eval o).run P w'= .ok (.value v) w')∨(Region.wanted o (yielded ops a.tmps)=false/\v=undef)
theorem fe.Fp{o:Oper}{v:Value}{a tm:Act}{I:World->Prop}(b:fe P ops I o v a)(c:execOp tm.eval o=execOp a.eval o)
 (d:Region.wanted o (yielded ops tm.tmps)=Region.wanted o (yielded ops a.tmps)):fe P ops I o v tm:=by
 unfold fe at*;rw[c,d];exact b
theorem fe.wpOp{i:Nat}{o:Oper}{v:Value}{a:Act}{I:World->Prop}{w:World}(c:I w)(ey:ops[i]? =some o)(d:fe P ops I o v a)
 {K:Act->World->Prop} (h:K (a.put o.dst v) w):wpOp P ops Q i K a w:=by
 unfold Go.wpOp;simp only[ey];rcases d with⟨b,tC⟩|⟨b,rfl⟩
 .simp only[b,if_true,Oper.wp,tC w c,Oper.upon];exact .inl h
 simp only[b,Bool.false_eq_true,if_false];exact h
theorem Fg{j:Nat}{g i:Oper}{v:Value}(t:ops[j]? =some i)(y:g.apart ops i=true)
 (z:∀cs b,g.op≠ .select cs b) (p:∀cs b,i.op≠ .select cs b)
 (q:∀c a w,Q (.panic c) (a.put g.dst v) w->Q (.panic c) a w) {K:Act->World->Prop} {a:Act} {I:World->Prop} {w:World}
 (k:fe P ops I g v a) (h:wpOp P ops Q j K (a.put g.dst v) w):
 wpOp P ops Q j (λtm w'=>fe P ops I g v tm/\K (tm.put g.dst v) w') a w:=by
 obtain⟨G,Y,ez⟩:=Oper.apart_spec y;have l:∀(a:Act),fe P ops I g v a->∀u,fe P ops I g v (a.put i.dst u):=λa k u=>
  k.Fp (execOp_put g z a i.dst u ez) (wanted_put g a i.dst u ez)
 have A:∀d,fe P ops I g v {a with defers:=d::a.defers}:=λd=>k.Fp rfl rfl;unfold wpOp at*;simp only[t]at*;rw[wanted_put i a g.dst v G]at h;split
 .rename_i o;simp only[o,if_true]at h;rcases h with h|⟨s,B⟩
  case inr=>exact .inr ⟨by unfold Oper.asks at*;rw[execOp_put i p a g.dst v G]at s;exact s,B⟩
  refine .inl ?_;unfold Oper.wp at*;rw[execOp_put i p a g.dst v G]at h;generalize(execOp a.eval i).run P w=r at*;cases r with
  |ok n w'=>
   cases n<;>simp only[Oper.upon]at h⊢
   case value u=>exact⟨l a k u,by rw[<-Act.put_comm a v u Y];exact h⟩
   case skip=>exact⟨l a k _,by rw[<-Act.put_comm a v undef Y];exact h⟩
   case defer d=>
    refine⟨l _ (A d) _,?_⟩;rw[<-Act.put_comm _ v undef Y,<-Act.put_defers];exact h
   case enter f args=>
    refine Calls.mono h λe C m=>?_;cases e with
    |returned u=>exact⟨l a k u,by rw[<-Act.put_comm a v u Y];exact m⟩
    |panicked c=>exact q _ _ _ m
    |outgrown=>exact m
   case row row args=>exact Rows.mono h λu C m=>⟨l a k u,by rw[<-Act.put_comm a v u Y];exact m⟩
  |halt x w'=>
   cases x<;>simp only[Oper.upon]at h⊢
   case panic u=>exact q _ _ _ h
 rename_i o;simp only[o]at h;exact⟨l a k _,by rw[<-Act.put_comm a v undef Y];exact h⟩
theorem XJ{tt i:Nat}{I:World->Prop}{l:Oper}{v:Value}(ey:ops[i]? =some l)(t:∀(j:Nat)(o:Oper) cs b,ops[j]? =some o->o.op≠ .select cs b)
 (C:i<tt) (D:gR so ops i=false) (E:∀c a w,Q (.panic c) (a.put l.dst v) w->Q (.panic c) a w):
 ∀(fuel:Nat)(listed:Array Bool)(a:Act)(w:World),I w->gH so ops tt listed->
  (∀j m,ops[j]? =some m->j≠i->listed.getD j true=false->(∀e∈m.after,Region.binds so e=true->e.on≠i) ->l.apart ops m=true) ->
  i∈Region.ready so ops listed->fe P ops I l v a->
  wv P so ops tt I Q fuel (listed.setIfInBounds i true) (a.put l.dst v) w->wv P so ops tt I Q (fuel+1) listed a w:=by
 intro fuel;induction fuel with
 |zero=>
  intro listed a w g _ _ f p H;refine⟨λh=>(by rw[h]at f;cases f),λj n=>?_⟩;by_cases d:j=i
  .subst d;exact p.wpOp g ey ⟨λ_ _=>g,H⟩
  have:=ready_mono n d;rw[H.1]at this;cases this
 |succ fuel u=>
  intro listed a w g hinv x f p H;refine⟨λh=>(by rw[h]at f;cases f),λj n=>?_⟩;by_cases d:j=i
  .subst d;exact p.wpOp g ey ⟨λ_ _=>g,H⟩
  have G:=H.2 j (ready_mono n d);obtain⟨y,m,q,F⟩:=mem_ready.1 n;have J:∀e∈m.after,Region.binds so e=true->e.on≠i:=λe K g L=>by
   have G:=F e K g;rw[L,getD_both (mem_ready.1 f).1]at G;cases G
  have Y:=Fg q (x j m q d y J) (λcs b=>t i l cs b ey) (λcs b=>t j m cs b q) E p G;have z:∀k ok,ops[k]? =some ok->k≠i->(listed.setIfInBounds j true).getD k true=false->
   (∀e∈ok.after,Region.binds so e=true->e.on≠i) ->l.apart ops ok=true:=λk ok M N A O=>by
   refine x k ok M N ?_ O;by_cases B:j=k
   .subst B;exact y
   rw[getD_set_ne true B]at A;exact A
  have r:=hinv.lt C D (mem_ready.1 f).1 j n;cases s:gR so ops j with
  |true=>
   refine wpOp_mono (λtm w' ez=>⟨λ_ h=>(by cases h),u (listed.setIfInBounds j true) tm w' (by rw[ez.2];exact g) (hinv.set n r) z (ready_mono f (Ne.symm d)) ez.1.1 ?_⟩) (XB s Y);rw[Array.setIfInBounds_comm _ _ d];exact ez.1.2.2
  |false=>
   refine wpOp_mono (λtm w' ez=>⟨λh _=>ez.2.1 h s,u (listed.setIfInBounds j true) tm w' (ez.2.1 r s) (hinv.set n r) z (ready_mono f (Ne.symm d)) ez.1 ?_⟩) Y;rw[Array.setIfInBounds_comm _ _ d];exact ez.2.2
theorem XQ{tt i:Nat}{I:World->Prop}{f:Oper}{v:Value}(ey:ops[i]? =some f)(q:∀(j:Nat)(o:Oper) cs b,ops[j]? =some o->o.op≠ .select cs b)
 (r:gR so ops i=true) (y:∀c a w,Q (.panic c) (a.put f.dst v) w->Q (.panic c) a w):
 ∀(fuel:Nat)(listed:Array Bool)(a:Act)(w:World),
  (∀j g,ops[j]? =some g->j≠i->listed.getD j true=false->(∀e∈g.after,Region.binds so e=true->e.on≠i) ->f.apart ops g=true) ->
  i∈Region.ready so ops listed->fe P ops (λ_=>True) f v a->
  wv P so ops tt I Q fuel (listed.setIfInBounds i true) (a.put f.dst v) w->wv P so ops tt I Q (fuel+1) listed a w:=by
 intro fuel;induction fuel with
 |zero=>
  intro listed a w _ l m H;refine⟨λh=>(by rw[h]at l;cases l),λj n=>?_⟩;by_cases d:j=i
  .subst d;exact m.wpOp trivial ey ⟨λ_ h=>(by rw[r]at h;cases h),H⟩
  have:=ready_mono n d;rw[H.1]at this;cases this
 |succ fuel z=>
  intro listed a w s l m H;refine⟨λh=>(by rw[h]at l;cases l),λj n=>?_⟩;by_cases d:j=i
  .subst d;exact m.wpOp trivial ey ⟨λ_ h=>(by rw[r]at h;cases h),H⟩
  have G:=H.2 j (ready_mono n d);obtain⟨t,g,p,A⟩:=mem_ready.1 n;have B:∀e∈g.after,Region.binds so e=true->e.on≠i:=λe C D E=>by
   have G:=A e C D;rw[E,getD_both (mem_ready.1 l).1]at G;cases G
  have Y:=Fg p (s j g p d t B) (λcs b=>q i f cs b ey) (λcs b=>q j g cs b p) y m G;have F:∀k ok,ops[k]? =some ok->k≠i->(listed.setIfInBounds j true).getD k true=false->
   (∀e∈ok.after,Region.binds so e=true->e.on≠i) ->f.apart ops ok=true:=λk ok J K u L=>by
   refine s k ok J K ?_ L;by_cases x:j=k
   .subst x;exact t
   rw[getD_set_ne true x]at u;exact u
  refine wpOp_mono (λtm w' ez=>⟨ez.2.1,z (listed.setIfInBounds j true) tm w' F (ready_mono l (Ne.symm d)) ez.1 ?_⟩) Y;rw[Array.setIfInBounds_comm _ _ d];exact ez.2.2
theorem fe.pure{i:Nat}{o:Oper}{v:Value}{a:Act}{I:World->Prop}{w:World}(ey:ops[i]? =some o)(e:gR so ops i=true)(f:I w)(g:fe P ops I o v a):fe P ops (λ_=>True) o v a:=by
 obtain⟨d,x,T,pos,eO,c,_⟩:=HD e;rw[ey]at c;cases c;rcases g with⟨b,tC⟩|⟨b,_⟩
 .refine .inl ⟨b,λw' _=>?_⟩;have G:=tC w f;simp only[execOp,Sem.run_pure]at G⊢;injection G with G Y;rw[G]
 simp[Region.wanted]at b
end
inductive sU where
 |nil
 |look (i:Nat) (r:sU)
 |one (i:Nat) (r:sU)
 |Fb (i j:Nat) (r:sU)
 |nc (i j:Nat) (dH fD:sU)
 |pW (i j k:Nat) (dH fD u5:sU)
 |sx (cs:List (List Nat)) (r:sU)
def lX:sU->Nat
 | .nil=>0
 | .look _ r=>lX r+1
 | .one _ r=>lX r+1
 | .Fb _ _ r=>lX r+2
 | .nc _ _ dH _=>lX dH+1
 | .pW _ _ _ dH _ _=>lX dH+1
 | .sx cs r=>lX r+cs.flatten.length
def kU:sU->Bool
 | .nil=>true
 | .one _ r=>kU r
 |_=>false
def q8:List Nat->List (List Nat×List Nat)
 |[]=>[([],[])]
 |i::r=>([],i::r)::(q8 r).map λp=>(i::p.1,p.2)
def TY:List (List Nat) ->List (List Nat×List (List Nat))
 |[]=>[([],[])]
 |c::cs=>(q8 c).flatMap λp=>(TY cs).map λq=>(p.1++q.1,p.2::q.2)
def yd(listed:Array Bool)(l:List Nat):Array Bool:=l.foldl (λa i=>a.setIfInBounds i true) listed
def HW(ops:Array Oper)(tt:Nat)(listed:Array Bool)(cs:List (List Nat)):Bool:=
 cs.flatten.all (λi=>decide (i<tt))&&(TY cs).all λp=>p.2.all List.isEmpty||(!(Region.ready .any ops (yd listed p.1)).isEmpty&&(Region.ready .any ops (yd listed p.1)).all λi=>p.2.any λc=>c.head? ==some i)
def IV(ops:Array Oper)(i j:Nat):Bool:=match ops[i]?,ops[j]? with|some hz,some hm=>hz.apart ops hm|_,_=>false
def IK(ops:Array Oper):List (List Nat) ->Bool
 |[]=>true
 |c::cs=>(c.all λi=>cs.flatten.all λj=>IV ops i j)&&IK ops cs
def dk(ops:Array Oper)(tt:Nat):Array Bool->sU->Bool
 |listed,.nil=>(Region.ready .any ops listed).isEmpty
 |listed,.look i r=>decide (i<tt)&&(Region.ready .any ops listed).contains i&&Region.free .any ops listed i&&dk ops tt (listed.setIfInBounds i true) r
 |listed,.one i r=>decide (Region.ready .any ops listed=[i])&&dk ops tt (listed.setIfInBounds i true) r
 |listed,.Fb i j r=>decide (i<tt)&&decide (j<tt)&&decide (i≠j)&&decide (Region.ready .any ops listed=[i,j])&&decide (Region.ready .any ops (listed.setIfInBounds i true)=[j])&&decide (Region.ready .any ops (listed.setIfInBounds j true)=[i])&&dk ops tt ((listed.setIfInBounds i true).setIfInBounds j true) r
 |listed,.nc i j dH fD=>decide (i<tt)&&decide (j<tt)&&decide (Region.ready .any ops listed=[i,j])&&decide (lX dH=lX fD)&&dk ops tt (listed.setIfInBounds i true) dH&&dk ops tt (listed.setIfInBounds j true) fD
 |listed,.pW i j k dH fD u5=>decide (i<tt)&&decide (j<tt)&&decide (k<tt)&&decide (Region.ready .any ops listed=[i,j,k])&&decide (lX dH=lX fD)&&decide (lX dH=lX u5)&&dk ops tt (listed.setIfInBounds i true) dH&&dk ops tt (listed.setIfInBounds j true) fD&&dk ops tt (listed.setIfInBounds k true) u5
 |listed,.sx cs r=>IK ops cs&&HW ops tt listed cs&&dk ops tt (yd listed cs.flatten) r
@[irreducible] def e3 (P:Program) (n:Nat) (ops:Array Oper) (tt:Nat) (I:World->Prop) (Q:Exit->tr->World->Prop) (r:sU) (f:tr) (w:World):Prop:=
 ∀listed a,Region.noSelect ops=true->dk ops tt listed r=true->(gH .any ops tt listed/\I w∨kU r=true) ->sa n a f->(∀(c:List PanicEntry) f f1 w,Q (.panic c) f w->Q (.panic c) f1 w) ->
  wv P .any ops tt I (λe tm w'=>∃an,sa n tm an/\Q e an w') (lX r) listed a w
section
variable{P:Program}{n tt:Nat}{I:World->Prop}{aM:World}{ops:Array Oper}{Q:Exit->tr->World->Prop}{r:sU}{f:tr}{w:World}
theorem e3.nil(h:Q .normal f w):e3 P n ops tt I Q .nil f w:=by
 unfold e3;intro listed a _ b _ ep _;exact⟨by simpa[dk]using b,f,ep,h⟩
theorem Fv{i:Nat}{o:Oper}{v:Value}(ey:ops[i]? =some o)(hd:∀x,o.dst=some x->x<n)
 (k:∀a,sa n a f->fe P ops I o v a) (e:e3 P n ops tt I Q r (dB f o.dst v) w):e3 P n ops tt I Q (.look i r) f w:=by
 unfold e3 at e⊢;intro listed a b l hinv ep d;simp only[dk,Bool.and_eq_true,decide_eq_true_eq]at l;obtain⟨⟨⟨em,G⟩,Y⟩,ez⟩:=l;have hinv:gH .any ops tt listed/\I w:=hinv.resolve_right (λh=>by cases h);have m:i∈Region.ready .any ops listed:=by simpa using G
 cases g:gR .any ops i with
 |true=>
  refine XQ ey (Region.noSelect_spec b) g (λc a w⟨an,j,h⟩=>⟨_,j.M0,d c an _ w h⟩) (lX r) listed a w (Region.free_spec ey Y) (by simpa using G) ((k a ep).pure ey g hinv.2) ?_;exact e _ _ b ez (.inl ⟨hinv.1.set m em,hinv.2⟩) (ep.put hd v) d
 |false=>
 refine XJ ey (Region.noSelect_spec b) em g (λc a w⟨an,j,h⟩=>⟨_,j.M0,d c an _ w h⟩) (lX r) listed a w hinv.2 hinv.1 (Region.free_spec ey Y) (by simpa using G) (k a ep) ?_;exact e _ _ b ez (.inl ⟨hinv.1.set m em,hinv.2⟩) (ep.put hd v) d
theorem Fx{f:tr}{o:Oper}{w:World}{v:Value}(h:Z P f o w (λu w'=>u=v/\w'=w))(a:∀g args w',(execOp (eC f) o).run P w≠ .ok (.enter g args) w')(b:∀w',(execOp (eC f) o).run P w≠ .ok .skip w'):(execOp (eC f) o).run P w= .ok (.value v) w:=by
 unfold Z at h;generalize c:(execOp (eC f) o).run P w=r at*;cases r with
 |ok x w'=>
  cases x<;>first
   |(exact absurd rfl (b _))
   |(exact absurd rfl (a _ _ _))
   |(obtain⟨rfl,rfl⟩:=h;rfl)
   |exact(h:False).elim
 |halt x w'=>exact(h:False).elim
def Op.looks:Op->Bool
 | .call {callee:=.builtin .len,..}| .call {callee:=.builtin .min,..}| .call {callee:=.builtin .max,..}| .call {callee:=.builtin .cap,..}=>true
 | .move _| .assign _| .pick .. | .load .. | .binOp .. | .unOp .. | .convert .. | .slice .. | .fieldAddr .. | .field .. | .indexAddr .. | .index .. | .extract .. | .build .. | .makeInterface .. | .lookup .. | .nilCheck .. =>true
 |_=>false
theorem Fj{ρ:Operand->Value}{o:Oper}(h:Op.looks o.op=true)(P:Program)(w:World):(∀g args w',(execOp ρ o).run P w≠ .ok (.enter g args) w')/\∀w',(execOp ρ o).run P w≠ .ok .skip w':=by
 have key:∀(s:Sem Value),(∀g args w',((do pure (.value (<-s)):Sem Next)).run P w≠ .ok (.enter g args) w')/\∀w',((do pure (.value (<-s)):Sem Next)).run P w≠ .ok .skip w':=by
  intro s;simp only[Sem.run_bind];cases s.run P w<;>simp
 obtain⟨dst,op,T,pos,eO,eV⟩:=o;cases op
 case call c=>
  obtain⟨callee,args,nN⟩:=c;cases callee
  case builtin b=>cases b<;>simp[Op.looks]at h<;>exact key _
  all_goals simp[Op.looks]at h
 case nilCheck x=>
  simp only[execOp];split
  all_goals try(simp[runtimePanic];done)
  split
  all_goals try(simp[runtimePanic];done)
  rename_i t0 aM _;simp[unsupported];generalize Sem.run P (nilAhead _ _ _ _) w=q;cases q with
  |ok b pn=>cases b with
   |none=>simp[Result.andThen]
   |some b=>cases b<;>simp[Result.andThen]
  |halt x pn=>simp[Result.andThen]
 all_goals first
  |(simp[Op.looks]at h;done)
  |exact key _
  |(simp only[execOp];simp;done)
  |(simp only[execOp,Sem.run_bind];generalize Sem.run P _ _=q;cases q<;>simp)
theorem e3.look{i d:Nat}{op:Op}{T:TypeId}{pos:String}{eO:Array Edge}{ek:Value}(ey:ops[i]? =some ⟨some d,op,T,pos,eO,none⟩)(eM:Op.looks op=true)(hd:Nat.blt d n=true)
 (h:∀w',I w'->Z P f ⟨some d,op,T,pos,eO,none⟩ w' (λv b=>v=ek/\b=w')) (c:e3 P n ops tt I Q r (o2 f d ek) w):e3 P n ops tt I Q (.look i r) f w:=
 Fv ey (by intro x e;cases e;simpa using hd) (λa ep=>.inl ⟨rfl,λw' g=>by
  rw[ep.eval];obtain⟨G,Y⟩:=Fj (ρ:=eC f) (o:=⟨some d,op,T,pos,eO,none⟩) eM P w';exact Fx (h w' g) G Y⟩) c
theorem Fq{i d:Nat}{op:Op}{T:TypeId}{pos:String}{eO:Array Edge}{g:Nat}{a1:Bool}{ek:Value}(nS b:Bool)(t:Nat)(ey:ops[i]? =some ⟨some d,op,T,pos,eO,some (g,a1)⟩)(eM:Op.looks op=true)(hd:Nat.blt d n=true)
 (j:(ops[g]?).bind (·.dst)=some t) (k:Nat.blt t n=true) (l:f t=rI nS (.bool b))
 (h:(nS&&(b==a1))=true->∀w',I w'->Z P f ⟨some d,op,T,pos,eO,none⟩ w' (λv m=>v=ek/\m=w')) (p:e3 P n ops tt I Q r (o2 f d (rI (nS&&(b==a1)) ek)) w):e3 P n ops tt I Q (.look i r) f w:=by
 refine Fv (v:=rI (nS&&(b==a1)) ek) ey (by intro x q;cases q;simpa using hd) (λa ep=>?_) p;have e:Region.wanted ⟨some d,op,T,pos,eO,some (g,a1)⟩ (yielded ops a.tmps)=(nS&&(b==a1)):=by
  simp only[Region.wanted];have:yielded ops a.tmps g=if nS then some b else none:=by
   unfold yielded;simp only[j,Option.bind_some,vf ep (t:=t) (by simpa using k),l];cases nS
   .rw[bi rfl];rfl
   rw[gN rfl];rfl
  rw[this];cases nS<;>simp
 cases c:(nS&&(b==a1))with
 |true=>
  refine .inl ⟨by rw[e,c],λw' s=>?_⟩;rw[ep.eval,gN rfl];obtain⟨G,Y⟩:=Fj (ρ:=eC f) (o:=⟨some d,op,T,pos,eO,none⟩) eM P w';have:=Fx (h c w' s) G Y;exact this
 |false=>exact .inr ⟨by rw[e,c],bi rfl ek⟩
theorem TB{i d:Nat}{op:Op}{T:TypeId}{pos:String}{eO:Array Edge}{g:Nat}{a1:Bool}{ek:Value}(b:Bool)(t:Nat)(ey:ops[i]? =some ⟨some d,op,T,pos,eO,some (g,a1)⟩)(eM:Op.looks op=true)(hd:Nat.blt d n=true)
 (a:(ops[g]?).bind (·.dst)=some t) (c:Nat.blt t n=true) (e:f t= .bool b)
 (h:(b==a1)=true->∀w',I w'->Z P f ⟨some d,op,T,pos,eO,none⟩ w' (λv j=>v=ek/\j=w')) (k:e3 P n ops tt I Q r (o2 f d (rI (b==a1) ek)) w):e3 P n ops tt I Q (.look i r) f w:=
 Fq true b t ey eM hd a c (by rw[e,gN rfl]) (by simpa using h) (by simpa using k)
theorem cL{i d:Nat}{op:Op}{T:TypeId}{pos:String}{eO:Array Edge}{g:Nat}{a1:Bool}{ek:Value}(t:Nat)(ey:ops[i]? =some ⟨some d,op,T,pos,eO,some (g,a1)⟩)(eM:Op.looks op=true)(hd:Nat.blt d n=true)
 (a:(ops[g]?).bind (·.dst)=some t) (b:Nat.blt t n=true) (c:f t= .bool a1)
 (h:∀w',I w'->Z P f ⟨some d,op,T,pos,eO,none⟩ w' (λv e=>v=ek/\e=w')) (j:e3 P n ops tt I Q r (o2 f d ek) w):e3 P n ops tt I Q (.look i r) f w:=
 TB (ek:=ek) a1 t ey eM hd a b c (λ_=>h) (by rw[gN (by simp)];exact j)
def XZ(tt i:Nat)(r:sU)(I:World->Prop)(w':World):Prop:=(i<tt->I w')/\(i<tt∨kU r=true)
theorem kM{i:Nat}{o:Oper}(ey:ops[i]? =some o)(h:∀a,sa n a f->wpOp P ops (λe tm w'=>∃an,sa n tm an/\Q e an w') i (λtm w'=>XZ tt i r I w'/\∃an,sa n tm an/\e3 P n ops tt I Q r an w') a w):e3 P n ops tt I Q (.one i r) f w:=by
 unfold e3 at h⊢;intro listed a l d hinv ep m;simp only[dk,Bool.and_eq_true,decide_eq_true_eq]at d;obtain⟨G,ez⟩:=d;refine⟨λem=>(by rw[G]at em;cases em),λj g=>?_⟩;rw[G]at g;have p:j=i:=by simpa using g
 subst p;refine wpOp_mono (λtm w'⟨b,an,q,th⟩=>⟨λh _=>b.1 h,th _ _ l ez ?_ q m⟩) (h a ep);rcases b.2 with k|c
 .rcases hinv with hinv|c
  .exact .inl ⟨hinv.1.set (by rw[G];simp) k,b.1 k⟩
  exact .inr c
 exact .inr c
theorem e3.one{i d:Nat}{op:Op}{T:TypeId}{pos:String}{eO:Array Edge}(ey:ops[i]? =some ⟨some d,op,T,pos,eO,none⟩)(hd:Nat.blt d n=true)
 (b:Nat.blt i tt=true) (h:Z P f ⟨some d,op,T,pos,eO,none⟩ w (λv w'=>I w'/\e3 P n ops tt I Q r (o2 f d v) w')):e3 P n ops tt I Q (.one i r) f w:=by
 have b:i<tt:=by simpa using b
 refine kM ey λa ep=>?_;unfold wpOp;simp only[ey,Region.wanted,if_true];exact .inl (pL ep h λv w'⟨c,th⟩=>⟨⟨λ_=>c,.inl b⟩,_,ep.put (dst:=some d) (by intro x e;cases e;simpa using hd) v,th⟩)
theorem n5{i:Nat}{op:Op}{T:TypeId}{pos:String}{eO:Array Edge}(ey:ops[i]? =some ⟨none,op,T,pos,eO,none⟩)
 (b:Nat.blt i tt=true) (h:Z P f ⟨none,op,T,pos,eO,none⟩ w (λ_ w'=>I w'/\e3 P n ops tt I Q r f w')):e3 P n ops tt I Q (.one i r) f w:=by
 have b:i<tt:=by simpa using b
 refine kM ey λa ep=>?_;unfold wpOp;simp only[ey,Region.wanted,if_true];exact .inl (pL ep h λv w'⟨c,th⟩=>⟨⟨λ_=>c,.inl b⟩,_,ep.put (dst:=none) (by intro x d;cases d) v,th⟩)
theorem e3.nc{dH fD:sU}{i j uz uE:Nat}{l m:Op}{o p:TypeId}{q r:String}{s t:Array Edge}(ey:ops[i]? =some ⟨some uz,l,o,q,s,none⟩)(B:ops[j]? =some ⟨some uE,m,p,r,t,none⟩)
 (e:Nat.blt uz n=true) (g:Nat.blt uE n=true)
 (G:Z P f ⟨some uz,l,o,q,s,none⟩ w (λv w'=>I w'/\e3 P n ops tt I Q dH (o2 f uz v) w'))
 (Y:Z P f ⟨some uE,m,p,r,t,none⟩ w (λv w'=>I w'/\e3 P n ops tt I Q fD (o2 f uE v) w')):e3 P n ops tt I Q (.nc i j dH fD) f w:=by
 have e:uz<n:=by simpa using e
 have g:uE<n:=by simpa using g
 unfold e3 at G Y⊢;intro listed a u y hinv ep z;simp only[dk,Bool.and_eq_true,decide_eq_true_eq]at y;obtain⟨⟨⟨⟨⟨C,D⟩,d⟩,E⟩,fC⟩,uT⟩:=y;have A:gH .any ops tt listed:=(hinv.resolve_right (λh=>by cases h)).1;have F:i∈Region.ready .any ops listed:=by rw[d];simp
 have H:j∈Region.ready .any ops listed:=by rw[d];simp
 refine⟨λem=>(by rw[d]at em;cases em),λx b=>?_⟩;rw[d]at b;rcases List.mem_cons.1 b with rfl|b
 .unfold wpOp;simp only[ey,Region.wanted,if_true];exact .inl (pL ep G λv w'⟨c,k⟩=>⟨λ_ _=>c,k _ _ u fC (.inl ⟨A.set F C,c⟩) (ep.put (dst:=some uz) (by intro x b;cases b;exact e) v) z⟩)
 obtain rfl:x=j:=by simpa using b
 unfold wpOp;simp only[B,Region.wanted,if_true];refine .inl (pL ep Y λv w'⟨c,k⟩=>⟨λ_ _=>c,?_⟩);show wv P .any ops tt I _ (lX dH) _ _ _;rw[E];exact k _ _ u uT (.inl ⟨A.set H D,c⟩) (ep.put (dst:=some uE) (by intro x b;cases b;exact g) v) z
theorem e3.pW{dH fD u5:sU}{i j k uz uE e:Nat}{s t u:Op}{y z A:TypeId}{B C D:String}{E F H:Array Edge}(ey:ops[i]? =some ⟨some uz,s,y,B,E,none⟩)(K:ops[j]? =some ⟨some uE,t,z,C,F,none⟩)(d:ops[k]? =some ⟨some e,u,A,D,H,none⟩)
 (l:Nat.blt uz n=true) (m:Nat.blt uE n=true) (o:Nat.blt e n=true)
 (G:Z P f ⟨some uz,s,y,B,E,none⟩ w (λv w'=>I w'/\e3 P n ops tt I Q dH (o2 f uz v) w'))
 (Y:Z P f ⟨some uE,t,z,C,F,none⟩ w (λv w'=>I w'/\e3 P n ops tt I Q fD (o2 f uE v) w'))
 (ez:Z P f ⟨some e,u,A,D,H,none⟩ w (λv w'=>I w'/\e3 P n ops tt I Q u5 (o2 f e v) w')):e3 P n ops tt I Q (.pW i j k dH fD u5) f w:=by
 have l:uz<n:=by simpa using l
 have m:uE<n:=by simpa using m
 have o:e<n:=by simpa using o
 unfold e3 at G Y ez⊢;intro listed a p J hinv ep q;simp only[dk,Bool.and_eq_true,decide_eq_true_eq]at J;obtain⟨⟨⟨⟨⟨⟨⟨⟨L,M⟩,N⟩,g⟩,O⟩,R⟩,fC⟩,uT⟩,S⟩:=J;have r:gH .any ops tt listed:=(hinv.resolve_right (λh=>by cases h)).1;have T:i∈Region.ready .any ops listed:=by rw[g];simp
 have U:j∈Region.ready .any ops listed:=by rw[g];simp
 have V:k∈Region.ready .any ops listed:=by rw[g];simp
 refine⟨λem=>(by rw[g]at em;cases em),λx b=>?_⟩;rw[g]at b;rcases List.mem_cons.1 b with rfl|b
 .unfold wpOp;simp only[ey,Region.wanted,if_true];exact .inl (pL ep G λv w'⟨c,d⟩=>⟨λ_ _=>c,d _ _ p fC (.inl ⟨r.set T L,c⟩) (ep.put (dst:=some uz) (by intro x b;cases b;exact l) v) q⟩)
 rcases List.mem_cons.1 b with rfl|b
 .unfold wpOp;simp only[K,Region.wanted,if_true];refine .inl (pL ep Y λv w'⟨c,d⟩=>⟨λ_ _=>c,?_⟩);show wv P .any ops tt I _ (lX dH) _ _ _;rw[O];exact d _ _ p uT (.inl ⟨r.set U M,c⟩) (ep.put (dst:=some uE) (by intro x b;cases b;exact m) v) q
 obtain rfl:x=k:=by simpa using b
 unfold wpOp;simp only[d,Region.wanted,if_true];refine .inl (pL ep ez λv w'⟨c,d⟩=>⟨λ_ _=>c,?_⟩);show wv P .any ops tt I _ (lX dH) _ _ _;rw[R];exact d _ _ p S (.inl ⟨r.set V N,c⟩) (ep.put (dst:=some e) (by intro x b;cases b;exact o) v) q
theorem U.jd{w0 aM w:World}{S T:List eL}(G:U w0 S aM)(Y:U aM T w):U w0 (T++S) w:=by
 have ez:=G.ei Y.J;refine⟨ez.J,List.pairwise_append.2 ⟨Y.yn,G.yn,λa ep b f k d g=>?_⟩,λe c=>?_⟩
 .have:=((Y.all a ep).2 k d).1;have:=((G.all b f).2 k g).2;omega
 rcases List.mem_append.1 c with c|c
 .exact⟨(Y.all e c).1,λk d=>⟨Nat.le_trans G.J.size ((Y.all e c).2 k d).1,((Y.all e c).2 k d).2⟩⟩
 exact ez.all e c
theorem U.swap{w0 w:World}{a b:eL}{S:List eL}(h:U w0 (a::b::S) w):U w0 (b::a::S) w:=by
 obtain⟨G,Y,ez⟩:=h;refine⟨G,?_,λe d=>ez e (by simp only[List.mem_cons]at d⊢;exact(or_left_comm.1 d))⟩;obtain⟨f,g⟩:=List.pairwise_cons.1 Y;obtain⟨i,j⟩:=List.pairwise_cons.1 g;refine List.pairwise_cons.2 ⟨λx c=>?_,List.pairwise_cons.2 ⟨λx c=>f x (List.mem_cons_of_mem _ c),j⟩⟩;rcases List.mem_cons.1 c with rfl|c
 .exactλk G Y=>f b List.mem_cons_self k Y G
 exact i x c
theorem X2{i d:Nat}{op:Op}{T:TypeId}{pos:String}{eO:Array Edge}{g:Nat}{a1:Bool}(ek:Value)(nS b:Bool)(t:Nat)(k:eB aM w)(ey:ops[i]? =some ⟨some d,op,T,pos,eO,some (g,a1)⟩)(hd:Nat.blt d n=true)
 (p:(ops[g]?).bind (·.dst)=some t) (q:Nat.blt t n=true) (s:f t=rI nS (.bool b)) (e:Nat.blt i tt=true)
 (h:(nS&&(b==a1))=true->Z P f ⟨some d,op,T,pos,eO,none⟩ w (λv w'=>v=ek/\eB w w')) (l:∀w',eB w w'->e3 P n ops tt (eB aM) Q r (o2 f d (rI (nS&&(b==a1)) ek)) w'):e3 P n ops tt (eB aM) Q (.one i r) f w:=by
 have e:i<tt:=by simpa using e
 refine kM ey λa ep=>?_;have m:Region.wanted ⟨some d,op,T,pos,eO,some (g,a1)⟩ (yielded ops a.tmps)=(nS&&(b==a1)):=by
  simp only[Region.wanted];have:yielded ops a.tmps g=if nS then some b else none:=by
   unfold yielded;simp only[p,Option.bind_some,vf ep (t:=t) (by simpa using q),s];cases nS
   .rw[bi rfl];rfl
   rw[gN rfl];rfl
  rw[this];cases nS<;>simp
 unfold wpOp;simp only[ey];cases c:(nS&&(b==a1))with
 |true=>
  rw[m,c,if_pos rfl];refine .inl (pL (o:=⟨some d,op,T,pos,eO,some (g,a1)⟩) ep (R:=λv w'=>v=ek/\eB w w') ?_ λv w'⟨G,Y⟩=>⟨⟨λ_=>k.trans Y,.inl e⟩,_,ep.put (dst:=some d) (by intro x j;cases j;simpa using hd) v,?_⟩)
  .have:=h c;unfold Z at this⊢;exact this
  subst G;have:=l w' Y;rw[c,gN rfl]at this;exact this
 |false=>
  rw[m,c,if_neg (by simp)];refine⟨⟨λ_=>k,.inl e⟩,_,ep.put (dst:=some d) (by intro x j;cases j;simpa using hd) undef,?_⟩;have:=l w (eB.refl w);rw[c,bi rfl]at this;exact this
theorem HV{i d:Nat}{op:Op}{T:TypeId}{pos:String}{eO:Array Edge}{g:Nat}{a1:Bool}(ek:Value)(b:Bool)(t:Nat)(a:eB aM w)(ey:ops[i]? =some ⟨some d,op,T,pos,eO,some (g,a1)⟩)(hd:Nat.blt d n=true)
 (c:(ops[g]?).bind (·.dst)=some t) (e:Nat.blt t n=true) (j:f t= .bool b) (k:Nat.blt i tt=true)
 (h:(b==a1)=true->Z P f ⟨some d,op,T,pos,eO,none⟩ w (λv w'=>v=ek/\eB w w')) (l:∀w',eB w w'->e3 P n ops tt (eB aM) Q r (o2 f d (rI (b==a1) ek)) w'):e3 P n ops tt (eB aM) Q (.one i r) f w:=
 X2 ek true b t a ey hd c e (by rw[j,gN rfl]) k (by simpa using h) (by simpa using l)
theorem FO{i d:Nat}{op:Op}{T:TypeId}{pos:String}{eO:Array Edge}{g:Nat}{a1:Bool}(t:Nat)(ey:ops[i]? =some ⟨some d,op,T,pos,eO,some (g,a1)⟩)(hd:Nat.blt d n=true)
 (e:(ops[g]?).bind (·.dst)=some t) (j:Nat.blt t n=true) (b:f t= .bool a1)
 (c:Nat.blt i tt=true) (h:Z P f ⟨some d,op,T,pos,eO,none⟩ w (λv w'=>I w'/\e3 P n ops tt I Q r (o2 f d v) w')):e3 P n ops tt I Q (.one i r) f w:=by
 have c:i<tt:=by simpa using c
 refine kM ey λa ep=>?_;have k:Region.wanted ⟨some d,op,T,pos,eO,some (g,a1)⟩ (yielded ops a.tmps)=true:=by
  simp only[Region.wanted];have:yielded ops a.tmps g=some a1:=by
   unfold yielded;simp only[e,Option.bind_some,vf ep (t:=t) (by simpa using j),b]
  rw[this];simp
 unfold wpOp;simp only[ey];rw[k,if_pos rfl];refine .inl (pL (o:=⟨some d,op,T,pos,eO,some (g,a1)⟩) ep (R:=λv w'=>I w'/\e3 P n ops tt I Q r (o2 f d v) w') ?_ λv w'⟨b,th⟩=>⟨⟨λ_=>b,.inl c⟩,_,ep.put (dst:=some d) (by intro x l;cases l;simpa using hd) v,th⟩);unfold Z at h⊢;exact h
theorem e3.put{i:Nat}{d:Option Tmp}{op:Op}{T:TypeId}{pos:String}{eO:Array Edge}(ey:ops[i]? =some ⟨d,op,T,pos,eO,none⟩)(hd:∀x,d=some x->x<n)(b:Nat.ble tt i=true)(c:kU r=true)
 (h:Z P f ⟨d,op,T,pos,eO,none⟩ w (λv w'=>e3 P n ops tt I Q r (dB f d v) w')):e3 P n ops tt I Q (.one i r) f w:=by
 have b:tt<=i:=by simpa using b
 refine kM ey λa ep=>?_;unfold wpOp;simp only[ey,Region.wanted,if_true];exact .inl (pL ep h λv w' th=>⟨⟨λh=>absurd h (by omega),.inr c⟩,_,ep.put hd v,th⟩)
theorem FI{i:Nat}{op:Op}{T:TypeId}{pos:String}{eO:Array Edge}(ey:ops[i]? =some ⟨none,op,T,pos,eO,none⟩)(a:Nat.ble tt i=true)(b:kU r=true)
 (h:Z P f ⟨none,op,T,pos,eO,none⟩ w (λ_ w'=>e3 P n ops tt I Q r f w')):e3 P n ops tt I Q (.one i r) f w:=e3.put (d:=none) ey (by intro x c;cases c) a b h
theorem TX{i d:Nat}{op:Op}{T:TypeId}{pos:String}{eO:Array Edge}(ey:ops[i]? =some ⟨some d,op,T,pos,eO,none⟩)(hd:Nat.blt d n=true)(a:Nat.ble tt i=true)(b:kU r=true)
 (h:Z P f ⟨some d,op,T,pos,eO,none⟩ w (λv w'=>e3 P n ops tt I Q r (o2 f d v) w')):e3 P n ops tt I Q (.one i r) f w:=e3.put (d:=some d) ey (by intro x c;cases c;simpa using hd) a b h
end
section
theorem IZ(iG iY:List (Nat×Value))(f:tr):oR (iG++iY) f=oR iG (oR iY f):=by
 induction iG with
 |nil=>rfl
 |cons p l a=>obtain⟨i,v⟩:=p;show o2 (oR (l++iY) f) i v=o2 (oR l (oR iY f)) i v;rw[a]
theorem HK{l:List (Nat×Value)}{x:Nat}(h:∀p∈l,p.1≠x)(f:tr):oR l f x=f x:=by
 induction l with
 |nil=>rfl
 |cons p l a=>
  obtain⟨i,v⟩:=p;show o2 (oR l f) i v x=f x;rw[kN _ _ (λe=>h (i,v) List.mem_cons_self e.symm)];exact a λp b=>h p (List.mem_cons_of_mem _ b)
theorem FN(l:List (Nat×Value)){f g:tr}{x:Nat}(h:f x=g x):oR l f x=oR l g x:=by
 induction l with
 |nil=>exact h
 |cons p l a=>
  obtain⟨i,v⟩:=p;show o2 (oR l f) i v x=o2 (oR l g) i v x;by_cases e:x=i
  .rw[e,y9,y9]
  rw[kN _ _ e,kN _ _ e];exact a
theorem X3{l:List (Nat×Value)}{d:Nat}(h:∀p∈l,p.1≠d)(f:tr)(v:Value):oR l (o2 f d v)=o2 (oR l f) d v:=by
 funext x;by_cases e:x=d
 .subst e;rw[y9,HK h,y9]
 rw[kN _ _ e];exact FN l (kN _ _ e)
theorem FR:∀{d l:List Nat},(d,l)∈q8 (d++l)
 |[],[]=>by simp[q8]
 |[],i::r=>by simp[q8]
 |i::d,l=>by
  have a:=FR (d:=d) (l:=l);simp only[List.cons_append,q8];exact List.mem_cons_of_mem _ (List.mem_map.2 ⟨_,a,rfl⟩)
theorem FH{α:Type}{A HX HJ:α->List Nat}:∀{σ:List α},(∀c∈σ,HX c++HJ c=A c) ->((σ.map HX).flatten,σ.map HJ)∈TY (σ.map A)
 |[],_=>by simp[TY]
 |c::σ,h=>by
  have a:=FH (σ:=σ) (λx b=>h x (List.mem_cons_of_mem _ b));have d:=h c List.mem_cons_self;simp only[List.map_cons,List.flatten_cons,TY,<-d];exact List.mem_flatMap.2 ⟨_,FR,List.mem_map.2 ⟨_,a,rfl⟩⟩
theorem X4(listed:Array Bool){iG iY:List Nat}(h:iG.Perm iY):yd listed iG=yd listed iY:=by
 unfold yd;refine h.foldl_eq' (λx _ y _ z=>?_) listed;by_cases e:x=y
 .rw[e]
 exact Array.setIfInBounds_comm _ _ e
theorem FD{ops:Array Oper}{i j:Nat}(h:IV ops i j=true):∃a b,ops[i]? =some a/\ops[j]? =some b/\a.apart ops b=true:=by
 unfold IV at h;split at h
 .exact⟨_,_,by assumption,by assumption,h⟩
 cases h
def o5(P:Program)(n:Nat)(ops:Array Oper)(w0:World)(S:List eL)(f:tr):List Nat->List (Nat×Value) ->List eL->(List (Nat×Value) ->List eL->Prop) ->Prop
 |[],u,e,K=>K u e
 |i::l,u,e,K=>∃d op T pos eO,ops[i]? =some ⟨some d,op,T,pos,eO,none⟩/\d<n/\∀(X:List eL)(w:World),U w0 (e++(S++X)) w->
  Z P (oR u f) ⟨some d,op,T,pos,eO,none⟩ w λv w'=>∃oZ,U w0 (oZ++(S++X)) w'/\o5 P n ops w0 S f l ((d,v)::u) oZ K
structure wk where
 all:List Nat
 done:List Nat
 left:List Nat
 u:List (Nat×Value)
 e:List eL
 K:List (Nat×Value) ->List eL->Prop
structure wk.ok(P:Program)(n:Nat)(ops:Array Oper)(w0:World)(S:List eL)(f:tr)(c:wk):Prop where
 e7:c.done++c.left=c.all
 u:∀p∈c.u,∃i∈c.all,∃o,ops[i]? =some o/\o.dst=some p.1
 ch:o5 P n ops w0 S f c.left c.u c.e c.K
def vx:List (List (Nat×Value) ->List eL->Prop) ->(List (Nat×Value) ->List eL->Prop) ->Prop
 |[],nS=>nS [] []
 |K::fU,nS=>∀u e,K u e->vx fU λus aY=>nS (u++us) (e++aY)
def bl(P:Program)(n:Nat)(ops:Array Oper)(w0:World)(S:List eL)(f:tr):List (List Nat) ->List (List (Nat×Value) ->List eL->Prop) ->Prop
 |[],[]=>True
 |c::cs,K::fU=>o5 P n ops w0 S f c [] [] K/\bl P n ops w0 S f cs fU
 |_,_=>False
theorem FC{P:Program}{n:Nat}{ops:Array Oper}{w0:World}{S:List eL}{f:tr}:∀{σ:List wk}{nS:List (Nat×Value) ->List eL->Prop},(∀c∈σ,c.ok P n ops w0 S f) ->(∀c∈σ,c.left=[]) ->vx (σ.map (·.K)) nS->nS (σ.flatMap (·.u)) (σ.flatMap (·.e))
 |[],nS,_,_,h=>h
 |c::σ,nS,b,eM,h=>by
  have G:=(b c List.mem_cons_self).ch;rw[eM c List.mem_cons_self]at G;exact FC (σ:=σ) (nS:=λus d=>nS (c.u++us) (c.e++d)) (λx a=>b x (List.mem_cons_of_mem _ a)) (λx a=>eM x (List.mem_cons_of_mem _ a)) (h c.u c.e G)
def vj(ops:Array Oper)(a b:List Nat):Prop:=∀i∈a,∀j∈b,IV ops i j=true
theorem FU{ops:Array Oper}:∀{cs:List (List Nat)},IK ops cs=true->cs.Pairwise (vj ops)
 |[],_=>.nil
 |c::cs,h=>by
  simp only[IK,Bool.and_eq_true,List.all_eq_true]at h;refine List.pairwise_cons.2 ⟨λb a i ey j d=>h.1 i ey j ?_,FU h.2⟩;exact List.mem_flatten.2 ⟨b,a,d⟩
theorem vj.off{P:Program}{n:Nat}{ops:Array Oper}{w0:World}{S:List eL}{f:tr}{c x:wk}(h:vj ops c.all x.all∨vj ops x.all c.all)(q:x.ok P n ops w0 S f){i:Nat}{o:Oper}(ey:i∈c.all)(e1:ops[i]? =some o):
 ∀p∈x.u,p.1∉o.looksAt ops/\o.dst≠some p.1:=by
 intro p r;obtain⟨j,g,s,k,hd⟩:=q.u p r;rcases h with h|h
 .obtain⟨a,b,G,Y,ez⟩:=FD (h i ey j g);rw[e1]at G;cases G;rw[k]at Y;cases Y;obtain⟨l,d,m⟩:=Oper.apart_spec ez;exact⟨m _ hd,λe=>d _ e hd⟩
 obtain⟨a,b,G,Y,ez⟩:=FD (h j g i ey);rw[k]at G;cases G;rw[e1]at Y;cases Y;obtain⟨l,d,m⟩:=Oper.apart_spec ez;exact⟨l _ hd,λe=>d _ hd e⟩
theorem X5{P:Program}{ops:Array Oper}{f g:tr}{o:Oper}{w:World}{R:Value->World->Prop}(c:∀cs b,o.op≠ .select cs b)(h:∀t∈o.looksAt ops,f t=g t)(a:Z P f o w R):Z P g o w R:=by
 unfold Z at a⊢;rw[<-execOp_congr o c λx d=>?_]
 .exact a
 cases x with
 |tmp t=>exact h t (List.mem_append_left _ (List.mem_filterMap.2 ⟨.tmp t,by simpa using d,rfl⟩))
 |const v=>rfl
 |global g=>rfl
 |func g=>rfl
theorem U.FM{w0 w:World}{S tg:List eL}(h:U w0 S w)(c:S.Perm tg):U w0 tg w:=
 ⟨h.J,c.pairwise h.yn (λ{a b} d k f ep=>d k ep f),λe g=>h.all e (c.mem_iff.2 g)⟩
theorem FF(A tS C S:List eL):((A++(tS++C))++S).Perm (tS++(S++(A++C))):=by
 have e:(A++(tS++C))++S=A++(tS++(C++S)):=by simp
 rw[e];have G:(A++(tS++(C++S))).Perm (tS++(A++(C++S))):=by
  rw[<-List.append_assoc,<-List.append_assoc tS A];exact List.perm_append_comm.append_right _
 refine G.trans (List.Perm.append_left tS ?_);have a:A++(C++S)=(A++C)++S:=by simp
 rw[a];exact List.perm_append_comm
theorem X6{P:Program}{n tt:Nat}{I:World->Prop}{ops:Array Oper}{Q:Exit->tr->World->Prop}{r:sU}{f:tr}{w0:World}{S:List eL}(V:Region.noSelect ops=true)(W:∀w,U w0 S w->I w)
 (hE:∀(c:List PanicEntry) f f1 w,Q (.panic c) f w->Q (.panic c) f1 w) {q L:Array Bool} (e9:dk ops tt L r=true):
 ∀(m:Nat)(σ:List wk)(listed:Array Bool)(a:Act)(w:World),(σ.map (·.left)).flatten.length=m->(∀c∈σ,c.ok P n ops w0 S f) ->(σ.map (·.all)).Pairwise (vj ops) ->
  listed=yd q (σ.map (·.done)).flatten->HW ops tt q (σ.map (·.all))=true->yd q (σ.map (·.all)).flatten=L->gH .any ops tt listed->sa n a (oR (σ.flatMap (·.u)) f) ->U w0 (σ.flatMap (·.e)++S) w->
  vx (σ.map (·.K)) (λus aY=>∀w',U w0 (aY++S) w'->e3 P n ops tt I Q r (oR us f) w') ->
  wv P .any ops tt I (λe tm w'=>∃an,sa n tm an/\Q e an w') (lX r+m) listed a w:=by
 intro m;induction m with
 |zero=>
  intro σ listed a w th j _ s _ F H ep E J;have eM:∀c∈σ,c.left=[]:=by
   intro c o;have G:(σ.map (·.left)).flatten=[]:=List.eq_nil_of_length_eq_zero th;exact List.flatten_eq_nil_iff.1 G _ (List.mem_map.2 ⟨c,o,rfl⟩)
  have G:σ.map (·.done)=σ.map (·.all):=List.map_congr_left λc o=>by
   have Y:=(j c o).e7;rw[eM c o,List.append_nil]at Y;exact Y
  rw[G,F]at s;have X:=FC j eM J w E;unfold e3 at X;exact X listed a V (by rw[s];exact e9) (.inl ⟨H,W w (E.sub (List.sublist_append_right _ _))⟩) ep hE
 |succ m aC=>
  intro σ listed a w th j M s N F H ep E J;have X7:=N;simp only[HW,Bool.and_eq_true,List.all_eq_true,List.any_eq_true,decide_eq_true_eq,Bool.or_eq_true]at N;obtain⟨O,s2⟩:=N;have B:=s2 _ (FH (A:=wk.all) (HX:=wk.done) (HJ:=wk.left) (λc o=>(j c o).e7));simp only[<-s]at B;have B:=B.resolve_left λG=>by
   have Y:(σ.map (·.left)).flatten=[]:=List.flatten_eq_nil_iff.2 λl eM=>by simpa using G l eM
   rw[Y]at th;cases th
  obtain⟨R,X8⟩:=B;have R:Region.ready .any ops listed≠[]:=by simpa using R
  refine⟨λem=>absurd em R,λi ey=>?_⟩;obtain⟨l,h8,y⟩:=X8 i ey;obtain⟨c,ja,rfl⟩:=List.mem_map.1 h8;obtain⟨uO,k⟩:∃uO,c.left=i::uO:=by
   cases k:c.left with
   |nil=>rw[k]at y;simp at y
   |cons x uO=>rw[k]at y;simp at y;subst y;exact⟨uO,rfl⟩
  obtain⟨pre,post,rfl⟩:=List.append_of_mem ja;have C:=j c (by simp);have wx:=C.ch;rw[k]at wx;obtain⟨d,op,T,pos,eO,z,X9,H0⟩:=wx;have D:i∈c.all:=by rw[<-C.e7,k];simp
  have O:i<tt:=O i (List.mem_flatten.2 ⟨c.all,by simp,D⟩);have FP:(∀x∈pre,vj ops x.all c.all)/\(∀x∈post,vj ops c.all x.all):=by
   rw[List.map_append,List.map_cons]at M;obtain⟨_,e6,ac⟩:=List.pairwise_append.1 M;exact⟨λx g=>ac _ (List.mem_map.2 ⟨x,g,rfl⟩) _ List.mem_cons_self,λx g=>(List.pairwise_cons.1 e6).1 _ (List.mem_map.2 ⟨x,g,rfl⟩)⟩
  have ra:∀p∈pre.flatMap (·.u),p.1∉Oper.looksAt ops ⟨some d,op,T,pos,eO,none⟩/\some d≠some p.1:=by
   intro p h;obtain⟨x,g,h⟩:=List.mem_flatMap.1 h;exact vj.off (.inr (FP.1 x g)) (j x (by simp[g])) D z p h
  have tG:∀p∈post.flatMap (·.u),p.1∉Oper.looksAt ops ⟨some d,op,T,pos,eO,none⟩/\some d≠some p.1:=by
   intro p h;obtain⟨x,g,h⟩:=List.mem_flatMap.1 h;exact vj.off (.inl (FP.2 x g)) (j x (by simp[g])) D z p h
  have Je:(pre++c::post).flatMap (·.u)=pre.flatMap (·.u)++(c.u++post.flatMap (·.u)):=by simp
  have Jt:(pre++c::post).flatMap (·.e)=pre.flatMap (·.e)++(c.e++post.flatMap (·.e)):=by simp
  rw[Je,IZ,IZ]at ep;rw[Jt]at E;have tI:U w0 (c.e++(S++(pre.flatMap (·.e)++post.flatMap (·.e)))) w:=E.FM (FF _ _ _ _);have TP:=H0 _ w tI;have Ja:∀cs b,op≠ .select cs b:=λcs b=>Region.noSelect_spec V _ _ cs b z;have Jo:Z P (oR (pre.flatMap (·.u)) (oR c.u (oR (post.flatMap (·.u)) f))) ⟨some d,op,T,pos,eO,none⟩ w (λv w'=>∃oZ,U w0 (oZ++(S++(pre.flatMap (·.e)++post.flatMap (·.e)))) w'/\o5 P n ops w0 S f uO ((d,v)::c.u) oZ c.K):=by
   refine X5 (ops:=ops) Ja (λt tq=>?_) TP;rw[HK (λp h e=>(ra p h).1 (by rw[e];exact tq))];exact FN c.u (HK (λp h e=>(tG p h).1 (by rw[e];exact tq)) f).symm
  unfold wpOp;simp only[z,Region.wanted,if_true];refine .inl (pL ep Jo λv w'⟨oZ,sR,Ji⟩=>⟨λ_ _=>W w' (sR.sub ((List.sublist_append_left S _).trans (List.sublist_append_right _ _))),?_⟩);have Jn:=ep.put (dst:=some d) (by intro x g;cases g;exact X9) v;refine aC (pre++⟨c.all,c.done++[i],uO,(d,v)::c.u,oZ,c.K⟩::post) _ _ _ ?_ ?_ ?_ ?_ ?_ ?_ (H.set ey O) ?_ ?_ ?_
  .simp only[List.map_append,List.map_cons,List.flatten_append,List.flatten_cons,List.length_append,k,List.length_cons]at th⊢;omega
  .intro x g;rcases List.mem_append.1 g with g|g
   .exact j x (by simp[g])
   rcases List.mem_cons.1 g with rfl|g
   .refine⟨by rw[<-C.e7,k];simp,λp h=>?_,Ji⟩;rcases List.mem_cons.1 h with rfl|h
    .exact⟨i,D,_,z,rfl⟩
    exact C.u p h
   exact j x (by simp[g])
  .simpa using M
  .rw[s];have aA:((pre++(⟨c.all,c.done++[i],uO,(d,v)::c.u,oZ,c.K⟩:wk)::post).map (·.done)).flatten=(pre.map (·.done)).flatten++(c.done++[i]++(post.map (·.done)).flatten):=by simp
   have aK:((pre++c::post).map (·.done)).flatten=(pre.map (·.done)).flatten++(c.done++(post.map (·.done)).flatten):=by simp
   rw[aA,aK];have rW:∀l,(yd q l).setIfInBounds i true=yd q (l++[i]):=λl=>by simp[yd]
   rw[rW];refine X4 _ ?_;rw[List.append_assoc,List.append_assoc,List.append_assoc];refine List.Perm.append_left _ (List.Perm.append_left _ ?_);exact List.perm_append_comm
  .simpa using X7
  .simpa using F
  .have Js:(pre++(⟨c.all,c.done++[i],uO,(d,v)::c.u,oZ,c.K⟩:wk)::post).flatMap (·.u)=pre.flatMap (·.u)++((d,v)::(c.u++post.flatMap (·.u))):=by simp
   rw[Js,IZ];show sa n _ (oR _ (o2 (oR (c.u++_) f) d v));rw[X3 (λp h e=>(ra p h).2 (by rw[e])),IZ];exact Jn
  .have Jr:(pre++(⟨c.all,c.done++[i],uO,(d,v)::c.u,oZ,c.K⟩:wk)::post).flatMap (·.e)=pre.flatMap (·.e)++(oZ++post.flatMap (·.e)):=by simp
   rw[Jr];exact sR.FM (FF _ _ _ _).symm
  simpa using J
theorem bl.build{P:Program}{n:Nat}{ops:Array Oper}{w0:World}{S:List eL}{f:tr}:∀{cs:List (List Nat)}{a:List (List (Nat×Value) ->List eL->Prop)},bl P n ops w0 S f cs a->
 ∃σ:List wk,σ.map (·.all)=cs/\σ.map (·.left)=cs/\(σ.map (·.done)).flatten=[]/\σ.map (·.K)=a/\σ.flatMap (·.u)=[]/\σ.flatMap (·.e)=[]/\∀c∈σ,c.ok P n ops w0 S f
 |[],[],_=>⟨[],rfl,rfl,rfl,rfl,rfl,rfl,λc d=>by cases d⟩
 |c::cs,K::a,h=>by
  obtain⟨σ,G,Y,hd,ez,e6,ac,aW⟩:=bl.build h.2;refine⟨⟨c,[],c,[],[],K⟩::σ,by simp[G],by simp[Y],by simpa using hd,by simp[ez],by simpa using e6,by simpa using ac,λx b=>?_⟩;rcases List.mem_cons.1 b with rfl|b
  .exact⟨rfl,λp g=>absurd g (by simp),h.1⟩
  exact aW x b
 |[],_::_,h=>h.elim
 |_::_,[],h=>h.elim
theorem e3.sx{P:Program}{n tt:Nat}{I:World->Prop}{ops:Array Oper}{Q:Exit->tr->World->Prop}{r:sU}{f:tr}{w w0:World}{S:List eL}{cs:List (List Nat)}(c:List (List (Nat×Value) ->List eL->Prop))(E:U w0 S w)(e:∀w,U w0 S w->I w)
 (g:bl P n ops w0 S f cs c) (i:vx c (λus j=>∀w',U w0 (j++S) w'->e3 P n ops tt I Q r (oR us f) w')):e3 P n ops tt I Q (.sx cs r) f w:=by
 unfold e3;intro listed a k d hinv ep l;simp only[dk,Bool.and_eq_true]at d;obtain⟨⟨G,Y⟩,ez⟩:=d;have hinv:=(hinv.resolve_right (λh=>by cases h)).1;obtain⟨σ,b,m,eV,o,p,fC,uT⟩:=g.build;refine X6 k e l ez _ σ listed a w (by rw[m]) uT (by rw[b];exact FU G) (by rw[eV];rfl) (by rw[b];exact Y) (by rw[b]) hinv ?_ ?_ ?_
 .rw[p];exact ep
 .rw[fC];exact E
 rw[o];exact i
theorem o5.step{P:Program}{n:Nat}{ops:Array Oper}{w0:World}{S:List eL}{f:tr}{i:Nat}{l:List Nat}{u:List (Nat×Value)}{e:List eL}{K:List (Nat×Value) ->List eL->Prop}{d:Nat}{op:Op}{T:TypeId}{pos:String}{eO:Array Edge}
 (ey:ops[i]? =some ⟨some d,op,T,pos,eO,none⟩) (hd:Nat.blt d n=true) (h:∀(X:List eL)(w:World),U w0 (e++(S++X)) w->Z P (oR u f) ⟨some d,op,T,pos,eO,none⟩ w λv w'=>∃oZ,U w0 (oZ++(S++X)) w'/\o5 P n ops w0 S f l ((d,v)::u) oZ K):
 o5 P n ops w0 S f (i::l) u e K:=⟨d,op,T,pos,eO,ey,by simpa using hd,h⟩
theorem o5.nil{P:Program}{n:Nat}{ops:Array Oper}{w0:World}{S:List eL}{f:tr}{u:List (Nat×Value)}{e:List eL}{K:List (Nat×Value) ->List eL->Prop}(h:K u e):o5 P n ops w0 S f [] u e K:=h
theorem bl.nil{P:Program}{n:Nat}{ops:Array Oper}{w0:World}{S:List eL}{f:tr}:bl P n ops w0 S f [] []:=trivial
theorem bl.cons{P:Program}{n:Nat}{ops:Array Oper}{w0:World}{S:List eL}{f:tr}{c:List Nat}{cs:List (List Nat)}{K:List (Nat×Value) ->List eL->Prop}{a:List (List (Nat×Value) ->List eL->Prop)}(h:o5 P n ops w0 S f c [] [] K)(b:bl P n ops w0 S f cs a):bl P n ops w0 S f (c::cs) (K::a):=⟨h,b⟩
theorem vx.nil{nS:List (Nat×Value) ->List eL->Prop}(h:nS [] []):vx [] nS:=h
theorem vx.cons{K:List (Nat×Value) ->List eL->Prop}{a:List (List (Nat×Value) ->List eL->Prop)}{nS:List (Nat×Value) ->List eL->Prop}(h:∀u e,K u e->vx a λus b=>nS (u++us) (e++b)):vx (K::a) nS:=h
end
class vq(P:Program):Prop where out:P.follows .mixedOrders=true
section
variable{P:Program}{n:Nat}{Q:Exit->tr->World->Prop}{f:tr}{w:World}
def bd(ops:Array Oper)(tt:Nat):Bool:=decide (tt=ops.size)||(decide (tt<ops.size)&&HC .any ops tt&&Region.chainB .any ops tt)
theorem H1{ops:Array Oper}{tt:Nat}(h:bd ops tt=true):gH .any ops tt (Array.replicate ops.size false):=by
 simp only[bd,Bool.or_eq_true,Bool.and_eq_true,decide_eq_true_eq]at h;rcases h with h|⟨⟨G,Y⟩,ez⟩
 .exact .inl h
 exact .inr ⟨G,Y,ez,⟨by simp,λj b _ eM=>(by rw[getD_replicate_false]at eM;cases eM),λt _ a=>getD_in (by simpa using a) (getD_replicate_false _ _)⟩⟩
theorem T1[th:vq P]{id:Nat}{l:List Oper}(tt:Nat)(r:sU)(b:(Region.noSelect l.toArray&&bd l.toArray tt&&dk l.toArray tt (Array.replicate l.toArray.size false) r&&decide (lX r=l.length))=true)
 (d:∀(c:List PanicEntry) f f1 w,Q (.panic c) f w->Q (.panic c) f1 w) (h:∀aM,eB w aM->∃I:World->Prop,I aM/\e3 P n l.toArray tt I Q r f aM):ex P n (.region id l.toArray true) Q f w:=by
 simp only[Bool.and_eq_true,decide_eq_true_eq]at b;obtain⟨⟨⟨e,g⟩,b⟩,hlen⟩:=b;unfold ex;obtain⟨I,i,h⟩:=h _ (eB.drawn w (w.drawn+1));unfold e3 at h;intro a ep;refine wp_region_any th.out ?_;have:=IY _ _ _ _ (h _ a e b (.inl ⟨H1 g,i⟩) ep d);rw[hlen]at this;simpa using this
theorem vz[th:vq P]{id:Nat}{l:List Oper}(tt:Nat)(r:sU)(a:(Region.noSelect l.toArray&&bd l.toArray tt&&dk l.toArray tt (Array.replicate l.toArray.size false) r&&decide (lX r=l.length))=true)
 (b:∀(c:List PanicEntry) f w,¬Q (.panic c) f w) (h:∀aM,eB w aM->∃I:World->Prop,I aM/\e3 P n l.toArray tt I Q r f aM):ex P n (.region id l.toArray true) Q f w:=
 T1 tt r a (λc f _ w h=>absurd h (b c f w)) h
theorem gU[th:vq P]{id:Nat}{l:List Oper}(tt:Nat)(r:sU)(a:(Region.noSelect l.toArray&&bd l.toArray tt&&dk l.toArray tt (Array.replicate l.toArray.size false) r&&decide (lX r=l.length))=true)
 (b:∀(c:List PanicEntry) f w,¬Q (.panic c) f w) (h:∀aM,eB w aM->e3 P n l.toArray tt (eB aM) Q r f aM):ex P n (.region id l.toArray true) Q f w:=
 vz tt r a b λaM d=>⟨eB aM,eB.refl aM,h aM d⟩
end
end
section
variable{a c:Int}{k:Nat}
theorem H2(w n:Nat):BitVec.ofInt w (n:Int)=BitVec.ofNat w n:=by simp
theorem Jh(a b:Nat)(ep:a<9223372036854775808)(c:b<9223372036854775808):hH .or .i64 a b=((a|||b:Nat):Int):=by
 show IntKind.i64.wrap ((BitVec.ofInt 64 (a:Int)|||BitVec.ofInt 64 (b:Int)).toNat:Int)=_;have h:a|||b<2^63:=Nat.or_lt_two_pow ep c;simp only[H2,BitVec.toNat_or,BitVec.toNat_ofNat];rw[Nat.mod_eq_of_lt (by omega),Nat.mod_eq_of_lt (by omega)];exact wrap_i64 (by omega)
theorem I1(a b:Nat)(ep:a<18446744073709551616)(c:b<18446744073709551616):hH .or .u64 a b=((a|||b:Nat):Int):=by
 show IntKind.u64.wrap ((BitVec.ofInt 64 (a:Int)|||BitVec.ofInt 64 (b:Int)).toNat:Int)=_;have h:a|||b<2^64:=Nat.or_lt_two_pow ep c;simp only[H2,BitVec.toNat_or,BitVec.toNat_ofNat];rw[Nat.mod_eq_of_lt (by omega),Nat.mod_eq_of_lt (by omega)];exact wrap_u64 (by omega)
theorem H4(a b:Nat)(ep:a<18446744073709551616)(c:b<18446744073709551616):hH .and .u64 a b=((a&&&b:Nat):Int):=by
 show IntKind.u64.wrap ((BitVec.ofInt 64 (a:Int)&&&BitVec.ofInt 64 (b:Int)).toNat:Int)=_;have h:a&&&b<=a:=Nat.and_le_left;simp only[H2,BitVec.toNat_and,BitVec.toNat_ofNat];rw[Nat.mod_eq_of_lt (by omega),Nat.mod_eq_of_lt (by omega)];exact wrap_u64 (by omega)
theorem H5(a m i:Nat)(h:a<2^i):a|||m*2^i=a+m*2^i:=by
 have:=Nat.two_pow_add_eq_or_of_lt h m;rw[Nat.or_comm,Nat.mul_comm m,<-this];omega
theorem Jl(c:UInt8):hH .andNot .u8 (c.toNat:Int) 128=((c.toNat%128:Nat):Int):=by
 have h:∀m:Fin 256,hH .andNot .u8 (m.val:Int) 128=((m.val%128:Nat):Int):=by decide+kernel
 exact h ⟨c.toNat,c.toNat_lt⟩
theorem Jd(e:k<64)(b:a*2^k=c)(d: -9223372036854775808<=c/\c<=9223372036854775807):IntKind.i64.wrap (a*2^(min (Int.toNat (k:Int)) IntKind.i64.bits))=c:=by
 have:min (Int.toNat (k:Int)) IntKind.i64.bits=k:=by simp[IntKind.bits];omega
 rw[this,b];exact wrap_i64 d
theorem FG(e:k<64)(b:a*2^k=c)(d:0<=c/\c<=18446744073709551615):IntKind.u64.wrap (a*2^(min (Int.toNat (k:Int)) IntKind.u64.bits))=c:=by
 have:min (Int.toNat (k:Int)) IntKind.u64.bits=k:=by simp[IntKind.bits];omega
 rw[this,b];exact wrap_u64 d
theorem Jc{a:Nat}{K:IntKind}(b:k<=K.bits):Int.fdiv (a:Int) (2^(min (Int.toNat (k:Int)) K.bits))=((a/2^k:Nat):Int):=by
 have:min (Int.toNat (k:Int)) K.bits=k:=by simp;omega
 rw[this,Int.fdiv_eq_ediv_of_nonneg _ (by exact Int.le_of_lt (Int.pow_pos (by omega)))];simp
theorem wj(c:UInt8):c.toNat<256:=c.toNat_lt
end
section
open Go.ChangeShapes Go.WideShapes Go.ChangeAt
variable{P:Program}{H:Type}{f:Func}{W:World}{args:Array Value}
section
variable{H:Type}{enc:TypeId×Value->H}{P:Program}{w:World}
abbrev lJ(enc:TypeId×Value->H)(P:Program)(w:World)(fuel:Nat)(t:TypeId)(cs:List Value):Option (DataW H×List MemPlace):=DataW.trod enc P w 0 (λ_=>true) true fuel t cs
def pY(P:Program)(t:TypeId)(α:Type)[O α](I:World->α->Prop):Prop:=
 ∀(H:Type)(enc:TypeId×Value->H)(w:World)(fuel:Nat)(cs:List Value)(d:DataW H)(ps:List MemPlace),lJ enc P w fuel t cs=some (d,ps) ->∃x:α,cs=(O.enc x).toList/\I w x
theorem H6{t:TypeId}{k:IntKind}(a:P.underlying t=some (.int k)){fuel:Nat}{cs:List Value}{d:DataW H}{ps:List MemPlace}(h:lJ enc P w fuel t cs=some (d,ps)):∃n,cs=[.int k n]/\(Lit.int k n).wf=true:=by
 cases fuel with
 |zero=>simp[lJ,DataW.trod]at h
 |succ fuel=>
  unfold lJ DataW.trod at h;rw[a]at h;split at h<;>simp_all
theorem Ju{t:TypeId}(a:P.underlying t=some .bool){fuel:Nat}{cs:List Value}{d:DataW H}{ps:List MemPlace}(h:lJ enc P w fuel t cs=some (d,ps)):∃b,cs=[.bool b]:=by
 cases fuel with
 |zero=>simp[lJ,DataW.trod]at h
 |succ fuel=>
  unfold lJ DataW.trod at h;rw[a]at h;split at h<;>simp_all
theorem T2{α c:Type}{g:α->Option c}:∀{l:List α}{r:List c},l.mapM g=some r->∀x∈l,∃y,g x=some y
 |[],_,_=>by simp
 |a::l,r,h=>by
  simp only[List.mapM_cons]at h;cases ep:g a with
  |none=>simp[ep]at h
  |some y=>
   cases eM:l.mapM g with
   |none=>simp[ep,eM]at h
   |some d=>
    intro x b;rcases List.mem_cons.1 b with rfl|b
    .exact⟨y,ep⟩
    exact T2 eM x b
theorem Jm{t:TypeId}{nx:Array Field}(a:P.underlying t=some (.struct nx)){fuel:Nat}{cs:List Value}{d:DataW H}{ps:List MemPlace}(h:lJ enc P w fuel t cs=some (d,ps)):
 cs.length=P.cellsOf t/\∃b,∀f∈nx.toList,∃y,lJ enc P w b f.type ((cs.drop f.offset).take (P.cellsOf f.type))=some y:=by
 cases fuel with
 |zero=>simp[lJ,DataW.trod]at h
 |succ fuel=>
  unfold lJ DataW.trod at h;rw[a]at h;simp only at h;split at h
  .rename_i eM;refine⟨eM,fuel,?_⟩;rw[Option.map_eq_some_iff]at h;obtain⟨xs,c,_⟩:=h;exact T2 c
  cases h
theorem Jf{t e:TypeId}{n:Nat}(a:P.underlying t=some (.array n e)){fuel:Nat}{cs:List Value}{d:DataW H}{ps:List MemPlace}(h:lJ enc P w fuel t cs=some (d,ps)):
 cs.length=P.cellsOf t/\∃b,∀i,i<n->∃y,lJ enc P w b e ((cs.drop (i*P.cellsOf e)).take (P.cellsOf e))=some y:=by
 cases fuel with
 |zero=>simp[lJ,DataW.trod]at h
 |succ fuel=>
  unfold lJ DataW.trod at h;rw[a]at h;simp only at h;split at h
  .rename_i eM;refine⟨eM,fuel,λi ey=>?_⟩;rw[Option.map_eq_some_iff]at h;obtain⟨xs,c,_⟩:=h;exact T2 c i (List.mem_range.2 ey)
  cases h
theorem FW{t e:TypeId}(g:P.underlying t=some (.slice e)){fuel:Nat}{cs:List Value}{d:DataW H}{ps:List MemPlace}(h:lJ enc P w fuel t cs=some (d,ps)):
 cs=[.slice none 0 0]∨∃a len cap j,cs=[.slice (some a) len cap]/\len<=cap/\cap<=maxLen/\∀i,i<cap->∃c y,w.cells? 0 (a.add (i*P.cellsOf e)) (P.cellsOf e)=some c/\lJ enc P w j e c=some y:=by
 cases fuel with
 |zero=>simp[lJ,DataW.trod]at h
 |succ fuel=>
  unfold lJ DataW.trod at h;rw[g]at h;simp only at h;split at h
  case h_7=>exact .inl rfl
  case h_8 oZ a len cap k=>
   cases k;refine .inr ?_;split at h
   .rename_i f;refine⟨_,_,_,fuel,rfl,f.2.1,f.2.2,λi ey=>?_⟩;simp only[if_true,Option.bind_eq_some_iff]at h;obtain⟨l,G,Y⟩:=h;rw[Option.map_eq_some_iff]at Y;obtain⟨rest,Y,_⟩:=Y;have key:∃y,(w.cells? 0 (a.add (i*P.cellsOf e)) (P.cellsOf e)).bind (DataW.trod enc P w 0 (λ_=>true) true fuel e)=some y:=by
     by_cases eM:i<len
     .exact T2 G i (List.mem_range.2 eM)
     obtain⟨y,b⟩:=T2 Y (i-len) (List.mem_range.2 (by omega));rw[show len+(i-len)=i by omega]at b;exact⟨y,b⟩
    obtain⟨y,b⟩:=key;rw[Option.bind_eq_some_iff]at b;obtain⟨c,ez,e6⟩:=b;exact⟨c,y,ez,e6⟩
   cases h
  all_goals simp_all
theorem FY{a:Addr}{n:Nat}{l:List Value}(h:w.cells? 0 a n=some l):l.length=n/\∀j,j<n->w.cell? (a.add j)=l[j]? :=by
 simp only[World.cells?,Nat.zero_le,if_true]at h;have key:∀(iG:List Nat)(r:List Value),iG.mapM (λi=>w.cell? (a.add i))=some r->r.length=iG.length/\∀(j x:Nat),iG[j]? =some x->w.cell? (a.add x)=r[j]? :=by
  intro iG;induction iG with
  |nil=>intro r b;simp at b;subst b;simp
  |cons x iG d=>
   intro r b;simp only[List.mapM_cons]at b;cases G:w.cell? (a.add x)with
   |none=>simp[G]at b
   |some v=>
    cases Y:iG.mapM (λi=>w.cell? (a.add i))with
    |none=>simp[G,Y]at b
    |some e=>
     simp[G,Y]at b;subst b;obtain⟨i1,i2⟩:=d e Y;refine⟨by simp[i1],λj y c=>?_⟩;cases j with
     |zero=>simp at c;subst c;simpa using G
     |succ j=>simpa using i2 j y (by simpa using c)
 obtain⟨f,g⟩:=key _ _ h;exact⟨by simpa using f,λj k=>g j j (by simp[k])⟩
theorem FB{α:Type}{n:Nat}{p:Nat->α->Prop}(h:∀i,i<n->∃x,p i x):∃xs:List α,xs.length=n/\∀i x,xs[i]? =some x->p i x:=by
 induction n with
 |zero=>exact⟨[],rfl,by simp⟩
 |succ n a=>
  obtain⟨xs,eM,b⟩:=a λi ey=>h i (by omega);obtain⟨y,c⟩:=h n (by omega);refine⟨xs++[y],by simp[eM],λi x ey=>?_⟩;rw[List.getElem?_append]at ey;split at ey
  .exact b i x ey
  rename_i d;have:i=n:=by
   have:=(List.getElem?_eq_some_iff.1 ey).1;simp at this;omega
  subst this;simp[eM]at ey;subst ey;exact c
theorem Jp{α:Type}[O α]:∀(xs:List α)(j:Nat)(u:Value),(iE xs)[j]? =some u->∃x,xs[j/O.eo α]? =some x/\(O.enc x)[j%O.eo α]? =some u:=by
 intro xs j u h;have b:=O.pos (α:=α);have a:=(List.getElem?_eq_some_iff.1 h).1;rw[uj]at a;have ey:j/O.eo α<xs.length:=Nat.div_lt_of_lt_mul (by rw[Nat.mul_comm];exact a);refine⟨xs[j/O.eo α],List.getElem?_eq_getElem ey,?_⟩;have th:j%O.eo α<(O.enc xs[j/O.eo α]).size:=by rw[O.eT];exact Nat.mod_lt _ b
 have:=IS xs _ _ (List.getElem?_eq_getElem ey) (j%O.eo α) _ (Array.getElem?_eq_getElem th);rw[Nat.div_add_mod' j (O.eo α)]at this;rw[this]at h;rw[Array.getElem?_eq_getElem th];exact h
theorem FV{α:Type}[O α]{I:World->α->Prop}{t e:TypeId}(n:hc P t e)(p:pY P e α I)(q:nh P e (O.eo α)){fuel:Nat}{v:Value}{d:DataW H}{ps:List MemPlace}(h:lJ enc P w fuel t [v]=some (d,ps)):
 ∃xs:List α,ev w v xs/\∀x∈xs,I w x:=by
 have r:P.cellsOf e=O.eo α:=by
  have:=q.out;unfold Program.cellsOf;rw[this];rfl
 have l:=O.pos (α:=α);rcases FW n.out h with em|⟨a,len,cap,z,em,eM,th,c⟩
 .simp at em;subst em;exact⟨[],ev.nil w,by simp⟩
 simp at em;subst em;rw[r]at c;have A:∀i,i<len->∃x:α,(∀j,j<O.eo α->w.cell? ((a.add (i*O.eo α)).add j)=(O.enc x)[j]?)/\I w x:=by
  intro i ey;obtain⟨f,y,G,Y⟩:=c i (by omega);obtain⟨x,g,B⟩:=p H enc w z f y.1 y.2 Y;obtain⟨_,e6⟩:=FY G;exact⟨x,λj C=>by rw[e6 j C,g];simp,B⟩
 obtain⟨xs,D,m⟩:=FB A;refine⟨xs,⟨some a,cap,by rw[D],by omega,th,by simp,λN E Q=>?_⟩,λx g=>?_⟩
 .cases E;have k:a.spot=none:=by
   obtain⟨f,y,G,_⟩:=c 0 (by omega);obtain⟨ez,e6⟩:=FY G;have ac:=e6 0 l;have aW:f[0]?≠none:=by rw[List.getElem?_eq_getElem (by omega)];simp
   rw[<-ac]at aW;simp only[Nat.zero_mul]at aW;have F:(a.add 0).add 0=a:=by simp[Addr.add]
   rw[F]at aW;unfold World.cell? at aW;cases J:a.spot with
   |none=>rfl
   |some s=>simp[J]at aW;split at aW<;>simp at aW
  refine⟨k,λj u K=>?_⟩;obtain⟨x,L,M⟩:=Jp xs j u K;have nf:=(m _ _ L).1 (j%O.eo α) (Nat.mod_lt _ l);rw[M]at nf;rw[<-nf];obtain⟨b,o,s⟩:=a;simp only at k;subst k;rw[wd,wd];congr 2;rw[Nat.add_assoc,Nat.div_add_mod' j (O.eo α)]
 obtain⟨i,ey⟩:=List.getElem?_of_mem g;exact(m i x ey).2
end
theorem FK{t:TypeId}[h:lc P t .u8]:pY P t UInt8 (λ_ _=>True):=by
 intro H enc w fuel cs d ps a;obtain⟨n,rfl,b⟩:=H6 h.out a;have c:0<=n/\n<=255:=by simpa[Lit.wf,IntKind.min,IntKind.max,IntKind.signed,IntKind.bits]using b
 refine⟨UInt8.ofNat n.toNat,?_,trivial⟩;simp[Fm];omega
section
variable{H:Type}{enc:TypeId×Value->H}{P:Program}{W:World}{base:Nat}{v:Value}{d:DataW H}{ps:List MemPlace}{t:TypeId}
theorem Jw{α:Type}[O α]{I:World->α->Prop}(ep:mE P t)(f:pY P t α I)(a:Value.okWide P W .any base t v)(b:DataW.Trod enc P W 0 (λ_=>true) true t v d ps):∃x:α,v= .agg (O.enc x)/\I W x:=by
 have ep:=ep.out;unfold vg at ep;unfold Value.okWide at a;obtain⟨fuel,b⟩:=b;have g:∃cs,v= .agg cs:=by
  cases c:P.underlying t with
  |none=>simp[c]at ep
  |some x=>
   rw[c]at a ep;cases x<;>simp at ep<;>(obtain⟨cs,h,_⟩:=a;exact⟨cs,h⟩)
 obtain⟨cs,rfl⟩:=g;obtain⟨x,e,i⟩:=f H enc W fuel _ d ps b;refine⟨x,?_,i⟩;simp only[Value.cells]at e;congr 1;exact Array.toList_inj.1 e
theorem FX{α:Type}[O α]{I:World->α->Prop}{e:TypeId}(c:hc P t e)(f:pY P e α I)(g:nh P e (O.eo α))(h:Value.okWide P W .any base t v)(b:DataW.Trod enc P W 0 (λ_=>true) true t v d ps):
 ∃xs:List α,ev W v xs/\∀x∈xs,I W x:=by
 obtain⟨a,len,cap,rfl⟩:=okWide_slice c.out h;obtain⟨fuel,b⟩:=b;exact FV c f g b
end
theorem FJ{H:Type}{enc:TypeId×Value->H}{P:Program}(eM:laidOutB P=true){W c:World}(e:eB W c):
 ∀(nN:List TypeId)(vs:List Value)(uZ:List (DataW H))(ps:List MemPlace),(∀t∈nN,P.readableRec t=true/\t<P.types.size) ->
  DataW.TrodAll enc P W 0 (λ_=>true) true nN vs uZ ps->(∀x∈ps,x.block<W.heap.size) ->DataW.TrodAll enc P c 0 (λb=>decide (b<W.heap.size)) true nN vs uZ ps
 |[],[],[],ps,_,h,_=>h
 |t::nN,v::vs,d::uZ,ps,f,h,g=>by
  obtain⟨p,q,G,Y,rfl⟩:=h;have ez:=f t List.mem_cons_self;exact⟨p,q,Below.trod eM ez.1 ez.2 G e (λx a=>g x (List.mem_append_left _ a)),FJ eM e nN vs uZ q (λt h=>f t (List.mem_cons_of_mem _ h)) Y (λx a=>g x (List.mem_append_right _ a)),rfl⟩
 |[],_::_,_,_,_,h,_=>by simp[DataW.TrodAll]at h
 |[],[],_::_,_,_,h,_=>by simp[DataW.TrodAll]at h
 |_::_,[],_,_,_,h,_=>by simp[DataW.TrodAll]at h
 |_::_,_::_,[],_,_,h,_=>by simp[DataW.TrodAll]at h
theorem Jy{enc:TypeId×Value->H}{s:ChangeSpec}(eM:laidOutB P=true)(g:∀t∈f.params.toList,P.readableRec t=true/\t<P.types.size)
 {a:World} {uZ:List (DataW H)} {fM:List MemPlace} (tC:s.vars=[]) (b:DataW.Whole enc P f.params.toList s.vars false W args.toList uZ [] fM)
 (i:(s.fn H (uZ++[])).results=[.lit (.bool true)]) (j:(s.fn H (uZ++[])).args=uZ) (k:(s.fn H (uZ++[])).vars=[]) {tS:TypeId} (l:f.resultTypes=#[tS]) (m:P.underlying tS=some .bool) (c:eB W a):
 s.post enc P f false true false false W args (.bool true) a:=by
 have d:=b;obtain⟨p,q,n,e,rfl,r,u⟩:=b;rw[tC]at e;obtain⟨_,rfl⟩:=trodVars_none e;refine⟨uZ,[],p++[],[],p,[],d,?_,?_,?_,c.frame _,λh=>by cases h⟩
 .rw[i,l];exact trodAll_mk1 (shut_bool m true)
 .rw[j];exact FJ eM c _ _ _ _ g n (λx o=>d.lt x (by simpa using o))
 rw[k,tC];rfl
theorem Jv{enc:TypeId×Value->H}{F:FuncId}{s:ChangeSpec}
 (b:nk P F args W (λr w'=>r= .bool true/\eB W w')) (c:∀a,eB W a->s.post enc P f false true false false W args (.bool true) a):
 Calls P F args W λe a=>∃v,e= .returned v/\s.post enc P f false true false false W args v a:=by
 unfold nk at b;exact b.mono λe a⟨v,d,tC,g⟩=>⟨.bool true,by rw[d,tC],c a g⟩
end
section
open Go.ChangeShapes Go.WideShapes Go.ChangeAt
variable{n:Nat}
instance:O (Vector UInt8 (n+1))where
 enc v:=v.toArray.map λc=>.int .u8 c.toNat
 eo:=n+1
 pos:=by omega
 eT v:=by simp
 one v u a:=by simp at a;obtain⟨c,_,rfl⟩:=a;rfl
theorem ju(v:Vector UInt8 (n+1)):O.enc v=v.toArray.map (λc=>.int .u8 c.toNat):=rfl
theorem I5(l:List UInt8):iE l=l.map λc=>Value.int .u8 c.toNat:=by
 induction l with
 |nil=>rfl
 |cons c l a=>rw[yr,a];rfl
theorem I6(v:Vector UInt8 (n+1)):(O.enc v).toList=iE v.toList:=by rw[I5];simp[ju,Vector.toList]
theorem FZ{P:Program}{t e:Nat}[ep:de P t (n+1) e][ey:lc P e .u8][g:nh P e 1][h:nh P t (n+1)]:pY P t (Vector UInt8 (n+1)) (λ_ _=>True):=by
 intro H enc w fuel cs d ps j;obtain⟨eM,k,a⟩:=Jf ep.out j;have n3:P.cellsOf e=1:=by unfold Program.cellsOf;rw[g.out];rfl
 have nr:P.cellsOf t=n+1:=by unfold Program.cellsOf;rw[h.out];rfl
 rw[n3]at a;rw[nr]at eM;have key:∀i,i<n+1->∃c:UInt8,cs[i]? =some (.int .u8 (c.toNat:Int)):=by
  intro i b;obtain⟨y,m⟩:=a i b;obtain⟨c,o,_⟩:=FK (P:=P) (t:=e) H enc w k _ y.1 y.2 m;refine⟨c,?_⟩;have:=congrArg (λl:List Value=>l[0]?) o;simp[List.getElem?_take,List.getElem?_drop,Fm]at this;exact this
 obtain⟨xs,f,p⟩:=FB key;refine⟨⟨xs.toArray,by simpa using f⟩,?_,trivial⟩;apply List.ext_getElem?;intro i;simp only[ju,Array.toList_map,List.getElem?_map];by_cases b:i<n+1
 .rw[p i xs[i] (List.getElem?_eq_getElem (by omega))];simp[show i<xs.length by omega]
 rw[List.getElem?_eq_none (by omega),List.getElem?_eq_none (by rw[f];omega)];rfl
end
section
open Go.ChangeShapes Go.WideShapes Go.ChangeAt
variable{o e:Nat}{p:Array Value->Prop}
structure eu where
 a:Option Addr
 n:Nat
 c:Nat
def eu.v(s:eu):Value:=.slice s.a s.n s.c
instance:O eu where
 enc s:=#[s.v]
 eo:=1
 pos:=by omega
 eT _:=rfl
 one s u a:=by simp at a;subst a;rfl
instance:O Bool where
 enc s:=#[.bool s]
 eo:=1
 pos:=by omega
 eT _:=rfl
 one s u a:=by simp at a;subst a;rfl
theorem hp(a b:List (Array Value))(v:Value)(e1:(eK a).size=o):(eK (a++#[v]::b))[o]? =some v:=by
 subst e1;rw[qZ,cR,Array.getElem?_append_right (Nat.le_refl _),Nat.sub_self,Array.getElem?_append_left (by simp)];rfl
theorem pV(a b:List (Array Value))(p:Array Value)(e1:(eK a).size=o)(c:o+p.size=e):(eK (a++p::b)).extract o e=p:=by
 subst e1;subst c;rw[qZ,cR];simp
theorem vE{xs p:Array Value}{i:Nat}{v:Value}(h:xs.extract o e=p)(a:p[i]? =some v)(ey:o+i<e):xs[o+i]? =some v:=by
 subst h;rw[Array.getElem?_extract]at a;split at a
 .exact a
 cases a
theorem rY{ps:List (Array Value)}(h:∀p∈ps,∀u∈p.toList,u.oneCell'=true):∀u∈(eK ps).toList,u.oneCell'=true:=by
 induction ps with
 |nil=>intro u a;simp[yh]at a
 |cons p ps b=>
  intro u a;rw[cR,Array.toList_append,List.mem_append]at a;rcases a with a|a
  .exact h p List.mem_cons_self u a
  exact b (λq c=>h q (List.mem_cons_of_mem _ c)) u a
theorem q9(r:Option Nat):∀u∈(#[Value.map r]:Array Value).toList,u.oneCell'=true:=by intro u a;simp at a;subst a;rfl
theorem o0(k:IntKind)(n:Int):∀u∈(#[Value.int k n]:Array Value).toList,u.oneCell'=true:=by intro u a;simp at a;subst a;rfl
theorem rB:∀q∈([]:List (Array Value)),p q:=by intro q a;cases a
theorem all_cons{x:Array Value}{l:List (Array Value)}(b:p x)(eM:∀q∈l,p q):∀q∈x::l,p q:=by
 intro q a;rcases List.mem_cons.1 a with rfl|a
 .exact b
 exact eM q a
theorem ze(p:Array Value)(ps:List (Array Value)):(eK (p::ps)).toList=p.toList++(eK ps).toList:=by rw[cR,Array.toList_append]
theorem fo{cs e r:List Value}{s:Nat}(h:(cs.drop o).take s=e)(a:cs.drop (o+s)=r):cs.drop o=e++r:=by
 subst h;subst a;rw[<-List.drop_drop,List.take_append_drop]
theorem F0{P:Program}{T n:Nat}(h:nh P T n):P.cellsOf T=n:=by unfold Program.cellsOf;rw[h.out];rfl
section
variable{H:Type}{enc:TypeId×Value->H}{P:Program}{w:World}
theorem I7{t:TypeId}{nx:Array Field}{n:Nat}(c:P.underlying t=some (.struct nx))(e:nh P t n){fuel:Nat}{cs:List Value}{d:DataW H}{ps:List MemPlace}(h:lJ enc P w fuel t cs=some (d,ps)):
 cs.drop n=[]/\∃a,∀(i:Nat)(f:Field)(T o m:Nat),nx[i]? =some f->f.type=T->f.offset=o->nh P T m->∃d ps,lJ enc P w a T ((cs.drop o).take m)=some (d,ps):=by
 obtain⟨eM,a,g⟩:=Jm c h;refine⟨List.drop_of_length_le (by rw[eM,F0 e];exact Nat.le_refl _),a,λi f T o m ey j e1 th=>?_⟩;subst j;subst e1;obtain⟨y,b⟩:=g f (Array.mem_toList_iff.2 (Array.mem_of_getElem? ey));rw[F0 th]at b;exact⟨y.1,y.2,b⟩
theorem T5{t:TypeId}(a:lc P t .i64){fuel:Nat}{cs:List Value}{d:DataW H}{ps:List MemPlace}(h:lJ enc P w fuel t cs=some (d,ps)):∃c:Int,cs=[.int .i64 c]/\-9223372036854775808<=c/\c<=9223372036854775807:=by
 obtain⟨n,rfl,b⟩:=H6 a.out h;exact⟨n,rfl,by simpa[Lit.wf,IntKind.min,IntKind.max,IntKind.signed,IntKind.bits]using b⟩
theorem zt{t:TypeId}(a:lc P t .u64){fuel:Nat}{cs:List Value}{d:DataW H}{ps:List MemPlace}(h:lJ enc P w fuel t cs=some (d,ps)):∃c:Nat,cs=[.int .u64 c]/\c<=18446744073709551615:=by
 obtain⟨n,rfl,b⟩:=H6 a.out h;have e:0<=n/\n<=18446744073709551615:=by simpa[Lit.wf,IntKind.min,IntKind.max,IntKind.signed,IntKind.bits]using b
 exact⟨n.toNat,by simp;omega,by omega⟩
theorem F1{α:Type}[O α]{I:World->α->Prop}{t e:TypeId}(b:hc P t e)(c:pY P e α I)(f:nh P e (O.eo α)){fuel:Nat}{cs:List Value}{d:DataW H}{ps:List MemPlace}(h:lJ enc P w fuel t cs=some (d,ps)):
 ∃s:eu,cs=[s.v]/\∃xs:List α,ev w s.v xs/\∀x∈xs,I w x:=by
 rcases FW b.out h with rfl|⟨a,len,cap,_,rfl,_⟩
 .exact⟨⟨none,0,0⟩,rfl,[],ev.nil w,by simp⟩
 exact⟨⟨some a,len,cap⟩,rfl,FV b c f h⟩
theorem I8{α:Type}[O α]{I:World->α->Prop}{t:TypeId}(a:pY P t α I){fuel:Nat}{cs:List Value}{d:DataW H}{ps:List MemPlace}(h:lJ enc P w fuel t cs=some (d,ps)):∃x:α,cs=(O.enc x).toList/\I w x:=a H enc w fuel cs d ps h
theorem Jk{α:Type}[O α]{I:World->α->Prop}{W:World}{base:Nat}{v:Value}{d:DataW H}{ps:List MemPlace}{t:TypeId}(a:pY P t α I)(ep:mE P t)(b:Value.okWide P W .any base t v)(c:DataW.Trod enc P W 0 (λ_=>true) true t v d ps):∃x:α,v= .agg (O.enc x)/\I W x:=
 Jw ep a b c
end
end
section
section
variable{α:Type}[O α]
theorem ev.F2{w:World}{v:Value}{xs:List α}(h:ev w v xs){k m:Nat}(a:k<=xs.length)(th:k<=m)(b:m<=s1 v):ev w (nT v 0 k m (O.eo α)) (xs.take k):=by
 have:=h.cut (l:=0) (h:=k) (m:=m) (Nat.zero_le _) a th b;simpa using this
end
section
variable{α:Type}[O α]{P:Program}{f:tr}{w w0:World}{S:List eL}{R:Value->World->Prop}{d:Option Tmp}{T:TypeId}{pos:String}{eO:Array Edge}{eV:Option (Nat×Bool)}
theorem Z.hL{x:Operand}{v:Value}{t ek:Nat}{xs:List α}[hc P t ek](a:eC f x=v)(b:ev w v xs)(h:R (.int .i64 xs.length) w):
 Z P f ⟨d,.call {callee:=.builtin .len,args:=#[x],argTypes:=#[t]},T,pos,eO,eV⟩ w R:=by
 subst a;exact XA b h
theorem Z.cap{x:Operand}{v:Value}{t ek:Nat}{xs:List α}[b:hc P t ek](e:eC f x=v)(tC:ev w v xs)(h:R (.int .i64 (s1 v)) w):
 Z P f ⟨d,.call {callee:=.builtin .cap,args:=#[x],argTypes:=#[t]},T,pos,eO,eV⟩ w R:=by
 obtain⟨a,c,rfl,_⟩:=tC;refine iv (v:=.int .i64 c) (w':=w) ?_ h;simp[execOp,resolve,invoke,builtin,Builtin.cap_,e,run_underlying b.out,goInt]
theorem Jx{x y:Operand}{t ek r8:Nat}{z:Value}{ys:List α}[e:hc P t ek][g:nh P ek (O.eo α)][i:ba P ek r8][j:oG P ek z](l:z.cells.size=O.eo α)
 (E:U w0 S w) (m:eC f x= .slice none 0 0) (n:ev w (eC f y) ys) (o:ys.length*r8<=140737488355328) (p:ys.length<=maxLen)
 (h:∀a w',eB w w'->U w0 (B a ek ys::S) w'->R a w'):
 Z P f ⟨d,.call {callee:=.builtin .append,args:=#[x,y],argTypes:=#[t,t]},T,pos,eO,eV⟩ w R:=by
 have em:dt w (.slice none 0 0) ek ([]:List α):=.inl ⟨rfl,rfl⟩;obtain⟨a,w',q,G,Y,ez⟩:=M7 (P:=P) (ty:=T) e g i j l em n (by simpa using o) (by simpa using p);have c:eB w w':=⟨Y.os,Y.tape,Y.output,Y.size,λk b=>Y.block k b (by simp[Value.ownBlock])⟩;refine iv (v:=a) (w':=w') ?_ (h a w' c ?_)
 .simp[execOp,resolve,invoke,builtin,m,q]
 rw[List.nil_append]at G;exact E.pD c G λk b=>by
  rcases ez k b with e6|e6
  .simp[Value.ownBlock]at e6
  exact e6.1
end
end
end Go.Fer
