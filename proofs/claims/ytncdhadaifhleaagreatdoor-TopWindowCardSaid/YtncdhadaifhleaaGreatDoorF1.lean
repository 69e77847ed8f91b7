import Derived.Test.YtncdhadaifhleaaGreatDoorRows
import Derived.WalkKit
import Derived.ProofKit
import Derived.StillTail
import Derived.JoinedCond
import Derived.Laws.OwnMore
import Derived.MapKept
import Derived.Stop.BytesEq
set_option linter.all false
set_option synthInstance.maxSize 100000
set_option synthInstance.maxHeartbeats 400000
set_option maxHeartbeats 8000000
set_option maxRecDepth 100000
namespace Go.Fer
open Go Go.RowKit
section
variable{P:Program}{g:FuncId}{w:World}{R:Value->World->Prop}{t:Tmp}{aw:List ResultVar}{vs:List Value}{n:Nat}{a:Act}{fn:Func}
abbrev te:=Nat->Value
def o7(f:te)(d:Nat)(v:Value):te:=λi=>cond (Nat.beq i d) v (f i)
def dM(f:te):Option Tmp->Value->te
 |some d,v=>o7 f d v
 |none,_=>f
def eD(f:te):Operand->Value
 | .tmp t=>f t
 | .const v=>v
 | .global g=>.pointer (some ⟨g,0,none⟩)
 | .func g=>.func (.func g) #[] #[]
def mv(l:List Value):te:=λi=>(l[i]?).getD undef
theorem y6(f:te)(d:Nat)(v:Value):o7 f d v d=v:=by simp[o7]
theorem kI(f:te){d i:Nat}(v:Value)(h:i≠d):o7 f d v i=f i:=by
 have:Nat.beq i d=false:=by rw[<-Bool.not_eq_true,Nat.beq_eq];exact h
 simp[o7,this]
class lb where
 uW:List Deferred
instance vl:lb:=⟨[]⟩
section
variable[D:lb]
structure so(n:Nat)(a:Act)(f:te):Prop where
 defers:a.defers=D.uW
 size:a.tmps.size=n
 ot:∀i,a.tmps.getD i undef=f i
theorem so.eval{n:Nat}{a:Act}{f:te}(h:so n a f):a.eval=eD f:=by
 funext x;cases x with
 |tmp t=>exact h.ot t
 |_=>rfl
theorem so.put{n:Nat}{a:Act}{f:te}(h:so n a f){dst:Option Tmp}(hd:∀d,dst=some d->d<n)(v:Value):
 so n (a.put dst v) (dM f dst v):=by
 cases dst with
 |none=>exact h
 |some d=>
  have hlt:=hd d rfl;refine⟨h.defers,by simp[Act.put,h.size],λi=>?_⟩;by_cases ew:i=d
  .subst ew;simp only[dM,y6,Act.put];have:i<a.tmps.size:=by rw[h.size];exact hlt
   simp[this]
  simp only[dM,kI f v ew,Act.put];rw[<-h.ot i];simp[Array.getElem?_setIfInBounds_ne (Ne.symm ew)]
theorem so.ME{n:Nat}{a:Act}{f:te}{dst:Option Tmp}{v:Value}(h:so n (a.put dst v) f):so n a (λi=>a.tmps.getD i undef):=by
 cases dst with
 |none=>exact⟨h.defers,h.size,λ_=>rfl⟩
 |some d=>exact⟨h.defers,by have:=h.size;simpa[Act.put]using this,λ_=>rfl⟩
@[irreducible] def J (P:Program) (f:te) (o:Oper) (w:World) (R:Value->World->Prop):Prop:=
 match(execOp (eD f) o).run P w with
 | .ok (.value v) w'=>R v w'
 | .ok .skip w'=>R undef w'
 | .ok (.enter g args) w'=>Calls P g args w' λe hs=>∃v,e= .returned v/\R v hs
 |_=>False
theorem RZ{P:Program}{f:te}{o:Oper}{w:World}{R R':Value->World->Prop}(h:J P f o w R)(hr:∀v w',R v w'->R' v w'):J P f o w R':=by
 unfold J at*;generalize(execOp (eD f) o).run P w=r at*;cases r with
 |ok x w'=>
  cases x<;>first
   |exact hr _ _ h
   |exact(h:False).elim
   |exact Calls.mono h λe w'⟨v,a,tG⟩=>⟨v,a,hr _ _ tG⟩
 |halt x w'=>exact(h:False).elim
theorem pY{P:Program}{n:Nat}{a:Act}{f:te}{o:Oper}{w:World}{R:Value->World->Prop}{K:Act->World->Prop}{Q:Exit->Act->World->Prop}
 (c:so n a f) (h:J P f o w R) (b:∀v w',R v w'->K (a.put o.dst v) w'):o.wp P a w K Q:=by
 unfold J at h;unfold Oper.wp;rw[c.eval];generalize(execOp (eD f) o).run P w=r at*;cases r with
 |ok x w'=>
  cases x<;>simp only[Oper.upon]at* <;>try exact b _ _ h
  all_goals first
   |exact(h:False).elim
   |(refine Calls.mono h λe g⟨v,d,tG⟩=>?_
     subst d;exact b _ _ tG)
 |halt x w'=>exact(h:False).elim
@[irreducible] def ts (P:Program) (n:Nat) (ops:Array Oper) (Q:Exit->te->World->Prop) (l:List Oper) (f:te) (w:World):Prop:=
 ∀a,so n a f->wpList P ops (λe tc w'=>∃ae,so n tc ae/\Q e ae w') l a w
@[irreducible] def ek (P:Program) (n:Nat) (c:Code) (Q:Exit->te->World->Prop) (f:te) (w:World):Prop:=
 ∀a,so n a f->c.wp P (λe tc w'=>∃ae,so n tc ae/\Q e ae w') a w
def uY(K:te->World->Prop)(Q:Exit->te->World->Prop):Exit->te->World->Prop
 | .normal,f,w=>K f w
 |e,f,w=>Q e f w
def blockQ(id:Nat)(Q:Exit->te->World->Prop):Exit->te->World->Prop
 | .exit vd,f,w=>cond (Nat.beq vd id) (Q .normal f w) (Q (.exit vd) f w)
 |e,f,w=>Q e f w
section
variable{P:Program}{n:Nat}{ops:Array Oper}{Q:Exit->te->World->Prop}{f:te}{w:World}
theorem ts.nil(h:Q .normal f w):ts P n ops Q [] f w:=by
 unfold ts;exactλa ep=>⟨f,ep,h⟩
theorem ts.cons{d:Option Tmp}{op:Op}{T:TypeId}{pos:String}{eO:Array Edge}{rest:List Oper}
 (h:J P f ⟨d,op,T,pos,eO,none⟩ w (λv w'=>ts P n ops Q rest (dM f d v) w'))
 (hd:∀x,d=some x->x<n):ts P n ops Q (⟨d,op,T,pos,eO,none⟩::rest) f w:=by
 unfold ts at h⊢;intro a ep;refine wpList_plain rfl λK b=>pY ep h λv w' tG=>b _ _ ?_;exact tG _ (ep.put hd v)
theorem ts.op{d:Nat}{op:Op}{T:TypeId}{pos:String}{eO:Array Edge}{rest:List Oper}(hd:Nat.blt d n=true)
 (h:J P f ⟨some d,op,T,pos,eO,none⟩ w (λv w'=>ts P n ops Q rest (o7 f d v) w')):
 ts P n ops Q (⟨some d,op,T,pos,eO,none⟩::rest) f w:=
 ts.cons (d:=some d) h (by intro x Z;cases Z;simpa using hd)
theorem R0{op:Op}{T:TypeId}{pos:String}{eO:Array Edge}{rest:List Oper}
 (h:J P f ⟨none,op,T,pos,eO,none⟩ w (λ_ w'=>ts P n ops Q rest f w')):
 ts P n ops Q (⟨none,op,T,pos,eO,none⟩::rest) f w:=
 ts.cons (d:=none) h (by intro x Z;cases Z)
theorem vc{a:Act}(ep:so n a f){t:Nat}(b:t<n):a.tmps[t]? =some (f t):=by
 have hlt:t<a.tmps.size:=by rw[ep.size];exact b
 have:=ep.ot t;rw[<-this];simp[hlt]
theorem ts.guard{d:Nat}{op:Op}{T:TypeId}{pos:String}{eO:Array Edge}{g:Nat}{od:Bool}{rest:List Oper}(b:Bool)(t:Nat)
 (i:(ops[g]?).bind (·.dst)=some t) (j:Nat.blt t n=true) (hb:f t= .bool b) (hd:Nat.blt d n=true)
 (k:b=od->ts P n ops Q (⟨some d,op,T,pos,eO,none⟩::rest) f w)
 (l:b=(!od) ->ts P n ops Q rest (o7 f d undef) w):ts P n ops Q (⟨some d,op,T,pos,eO,some (g,od)⟩::rest) f w:=by
 unfold ts at*;intro a ep;have e:yielded ops a.tmps g=some b:=by
  unfold yielded;simp only[i,Option.bind_some,vc ep (t:=t) (by simpa using j),hb]
 by_cases c:b=od
 .have h:=k c a ep;simp only[wpList,Region.wanted]at h⊢;simp only[e,c,beq_self_eq_true,if_true]at h⊢;exact h
 have m:b= !od:=by cases b<;>cases od<;>simp_all
 have h:=l m _ (ep.put (dst:=some d) (by intro x Z;cases Z;simpa using hd) undef);simp only[wpList,Region.wanted,e];have:(some b==some od)=false:=by simp[c]
 simp only[this];exact h
end
section
variable{P:Program}{n:Nat}{Q:Exit->te->World->Prop}{f:te}{w:World}
theorem ek.region{id:Nat}{l:List Oper}(h:ts P n l.toArray Q l f w):ek P n (.region id l.toArray false) Q f w:=by
 unfold ek;unfold ts at h;exactλa ep=>wp_region_lit (h a ep)
theorem ek.mono{c:Code}{b:Exit->te->World->Prop}(h:ek P n c Q f w)(d:∀e f w,Q e f w->b e f w):ek P n c b f w:=by
 unfold ek at*;exactλa ep=>wp_mono (h a ep) λe a w⟨ae,hr,q⟩=>⟨ae,hr,d _ _ _ q⟩
theorem ek.seq{si nu:Code}(h:∀K:te->World->Prop,(∀f w,ek P n nu Q f w->K f w) ->ek P n si (uY K Q) f w):ek P n (.seq si nu) Q f w:=by
 have h:=h (λf w=>∀(a:Act),so n a f->nu.wp P (λe tc w'=>∃ae,so n tc ae/\Q e ae w') a w) (λ_ _ h=>by unfold ek at h;exact h);unfold ek at h⊢;intro a ep;refine wp_seq (wp_mono (h a ep) λe tc w'⟨ae,hr,q⟩=>?_);cases e with
 |normal=>
  exact q tc hr
 |_=>exact⟨ae,hr,q⟩
theorem lB{si nu:Code}(M:te->World->Prop)(G:ek P n si (uY M Q) f w)(Y:∀f w,M f w->ek P n nu Q f w):ek P n (.seq si nu) Q f w:=
 ek.seq λK a=>ek.mono G λe f w q=>by
  cases e with
  |normal=>exact a _ _ (Y _ _ q)
  |_=>exact q
theorem ek.cond{c:Operand}{x y:Code}(b:Bool)(d:eD f c= .bool b)(e:b=true->ek P n x Q f w)(g:b=false->ek P n y Q f w):
 ek P n (.cond c x y) Q f w:=by
 unfold ek at*;intro a ep;have h:a.eval c= .bool b:=by rw[ep.eval];exact d
 exact wp_cond_split h (λhb=>e hb a ep) (λhb=>g hb a ep)
theorem ek.block{id:Nat}{c:Code}(h:ek P n c (blockQ id Q) f w):ek P n (.block id c) Q f w:=by
 unfold ek at*;intro a ep;refine wp_block (wp_mono (h a ep) λe tc w'⟨ae,hr,q⟩=>?_);cases e with
 |exit d=>
  simp only[Exit.inBlock];split
  .rename_i b;subst b;exact⟨ae,hr,by simpa[blockQ]using q⟩
  rename_i b;have:Nat.beq d id=false:=by rw[<-Bool.not_eq_true,Nat.beq_eq];exact b
  exact⟨ae,hr,by simpa[blockQ,this]using q⟩
 |_=>exact⟨ae,hr,q⟩
theorem ek.skip(h:Q .normal f w):ek P n .skip Q f w:=by unfold ek;exactλa ep=>wp_skip ⟨f,ep,h⟩
theorem ek.exit{id:Nat}(h:Q (.exit id) f w):ek P n (.exit id) Q f w:=by unfold ek;exactλa ep=>wp_exit ⟨f,ep,h⟩
theorem ek.ret(h:Q .ret f w):ek P n .ret Q f w:=by unfold ek;exactλa ep=>wp_ret ⟨f,ep,h⟩
theorem ek.loop{c:Code}(I:Nat->te->World->Prop)(m:Nat)(em:I m f w)
 (round:∀m f w,I m f w->ek P n c (uY (λae w'=>∃j,j<m/\I j ae w') Q) f w):ek P n (.loop c) Q f w:=by
 unfold ek at*;intro a ep;have key:∀(m:Nat)(a:Act)(f:te)(w:World),so n a f->I m f w->(Code.loop c).wp P (λe tc w'=>∃ae,so n tc ae/\Q e ae w') a w:=by
  intro m a f w ep o b k cs;have p:∀(m:Nat)(a:Act)(f:te)(w:World),so n a f->I m f w->
   ∃e tc w',(∃ae,so n tc ae/\Q e ae w')/\Arrives P (lone (b.at a (.code c:: .inLoop c::k)) cs w) b k cs e tc w':=by
   intro m;induction m using Nat.strongRecOn with
   |_ m q=>
    intro a f w ep o;obtain⟨e,h,i,⟨ae,hr,d⟩,g⟩:=round m f w o a ep b (.inLoop c::k) cs;cases e with
    |normal=>
     obtain⟨j,e5,r⟩:=d;obtain⟨s,t,u,v,y⟩:=q j e5 h ae i hr r;exact⟨s,t,u,v,.of_steps (Steps.trans g (.one step_inLoop)) y⟩
    |exit id=>exact⟨_,h,i,⟨ae,hr,d⟩,.pass (x:=.inLoop c) rfl (λ_ _=>.inl (by simp)) g⟩
    |goto l=>exact⟨_,h,i,⟨ae,hr,d⟩,.pass (x:=.inLoop c) rfl (λ_ _=>.inl (by simp)) g⟩
    |ret=>exact⟨_,h,i,⟨ae,hr,d⟩,.pass (x:=.inLoop c) rfl (λ_ _=>.inl (by simp)) g⟩
    |panic ch=>exact⟨_,h,i,⟨ae,hr,d⟩,.pass (x:=.inLoop c) rfl (λ_ _=>.inl (by simp)) g⟩
    |outgrown=>exact⟨_,h,i,⟨ae,hr,d⟩,.pass (x:=.inLoop c) rfl (λ_ _=>.inl (by simp)) g⟩
  obtain⟨e,tc,w',d,g⟩:=p m a f w ep o;exact⟨e,tc,w',d,.of_steps (.one step_loop) g⟩
 exact key m a f w ep em
end
end
@[irreducible] def nr (P:Program) (g:FuncId) (args:Array Value) (w:World) (R:Value->World->Prop):Prop:=
 Calls P g args w λe w'=>∃v,e= .returned v/\R v w'
theorem nr.mono{args:Array Value}{R':Value->World->Prop}(h:nr P g args w R)(hr:∀v w',R v w'->R' v w'):nr P g args w R':=by
 unfold nr at*;exact Calls.mono h λe w'⟨v,a,tG⟩=>⟨v,a,hr _ _ tG⟩
@[irreducible] def s1 (P:Program) (T:TypeId) (w:World) (ob v:Value):Prop:=
 ∃oR,ob= .pointer (some oR)/\(loadVar T oR).run P w= .ok v w
inductive hY(P:Program)(f:te)(w:World):List ResultVar->List Value->Prop
 |nil:hY P f w [] []
 |tmp {t:Tmp} {aw:List ResultVar} {vs:List Value} (h:hY P f w aw vs):hY P f w (.tmp t::aw) (f t::vs)
 |cell {a:Tmp} {T:TypeId} {v:Value} {aw:List ResultVar} {vs:List Value} (eB:s1 P T w (f a) v) (h:hY P f w aw vs):hY P f w (.cell a T::aw) (v::vs)
theorem hY.w9{f:te}{v:Value}(tG:f t=v)(h:hY P f w aw vs):hY P f w (.tmp t::aw) (v::vs):=by subst tG;exact .tmp h
theorem hY.hB{f:te}{k:IntKind}{n:Int}(tG:f t= .int k n)(h:hY P f w aw vs):hY P f w (.tmp t::aw) (.int k n::vs):=.w9 tG h
def uB:List Value->Value
 |[v]=>v
 |vs=>.tuple vs.toArray
def x9(P:Program)(aw:List ResultVar)(R:Value->World->Prop):Exit->te->World->Prop
 | .normal,f,w| .ret,f,w=>∃vs,hY P f w aw vs/\R (uB vs) w
 |_,_,_=>False
theorem cJ{f:te}(h:hY P f w aw vs)(a:R (uB vs) w):x9 P aw R .ret f w:=⟨vs,h,a⟩
theorem Xo{f:te}(h:hY P f w aw vs)(a:R (uB vs) w):x9 P aw R .normal f w:=⟨vs,h,a⟩
theorem He{α a:Type}(P:Program)(w:World)(g:α->Sem a):∀(l:List α)(vs:List a),(∀(i:Nat)(x:α),l[i]? =some x->∃v,vs[i]? =some v/\(g x).run P w= .ok v w) ->l.length=vs.length->(l.mapM g).run P w= .ok vs w
 |[],[],_,_=>by simp
 |x::l,v::vs,h,eB=>by
  obtain⟨d,b,hr⟩:=h 0 x rfl;simp at b;subst b;have c:=He P w g l vs (λi x Z=>by simpa using h (i+1) x (by simpa using Z)) (by simpa using eB);simp[List.mapM_cons,hr,c]
 |[],_::_,_,eB=>by simp at eB
 |_::_,[],_,eB=>by simp at eB
theorem hY.len{f:te}(h:hY P f w aw vs):aw.length=vs.length:=by
 induction h<;>simp_all
def Tu(tmps:Array Value):ResultVar->Sem Value
 | .tmp t=>pure (tmps.getD t undef)
 | .cell a t=>do loadVar t (<-asAddr (tmps.getD a undef))
theorem hY.Xi{f:te}(ep:so n a f)(h:hY P f w aw vs):
 ∀(i:Nat)(x:ResultVar),aw[i]? =some x->∃v,vs[i]? =some v/\(Tu a.tmps x).run P w= .ok v w:=by
 induction h with
 |nil=>intro i x Z;simp at Z
 | @tmp t aw vs h b=>
   intro i x Z;cases i with
   |zero=>simp at Z;subst Z;exact⟨_,rfl,by simp only[Tu,ep.ot];rfl⟩
   |succ i=>simpa using b i x (by simpa using Z)
 | @cell c T v aw vs eB h b=>
   intro i x Z;cases i with
   |zero=>
    simp at Z;subst Z;unfold s1 at eB;obtain⟨e,d,hr⟩:=eB;refine⟨v,rfl,?_⟩;simp only[Tu,ep.ot,d,asAddr,pure_bind];exact hr
   |succ i=>simpa using b i x (by simpa using Z)
theorem hY.run{f:te}(ep:so n a f)(h:hY P f w fn.results.toList vs):
 (results fn a.tmps).run P w= .ok (uB vs) w:=by
 have b:results fn a.tmps=(do let vs<-fn.results.mapM (Tu a.tmps);pure (if h:vs.size=1 then vs[0]else .tuple vs)):=by
  unfold results;congr 1
 have c:=He P w (Tu a.tmps) fn.results.toList vs (h.Xi ep) h.len;rw[b,Array.mapM_eq_mapM_toList];simp only[Sem.run_bind,Sem.run_map,c,Result.andThen_ok,Sem.run_pure];congr 1
 match vs with
 |[]=>simp[uB]
 |[v]=>simp[uB]
 |v::u::vs=>simp[uB]
theorem nr.enter{c:Code}{args:List Value}
 (d:P.funcs[g]? =some fn) (hb:fn.body=some c) (f:fn.ntmps=n) (hr:fn.results=aw.toArray) (j:Nat.ble args.length n=true)
 (h:ek P n c (x9 P aw R) (mv args) w):nr P g args.toArray w R:=by
 unfold nr;refine calls_of_wp d hb ?_;unfold ek at h;have m:args.length<=n:=by simpa using j
 have k:so n {tmps:=args.toArray++Array.replicate (fn.ntmps-args.toArray.size) undef,defers:=[]} (mv args):=by
  refine⟨rfl,by simp[f];omega,λi=>?_⟩;simp only[mv,Array.getD_eq_getD_getElem?,Array.getElem?_append,List.size_toArray];split
  .simp
  rename_i ew;have:args[i]? =none:=List.getElem?_eq_none (by omega);simp only[this,Option.getD_none,Array.getElem?_replicate];split<;>rfl
 have l:fn.results.toList=aw:=by rw[hr]
 subst l;refine wp_mono (h _ k) λe a w⟨ae,hr,q⟩=>?_;cases e with
 |normal=>
  obtain⟨vs,tG,b⟩:=q;exact⟨hr.defers,_,tG.run hr,_,rfl,b⟩
 |ret=>
  obtain⟨vs,tG,b⟩:=q;exact⟨hr.defers,_,tG.run hr,_,rfl,b⟩
 |_=>exact(q:False).elim
end
section
variable{b:Nat}{w w' w0:World}
abbrev eV(w w':World):Prop:=Below w.heap.size w w'
theorem eV.refl(w:World):eV w w:=Below.refl _ _
theorem eV.trans{a b c:World}(h:eV a b)(k:eV b c):eV a c:=Below.trans h (Below.mono k h.size)
theorem eV.drawn(w:World)(n:Nat):eV w {w with drawn:=n}:=⟨rfl,rfl,rfl,Nat.le_refl _,λ_ _=>rfl⟩
theorem eV.get(h:eV w w'){o:Obj}(hb:w.heap[b]? =some o):w'.heap[b]? =some o:=by
 rw[h.block b (Array.getElem?_eq_some_iff.1 hb).1];exact hb
theorem eV.cell(h:eV w w'){a:Addr}{v:Value}(b:w.cell? a=some v):w'.cell? a=some v:=by
 rw[World.cell?_of_block (w:=w) (h.block a.block (World.block_lt_of_cell? w a b))];exact b
theorem eV.alloc(w:World)(o:Obj):eV w (w.alloc o):=(Below.refl _ _).alloc (Nat.le_refl _) o
structure eH where
 F:Nat->Prop
 A:World->Prop
 eW:∀w w':World,(∀b,F b->w'.heap[b]? =w.heap[b]?) ->A w->A w'
structure U(w0:World)(S:List eH)(w:World):Prop where
 ee:eV w0 w
 ye:S.Pairwise (λa b=>∀k,a.F k->¬b.F k)
 all:∀e∈S,e.A w/\∀k,e.F k->w0.heap.size<=k/\k<w.heap.size
theorem eY(w:World):U w [] w:=⟨eV.refl w,List.Pairwise.nil,by simp⟩
theorem U.es{S:List eH}(h:U w0 S w)(hb:eV w w'):U w0 S w':=
 ⟨h.ee.trans hb,h.ye,λe a=>⟨e.eW w w' (λb d=>hb.block b ((h.all e a).2 b d).2) (h.all e a).1,λk c=>⟨((h.all e a).2 k c).1,Nat.lt_of_lt_of_le ((h.all e a).2 k c).2 hb.size⟩⟩⟩
theorem U.new{S:List eH}(h:U w0 S w)(hb:eV w w'){e:eH}(c:e.A w')(b:∀k,e.F k->w.heap.size<=k/\k<w'.heap.size):U w0 (e::S) w':=by
 have h':=h.es hb;refine⟨h'.ee,List.Pairwise.cons (λx Z k a d=>?_) h'.ye,λx Z=>?_⟩
 .have:=((h.all x Z).2 k d).2;have:=(b k a).1;omega
 rcases List.mem_cons.1 Z with rfl|Z
 .exact⟨c,λk a=>⟨Nat.le_trans h.ee.size (b k a).1,(b k a).2⟩⟩
 exact h'.all x Z
theorem U.sub{S tp:List eH}(h:U w0 S w)(a:tp.Sublist S):U w0 tp w:=
 ⟨h.ee,h.ye.sublist a,λe b=>h.all e (a.subset b)⟩
inductive tP(e:eH):List eH->Prop
 |nW {S:List eH}:tP e (e::S)
 |ei {x:eH} {S:List eH} (h:tP e S):tP e (x::S)
theorem tP.mem{e:eH}{S:List eH}(h:tP e S):e∈S:=by
 induction h with
 |nW=>exact List.mem_cons_self
 |ei _ a=>exact List.mem_cons_of_mem _ a
theorem U.get{S:List eH}{e:eH}(h:U w0 S w)(a:tP e S):e.A w:=(h.all e a.mem).1
inductive iH(e o1:eH):List eH->List eH->Prop
 |nW {S:List eH}:iH e o1 (e::S) (o1::S)
 |ei {x:eH} {S tp:List eH} (h:iH e o1 S tp):iH e o1 (x::S) (x::tp)
theorem iH.kS{e o1:eH}{S tp:List eH}(h:iH e o1 S tp):tP e S:=by
 induction h with
 |nW=>exact .nW
 |ei _ a=>exact .ei a
section
variable{e o1:eH}{S:List eH}{eE tt tC ap aD o8 iF nK sE rR lr dc ct cx:eH}
theorem tP.em:tP e (e::S):=.nW
theorem iH.em:iH e o1 (e::S) (o1::S):=.nW
theorem tP.G:tP e (eE::e::S):=.ei .em
theorem iH.G:iH e o1 (eE::e::S) (eE::o1::S):=.ei .em
theorem tP.Y:tP e (eE::tt::e::S):=.ei .G
theorem iH.Y:iH e o1 (eE::tt::e::S) (eE::tt::o1::S):=.ei .G
theorem tP.ej:tP e (eE::tt::tC::e::S):=.ei .Y
theorem iH.ej:iH e o1 (eE::tt::tC::e::S) (eE::tt::tC::o1::S):=.ei .Y
theorem tP.e8:tP e (eE::tt::tC::ap::e::S):=.ei .ej
theorem iH.e8:iH e o1 (eE::tt::tC::ap::e::S) (eE::tt::tC::ap::o1::S):=.ei .ej
theorem tP.au:tP e (eE::tt::tC::ap::aD::e::S):=.ei .e8
theorem iH.au:iH e o1 (eE::tt::tC::ap::aD::e::S) (eE::tt::tC::ap::aD::o1::S):=.ei .e8
theorem tP.a2:tP e (eE::tt::tC::ap::aD::o8::e::S):=.ei .au
theorem iH.a2:iH e o1 (eE::tt::tC::ap::aD::o8::e::S) (eE::tt::tC::ap::aD::o8::o1::S):=.ei .au
theorem tP.iK:tP e (eE::tt::tC::ap::aD::o8::iF::e::S):=.ei .a2
theorem iH.iK:iH e o1 (eE::tt::tC::ap::aD::o8::iF::e::S) (eE::tt::tC::ap::aD::o8::iF::o1::S):=.ei .a2
theorem tP.iG:tP e (eE::tt::tC::ap::aD::o8::iF::nK::e::S):=.ei .iK
theorem iH.iG:iH e o1 (eE::tt::tC::ap::aD::o8::iF::nK::e::S) (eE::tt::tC::ap::aD::o8::iF::nK::o1::S):=.ei .iK
theorem tP.sr:tP e (eE::tt::tC::ap::aD::o8::iF::nK::sE::e::S):=.ei .iG
theorem iH.sr:iH e o1 (eE::tt::tC::ap::aD::o8::iF::nK::sE::e::S) (eE::tt::tC::ap::aD::o8::iF::nK::sE::o1::S):=.ei .iG
theorem tP.hh:tP e (eE::tt::tC::ap::aD::o8::iF::nK::sE::rR::e::S):=.ei .sr
theorem iH.hh:iH e o1 (eE::tt::tC::ap::aD::o8::iF::nK::sE::rR::e::S) (eE::tt::tC::ap::aD::o8::iF::nK::sE::rR::o1::S):=.ei .sr
theorem tP.l5:tP e (eE::tt::tC::ap::aD::o8::iF::nK::sE::rR::lr::e::S):=.ei .hh
theorem iH.l5:iH e o1 (eE::tt::tC::ap::aD::o8::iF::nK::sE::rR::lr::e::S) (eE::tt::tC::ap::aD::o8::iF::nK::sE::rR::lr::o1::S):=.ei .hh
theorem tP.uV:tP e (eE::tt::tC::ap::aD::o8::iF::nK::sE::rR::lr::dc::e::S):=.ei .l5
theorem tP.mx:tP e (eE::tt::tC::ap::aD::o8::iF::nK::sE::rR::lr::dc::ct::e::S):=.ei .uV
theorem iH.mx:iH e o1 (eE::tt::tC::ap::aD::o8::iF::nK::sE::rR::lr::dc::ct::e::S) (eE::tt::tC::ap::aD::o8::iF::nK::sE::rR::lr::dc::ct::o1::S):=.ei (.ei .l5)
theorem tP.az:tP e (eE::tt::tC::ap::aD::o8::iF::nK::sE::rR::lr::dc::ct::cx::e::S):=.ei .mx
theorem iH.az:iH e o1 (eE::tt::tC::ap::aD::o8::iF::nK::sE::rR::lr::dc::ct::cx::e::S) (eE::tt::tC::ap::aD::o8::iF::nK::sE::rR::lr::dc::ct::cx::o1::S):=.ei .mx
end
structure qV(F:Nat->Prop)(w w':World):Prop where
 os:w'.os=w.os
 tape:w'.tape=w.tape
 output:w'.output=w.output
 size:w.heap.size<=w'.heap.size
 block:∀k,k<w.heap.size->¬F k->w'.heap[k]? =w.heap[k]?
theorem iH.Xs{e o1:eH}{S tp:List eH}(h:iH e o1 S tp):∀x,x∈tp->x=o1∨x∈S:=by
 induction h with
 |nW=>intro x Z;rcases List.mem_cons.1 Z with h|h;exact .inl h;exact .inr (List.mem_cons_of_mem _ h)
 |ei _ a=>
  intro x Z;rcases List.mem_cons.1 Z with h|h
  .subst h;exact .inr List.mem_cons_self
  rcases a x h with h|h
  .exact .inl h
  exact .inr (List.mem_cons_of_mem _ h)
theorem lv{e o1:eH}(d:qV e.F w w')(m:o1.A w')
 (i:∀k,o1.F k->e.F k∨(w.heap.size<=k/\k<w'.heap.size)):
 ∀{S tp:List eH},U w0 S w->iH e o1 S tp->U w0 tp w':=by
 intro S tp h f;have dk:eV w0 w':=by
  refine⟨d.os.trans h.ee.os,d.tape.trans h.ee.tape,d.output.trans h.ee.output,Nat.le_trans h.ee.size d.size,λk c=>?_⟩;rw[d.block k (Nat.lt_of_lt_of_le c h.ee.size) (λn=>by have:=((h.all e f.kS.mem).2 k n).1;omega)];exact h.ee.block k c
 have key:∀{S tp:List eH},iH e o1 S tp->S.Pairwise (λa b=>∀k,a.F k->¬b.F k) ->(∀x∈S,x.A w/\∀k,x.F k->w0.heap.size<=k/\k<w.heap.size) ->
  tp.Pairwise (λa b=>∀k,a.F k->¬b.F k)/\∀x∈tp,x.A w'/\∀k,x.F k->w0.heap.size<=k/\k<w'.heap.size:=by
  have other:∀x:eH,(∀k,x.F k->¬e.F k) ->(x.A w/\∀k,x.F k->w0.heap.size<=k/\k<w.heap.size) ->x.A w'/\∀k,x.F k->w0.heap.size<=k/\k<w'.heap.size:=
   λx hd Z=>⟨x.eW w w' (λb hb=>d.block b (Z.2 b hb).2 (hd b hb)) Z.1,λk c=>⟨(Z.2 k c).1,Nat.lt_of_lt_of_le (Z.2 k c).2 d.size⟩⟩
  have o:(e.A w/\∀k,e.F k->w0.heap.size<=k/\k<w.heap.size) ->o1.A w'/\∀k,o1.F k->w0.heap.size<=k/\k<w'.heap.size:=λj=>⟨m,λk c=>by
   rcases i k c with G|G
   .exact⟨(j.2 k G).1,Nat.lt_of_lt_of_le (j.2 k G).2 d.size⟩
   exact⟨Nat.le_trans h.ee.size G.1,G.2⟩⟩
  intro S tp f;induction f with
  | @nW S=>
    intro hd ep;obtain⟨G,Y⟩:=List.pairwise_cons.1 hd;refine⟨List.pairwise_cons.2 ⟨λx Z k c g=>?_,Y⟩,λx Z=>?_⟩
    .rcases i k c with ej|ej
     .exact G x Z k ej g
     have:=((ep x (List.mem_cons_of_mem _ Z)).2 k g).2;omega
    rcases List.mem_cons.1 Z with rfl|Z
    .exact o (ep e List.mem_cons_self)
    exact other x (λk c g=>G x Z k g c) (ep x (List.mem_cons_of_mem _ Z))
  | @ei y S tp f p=>
    intro hd ep;obtain⟨G,Y⟩:=List.pairwise_cons.1 hd;obtain⟨i1,i2⟩:=p Y λx Z=>ep x (List.mem_cons_of_mem _ Z);have l:∀k,y.F k->¬e.F k:=G e f.kS.mem;refine⟨List.pairwise_cons.2 ⟨λx Z k c g=>?_,i1⟩,λx Z=>?_⟩
    .rcases f.Xs x Z with rfl|Z
     .rcases i k g with ej|ej
      .exact l k c ej
      have:=((ep y List.mem_cons_self).2 k c).2;omega
     exact G x Z k c g
    rcases List.mem_cons.1 Z with rfl|Z
    .exact other x l (ep x List.mem_cons_self)
    exact i2 x Z
 obtain⟨q,r⟩:=key f h.ye h.all;exact⟨dk,q,r⟩
@[irreducible] def B (b:Nat) (cs:Array Value) (T:TypeId):eH:=
 ⟨λk=>k=b,λw=>w.heap[b]? =some (.cells cs T (0,0)),λw w' h rt=>by rw[h b rfl];exact rt⟩
theorem U.dF{S:List eH}{cs:Array Value}{T:TypeId}(h:U w0 S w)(a:tP (B b cs T) S):w.heap[b]? =some (.cells cs T (0,0)):=by
 have:=h.get a;unfold B at this;exact this
theorem U.alloc{S:List eH}(h:U w0 S w)(cs:Array Value)(T:TypeId):U w0 (B w.heap.size cs T::S) (w.alloc (.cells cs T)):=by
 refine h.new (eV.alloc w _) ?_ ?_
 .unfold B;exact heap_alloc_new w _
 unfold B;intro k a;have a:k=w.heap.size:=a;subst a;exact⟨Nat.le_refl _,by simp⟩
end
section
class nm(P:Program)(T:TypeId)(eo:outParam Nat):Prop where out:(P.info? T).map (·.size)=some eo:=by kernel_rfl
class y8(P:Program)(T:TypeId)(r4:outParam Nat):Prop where out:(P.info? T).map (·.bytes)=some r4:=by kernel_rfl
class oB(P:Program)(T:TypeId)(z:outParam Value):Prop where out:(P.info? T).bind (·.zero)=some z:=by kernel_rfl
def vm(P:Program)(T:TypeId):Option Bool:=(P.underlying T).map λ| .struct _| .array _ _=>true|_=>false
class uX(P:Program)(T:TypeId):Prop where out:vm P T=some false:=by kernel_rfl
class mj(P:Program)(T:TypeId):Prop where out:vm P T=some true:=by kernel_rfl
class hl(P:Program)(T:TypeId)(eb:outParam TypeId):Prop where out:P.underlying T=some (.slice eb)
class du(P:Program)(T:TypeId)(n:outParam Nat)(eb:outParam TypeId):Prop where out:P.underlying T=some (.array n eb)
class fE(P:Program)(T:TypeId)(eb:outParam TypeId):Prop where out:P.underlying T=some (.pointer eb)
class rH(P:Program)(T:TypeId)(K:outParam TypeId)(eb:outParam TypeId):Prop where out:P.underlying T=some (.map K eb)
class hZ(P:Program)(T:TypeId)(k:outParam IntKind):Prop where out:P.underlying T=some (.int k)
class Ha(P:Program)(T:TypeId):Prop where out:P.underlying T=some .bool
class lS(P:Program)(g:FuncId):Prop where out:(P.funcs[g]?).map (λfn=>fn.body.isSome&&decide (fn.name≠ "runtime.NumGoroutine"))=some true:=by kernel_rfl
class je(P:Program)(S:TypeId)(i:Nat)(off:outParam Nat):Prop where
 out:∃nk f,P.underlying S=some (.struct nk)/\nk[i]? =some f/\f.offset=off/\∃k,(P.info? f.type).map (·.size)=some (k+1)
theorem Xh{P:Program}{S i off:Nat}{nk:Array Field}{f:Field}(k:Nat)(h:P.underlying S=some (.struct nk))(G:nk[i]? =some f:=by rfl)(Y:f.offset=off:=by rfl)(ej:(P.info? f.type).map (·.size)=some (k+1):=by kernel_rfl):je P S i off:=⟨nk,f,h,G,Y,k,ej⟩
section
variable{P:Program}{w:World}
theorem m5{T eo:Nat}(h:nm P T eo)(w:World):(sizeOf T).run P w= .ok eo w:=by
 have h:=h.out;cases ew:P.info? T with
 |none=>simp[ew]at h
 |some i=>simp[ew]at h;subst h;simp[sizeOf,typeInfo,ew]
theorem vf{T:Nat}{z:Value}(h:oB P T z)(w:World):(zeroValue T).run P w= .ok z w:=by
 have h:=h.out;cases ew:P.info? T with
 |none=>simp[ew]at h
 |some i=>simp[ew]at h;simp[zeroValue,typeInfo,ew,h]
theorem Tm{T:Nat}{b:Bool}(h:vm P T=some b)(w:World):(isAgg T).run P w= .ok b w:=by
 unfold vm at h;cases a:P.underlying T with
 |none=>simp[a]at h
 |some d=>
  simp[a]at h;simp only[isAgg,Sem.run_bind,run_underlying a,Result.andThen_ok];subst h;cases d<;>rfl
theorem wh(b o n:Nat):(⟨b,o,none⟩:Addr).add n=⟨b,o+n,none⟩:=by
 unfold Addr.add;split<;>simp_all
def rs(ob:Value)(n:Nat):Value:=match ob with| .pointer (some a)=>.pointer (some ⟨a.block,a.off+n,none⟩)|_=>undef
def oX(v:Value)(i eo:Nat):Value:=match v with| .slice (some a) _ _=>.pointer (some ⟨a.block,a.off+i*eo,none⟩)|_=>undef
def m6(ob:Value):Prop:=∃b o,ob= .pointer (some ⟨b,o,none⟩)
theorem m6.mk(b o:Nat):m6 (.pointer (some ⟨b,o,none⟩)):=⟨b,o,rfl⟩
theorem m6.add{ob:Value}(h:m6 ob)(n:Nat):m6 (rs ob n):=by obtain⟨b,o,rfl⟩:=h;exact⟨b,o+n,rfl⟩
def an(w:World)(ob:Value)(x:Array Value):Prop:=
 ∃b o,ob= .pointer (some ⟨b,o,none⟩)/\∀(j:Nat)(u:Value),x[j]? =some u->w.cell? ⟨b,o+j,none⟩=some u
theorem an.sY{ob:Value}{x:Array Value}(h:an w ob x):m6 ob:=by obtain⟨b,o,rfl,_⟩:=h;exact⟨b,o,rfl⟩
theorem an.es{w':World}{ob:Value}{x:Array Value}(hb:eV w w')(h:an w ob x):an w' ob x:=by
 obtain⟨b,o,rfl,h⟩:=h;exact⟨b,o,rfl,λj u a=>hb.cell (h j u a)⟩
theorem MO{T eo:Nat}(ep:mj P T)(a:nm P T eo)(b o:Nat)(c:Array Value)(d:c.size=eo)
 (h:∀(j:Nat)(u:Value),c[j]? =some u->w.cell? ⟨b,o+j,none⟩=some u):(loadVar T ⟨b,o,none⟩).run P w= .ok (.agg c) w:=by
 simp only[loadVar,Sem.run_bind,Tm ep.out,Result.andThen_ok,if_true,m5 a];have eB:c.toList.length=eo:=by simpa using d
 have:=run_loadCells_list (P:=P) w ⟨b,o,none⟩ c.toList (by intro j v tG;rw[wh];exact h j v (by simpa using tG));rw[eB]at this;simp[this]
theorem MI{T:Nat}(ep:uX P T)(b o:Nat)(v:Value)(h:w.cell? ⟨b,o,none⟩=some v):(loadVar T ⟨b,o,none⟩).run P w= .ok v w:=by
 simp[loadVar,Tm ep.out,h]
theorem s1.wl{T eo:Nat}[ep:mj P T][e:nm P T eo]{ob:Value}{x c:Array Value}(f:an w ob x)(off:Nat)(d:x.extract off (off+eo)=c)(g:off+eo<=x.size):
 s1 P T w (rs ob off) (.agg c):=by
 unfold s1;obtain⟨b,o,rfl,h⟩:=f;refine⟨_,rfl,MO ep e b (o+off) c (by subst d;simp;omega) λj u a=>?_⟩;subst d;have:=h (off+j) u (by
  rw[Array.getElem?_extract]at a;split at a
  .exact a
  cases a)
 rw[Nat.add_assoc];exact this
theorem ud{T:Nat}[ep:uX P T]{ob v:Value}{x:Array Value}(a:an w ob x)(off:Nat)(c:x[off]? =some v):s1 P T w (rs ob off) v:=by
 unfold s1;obtain⟨b,o,rfl,h⟩:=a;exact⟨_,rfl,MI ep b (o+off) v (h off v c)⟩
theorem MN{T eo:Nat}[ep:mj P T][a:nm P T eo]{ob:Value}{x:Array Value}(c:an w ob x)(d:x.size=eo):s1 P T w ob (.agg x):=by
 unfold s1;obtain⟨b,o,rfl,h⟩:=c;exact⟨_,rfl,MO ep a b o x d h⟩
theorem Ie{T:Nat}[ep:uX P T]{ob v:Value}{x:Array Value}(a:an w ob x)(c:x[0]? =some v):s1 P T w ob v:=by
 unfold s1;obtain⟨b,o,rfl,h⟩:=a;exact⟨_,rfl,MI ep b o v (h 0 v c)⟩
theorem an.ab{T:Nat}[uX P T]{ob v:Value}{x:Array Value}(a:an w ob x)(b:x[0]? =some v):s1 P T w ob v:=Ie a b
theorem an.n5{T eo:Nat}[mj P T][nm P T eo]{ob:Value}{x:Array Value}(a:an w ob x)(b:x.size=eo):s1 P T w ob (.agg x):=MN a b
theorem Tf{b j:Nat}{cs:Array Value}{T:TypeId}(h:w.heap[b]? =some (.cells cs T (0,0))):w.cell? ⟨b,j,none⟩=cs[j]? :=by simp[World.cell?,h]
theorem an.dF{b:Nat}{cs:Array Value}{T:TypeId}(h:w.heap[b]? =some (.cells cs T (0,0))):an w (.pointer (some ⟨b,0,none⟩)) cs:=
 ⟨b,0,rfl,λj u a=>by rw[Tf h,Nat.zero_add];exact a⟩
section
variable{w0:World}{S:List eH}
theorem U.tb{b:Nat}{cs:Array Value}{eb:TypeId}(h:U w0 S w)(a:tP (B b cs eb) S):an w (.pointer (some ⟨b,0,none⟩)) cs:=an.dF (h.dF a)
theorem U.n5{T eo b:Nat}[mj P T][nm P T eo]{cs:Array Value}{eb:TypeId}(h:U w0 S w)(a:tP (B b cs eb) S)(c:cs.size=eo):s1 P T w (.pointer (some ⟨b,0,none⟩)) (.agg cs):=MN (h.tb a) c
theorem U.It{T eo b o:Nat}[mj P T][nm P T eo]{cs c:Array Value}{eb:TypeId}(h:U w0 S w)(a:tP (B b cs eb) S)(d:cs.extract o (o+eo)=c)(e:o+eo<=cs.size):s1 P T w (.pointer (some ⟨b,o,none⟩)) (.agg c):=by
 have:=s1.wl (P:=P) (T:=T) (h.tb a) o d e;simpa[rs]using this
theorem U.a6{T b o:Nat}[uX P T]{cs:Array Value}{v:Value}{eb:TypeId}(h:U w0 S w)(a:tP (B b cs eb) S)(c:cs[o]? =some v):s1 P T w (.pointer (some ⟨b,o,none⟩)) v:=by
 have:=ud (P:=P) (T:=T) (h.tb a) o c;simpa[rs]using this
end
end
section
variable{P:Program}{f:te}{w:World}{R:Value->World->Prop}{d:Option Tmp}{T:TypeId}{pos:String}{eO:Array Edge}{eQ:Option (Nat×Bool)}
theorem iz{o:Oper}{v:Value}{w':World}(hr:(execOp (eD f) o).run P w= .ok (.value v) w')(h:R v w'):J P f o w R:=by unfold J;rw[hr];exact h
theorem qK{o:Oper}{w':World}(hr:(execOp (eD f) o).run P w= .ok .skip w')(h:R undef w'):J P f o w R:=by unfold J;rw[hr];exact h
theorem J.move{x:Operand}(h:R (eD f x) w):J P f ⟨d,.move x,T,pos,eO,eQ⟩ w R:=iz rfl h
theorem J.assign{x:Operand}(h:R (eD f x) w):J P f ⟨d,.assign x,T,pos,eO,eQ⟩ w R:=iz rfl h
theorem J.pick{c a b:Operand}{t:Bool}(e:eD f c= .bool t)(h:R (cond t (eD f a) (eD f b)) w):J P f ⟨d,.pick c a b,T,pos,eO,eQ⟩ w R:=by
 refine iz (v:=cond t (eD f a) (eD f b)) (w':=w) ?_ h;cases t<;>simp[execOp,e,asBool]
theorem J.box{eb:TypeId}{x:Operand}{w0:World}{S:List eH}(E:U w0 S w)
 (h:∀b w',eV w w'->U w0 (B b (eD f x).cells eb::S) w'->R (.pointer (some ⟨b,0,none⟩)) w'):J P f ⟨d,.box eb x,T,pos,eO,eQ⟩ w R:=by
 refine iz (v:=.pointer (some ⟨w.heap.size,0,none⟩)) (w':=w.alloc (.cells (eD f x).cells eb)) rfl (h _ _ (eV.alloc w _) (E.alloc _ _))
theorem J.alloc{eb:TypeId}{z:Value}[a:oB P eb z]{w0:World}{S:List eH}(E:U w0 S w)
 (h:∀b w',eV w w'->U w0 (B b z.cells eb::S) w'->R (.pointer (some ⟨b,0,none⟩)) w'):J P f ⟨d,.alloc eb,T,pos,eO,eQ⟩ w R:=by
 refine iz (v:=.pointer (some ⟨w.heap.size,0,none⟩)) (w':=w.alloc (.cells z.cells eb)) ?_ (h _ _ (eV.alloc w _) (E.alloc _ _));simp[execOp,Instr.alloc,vf a,newVar,newRow]
theorem J.load{eb:TypeId}{x:Operand}{v:Value}(eB:s1 P eb w (eD f x) v)(h:R v w):J P f ⟨d,.load eb x,T,pos,eO,eQ⟩ w R:=by
 unfold s1 at eB;obtain⟨b,a,hr⟩:=eB;refine iz (v:=v) (w':=w) ?_ h;simp[execOp,Instr.loadAt,a,Instr.sureAddr,hr]
theorem J.nilCheck{x:Operand}{ob:Value}(Z:eD f x=ob)(a:m6 ob)(h:R ob w):J P f ⟨d,.nilCheck x,T,pos,eO,eQ⟩ w R:=by
 obtain⟨b,o,rfl⟩:=a;refine iz (v:=.pointer (some ⟨b,o,none⟩)) (w':=w) ?_ h;simp[execOp,Z]
theorem J.fieldAddr{s i off:Nat}[a:je P s i off]{x:Operand}{ob:Value}(Z:eD f x=ob)(c:m6 ob)(h:R (rs ob off) w):J P f ⟨d,.fieldAddr s x i,T,pos,eO,eQ⟩ w R:=by
 obtain⟨b,o,rfl⟩:=c;obtain⟨nk,tf,e,g,j,k,l⟩:=a.out;refine iz (v:=rs (.pointer (some ⟨b,o,none⟩)) off) (w':=w) ?_ h;have m:(sizeOf tf.type).run P w= .ok (k+1) w:=m5 ⟨l⟩ w;simp[execOp,Instr.fieldAt,run_underlying e,g,Z,Instr.sureAddr,fieldPlace,m,wh,rs,j]
theorem gI{g:FuncId}(a:lS P g)(args:Array Value)(w:World):(callFunc g args).run P w= .ok (.enter g args) w:=by
 have a:=a.out;cases b:P.funcs[g]? with
 |none=>simp[b]at a
 |some fn=>
  simp only[b,Option.map_some,Option.some.injEq,Bool.and_eq_true,decide_eq_true_eq]at a;have hb:fn.body.isNone=false:=by cases h:fn.body<;>simp_all
  have c:fn.body≠none:=by intro h;simp[h]at hb
  simp[callFunc,b,a.2,c]
theorem J.call{g:FuncId}[b:lS P g]{args:Array Operand}{nI:Array TypeId}{vs:List Value}{R':Value->World->Prop}(a:nr P g vs.toArray w R')(c:args.toList.map (eD f)=vs)(h:∀v w',R' v w'->R v w'):
 J P f ⟨d,.call {callee:=.value (.func g),args:=args,argTypes:=nI},T,pos,eO,eQ⟩ w R:=by
 unfold nr at a;have ep:args.map (eD f)=vs.toArray:=by subst c;apply Array.ext';simp
 rw[<-ep]at a;have hr:(execOp (eD f) ⟨d,.call {callee:=.value (.func g),args:=args,argTypes:=nI},T,pos,eO,eQ⟩).run P w= .ok (.enter g (args.map (eD f))) w:=by
  simp[execOp,resolve,eD,Deferred.ofValue,invoke,gI b]
 unfold J;rw[hr];exact Calls.mono a λe w'⟨v,i,tG⟩=>⟨v,i,h _ _ tG⟩
theorem J.extract{x:Operand}{i:Nat}{vs:Array Value}{v:Value}(Z:eD f x= .tuple vs)(tG:vs[i]? =some v)(h:R v w):J P f ⟨d,.extract x i,T,pos,eO,eQ⟩ w R:=by
 refine iz (v:=v) (w':=w) ?_ h;simp[execOp,Z,Instr.extract,tG]
theorem J.len{x:Operand}{S eb n c:Nat}[b:hl P S eb]{a:Option Addr}(Z:eD f x= .slice a n c)(h:R (.int .i64 n) w):
 J P f ⟨d,.call {callee:=.builtin .len,args:=#[x],argTypes:=#[S]},T,pos,eO,eQ⟩ w R:=by
 refine iz (v:=.int .i64 n) (w':=w) ?_ h;simp[execOp,resolve,invoke,builtin,Builtin.len_,Z,run_underlying b.out,goInt]
theorem J.conv{s t:TypeId}{k j:IntKind}{x:Operand}{n m:Int}[a:hZ P s j][b:hZ P t k](Z:eD f x= .int j n)(e5:k.wrap n=m)(h:R (.int k m) w):
 J P f ⟨d,.convert s t x,T,pos,eO,eQ⟩ w R:=by
 subst e5;refine iz (v:=.int k (k.wrap n)) (w':=w) ?_ h;simp[execOp,convert,run_underlying a.out,run_underlying b.out,Z,Conv.intToInt]
theorem Xd(op:BinOp)(t:TypeId)(x y:Operand)(k j:IntKind)(a b:Int)(w:World):(eqGuard op t x y (.int k a) (.int j b)).run P w= .ok () w:=by
 unfold eqGuard;cases op<;>rfl
theorem fT{op:BinOp}{s t:TypeId}{x y:Operand}{k j:IntKind}{a b:Int}{v:Value}(Z:eD f x= .int k a)(c:eD f y= .int j b)
 (tG:(binOp op s (.int k a) (.int j b)).run P w= .ok v w) (h:R v w):J P f ⟨d,.binOp op s x y t,T,pos,eO,eQ⟩ w R:=by
 refine iz (v:=v) (w':=w) ?_ h;simp[execOp,Z,c,Xd,tG]
theorem J.lss{s t:TypeId}{x y:Operand}{k:IntKind}{a b:Int}(Z:eD f x= .int k a)(c:eD f y= .int k b)(h:R (.bool (decide (a<b))) w):J P f ⟨d,.binOp .lss s x y t,T,pos,eO,eQ⟩ w R:=
 fT Z c (by simp[binOp,Op.intCmp]) h
theorem J.leq{s t:TypeId}{x y:Operand}{k:IntKind}{a b:Int}(Z:eD f x= .int k a)(c:eD f y= .int k b)(h:R (.bool (decide (a<=b))) w):J P f ⟨d,.binOp .leq s x y t,T,pos,eO,eQ⟩ w R:=
 fT Z c (by simp[binOp,Op.intCmp]) h
theorem J.gtr{s t:TypeId}{x y:Operand}{k:IntKind}{a b:Int}(Z:eD f x= .int k a)(c:eD f y= .int k b)(h:R (.bool (decide (b<a))) w):J P f ⟨d,.binOp .gtr s x y t,T,pos,eO,eQ⟩ w R:=
 fT Z c (by simp[binOp,Op.intCmp]) h
theorem J.geq{s t:TypeId}{x y:Operand}{k:IntKind}{a b:Int}(Z:eD f x= .int k a)(c:eD f y= .int k b)(h:R (.bool (decide (b<=a))) w):J P f ⟨d,.binOp .geq s x y t,T,pos,eO,eQ⟩ w R:=
 fT Z c (by simp[binOp,Op.intCmp]) h
theorem J.eql{s t:TypeId}{x y:Operand}{k:IntKind}{a b:Int}(Z:eD f x= .int k a)(c:eD f y= .int k b)(h:R (.bool (decide (a=b))) w):J P f ⟨d,.binOp .eql s x y t,T,pos,eO,eQ⟩ w R:=
 fT Z c (by simp[binOp,Op.intCmp];rfl) h
theorem J.neq{s t:TypeId}{x y:Operand}{k:IntKind}{a b:Int}(Z:eD f x= .int k a)(c:eD f y= .int k b)(h:R (.bool (!decide (a=b))) w):J P f ⟨d,.binOp .neq s x y t,T,pos,eO,eQ⟩ w R:=
 fT Z c (by simp[binOp,Op.intCmp];rfl) h
theorem J.add{s t:TypeId}{x y:Operand}{k:IntKind}{a b c:Int}(Z:eD f x= .int k a)(e:eD f y= .int k b)(g:k.wrap (a+b)=c)(h:R (.int k c) w):J P f ⟨d,.binOp .add s x y t,T,pos,eO,eQ⟩ w R:=
 fT Z e (by subst g;simp[binOp,Op.intArith]) h
theorem J.sub{s t:TypeId}{x y:Operand}{k:IntKind}{a b c:Int}(Z:eD f x= .int k a)(e:eD f y= .int k b)(g:k.wrap (a-b)=c)(h:R (.int k c) w):J P f ⟨d,.binOp .sub s x y t,T,pos,eO,eQ⟩ w R:=
 fT Z e (by subst g;simp[binOp,Op.intArith]) h
theorem J.mul{s t:TypeId}{x y:Operand}{k:IntKind}{a b c:Int}(Z:eD f x= .int k a)(e:eD f y= .int k b)(g:k.wrap (a*b)=c)(h:R (.int k c) w):J P f ⟨d,.binOp .mul s x y t,T,pos,eO,eQ⟩ w R:=
 fT Z e (by subst g;simp[binOp,Op.intArith]) h
theorem J.quo{s t:TypeId}{x y:Operand}{k:IntKind}{a b c:Int}(Z:eD f x= .int k a)(e:eD f y= .int k b)(hb:b≠0)(g:k.wrap (a.tdiv b)=c)(h:R (.int k c) w):J P f ⟨d,.binOp .quo s x y t,T,pos,eO,eQ⟩ w R:=
 fT Z e (by subst g;simp[binOp,Op.intDiv,hb]) h
theorem J.rem{s t:TypeId}{x y:Operand}{k:IntKind}{a b c:Int}(Z:eD f x= .int k a)(e:eD f y= .int k b)(hb:b≠0)(g:a.tmod b=c)(h:R (.int k c) w):J P f ⟨d,.binOp .rem s x y t,T,pos,eO,eQ⟩ w R:=
 fT Z e (by subst g;simp[binOp,Op.intDiv,hb]) h
theorem J.shl{s t:TypeId}{x y:Operand}{k j:IntKind}{a b c:Int}(Z:eD f x= .int k a)(e:eD f y= .int j b)(hb:0<=b)(g:k.wrap (a*2^(min b.toNat k.bits))=c)(h:R (.int k c) w):J P f ⟨d,.binOp .shl s x y t,T,pos,eO,eQ⟩ w R:=
 fT Z e (by subst g;simp[binOp,Op.shift,Int.not_lt.2 hb]) h
theorem J.shr{s t:TypeId}{x y:Operand}{k j:IntKind}{a b c:Int}(Z:eD f x= .int k a)(e:eD f y= .int j b)(hb:0<=b)(g:a.fdiv (2^(min b.toNat k.bits))=c)(h:R (.int k c) w):J P f ⟨d,.binOp .shr s x y t,T,pos,eO,eQ⟩ w R:=
 fT Z e (by subst g;simp[binOp,Op.shift,Int.not_lt.2 hb]) h
def hL(op:BinOp)(k:IntKind)(a b:Int):Int:=
 let x:=BitVec.ofInt k.bits a
 let y:=BitVec.ofInt k.bits b
 match op with
 | .and=>k.wrap (x&&&y).toNat
 | .or=>k.wrap (x|||y).toNat
 | .xor=>k.wrap (x^^^y).toNat
 | .andNot=>k.wrap (x&&& ~~~y).toNat
 |_=>0
theorem J.and{s t:TypeId}{x y:Operand}{k:IntKind}{a b c:Int}(Z:eD f x= .int k a)(e:eD f y= .int k b)(g:hL .and k a b=c)(h:R (.int k c) w):J P f ⟨d,.binOp .and s x y t,T,pos,eO,eQ⟩ w R:=
 fT Z e (by subst g;simp[binOp,Op.intBits,hL]) h
theorem J.or{s t:TypeId}{x y:Operand}{k:IntKind}{a b c:Int}(Z:eD f x= .int k a)(e:eD f y= .int k b)(g:hL .or k a b=c)(h:R (.int k c) w):J P f ⟨d,.binOp .or s x y t,T,pos,eO,eQ⟩ w R:=
 fT Z e (by subst g;simp[binOp,Op.intBits,hL]) h
theorem J.andNot{s t:TypeId}{x y:Operand}{k:IntKind}{a b c:Int}(Z:eD f x= .int k a)(e:eD f y= .int k b)(g:hL .andNot k a b=c)(h:R (.int k c) w):J P f ⟨d,.binOp .andNot s x y t,T,pos,eO,eQ⟩ w R:=
 fT Z e (by subst g;simp[binOp,Op.intBits,hL]) h
theorem J.not{s:TypeId}{x:Operand}{a:Bool}(Z:eD f x= .bool a)(h:R (.bool (!a)) w):J P f ⟨d,.unOp .not s x,T,pos,eO,eQ⟩ w R:=by
 refine iz (v:=.bool (!a)) (w':=w) ?_ h;simp[execOp,Z,Op.unary]
theorem wrap_i64{n:Int}(h: -9223372036854775808<=n/\n<=9223372036854775807):IntKind.i64.wrap n=n:=by
 simp[IntKind.wrap,IntKind.bits,IntKind.signed];omega
theorem wrap_u64{n:Int}(h:0<=n/\n<=18446744073709551615):IntKind.u64.wrap n=n:=by
 simp[IntKind.wrap,IntKind.bits,IntKind.signed];omega
theorem MS{n:Int}(h:0<=n/\n<=255):IntKind.u8.wrap n=n:=by
 simp[IntKind.wrap,IntKind.bits,IntKind.signed];omega
theorem Xc(n:Int):IntKind.u8.wrap n=n%256:=by simp[IntKind.wrap,IntKind.bits,IntKind.signed]
theorem Ho(n:Int):IntKind.u64.wrap n=n%18446744073709551616:=by simp[IntKind.wrap,IntKind.bits,IntKind.signed]
end
end
section
class O(α:Type)where
 enc:α->Array Value
 eo:Nat
 pos:0<eo
 ez:∀a,(enc a).size=eo
 one:∀a,∀u∈(enc a).toList,u.oneCell'=true
section
variable{α:Type}[O α]
def ij(xs:List α):List Value:=xs.flatMap λx=>(O.enc x).toList
theorem Xu:ij ([]:List α)=[]:=rfl
theorem yt(x:α)(xs:List α):ij (x::xs)=(O.enc x).toList++ij xs:=by simp[ij]
theorem vp(xs ys:List α):ij (xs++ys)=ij xs++ij ys:=by simp[ij]
theorem uc(xs:List α):(ij xs).length=xs.length*O.eo α:=by
 induction xs with
 |nil=>simp[ij]
 |cons x xs a=>rw[yt,List.length_append,a,Array.length_toList,O.ez,List.length_cons,Nat.add_mul];omega
theorem Ia(xs:List α):∀u∈ij xs,u.oneCell'=true:=by
 intro u a;simp only[ij,List.mem_flatMap]at a;obtain⟨x,_,Z⟩:=a;exact O.one x u Z
theorem Io(xs:List α):∀(i:Nat)(x:α),xs[i]? =some x->∀(j:Nat)(u:Value),(O.enc x)[j]? =some u->(ij xs)[i*O.eo α+j]? =some u:=by
 induction xs with
 |nil=>intro i x Z;simp at Z
 |cons y ys b=>
  intro i x Z j u a;have c:j<O.eo α:=by
   have:=(Array.getElem?_eq_some_iff.1 a).1;rw[O.ez]at this;exact this
  rw[yt];cases i with
  |zero=>
   simp at Z;subst Z;rw[Nat.zero_mul,Nat.zero_add,List.getElem?_append_left (by rw[Array.length_toList,O.ez];exact c)];simpa using a
  |succ i=>
   rw[List.getElem?_append_right (by rw[Array.length_toList,O.ez,Nat.succ_mul];omega),Array.length_toList,O.ez];have:=b i x (by simpa using Z) j u a;rw[show(i+1)*O.eo α+j-O.eo α=i*O.eo α+j by rw[Nat.succ_mul];omega];exact this
theorem Ii(xs:List α)(n:Nat):ij (xs.take n)=(ij xs).take (n*O.eo α):=by
 rcases Nat.le_total n xs.length with h|h
 .have e:ij xs=ij (xs.take n)++ij (xs.drop n):=by rw[<-vp,List.take_append_drop]
  rw[e,List.take_left' (by rw[uc,List.length_take,Nat.min_eq_left h])]
 rw[List.take_of_length_le h,List.take_of_length_le];rw[uc];exact Nat.mul_le_mul_right _ h
theorem In(xs:List α)(n:Nat):ij (xs.drop n)=(ij xs).drop (n*O.eo α):=by
 rcases Nat.le_total n xs.length with h|h
 .have e:ij xs=ij (xs.take n)++ij (xs.drop n):=by rw[<-vp,List.take_append_drop]
  rw[e,List.drop_left' (by rw[uc,List.length_take,Nat.min_eq_left h])]
 rw[List.drop_of_length_le h,List.drop_of_length_le]
 .rfl
 rw[uc];exact Nat.mul_le_mul_right _ h
def Row(w:World)(oR:Addr)(l:List Value):Prop:=oR.spot=none/\∀(j:Nat)(u:Value),l[j]? =some u->w.cell? ⟨oR.block,oR.off+j,none⟩=some u
theorem Row.es{w w':World}{a:Addr}{l:List Value}(hb:eV w w')(h:Row w a l):Row w' a l:=⟨h.1,λj u b=>hb.cell (h.2 j u b)⟩
def ex(w:World)(v:Value)(xs:List α):Prop:=
 ∃a cap,v= .slice a xs.length cap/\xs.length<=cap/\cap<=maxLen/\(a=none->cap=0)/\∀oR,a=some oR->0<cap->Row w oR (ij xs)
theorem ex.es{w w':World}{v:Value}{xs:List α}(hb:eV w w')(h:ex w v xs):ex w' v xs:=by
 obtain⟨a,cap,G,Y,ej,e8,au⟩:=h;exact⟨a,cap,G,Y,ej,e8,λb c d=>(au b c d).es hb⟩
theorem ex.nil(w:World):ex w (.slice none 0 0) ([]:List α):=⟨none,0,rfl,Nat.le_refl _,Nat.zero_le _,λ_=>rfl,by simp⟩
theorem ex.le{w:World}{v:Value}{xs:List α}(h:ex w v xs):xs.length<=maxLen:=by obtain⟨a,cap,_,G,Y,_⟩:=h;omega
theorem ex.eq{w:World}{v:Value}{xs:List α}(h:ex w v xs):∃a c,v= .slice a xs.length c:=by obtain⟨a,cap,h,_⟩:=h;exact⟨a,cap,h⟩
theorem ex.jt{w:World}{v:Value}{xs:List α}(h:ex w v xs)(em:0<xs.length):∃b cap,v= .slice (some b) xs.length cap/\xs.length<=cap/\Row w b (ij xs):=by
 obtain⟨a,cap,G,Y,ej,e8,au⟩:=h;cases a with
 |none=>have:=e8 rfl;omega
 |some b=>exact⟨b,cap,G,Y,au b rfl (by omega)⟩
theorem ex.tb{w:World}{v:Value}{xs:List α}(h:ex w v xs){i:Nat}{x:α}(Z:xs[i]? =some x):an w (oX v i (O.eo α)) (O.enc x):=by
 obtain⟨a,cap,rfl,_,hr⟩:=h.jt (Nat.lt_of_le_of_lt (Nat.zero_le _) (List.getElem?_eq_some_iff.1 Z).1);refine⟨a.block,a.off+i*O.eo α,rfl,λj u b=>?_⟩;rw[Nat.add_assoc];exact hr.2 _ u (Io xs i x Z j u b)
theorem ex.sY{w:World}{v:Value}{xs:List α}(h:ex w v xs){i eo:Nat}(ew:i<xs.length):m6 (oX v i eo):=by
 obtain⟨a,cap,rfl,_,hr⟩:=h.jt (by omega);exact⟨a.block,_,rfl⟩
theorem ex.sm{w:World}{v:Value}{xs:List α}(h:ex w v xs){i:Nat}(ew:i<xs.length):an w (oX v i (O.eo α)) (O.enc (xs[i]'ew)):=h.tb (List.getElem?_eq_getElem ew)
def nz(v:Value)(l h m eo:Nat):Value:=match v with
 | .slice a _ _=>.slice (if m=l then a else a.map λoR=>⟨oR.block,oR.off+l*eo,none⟩) (h-l) (m-l)
 |_=>undef
def s2(v:Value):Nat:=match v with| .slice _ _ c=>c|_=>0
theorem ex.cut{w:World}{v:Value}{xs:List α}(e:ex w v xs){l h m:Nat}(G:l<=h)(Y:h<=xs.length)(ej:h<=m)(e8:m<=s2 v):
 ex w (nz v l h m (O.eo α)) ((xs.take h).drop l):=by
 obtain⟨a,cap,rfl,i2,i3,i4,i5⟩:=e;have hlen:((xs.take h).drop l).length=h-l:=by simp;omega
 simp only[s2]at e8;refine⟨if m=l then a else a.map λb=>⟨b.block,b.off+l*O.eo α,none⟩,m-l,by simp only[nz,hlen],by rw[hlen];omega,by simp only[maxLen]at*;omega,?_,?_⟩
 .intro f;by_cases e5:m=l
  .omega
  cases a with
  |none=>have:=i4 rfl;omega
  |some b=>simp[e5]at f
 intro b c i;by_cases e5:m=l
 .omega
 simp only[e5,if_false]at c;cases a with
 |none=>simp at c
 |some g=>
  simp at c;subst c;refine⟨rfl,λj u d=>?_⟩;rw[In,Ii,List.getElem?_drop,List.getElem?_take]at d;split at d
  .have:=(i5 g rfl (by omega)).2 _ u d;simpa[Nat.add_assoc]using this
  cases d
def l6(w:World)(v:Value)(e:TypeId)(xs:List α):Prop:=
 (v= .slice none 0 0/\xs=[])∨
 ∃g cap ne,v= .slice (some ⟨g,0,none⟩) xs.length cap/\w.heap[g]? =some (.cells ne e (0,0))/\xs.length<=cap/\cap<=maxLen/\cap*O.eo α<=ne.size/\
  ne.toList.take (xs.length*O.eo α)=ij xs
theorem l6.eW{w w':World}{v:Value}{e:TypeId}{xs:List α}(h:∀b,v.ownBlock=some b->w'.heap[b]? =w.heap[b]?)(e1:l6 w v e xs):l6 w' v e xs:=by
 rcases e1 with e1|⟨g,cap,ne,rfl,a,rest⟩
 .exact .inl e1
 exact .inr ⟨g,cap,ne,rfl,by rw[h g rfl];exact a,rest⟩
@[irreducible] def V (v:Value) (e:TypeId) (xs:List α):eH:=⟨λk=>v.ownBlock=some k,λw=>l6 w v e xs,λ_ _ h rt=>rt.eW h⟩
theorem dm(v:Value)(e:TypeId)(xs:List α):(V v e xs).F=λk=>v.ownBlock=some k:=by unfold V;rfl
theorem df(v:Value)(e:TypeId)(xs:List α):(V v e xs).A=λw=>l6 w v e xs:=by unfold V;rfl
theorem l6.eu{w:World}{v:Value}{e:TypeId}{xs:List α}(h:l6 w v e xs):ex w v xs:=by
 rcases h with⟨rfl,rfl⟩|⟨g,cap,ne,rfl,c,G,Y,ej,e8⟩
 .exact ex.nil w
 refine⟨some ⟨g,0,none⟩,cap,rfl,G,Y,by simp,λd b _=>?_⟩;simp at b;subst b;refine⟨rfl,λj u a=>?_⟩;rw[Tf c,Nat.zero_add];rw[<-e8,List.getElem?_take]at a;split at a
 .simpa using a
 cases a
section
variable{w0 w:World}{S:List eH}
theorem U.cQ{v:Value}{e:TypeId}{xs:List α}(h:U w0 S w)(a:tP (V v e xs) S):l6 w v e xs:=by have:=h.get a;rw[df]at this;exact this
theorem U.eu{v:Value}{e:TypeId}{xs:List α}(h:U w0 S w)(a:tP (V v e xs) S):ex w v xs:=(h.cQ a).eu
theorem U.lR(h:U w0 S w)(e:TypeId):U w0 (V (α:=α) (.slice none 0 0) e []::S) w:=
 h.new (eV.refl w) (by rw[df];exact .inl ⟨rfl,rfl⟩) (by rw[dm];intro k a;simp[Value.ownBlock]at a)
theorem U.pB{w':World}{v:Value}{e:TypeId}{xs:List α}(h:U w0 S w)(hb:eV w w')(e1:l6 w' v e xs)(b:∀k,v.ownBlock=some k->w.heap.size<=k):U w0 (V v e xs::S) w':=
 h.new hb (by rw[df];exact e1) (by
  rw[dm];intro k a;refine⟨b k a,?_⟩;rcases e1 with⟨rfl,_⟩|⟨g,cap,ne,rfl,c,_⟩
  .simp[Value.ownBlock]at a
  simp[Value.ownBlock]at a;subst a;exact(Array.getElem?_eq_some_iff.1 c).1)
theorem U.cZ{v:Value}{e:TypeId}{xs:List α}(h:U w0 S w)(a:tP (V v e xs) S):l6 w v e xs/\∀k,v.ownBlock=some k->w0.heap.size<=k:=by
 have Y:=(h.all _ a.mem).2;rw[dm]at Y;exact⟨h.cQ a,λk b=>(Y k b).1⟩
end
def sH(w w':World)(v:Value)(e:TypeId)(xs:List α):Prop:=l6 w' v e xs/\∀k,v.ownBlock=some k->w.heap.size<=k
theorem MR{P:Program}{w:World}{t ty e:TypeId}{r4:Nat}(m:hl P t e)(L:nm P e (O.eo α))(M:y8 P e r4){z:Value}(N:oB P e z)(Q:z.cells.size=O.eo α)
 {v u:Value} {xs ys:List α} (e1:l6 w v e xs) (B:ex w u ys) (hlen:(xs.length+ys.length)*r4<=140737488355328) (C:xs.length+ys.length<=maxLen):
 ∃q w',(Builtin.append_ #[t,t] ty #[v,u]).run P w= .ok q w'/\l6 w' q e (xs++ys)/\qV (λk=>v.ownBlock=some k) w w'/\
  ∀k,q.ownBlock=some k->v.ownBlock=some k∨(w.heap.size<=k/\k<w'.heap.size):=by
 obtain⟨i,ew,n,D,E⟩:∃i,P.info? e=some i/\i.size=O.eo α/\i.bytes=r4/\i.zero=some z:=by
  have G:=L.out;have Y:=M.out;have ej:=N.out;cases ew:P.info? e with
  |none=>simp[ew]at G
  |some i=>simp[ew]at G Y ej;exact⟨i,rfl,G,Y,ej⟩
 have W:=O.pos (α:=α);have F:((xs.length+ys.length:Nat):Int)<=9223372036854775807:=by simp only[maxLen]at C;omega
 have H:(ij (xs++ys)).length=(xs.length+ys.length)*O.eo α:=by rw[uc,List.length_append]
 have R:qV (λk=>v.ownBlock=some k) w w:=⟨rfl,rfl,rfl,Nat.le_refl _,λ_ _ _=>rfl⟩;have I:∀(ee:Nat),qV (λk=>v.ownBlock=some k) w (w.drew.alloc (.cells ((ij xs).toArray++(ij ys).toArray++Builtin.zeroCells z.cells (grownCap w (xs.length+ys.length) ee e-(xs.length+ys.length))) e))/\
  l6 (w.drew.alloc (.cells ((ij xs).toArray++(ij ys).toArray++Builtin.zeroCells z.cells (grownCap w (xs.length+ys.length) ee e-(xs.length+ys.length))) e))
   (.slice (some ⟨w.heap.size,0,none⟩) (xs.length+ys.length) (grownCap w (xs.length+ys.length) ee e)) e (xs++ys)/\
  ∀k,(Value.slice (some ⟨w.heap.size,0,none⟩) (xs.length+ys.length) (grownCap w (xs.length+ys.length) ee e)).ownBlock=some k->v.ownBlock=some k∨
   (w.heap.size<=k/\k<(w.drew.alloc (.cells ((ij xs).toArray++(ij ys).toArray++Builtin.zeroCells z.cells (grownCap w (xs.length+ys.length) ee e-(xs.length+ys.length))) e)).heap.size):=by
  intro ee;have uJ:=grownCap_ge w (xs.length+ys.length) ee e;have S:grownCap w (xs.length+ys.length) ee e<=maxLen:=grownCap_le_maxLen w _ ee e C;refine⟨⟨rfl,rfl,rfl,by simp,λk d _=>heap_alloc_old w.drew _ d⟩,.inr ⟨w.heap.size,_,_,by rw[List.length_append],heap_alloc_new w.drew _,by rw[List.length_append];exact uJ,S,?_,?_⟩,?_⟩
  .simp only[Array.size_append,List.size_toArray,size_zeroCells,Q,uc,<-Nat.add_mul];refine Nat.mul_le_mul_right _ ?_;omega
  .simp only[Array.toList_append];rw[List.length_append,<-vp,<-H];exact List.take_left
  intro k d;simp[Value.ownBlock]at d;subst d;exact .inr ⟨Nat.le_refl _,by simp⟩
 by_cases T:ys.length=0
 .have U:ys=[]:=List.eq_nil_of_length_eq_zero T;subst U;refine⟨v,w,?_,by simpa using e1,R,λk d=>.inl d⟩;obtain⟨a,c,r,_,_,_,_⟩:=B;subst r;rcases e1 with⟨rfl,rfl⟩|⟨g,cap,ne,rfl,p,G,Y,ej,e8⟩
  .cases a<;>simp[Builtin.append_,run_underlying m.out,sizeOf,typeInfo,ew,Builtin.lenOf,Builtin.firstCells,loadCells,loadCellsFrom]
  cases a<;>simp[Builtin.append_,run_underlying m.out,sizeOf,typeInfo,ew,Builtin.lenOf,Builtin.firstCells,loadCells,loadCellsFrom,G,storeCells]
 obtain⟨h,x,r,V,J⟩:=B.jt (by omega);subst r;have y:∀(j:Nat)(u:Value),(ij ys)[j]? =some u->w.cell? (h.add j)=some u:=by
  intro j u l;have:=J.2 j u l;have e:h.add j=⟨h.block,h.off+j,none⟩:=by
   have G:=J.1;obtain⟨b,o,s⟩:=h;simp only at G;subst G;exact wh b o j
  rw[e];exact this
 have eB:(ij ys).length=ys.length*i.size:=by rw[uc,n]
 rcases e1 with⟨rfl,rfl⟩|⟨g,cap,ne,rfl,p,G,Y,ej,e8⟩
 .have hr:=run_append_nil (P:=P) w t ty e i z m.out ew E h ys.length x (ij ys) eB y (by omega) (by simp at F;omega) (by rw[D];simp at hlen;omega);have f:=I 0;simp only[List.length_nil,Nat.zero_add,List.nil_append,Xu]at f⊢;simp only[show(#[]:Array Value)++(ij ys).toArray=(ij ys).toArray by simp]at f;exact⟨_,_,hr,f.2.1,f.1,f.2.2⟩
 by_cases A:xs.length+ys.length<=cap
 .have K:xs.length*i.size+(ij ys).length<=ne.size:=by
   rw[eB,<-Nat.add_mul,n];exact Nat.le_trans (Nat.mul_le_mul_right _ A) ej
  have hr:=run_append_room (P:=P) w t ty e i m.out ew g xs.length cap ne p h ys.length x (ij ys) eB y (Ia ys) A K;refine⟨_,_,hr,.inr ⟨g,cap,_,by rw[List.length_append],setRow_heap w g ne _ e _ p,by rw[List.length_append];exact A,Y,?_,?_⟩,⟨rfl,rfl,rfl,by simp[World.setRow],λk _ d=>setRow_other w g k _ (λe=>d (by simp[Value.ownBlock,e]))⟩,λk d=>.inl (by simpa[Value.ownBlock]using d)⟩
  .simp only[List.size_toArray,List.length_append,List.length_take,List.length_drop,Array.length_toList,n]at K⊢;omega
  rw[n,e8,List.length_append,<-vp,<-H];exact List.take_left
 have holds:∀(j:Nat)(u:Value),(ij xs)[j]? =some u->w.cell? ((⟨g,0,none⟩:Addr).add j)=some u:=by
  intro j u l;rw[wh,Tf p,Nat.zero_add];rw[<-e8,List.getElem?_take]at l;split at l
  .simpa using l
  cases l
 have hr:=run_append_grow (P:=P) w t ty e i z m.out ew E ⟨g,0,none⟩ xs.length cap (ij xs) (by rw[uc,n]) holds h ys.length x (ij ys) eB y (by omega) F (growslice_fits (by omega) (by rw[D];exact hlen));have f:=I cap;exact⟨_,_,hr,f.2.1,f.1,f.2.2⟩
end
section
variable{α:Type}[O α]{P:Program}{f:te}{w w0:World}{S:List eH}{R:Value->World->Prop}{d:Option Tmp}{T:TypeId}{pos:String}{eO:Array Edge}{eQ:Option (Nat×Bool)}
theorem Xg{x:Operand}{t eb:Nat}{xs:List α}[hl P t eb](b:ex w (eD f x) xs)(h:R (.int .i64 xs.length) w):
 J P f ⟨d,.call {callee:=.builtin .len,args:=#[x],argTypes:=#[t]},T,pos,eO,eQ⟩ w R:=by
 obtain⟨a,c,e⟩:=b.eq;exact J.len e h
theorem Xw{x ix:Operand}{t eb:Nat}{k:IntKind}{i:Int}{xs:List α}[c:hl P t eb][g:nm P eb (O.eo α)](j:ex w (eD f x) xs)(ew:eD f ix= .int k i)(hb:0<=i/\i<(xs.length:Int))
 (h:R (oX (eD f x) i.toNat (O.eo α)) w):J P f ⟨d,.indexAddr t x ix,T,pos,eO,eQ⟩ w R:=by
 obtain⟨a,cap,l,m,hr⟩:=j.jt (by omega);refine iz (v:=oX (eD f x) i.toNat (O.eo α)) (w':=w) ?_ h;have e:a.add (i.toNat*O.eo α)=⟨a.block,a.off+i.toNat*O.eo α,none⟩:=by
  have G:=hr.1;obtain⟨b,o,s⟩:=a;simp only at G;subst G;exact wh b o _
 simp[execOp,Instr.indexAt,ew,asIntOf,run_underlying c.out,l,hb,m5 g,e,oX]
theorem J.cut{x:Operand}{r5 ew j:Option Operand}{t eb eo:Nat}{a:Option Addr}{n c l h' m:Nat}[A:hl P t eb][B:nm P eb eo](Z:eD f x= .slice a n c)
 (e5:(match j with|some o=>∃k,eD f o= .int k (m:Int)|none=>m=c)/\m<=c)
 (C:(match ew with|some o=>∃k,eD f o= .int k (h':Int)|none=>h'=n/\j=none)/\h'<=m)
 (eB:(match r5 with|some o=>∃k,eD f o= .int k (l:Int)|none=>l=0)/\l<=h')
 (D:m≠l->∀g,a=some g->g.spot=none)
 (h:R (nz (eD f x) l h' m eo) w):J P f ⟨d,.slice t x r5 ew j,T,pos,eO,eQ⟩ w R:=by
 refine iz (v:=nz (eD f x) l h' m eo) (w':=w) ?_ h;obtain⟨q,z⟩:=e5;obtain⟨p,r⟩:=C;obtain⟨i,u⟩:=eB;have e:m≠l->∀g,a=some g->g.add (l*eo)=⟨g.block,g.off+l*eo,none⟩:=by
  intro E g F;have G:=D E g F;obtain⟨b,o,s⟩:=g;simp only at G;subst G;exact wh b o _
 have oD:∀(x:Operand)(y k:Nat)(code:BoundsCode),(∃wc,eD f x= .int wc (k:Int)) ->k<=y->(Instr.sliceBound (eD f x) y code).run P w= .ok k w:=by
  intro x y k code ⟨wc,Z⟩ I;have:(k:Int)<=(y:Int):=by omega
  simp[Instr.sliceBound,Z,asIntOf,this]
 have H:(Instr.sliceBounds true n c (r5.map (eD f)) (ew.map (eD f)) (j.map (eD f))).run P w= .ok (l,h',m) w:=by
  unfold Instr.sliceBounds;cases j with
  |none=>
   simp only at q;subst q;cases ew with
   |none=>
    obtain⟨rfl,_⟩:=p;cases r5 with
    |none=>simp only at i;subst i;simp
    |some r5=>simp[oD r5 h' l _ i u]
   |some ew=>
    cases r5 with
    |none=>simp only at i;subst i;simp[oD ew m h' _ p r]
    |some r5=>simp[oD ew m h' _ p r,oD r5 h' l _ i u]
  |some j=>
   cases ew with
   |none=>simp at p
   |some ew=>
    cases r5 with
    |none=>simp only at i;subst i;simp[oD j c m _ q z,oD ew m h' _ p r]
    |some r5=>simp[oD j c m _ q z,oD ew m h' _ p r,oD r5 h' l _ i u]
 simp only[execOp,Instr.sliceAt,Sem.run_bind,run_underlying A.out,Result.andThen_ok,Z,Instr.slice,H,m5 B,Sem.run_pure];cases a with
 |none=>simp[nz]
 |some g=>
  by_cases e5:m=l
  .simp[nz,e5]
  simp[nz,e5,e e5 g rfl]
theorem ex.cap{v:Value}{xs:List α}(h:ex w v xs):xs.length<=s2 v:=by obtain⟨a,c,rfl,G,_⟩:=h;exact G
theorem hj{x:Operand}{r5 ew b:Option Operand}{t eb:Nat}{xs:List α}{l h' m:Nat}[hl P t eb][nm P eb (O.eo α)](g:ex w (eD f x) xs)
 (e5:(match b with|some o=>∃k,eD f o= .int k (m:Int)|none=>m=s2 (eD f x))/\m<=s2 (eD f x))
 (i:(match ew with|some o=>∃k,eD f o= .int k (h':Int)|none=>h'=xs.length/\b=none)/\h'<=m)
 (eB:(match r5 with|some o=>∃k,eD f o= .int k (l:Int)|none=>l=0)/\l<=h')
 (h:R (nz (eD f x) l h' m (O.eo α)) w):J P f ⟨d,.slice t x r5 ew b,T,pos,eO,eQ⟩ w R:=by
 obtain⟨a,c,e,G,Y,ej,hr⟩:=g;have j:s2 (eD f x)=c:=by rw[e];rfl
 rw[j]at e5;exact J.cut e e5 i eB (λq n p=>(hr n p (by omega)).1) h
theorem dj{x y:Operand}{t eb r4:Nat}{z v:Value}{xs ys:List α}[b:hl P t eb][c:nm P eb (O.eo α)][hb:y8 P eb r4][e:oB P eb z](g:z.cells.size=O.eo α)
 (E:U w0 S w) (Z:eD f x=v) (e1:tP (V v eb xs) S) (i:ex w (eD f y) ys) (j:(xs.length+ys.length)*r4<=140737488355328) (k:xs.length+ys.length<=maxLen)
 (h:∀a w',(∀tp,iH (V v eb xs) (V a eb (xs++ys)) S tp->U w0 tp w') ->R a w'):
 J P f ⟨d,.call {callee:=.builtin .append,args:=#[x,y],argTypes:=#[t,t]},T,pos,eO,eQ⟩ w R:=by
 obtain⟨a,w',hr,G,Y,ej⟩:=MR (P:=P) (ty:=T) b c hb e g (E.cQ e1) i j k;refine iz (v:=a) (w':=w') ?_ (h a w' λtp l=>lv (by rw[dm];exact Y) (by rw[df];exact G) (by rw[dm,dm];exact ej) E l);simp[execOp,resolve,invoke,builtin,Z,hr]
theorem U.MD{cs:Array Value}{eb:TypeId}(E:U w0 S w)(xs:List α)(a:cs.toList=ij xs)(eB:xs.length<=maxLen):
 U w0 (V (.slice (some ⟨w.heap.size,0,none⟩) xs.length xs.length) eb xs::S) (w.alloc (.cells cs eb)):=by
 refine E.pB (eV.alloc w _) (.inr ⟨w.heap.size,xs.length,cs,rfl,heap_alloc_new w _,Nat.le_refl _,eB,?_,?_⟩) ?_
 .rw[<-Array.length_toList,a,uc];exact Nat.le_refl _
 .rw[List.take_of_length_le (by rw[a,uc];exact Nat.le_refl _),a]
 intro k b;simp[Value.ownBlock]at b;omega
end
end
section
def eK(ps:List (Array Value)):Array Value:=ps.foldr (·++·) #[]
theorem vy:eK []=#[]:=rfl
theorem cq(p:Array Value)(ps:List (Array Value)):eK (p::ps)=p++eK ps:=rfl
theorem qQ(ps l7:List (Array Value)):eK (ps++l7)=eK ps++eK l7:=by
 induction ps with
 |nil=>simp[vy]
 |cons p ps a=>simp[cq,a]
theorem iw(ps:List (Array Value)):(eK ps).size=(ps.map Array.size).sum:=by
 induction ps with
 |nil=>rfl
 |cons p ps a=>simp[cq,a]
def iI(cells:Array Value)(off:Nat)(v:Array Value):Array Value:=cells.extract 0 off++v++cells.extract (off+v.size) cells.size
theorem rL(a b:List (Array Value))(p v:Array Value)(tG:v.size=p.size):iI (eK (a++p::b)) (eK a).size v=eK (a++v::b):=by
 unfold iI;rw[qQ,qQ,cq,cq];have G:(eK a++(p++eK b)).extract 0 (eK a).size=eK a:=by simp
 have Y:(eK a++(p++eK b)).extract ((eK a).size+v.size) (eK a++(p++eK b)).size=eK b:=by
  rw[tG,<-Array.append_assoc];have:(eK a).size+p.size=(eK a++p).size:=by simp
  rw[this];simp
 rw[G,Y,Array.append_assoc]
theorem Xb(v:List Value):∀(k off:Nat)(cells:Array Value),off+k+v.length<=cells.size->∀i:Nat,
 ((v.zipIdx k).foldl (λcs(x:Value×Nat)=>cs.setIfInBounds (off+x.2) x.1) cells)[i]? =if off+k<=i/\i<off+k+v.length then v[i-(off+k)]? else cells[i]? :=by
 induction v with
 |nil=>
  intro k off cells h i;have:¬(off+k<=i/\i<off+k+([]:List Value).length):=by simp only[List.length_nil];omega
  rw[if_neg this];rfl
 |cons x v a=>
  intro k off cells h i;simp only[List.length_cons]at h;simp only[List.zipIdx_cons,List.foldl_cons];rw[a (k+1) off _ (by simp;omega) i,Array.getElem?_setIfInBounds];by_cases G:off+(k+1)<=i/\i<off+(k+1)+v.length
  .have Y:off+k<=i/\i<off+k+(v.length+1):=by omega
   have e:i-(off+k)=(i-(off+(k+1)))+1:=by omega
   simp only[G,Y,and_self,if_true,List.length_cons,e,List.getElem?_cons_succ]
  simp only[G,if_false,List.length_cons];by_cases ej:off+k=i
  .subst ej;have e8:off+k<cells.size:=by omega
   simp[e8]
  have au:¬(off+k<=i/\i<off+k+(v.length+1)):=by omega
  simp[ej,au]
theorem wu(cells v:Array Value)(off:Nat)(h:off+v.size<=cells.size)(i:Nat):(iI cells off v)[i]? =if off<=i/\i<off+v.size then v[i-off]? else cells[i]? :=by
 unfold iI;have Tp:min off cells.size=off:=by omega
 rw[Array.getElem?_append,Array.getElem?_append];simp only[Array.size_append,Array.size_extract,Nat.sub_zero,Tp];by_cases G:i<off
 .have Y:¬(off<=i/\i<off+v.size):=by omega
  have ej:i<off+v.size:=by omega
  rw[if_neg Y,if_pos ej,if_pos G];simp only[Array.getElem?_extract,Nat.sub_zero,Tp,Nat.zero_add,G,if_true]
 by_cases Y:i<off+v.size
 .have ej:off<=i/\i<off+v.size:=by omega
  rw[if_pos ej,if_pos Y,if_neg G]
 have ej:¬(off<=i/\i<off+v.size):=by omega
 rw[if_neg ej,if_neg Y];simp only[Array.getElem?_extract];have e:off+v.size+(i-(off+v.size))=i:=by omega
 rw[e,Nat.min_self];split
 .rfl
 rw[Array.getElem?_eq_none (by omega)]
theorem Xv(v:Array Value)(off:Nat)(cells:Array Value)(h:off+v.size<=cells.size):
 (v.zipIdx.foldl (λcs(x:Value×Nat)=>cs.setIfInBounds (off+x.2) x.1) cells)=iI cells off v:=by
 apply Array.ext_getElem?;intro i;rw[wu cells v off h i,<-Array.foldl_toList,Array.toList_zipIdx,Xb v.toList 0 off cells (by simpa using h) i];simp
theorem MC{place:Nat->Option (Nat×Nat)}{cells:Array Value}{i off size:Nat}{v:Value}{rest:List (Nat×Value)}(a:place i=some (off,size))(tG:v.cells.size=size)(b:off+size<=cells.size):
 Instr.fill place cells ((i,v)::rest)=Instr.fill place (iI cells off v.cells) rest:=by
 have G:¬(v.cells.size≠size∨cells.size<off+v.cells.size):=by rw[tG];omega
 simp only[Instr.fill,a];simp only[ne_eq,Bool.or_eq_true,decide_eq_true_eq,gt_iff_lt,G,if_false];congr 1;exact Xv v.cells off cells (by omega)
class nY(P:Program)(T:TypeId)(zs:outParam (List (Array Value))):Prop where
 out:∃nk,P.underlying T=some (.struct nk)/\(P.info? T).bind (·.zero)=some (.agg (eK zs))/\
  (nk.toList.map λf=>(P.info? f.type).map λi=>(f.offset,i.size))=(List.range zs.length).map λi=>some ((eK (zs.take i)).size,(zs.getD i #[]).size)
theorem sv{P:Program}{T:TypeId}{nk:Array Field}{zs:List (Array Value)}(a:P.underlying T=some (.struct nk))
 (h:((P.info? T).bind (·.zero),nk.toList.map λf=>(P.info? f.type).map λi=>(f.offset,i.size))=(some (.agg (eK zs)),(List.range zs.length).map λi=>some ((eK (zs.take i)).size,(zs.getD i #[]).size))):
 nY P T zs:=⟨nk,a,congrArg Prod.fst h,congrArg Prod.snd h⟩
def uQ(zs:List (Array Value)):List (Nat×Value) ->List (Array Value)
 |[]=>zs
 |(i,v)::rest=>uQ (zs.set i v.cells) rest
def pr:List (Array Value) ->List (Nat×Value) ->Prop
 |_,[]=>True
 |zs,(i,v)::rest=>i<zs.length/\v.cells.size=(zs.getD i #[]).size/\pr (zs.set i v.cells) rest
section
variable{P:Program}{f:te}{w:World}{R:Value->World->Prop}{d:Option Tmp}{T:TypeId}{pos:String}{eO:Array Edge}{eQ:Option (Nat×Bool)}
theorem Hr{place:Nat->Option (Nat×Nat)}:∀(parts:List (Nat×Value))(zs:List (Array Value)),(∀i,i<zs.length->place i=some ((eK (zs.take i)).size,(zs.getD i #[]).size)) ->pr zs parts->
 Instr.fill place (eK zs) parts=some (eK (uQ zs parts))
 |[],zs,_,_=>rfl
 |(i,v)::rest,zs,b,e=>by
  obtain⟨G,Y,ej⟩:=e;have c:zs=zs.take i++(zs.getD i #[])::zs.drop (i+1):=by
   have:zs.getD i #[]=zs[i]:=by simp[G]
   rw[this,List.getElem_cons_drop,List.take_append_drop]
  have f:zs.set i v.cells=zs.take i++v.cells::zs.drop (i+1):=by rw[List.set_eq_take_append_cons_drop,if_pos G]
  have m:(eK zs).size=(eK (zs.take i)).size+(zs.getD i #[]).size+(eK (zs.drop (i+1))).size:=by
   rw[iw,iw,iw]
   conv=>lhs;rw[c]
   simp[Nat.add_assoc]
  rw[MC (b i G) Y (by omega)];have g:iI (eK zs) (eK (zs.take i)).size v.cells=eK (zs.set i v.cells):=by
   rw[f]
   conv=>lhs;rw[c]
   rw[show(eK ((zs.take i++zs.getD i #[]::zs.drop (i+1)).take i)).size=(eK (zs.take i)).size by
    rw[List.take_append_of_le_length (by simp;omega),List.take_take,Nat.min_self]]
   exact rL _ _ _ _ Y
  rw[g];exact Hr rest (zs.set i v.cells) (λj d=>by
   rw[List.length_set]at d;rw[b j d];have h:(zs.set i v.cells).getD j #[]=if i=j then v.cells else zs.getD j #[]:=by
    by_cases a:i=j
    .subst a;simp[G]
    simp[a,List.getElem?_set_ne a]
   have k:((zs.set i v.cells).getD j #[]).size=(zs.getD j #[]).size:=by
    rw[h];split
    .rename_i a;subst a;exact Y
    rfl
   have l:(eK ((zs.set i v.cells).take j)).size=(eK (zs.take j)).size:=by
    rw[iw,iw,List.map_take,List.map_take,List.map_set,Y];congr 2;have:(zs.getD i #[]).size=(zs.map Array.size)[i]'(by simpa using G):=by simp[G]
    rw[this,List.set_getElem_self]
   rw[k,l]) ej
theorem J.build{s:TypeId}{parts:Array (Nat×Operand)}{zs:List (Array Value)}[c:nY P s zs](e:pr zs (parts.toList.map λ(i,x)=>(i,eD f x)))
 (h:R (.agg (eK (uQ zs (parts.toList.map λ(i,x)=>(i,eD f x))))) w):J P f ⟨d,.build s parts,T,pos,eO,eQ⟩ w R:=by
 obtain⟨nk,g,j,b⟩:=c.out;refine iz (v:=.agg (eK (uQ zs (parts.toList.map λ(i,x)=>(i,eD f x))))) (w':=w) ?_ h;have hlen:nk.size=zs.length:=by have:=congrArg List.length b;simpa using this
 have e5:(nk.mapM λf=>do pure (f.offset,<-sizeOf f.type):Sem _).run P w= .ok ((List.range zs.length).map λi=>((eK (zs.take i)).size,(zs.getD i #[]).size)).toArray w:=by
  rw[Array.mapM_eq_mapM_toList];have:=He P w (λ(f:Field)=>(do pure (f.offset,<-sizeOf f.type):Sem (Nat×Nat))) nk.toList ((List.range zs.length).map λi=>((eK (zs.take i)).size,(zs.getD i #[]).size)) (λi x Z=>by
   have G:=congrArg (λl=>l[i]?) b;simp only[List.getElem?_map,Z,Option.map_some]at G;have ew:i<zs.length:=by rw[<-hlen];have:=(List.getElem?_eq_some_iff.1 Z).1;simpa using this
   simp only[List.getElem?_range ew,Option.map_some,Option.some.injEq]at G;cases a:P.info? x.type with
   |none=>simp[a]at G
   |some k=>
    simp only[a,Option.map_some,Option.some.injEq,Prod.mk.injEq]at G;refine⟨((eK (zs.take i)).size,(zs.getD i #[]).size),by simp[ew],?_⟩;simp[sizeOf,typeInfo,a,G.1,G.2]) (by simpa using hlen)
  simp only[Sem.run_map,this,Result.andThen_ok]
 have hzero:(zeroValue s).run P w= .ok (.agg (eK zs)) w:=vf ⟨j⟩ w;have m:=Hr (place:=λi=>(((List.range zs.length).map λi=>((eK (zs.take i)).size,(zs.getD i #[]).size)).toArray)[i]?) (parts.toList.map λ(i,x)=>(i,eD f x)) zs (λi ew=>by simp[ew]) e;simp only[execOp,Instr.build,Sem.run_bind,hzero,Result.andThen_ok,run_underlying g,e5,Value.cells,Array.toList_map];erw[m];simp
def qZ:Array Value->List (Nat×Value) ->Array Value
 |cells,[]=>cells
 |cells,(i,v)::rest=>qZ (cells.setIfInBounds i v) rest
theorem Xk(cells:Array Value)(i:Nat)(v:Value)(h:i<cells.size):iI cells i #[v]=cells.setIfInBounds i v:=by
 apply Array.ext_getElem?;intro j;rw[wu cells #[v] i (by simp;omega) j,Array.getElem?_setIfInBounds];by_cases a:i=j
 .subst a;rw[if_pos (by simp),if_pos rfl,if_pos h];simp
 rw[if_neg (by simp;omega),if_neg a]
theorem MM:∀(parts:List (Nat×Value))(cells:Array Value),(∀p∈parts,p.1<cells.size/\p.2.cells=#[p.2]) ->Instr.fill (λi=>some (i*1,1)) cells parts=some (qZ cells parts)
 |[],cells,_=>rfl
 |(i,v)::rest,cells,h=>by
  obtain⟨G,Y⟩:=h (i,v) List.mem_cons_self;simp only at G Y;rw[MC (off:=i*1) (size:=1) rfl (by rw[Y];rfl) (by omega),Y,Nat.mul_one,Xk cells i v G];exact MM rest _ λp a=>by
   have:=h p (List.mem_cons_of_mem _ a);simpa using this
theorem jr{s n eb:TypeId}{parts:Array (Nat×Operand)}{fA:Array Value}[a:du P s n eb][b:oB P s (.agg fA)][c:nm P eb 1]
 (e:∀p∈parts.toList.map (λ(i,x)=>(i,eD f x)),p.1<fA.size/\p.2.cells=#[p.2])
 (h:R (.agg (qZ fA (parts.toList.map λ(i,x)=>(i,eD f x)))) w):J P f ⟨d,.build s parts,T,pos,eO,eQ⟩ w R:=by
 refine iz (v:=.agg (qZ fA (parts.toList.map λ(i,x)=>(i,eD f x)))) (w':=w) ?_ h;have hzero:(zeroValue s).run P w= .ok (.agg fA) w:=vf b w;have g:=MM (parts.toList.map λ(i,x)=>(i,eD f x)) fA e;simp only[execOp,Instr.build,Sem.run_bind,hzero,Result.andThen_ok,run_underlying a.out,m5 c,Value.cells,Array.toList_map];erw[g];simp
theorem Xx{α:Type}[O α](xs:List α):eK (xs.map O.enc)=(ij xs).toArray:=by
 induction xs with
 |nil=>rfl
 |cons x xs a=>rw[List.map_cons,cq,a,yt];simp
theorem Xj(z:Array Value)(n:Nat):eK (List.replicate n z)=(Array.range (n*z.size)).map (z[·%z.size]!):=by
 induction n with
 |zero=>simp[vy]
 |succ n a=>
  rw[List.replicate_succ',qQ,a,cq,vy,Array.append_empty,Nat.succ_mul];apply Array.ext_getElem?;intro i;rw[Array.getElem?_append];simp only[Array.size_map,Array.size_range,Array.getElem?_map,Array.getElem?_range];by_cases G:i<n*z.size
  .simp[G,show i<n*z.size+z.size by omega]
  simp only[G,if_false];by_cases Y:i<n*z.size+z.size
  .have ej:i%z.size=i-n*z.size:=by
    have:i=(i-n*z.size)+z.size*n:=by rw[Nat.mul_comm z.size n];omega
    rw[this,Nat.add_mul_mod_self_left,Nat.mod_eq_of_lt (by omega),Nat.mul_comm z.size n];omega
   have e8:i-n*z.size<z.size:=by omega
   simp[Y,ej,e8]
  rw[Array.getElem?_eq_none (by omega)];simp[Y]
def pJ(vs:List Value)(k:Nat):List (Nat×Value):=(vs.zipIdx k).map λ(v,i)=>(i,v)
theorem MF:∀(vs:List Value)(k:Nat)(done zs:List (Array Value)),done.length=k->zs.length=vs.length->uQ (done++zs) (pJ vs k)=done++vs.map Value.cells
 |[],k,done,zs,_,h=>by simp at h;simp[pJ,uQ,h]
 |v::vs,k,done,[],_,h=>by simp at h
 |v::vs,k,done,z::zs,a,h=>by
  have e:pJ (v::vs) k=(k,v)::pJ vs (k+1):=by simp[pJ]
  rw[e,uQ];have:(done++z::zs).set k v.cells=(done++[v.cells])++zs:=by
   rw[List.set_append_right _ _ (by omega)];simp[a]
  rw[this,MF vs (k+1) (done++[v.cells]) zs (by simp[a]) (by simpa using h)];simp
theorem MP(n:Nat):∀(vs:List Value)(k:Nat)(zs:List (Array Value)),k+vs.length<=zs.length->(∀z∈zs,z.size=n) ->(∀v∈vs,v.cells.size=n) ->pr zs (pJ vs k)
 |[],k,zs,_,_,_=>by simp[pJ,pr]
 |v::vs,k,zs,h,a,tG=>by
  have e:pJ (v::vs) k=(k,v)::pJ vs (k+1):=by simp[pJ]
  simp only[List.length_cons]at h;have b:k<zs.length:=by omega
  rw[e,pr];refine⟨b,?_,MP n vs (k+1) _ (by rw[List.length_set];omega) ?_ (λu c=>tG u (List.mem_cons_of_mem _ c))⟩
  .rw[tG v List.mem_cons_self];simp[b,a]
  intro z d;rcases List.mem_or_eq_of_mem_set d with h|h
  .exact a z h
  subst h;exact tG v List.mem_cons_self
theorem n7{α:Type}[O α]{s eb:TypeId}{len:Nat}{z:Value}{parts:Array (Nat×Operand)}[l:hl P s eb][m:nm P eb (O.eo α)][n:oB P eb z]{w0:World}{S:List eH}(E:U w0 S w)(xs:List α)(vs:List Value)
 (c:z.cells.size=O.eo α) (j:parts.toList.map (λ(i,x)=>(i,eD f x))=pJ vs 0) (e:vs.map Value.cells=xs.map O.enc) (hlen:len=xs.length) (hb:len*O.eo α<=16777216)
 (h:∀b w',eV w w'->U w0 (V (.slice (some ⟨b,0,none⟩) xs.length xs.length) eb xs::S) w'->R (.slice (some ⟨b,0,none⟩) xs.length xs.length) w'):
 J P f ⟨d,.buildSlice s len parts,T,pos,eO,eQ⟩ w R:=by
 subst hlen;have eB:vs.length=xs.length:=by have:=congrArg List.length e;simpa using this
 have o:xs.length<=maxLen:=by
  have:=O.pos (α:=α);have:xs.length*1<=xs.length*O.eo α:=Nat.mul_le_mul_left _ this;simp only[maxLen];omega
 refine iz (v:=.slice (some ⟨w.heap.size,0,none⟩) xs.length xs.length) (w':=w.alloc (.cells (eK (xs.map O.enc)) eb)) ?_ (h _ _ (eV.alloc w _) (E.MD xs (by rw[Xx]) o));have p:¬(16777216<xs.length*O.eo α):=by omega
 have a:((Array.range (xs.length*O.eo α)).map ((if xs.length*O.eo α=0 then#[]else z.cells)[·%(if xs.length*O.eo α=0 then#[]else z.cells).size]!))=eK (List.replicate xs.length z.cells):=by
  by_cases em:xs.length*O.eo α=0
  .have:xs.length=0:=by
    have:=O.pos (α:=α);rcases Nat.mul_eq_zero.1 em with h|h<;>omega
   simp[this,vy]
  rw[if_neg em,Xj,c]
 have g:=Hr (place:=λi=>some (i*O.eo α,O.eo α)) (pJ vs 0) (List.replicate xs.length z.cells) (λi ew=>by
  rw[List.length_replicate]at ew;rw[iw];simp[ew,c,Nat.min_eq_left (Nat.le_of_lt ew)]) (MP (O.eo α) vs 0 _ (by simp[eB]) (λr q=>by rw[List.eq_of_mem_replicate q];exact c) (λv tG=>by
   have:v.cells∈xs.map O.enc:=by rw[<-e];exact List.mem_map_of_mem tG
   obtain⟨x,_,Z⟩:=List.mem_map.1 this;rw[<-Z];exact O.ez x))
 have k:=MF vs 0 [] (List.replicate xs.length z.cells) rfl (by simp[eB]);simp only[List.nil_append]at k;rw[k,e]at g;simp only[execOp,Instr.buildSlice,Sem.run_bind,run_underlying l.out,Result.andThen_ok,m5 m,Array.toList_map];simp only[gt_iff_lt,show(2:Nat)^24=16777216 from rfl,p,if_false,Sem.run_bind,Sem.run_pure,Result.andThen_ok];by_cases em:xs.length*O.eo α=0
 .rw[if_pos em]at a;simp only[em,if_true,Sem.run_bind,Sem.run_pure,Result.andThen_ok];rw[em]at a;erw[a,j,g];simp[newRow]
 rw[if_neg em]at a;simp only[em,if_false,Sem.run_bind,vf n,Sem.run_pure,Result.andThen_ok]at a⊢;erw[a,j,g];simp[newRow]
end
end
section
variable{sh:Bool}{x v:Value}{α:Type}{w:World}
variable[D:lb]
section
variable{K:te->World->Prop}{Q:Exit->te->World->Prop}{f:te}{w:World}
theorem aE(h:K f w):uY K Q .normal f w:=h
theorem uZ{i:Nat}(h:Q (.exit i) f w):uY K Q (.exit i) f w:=h
theorem pQ(h:Q .ret f w):uY K Q .ret f w:=h
theorem m9{id:Nat}(h:Q .normal f w):blockQ id Q .normal f w:=h
theorem kL{id:Nat}(h:Q .ret f w):blockQ id Q .ret f w:=h
theorem ya{id:Nat}(h:Q .normal f w):blockQ id Q (.exit id) f w:=by
 have:Nat.beq id id=true:=by simp
 simp only[blockQ,this,cond_true];exact h
theorem Hl{id i:Nat}(ew:Nat.beq i id=false)(h:Q (.exit i) f w):blockQ id Q (.exit i) f w:=by
 simp only[blockQ,ew,cond_false];exact h
end
def oQ:List (Nat×Value) ->te->te
 |[],f=>f
 |(i,v)::l,f=>o7 (oQ l f) i v
def oV:List (Nat×Value) ->te->Prop
 |[],_=>True
 |(i,v)::l,f=>f i=v/\oV l f
theorem oV.eq:∀{l:List (Nat×Value)}{f:te},oV l f->f=oQ l f
 |[],f,_=>rfl
 |(i,v)::l,f,h=>by
  have b:=oV.eq h.2;funext j;simp only[oQ];by_cases a:j=i
  .subst a;rw[y6];exact h.1
  rw[kI _ _ a,<-b]
section
variable{P:Program}{n:Nat}{Q:Exit->te->World->Prop}{f:te}{w:World}
theorem il{c:Code}(l:List (Nat×Value))(a:oV l f)(h:∀g:te,ek P n c Q (oQ l g) w):ek P n c Q f w:=by
 rw[a.eq];exact h f
end
@[irreducible] def rK (sh:Bool) (v:Value):Value:=cond sh v undef
theorem wm(h:sh=true)(v:Value):rK sh v=v:=by subst h;unfold rK;rfl
theorem ov(h:x=rK sh v)(a:sh=true):x=v:=h.trans (wm a v)
theorem MW{e:Bool}(h:x=rK (sh&&e) v)(a:sh=true):x=rK e v:=by subst a;simpa using h
theorem bt(h:sh=false)(v:Value):rK sh v=undef:=by subst h;unfold rK;rfl
section
variable{P:Program}{n:Nat}{ops:Array Oper}{Q:Exit->te->World->Prop}{f:te}{w:World}
theorem ts.eQ{d:Nat}{op:Op}{T:TypeId}{pos:String}{eO:Array Edge}{g:Nat}{od:Bool}{rest:List Oper}(b:Bool)(t:Nat)(v:Value)
 (i:(ops[g]?).bind (·.dst)=some t) (j:Nat.blt t n=true) (hb:f t= .bool b) (hd:Nat.blt d n=true)
 (k:(b==od)=true->J P f ⟨some d,op,T,pos,eO,none⟩ w (λe w'=>e=v/\eV w w'))
 (h:∀w',eV w w'->ts P n ops Q rest (o7 f d (rK (b==od) v)) w'):ts P n ops Q (⟨some d,op,T,pos,eO,some (g,od)⟩::rest) f w:=by
 refine ts.guard b t i j hb hd (λc=>?_) (λc=>?_)
 .have a:(b==od)=true:=by subst c;simp
  refine ts.op hd (RZ (k a) λe w' tG=>?_);obtain⟨rfl,l⟩:=tG;have:=h w' l;rw[wm a]at this;exact this
 have a:(b==od)=false:=by subst c;cases od<;>rfl
 have:=h w (eV.refl w);rw[bt a]at this;exact this
theorem MY{d:Nat}{op:Op}{T:TypeId}{pos:String}{eO:Array Edge}{g:Nat}{od:Bool}{rest:List Oper}(t:Nat)
 (a:(ops[g]?).bind (·.dst)=some t) (b:Nat.blt t n=true) (hd:Nat.blt d n=true) (hb:f t= .bool (!od))
 (h:ts P n ops Q rest (o7 f d undef) w):ts P n ops Q (⟨some d,op,T,pos,eO,some (g,od)⟩::rest) f w:=
 ts.guard (!od) t a b hb hd (λe=>by cases od<;>simp at e) (λ_=>h)
theorem dp{d:Nat}{op:Op}{T:TypeId}{pos:String}{eO:Array Edge}{g:Nat}{od:Bool}{rest:List Oper}(t:Nat)
 (b:(ops[g]?).bind (·.dst)=some t) (c:Nat.blt t n=true) (hb:f t= .bool od)
 (h:ts P n ops Q (⟨some d,op,T,pos,eO,none⟩::rest) f w):ts P n ops Q (⟨some d,op,T,pos,eO,some (g,od)⟩::rest) f w:=by
 unfold ts at*;intro a ep;have e:yielded ops a.tmps g=some od:=by
  unfold yielded;simp only[b,Option.bind_some,vc ep (t:=t) (by simpa using c),hb]
 have Y:=h a ep;simp only[wpList,Region.wanted,e,beq_self_eq_true,if_true]at Y⊢;exact Y
theorem MB{d:Nat}{op:Op}{T:TypeId}{pos:String}{eO:Array Edge}{g:Nat}{od:Bool}{rest:List Oper}(t:Nat)
 (b:(ops[g]?).bind (·.dst)=some t) (c:Nat.blt t n=true) (hd:Nat.blt d n=true) (e:f t=undef)
 (h:ts P n ops Q rest (o7 f d undef) w):ts P n ops Q (⟨some d,op,T,pos,eO,some (g,od)⟩::rest) f w:=by
 unfold ts at h⊢;intro a ep;have Y:=h _ (ep.put (dst:=some d) (by intro x Z;cases Z;simpa using hd) undef);have i:yielded ops a.tmps g=none:=by
  unfold yielded;simp only[b,Option.bind_some,vc ep (t:=t) (by simpa using c),e,undef]
 simp only[wpList,Region.wanted,i];exact Y
theorem Ic{d:Nat}{op:Op}{T:TypeId}{pos:String}{eO:Array Edge}{g:Nat}{od:Bool}{rest:List Oper}(sh b:Bool)(t:Nat)(v:Value)
 (c:(ops[g]?).bind (·.dst)=some t) (e:Nat.blt t n=true) (hb:f t=rK sh (.bool b)) (hd:Nat.blt d n=true)
 (j:(sh&&(b==od))=true->J P f ⟨some d,op,T,pos,eO,none⟩ w (λk w'=>k=v/\eV w w'))
 (h:∀w',eV w w'->ts P n ops Q rest (o7 f d (rK (sh&&(b==od)) v)) w'):ts P n ops Q (⟨some d,op,T,pos,eO,some (g,od)⟩::rest) f w:=by
 cases i:sh with
 |true=>
  subst i;refine ts.eQ b t v c e (by rw[hb,wm rfl]) hd (λl=>j (by simpa using l)) λw' m=>?_;simpa using h w' m
 |false=>
  subst i;have o:f t=undef:=by rw[hb,bt rfl]
  have G:=h w (eV.refl w);simp only[Bool.false_and]at G;rw[bt rfl]at G;unfold ts at G⊢;intro a ep;have Y:=G _ (ep.put (dst:=some d) (by intro x Z;cases Z;simpa using hd) undef);have p:yielded ops a.tmps g=none:=by
   unfold yielded;simp only[c,Option.bind_some,vc ep (t:=t) (by simpa using e),o,undef]
  simp only[wpList,Region.wanted,p];exact Y
end
section
variable{P:Program}{f:te}{w:World}{R:Value->World->Prop}{d:Option Tmp}{T:TypeId}{pos:String}{eO:Array Edge}{eQ:Option (Nat×Bool)}
theorem pZ{c a b:Operand}{t u:Bool}(e:eD f c= .bool t)(ep:eD f a=rK (t==true) (.bool u))(hb:eD f b= .bool false)(h:R (.bool (t&&u)) w):J P f ⟨d,.pick c a b,T,pos,eO,eQ⟩ w R:=by
 refine J.pick e ?_;cases t with
 |true=>rw[ep,wm (sh:=(true==true)) rfl];exact h
 |false=>rw[hb];exact h
theorem fe{c a b:Operand}{t u:Bool}(e:eD f c= .bool t)(ep:eD f a= .bool true)(hb:eD f b=rK (t==false) (.bool u))(h:R (.bool (t||u)) w):J P f ⟨d,.pick c a b,T,pos,eO,eQ⟩ w R:=by
 refine J.pick e ?_;cases t with
 |true=>rw[ep];exact h
 |false=>rw[hb,wm (sh:=(false==false)) rfl];exact h
theorem kC{c a b:Operand}{t u:Bool}(e:eD f c= .bool t)(ep:cond t (eD f a) (eD f b)= .bool u)(h:R (.bool u) w):J P f ⟨d,.pick c a b,T,pos,eO,eQ⟩ w R:=
 J.pick e (by rw[ep];exact h)
theorem oP{x:Operand}{k:IntKind}{a:Int}(Z:eD f x= .int k a)(h:R (.int k a) w):J P f ⟨d,.move x,T,pos,eO,eQ⟩ w R:=J.move (by rw[Z];exact h)
theorem u0{x:Operand}{a:Bool}(Z:eD f x= .bool a)(h:R (.bool a) w):J P f ⟨d,.move x,T,pos,eO,eQ⟩ w R:=J.move (by rw[Z];exact h)
theorem oI{x:Operand}{v:Value}(Z:eD f x=v)(h:R v w):J P f ⟨d,.move x,T,pos,eO,eQ⟩ w R:=J.move (by rw[Z];exact h)
theorem iP{x:Operand}{k:IntKind}{a:Int}(Z:eD f x= .int k a)(h:R (.int k a) w):J P f ⟨d,.assign x,T,pos,eO,eQ⟩ w R:=J.assign (by rw[Z];exact h)
theorem gN{x:Operand}{a:Bool}(Z:eD f x= .bool a)(h:R (.bool a) w):J P f ⟨d,.assign x,T,pos,eO,eQ⟩ w R:=J.assign (by rw[Z];exact h)
theorem yo{x:Operand}{v:Value}(Z:eD f x=v)(h:R v w):J P f ⟨d,.assign x,T,pos,eO,eQ⟩ w R:=J.assign (by rw[Z];exact h)
theorem ba{eb:TypeId}{x:Operand}{c:Array Value}{w0:World}{S:List eH}(E:U w0 S w)(Z:eD f x= .agg c)
 (h:∀b w',eV w w'->U w0 (B b c eb::S) w'->R (.pointer (some ⟨b,0,none⟩)) w'):J P f ⟨d,.box eb x,T,pos,eO,eQ⟩ w R:=by
 refine J.box E ?_;rw[Z];exact h
theorem MV{eb:TypeId}{x:Operand}{v:Value}{w0:World}{S:List eH}(E:U w0 S w)(Z:eD f x=v)(tG:v.cells=#[v])
 (h:∀b w',eV w w'->U w0 (B b #[v] eb::S) w'->R (.pointer (some ⟨b,0,none⟩)) w'):J P f ⟨d,.box eb x,T,pos,eO,eQ⟩ w R:=by
 refine J.box E ?_;rw[Z,tG];exact h
theorem sI{eb:TypeId}{c:Array Value}[oB P eb (.agg c)]{w0:World}{S:List eH}(E:U w0 S w)
 (h:∀b w',eV w w'->U w0 (B b c eb::S) w'->R (.pointer (some ⟨b,0,none⟩)) w'):J P f ⟨d,.alloc eb,T,pos,eO,eQ⟩ w R:=J.alloc (z:=.agg c) E h
theorem jh{eb:TypeId}{v:Value}[oB P eb v]{w0:World}{S:List eH}(E:U w0 S w)(tG:v.cells=#[v])
 (h:∀b w',eV w w'->U w0 (B b #[v] eb::S) w'->R (.pointer (some ⟨b,0,none⟩)) w'):J P f ⟨d,.alloc eb,T,pos,eO,eQ⟩ w R:=by
 refine J.alloc (z:=v) E ?_;rw[tG];exact h
theorem o9{s i off b o:Nat}[je P s i off]{x:Operand}(Z:eD f x= .pointer (some ⟨b,o,none⟩))(h:R (.pointer (some ⟨b,o+off,none⟩)) w):J P f ⟨d,.fieldAddr s x i,T,pos,eO,eQ⟩ w R:=
 J.fieldAddr Z (m6.mk b o) h
theorem sk{x:Operand}{b o:Nat}(Z:eD f x= .pointer (some ⟨b,o,none⟩))(h:R (.pointer (some ⟨b,o,none⟩)) w):J P f ⟨d,.nilCheck x,T,pos,eO,eQ⟩ w R:=
 J.nilCheck Z (m6.mk b o) h
theorem Iu{P:Program}{w:World}{T eo b:Nat}(c:nm P T eo){cs:Array Value}{eb:TypeId}(hb:w.heap[b]? =some (.cells cs eb (0,0)))(o:Nat)(v:Value)(tG:v.cells.size=eo)(e1:o+eo<=cs.size)(G:∀u∈v.cells.toList,u.oneCell'=true):
 (storeVar T ⟨b,o,none⟩ v).run P w= .ok () (w.setRow b (cs.toList.take o++v.cells.toList++cs.toList.drop (o+v.cells.toList.length)).toArray):=by
 have a:=run_storeCells_at P b o eb v.cells.toList 0 cs w hb (by simp;omega) G;simp only[Nat.add_zero]at a;simp only[storeVar,Sem.run_bind,m5 c,Result.andThen_ok,tG,ne_eq,not_true_eq_false,if_false];exact a
theorem J.store{eb a eo b o:Nat}[e:nm P eb eo]{x y:Operand}{v:Value}{cs:Array Value}{w0:World}{S:List eH}(E:U w0 S w)(Z:eD f x= .pointer (some ⟨b,o,none⟩))(g:eD f y=v)(i:tP (B b cs a) S)
 (tG:v.cells.size=eo) (e1:o+eo<=cs.size) (G:∀u∈v.cells.toList,u.oneCell'=true)
 (h:∀w',(∀tp,iH (B b cs a) (B b (iI cs o v.cells) a) S tp->U w0 tp w') ->R undef w'):J P f ⟨d,.store eb x y,T,pos,eO,eQ⟩ w R:=by
 have hb:=E.dF i;have hr:=Iu (P:=P) e hb o v tG e1 G;have l:(cs.toList.take o++v.cells.toList++cs.toList.drop (o+v.cells.toList.length)).toArray=iI cs o v.cells:=by
  apply Array.ext_getElem?;intro j;rw[wu cs v.cells o (by omega) j];simp only[List.getElem?_toArray,List.getElem?_append,List.length_append,List.length_take,Array.length_toList,List.getElem?_take,List.getElem?_drop,Array.getElem?_toList];have m:min o cs.size=o:=by omega
  rw[m];by_cases G:j<o
  .rw[if_pos (by omega),if_pos G,if_pos G,if_neg (by omega)]
  by_cases Y:j<o+v.cells.size
  .rw[if_pos Y,if_neg G,if_pos (by omega)]
  rw[if_neg Y,if_neg (by omega)];congr 1;omega
 rw[l]at hr;refine qK (w':=w.setRow b (iI cs o v.cells)) ?_ (h _ λtp n=>lv ?_ ?_ ?_ E n)
 .simp[execOp,Instr.storeAt,Z,g,Instr.sureAddr,hr]
 .unfold B;exact⟨rfl,rfl,rfl,by simp[World.setRow],λk _ c=>setRow_other w b k _ c⟩
 .unfold B;exact setRow_heap w b cs _ a _ hb
 unfold B;intro k c;exact .inl c
theorem mq{cs v:Array Value}(h:v.size=cs.size):iI cs 0 v=v:=by
 unfold iI;rw[h];simp
theorem Im{eb a eo b:Nat}[j:nm P eb eo]{x y:Operand}{c cs:Array Value}{w0:World}{S:List eH}(E:U w0 S w)(Z:eD f x= .pointer (some ⟨b,0,none⟩))(e:(eD f y).cells=c)(g:tP (B b cs a) S)
 (tG:c.size=eo) (e1:cs.size=eo) (G:∀u∈c.toList,u.oneCell'=true)
 (h:∀w',(∀tp,iH (B b cs a) (B b c a) S tp->U w0 tp w') ->R undef w'):J P f ⟨d,.store eb x y,T,pos,eO,eQ⟩ w R:=by
 subst e;refine J.store E Z rfl g tG (by omega) G λw' h'=>h w' λtp i=>h' tp ?_;rw[mq (by omega)];exact i
end
section
variable{P:Program}{f:te}{w:World}{R:Value->World->Prop}{d:Option Tmp}{T:TypeId}{pos:String}{eO:Array Edge}{eQ:Option (Nat×Bool)}
theorem Hd{x y:Operand}{k:IntKind}{a b c:Int}{nI:Array TypeId}(Z:eD f x= .int k a)(e:eD f y= .int k b)(g:(if b<a then b else a)=c)(h:R (.int k c) w):
 J P f ⟨d,.call {callee:=.builtin .min,args:=#[x,y],argTypes:=nI},T,pos,eO,eQ⟩ w R:=by
 subst g;refine iz (v:=.int k (if b<a then b else a)) (w':=w) ?_ h;simp[execOp,resolve,invoke,builtin,Builtin.min_,Builtin.min2,Z,e]
theorem MK{x y:Operand}{k:IntKind}{a b c:Int}{nI:Array TypeId}(Z:eD f x= .int k a)(e:eD f y= .int k b)(g:(if a<b then b else a)=c)(h:R (.int k c) w):
 J P f ⟨d,.call {callee:=.builtin .max,args:=#[x,y],argTypes:=nI},T,pos,eO,eQ⟩ w R:=by
 subst g;refine iz (v:=.int k (if a<b then b else a)) (w':=w) ?_ h;simp[execOp,resolve,invoke,builtin,Builtin.max_,Builtin.max2,Z,e]
theorem ft{op:BinOp}{s t:TypeId}{x y:Operand}{b:Bool}(hb:b=true)(a:J P f ⟨d,.binOp op s x y t,T,pos,eO,eQ⟩ w (λv w'=>v= .bool b/\w'=w))(h:R (.bool true) w):J P f ⟨d,.binOp op s x y t,T,pos,eO,eQ⟩ w R:=
 RZ a λv w'⟨G,Y⟩=>by subst G;subst Y;subst hb;exact h
theorem yi{op:BinOp}{s t:TypeId}{x y:Operand}{b:Bool}(hb:b=false)(a:J P f ⟨d,.binOp op s x y t,T,pos,eO,eQ⟩ w (λv w'=>v= .bool b/\w'=w))(h:R (.bool false) w):J P f ⟨d,.binOp op s x y t,T,pos,eO,eQ⟩ w R:=
 RZ a λv w'⟨G,Y⟩=>by subst G;subst Y;subst hb;exact h
theorem XT{s eb n c:Nat}(b:hl P s eb)(a:Option Addr)(w:World):(Op.equal s (.slice a n c) (.slice none 0 0)).run P w= .ok a.isNone w:=by
 unfold Op.equal;show(Op.equalIn (9999+1) s (.slice a n c) (.slice none 0 0)).run P w= .ok a.isNone w;generalize 9999=k;cases a<;>simp[Op.equalIn,run_underlying b.out]
theorem fO{s t eb n c:Nat}{x y:Operand}{a:Option Addr}[b:hl P s eb](Z:eD f x= .slice a n c)(e:eD f y= .slice none 0 0)(h:R (.bool a.isNone) w):J P f ⟨d,.binOp .eql s x y t,T,pos,eO,eQ⟩ w R:=by
 refine iz (v:=.bool a.isNone) (w':=w) ?_ h;have g:eqGuard .eql s x y (.slice a n c) (.slice none 0 0)=pure ():=rfl;have i:binOp .eql s (.slice a n c) (.slice none 0 0)=(do pure (.bool (<-Op.equal s (.slice a n c) (.slice none 0 0)))):=rfl;simp only[execOp,Z,e,g,i,Sem.run_bind,Sem.run_pure,Result.andThen_ok,XT b]
end
theorem ex.wg[O α]{n c:Nat}{xs:List α}(h:ex w (.slice none n c) xs):xs=[]/\n=0/\c=0:=by
 obtain⟨a,cap,b,G,Y,ej,_⟩:=h;cases b;have:=ej rfl;subst this;exact⟨List.eq_nil_of_length_eq_zero (by omega),by omega,rfl⟩
theorem sH.cut{w':World}{e:TypeId}[O α]{xs:List α}(h:sH w w' v e xs):sH w w' (nz v 0 xs.length xs.length (O.eo α)) e xs:=by
 obtain⟨e1,b⟩:=h;rcases e1 with⟨rfl,rfl⟩|⟨g,cap,ne,rfl,c,G,Y,ej,e8⟩
 .exact⟨.inl ⟨by simp[nz],rfl⟩,by simp[nz,Value.ownBlock]⟩
 refine⟨.inr ⟨g,xs.length,ne,?_,c,Nat.le_refl _,by omega,Nat.le_trans (Nat.mul_le_mul_right _ G) ej,e8⟩,?_⟩
 .simp[nz]
 intro k a;refine b k ?_;by_cases eB:xs.length=0<;>simp[nz,Value.ownBlock,eB]at a⊢<;>exact a
theorem sH.nil(w w':World)(e:TypeId)[O α]:sH (α:=α) w w' (.slice none 0 0) e []:=⟨.inl ⟨rfl,rfl⟩,by simp[Value.ownBlock]⟩
instance:O UInt8 where
 enc c:=#[.int .u8 c.toNat]
 eo:=1
 pos:=by omega
 ez _:=rfl
 one c u a:=by simp at a;subst a;rfl
theorem XA(c:UInt8):O.enc c=#[.int .u8 c.toNat]:=rfl
end
section
variable[D:lb]
section
variable{P:Program}{ops:Array Oper}{sn:Region.Mode}{Q:Exit->Act->World->Prop}
def gS(sn:Region.Mode)(ops:Array Oper)(i:Nat):Bool:=
 match ops[i]? with
 |some ⟨some _,.move _,_,_,eO,none⟩=>eO.all (λe=> !Region.binds sn e)
 |_=>false
theorem Hc{i:Nat}(h:gS sn ops i=true):∃d x T pos eO,ops[i]? =some ⟨some d,.move x,T,pos,eO,none⟩/\∀e∈eO,Region.binds sn e=false:=by
 unfold gS at h;split at h
 .rename_i d x T pos eO ew;exact⟨d,x,T,pos,eO,ew,λe a=>by simpa using Array.all_eq_true'.1 h e a⟩
 cases h
theorem XO{j i:Nat}(h:Region.waitsFor sn ops j i=true):gS sn ops j=false:=by
 rw[<-Bool.not_eq_true];intro b;obtain⟨d,x,T,pos,eO,c,ep⟩:=Hc b;obtain⟨g,a,e,f,hb,_⟩:=Region.waitsFor_spec h;rw[c]at a;cases a;rw[ep e f]at hb;cases hb
def Hu(sn:Region.Mode)(ops:Array Oper)(n:Nat):Bool:=
 (List.range n).all λi=>gS sn ops i||(List.range (n+1)).any λj=>decide (i<j)&&Region.waitsFor sn ops j i
theorem XI{n:Nat}{listed:Array Bool}(p:Hu sn ops n=true)(q:Region.chainB sn ops n=true)(C:n<ops.size)(c:HeadInv sn ops n listed):
 ∀(d i:Nat),n-i=d->i<n->gS sn ops i=false->listed.getD i true=false->∀t,n<=t->t∉Region.ready sn ops listed:=by
 intro d;induction d using Nat.strongRecOn with
 |_ d r=>
  intro i hd ew s h t D hr;obtain⟨_,k,f,l⟩:=mem_ready.1 hr;have u:t<ops.size:=(Array.getElem?_eq_some_iff.1 f).1;by_cases v:t=n
  .subst v;have G:=List.all_eq_true.1 p i (List.mem_range.2 ew);rw[s,Bool.false_or]at G;obtain⟨j,w,g⟩:=List.any_eq_true.1 G;simp only[Bool.and_eq_true,decide_eq_true_eq]at g;obtain⟨m,o,e,a,hb,b⟩:=Region.waitsFor_spec g.2;have x:j<=t:=by have:=List.mem_range.1 w;omega
   by_cases y:j=t
   .subst y;have:m=k:=Option.some.inj (o.symm.trans f);subst this;have Y:=l e a hb;rw[b,getD_both h]at Y;cases Y
   cases eB:listed.getD j false with
   |true=>
    have Y:=c.closed j m o eB e a hb;rw[b,getD_both h]at Y;cases Y
   |false=>
    have z:j<listed.size:=by rw[c.size];omega
    exact r (t-j) (by omega) j rfl (by omega) (XO g.2) (getD_in z eB) t (Nat.le_refl _) hr
  have G:=List.all_eq_true.1 q t (List.mem_range.2 u);simp only[Bool.or_eq_true,decide_eq_true_eq]at G;rcases G with G|G
  .omega
  obtain⟨A,B,e,a,hb,b⟩:=Region.waitsFor_spec G;have:A=k:=Option.some.inj (B.symm.trans f);subst this;have Y:=l e a hb;rw[b,getD_both (c.tail (t-1) (by omega) (by omega))]at Y;cases Y
def gR(sn:Region.Mode)(ops:Array Oper)(n:Nat)(listed:Array Bool):Prop:=n=ops.size∨(n<ops.size/\Hu sn ops n=true/\Region.chainB sn ops n=true/\HeadInv sn ops n listed)
theorem gR.lt{n i:Nat}{listed:Array Bool}(h:gR sn ops n listed)(hin:i<n)(b:gS sn ops i=false)(c:listed.getD i true=false):∀j∈Region.ready sn ops listed,j<n:=by
 intro j a;rcases h with rfl|⟨d,e,f,g⟩
 .obtain⟨_,o,e1,_⟩:=mem_ready.1 a;exact(Array.getElem?_eq_some_iff.1 e1).1
 rcases Nat.lt_or_ge j n with h|h
 .exact h
 exact absurd a (XI e f d g _ i rfl hin b c j h)
theorem gR.set{n i:Nat}{listed:Array Bool}(h:gR sn ops n listed)(ew:i∈Region.ready sn ops listed)(hin:i<n):gR sn ops n (listed.setIfInBounds i true):=by
 rcases h with h|⟨a,b,c,d⟩
 .exact .inl h
 exact .inr ⟨a,b,c,d.set ew hin⟩
theorem XH{j:Nat}(b:gS sn ops j=true){K:Act->World->Prop}{a:Act}{w:World}(h:wpOp P ops Q j K a w):wpOp P ops Q j (λtc w'=>K tc w'/\w'=w) a w:=by
 obtain⟨d,x,T,pos,eO,c,_⟩:=Hc b;unfold Go.wpOp at*;simp only[c,Region.wanted,if_true]at*;rcases h with h|h
 .refine .inl ?_;simp only[Oper.wp,execOp,Sem.run_pure,Oper.upon]at*;simp_all
 exact .inr h
end
section
variable{P:Program}{ops:Array Oper}{sn:Region.Mode}{Q:Exit->Act->World->Prop}
def ww(P:Program)(sn:Region.Mode)(ops:Array Oper)(e9:Nat)(I:World->Prop)(Q:Exit->Act->World->Prop):Nat->Array Bool->Act->World->Prop
 |0,listed,a,w=>Region.ready sn ops listed=[]/\Q .normal a w
 |f+1,listed,a,w=>(Region.ready sn ops listed=[] ->Q .normal a w)/\∀i∈Region.ready sn ops listed,wpOp P ops Q i (λtc w'=>(i<e9->gS sn ops i=false->I w')/\ww P sn ops e9 I Q f (listed.setIfInBounds i true) tc w') a w
theorem Ip{e9:Nat}{I:World->Prop}:∀(f:Nat)(listed:Array Bool)(a:Act)(w:World),ww P sn ops e9 I Q f listed a w->wpAny P sn ops Q f listed a w
 |0,_,_,_,h=>h
 |f+1,_,_,_,h=>⟨h.1,λi ew=>wpOp_mono (λtc w' h'=>Ip f _ tc w' h'.2) (h.2 i ew)⟩
def fa(P:Program)(ops:Array Oper)(I:World->Prop)(o:Oper)(v:Value)(a:Act):Prop:=
 (Region.wanted o (yielded ops a.tmps)=true/\∀w',I w'->(execOp a.eval o).run P w'= .ok (.value v) w')∨(Region.wanted o (yielded ops a.tmps)=false/\v=undef)
theorem fa.MJ{o:Oper}{v:Value}{a tc:Act}{I:World->Prop}(b:fa P ops I o v a)(c:execOp tc.eval o=execOp a.eval o)
 (d:Region.wanted o (yielded ops tc.tmps)=Region.wanted o (yielded ops a.tmps)):fa P ops I o v tc:=by
 unfold fa at*;rw[c,d];exact b
theorem fa.wpOp{i:Nat}{o:Oper}{v:Value}{a:Act}{I:World->Prop}{w:World}(hb:I w)(ew:ops[i]? =some o)(c:fa P ops I o v a)
 {K:Act->World->Prop} (h:K (a.put o.dst v) w):wpOp P ops Q i K a w:=by
 unfold Go.wpOp;simp only[ew];rcases c with⟨b,tG⟩|⟨b,rfl⟩
 .simp only[b,if_true,Oper.wp,tG w hb,Oper.upon];exact .inl h
 simp only[b,Bool.false_eq_true,if_false];exact h
theorem MQ{j:Nat}{g i:Oper}{v:Value}(t:ops[j]? =some i)(y:g.apart ops i=true)
 (z:∀cs b,g.op≠ .select cs b) (p:∀cs b,i.op≠ .select cs b)
 (q:∀c a w,Q (.panic c) (a.put g.dst v) w->Q (.panic c) a w) {K:Act->World->Prop} {a:Act} {I:World->Prop} {w:World}
 (k:fa P ops I g v a) (h:wpOp P ops Q j K (a.put g.dst v) w):
 wpOp P ops Q j (λtc w'=>fa P ops I g v tc/\K (tc.put g.dst v) w') a w:=by
 obtain⟨G,Y,ej⟩:=Oper.apart_spec y;have l:∀(a:Act),fa P ops I g v a->∀u,fa P ops I g v (a.put i.dst u):=λa k u=>
  k.MJ (execOp_put g z a i.dst u ej) (wanted_put g a i.dst u ej)
 have A:∀d,fa P ops I g v {a with defers:=d::a.defers}:=λd=>k.MJ rfl rfl;unfold wpOp at*;simp only[t]at*;rw[wanted_put i a g.dst v G]at h;split
 .rename_i o;simp only[o,if_true]at h;rcases h with h|⟨s,B⟩
  case inr=>exact .inr ⟨by unfold Oper.asks at*;rw[execOp_put i p a g.dst v G]at s;exact s,B⟩
  refine .inl ?_;unfold Oper.wp at*;rw[execOp_put i p a g.dst v G]at h;generalize(execOp a.eval i).run P w=r at*;cases r with
  |ok n w'=>
   cases n<;>simp only[Oper.upon]at h⊢
   case value u=>exact⟨l a k u,by rw[<-Act.put_comm a v u Y];exact h⟩
   case skip=>exact⟨l a k _,by rw[<-Act.put_comm a v undef Y];exact h⟩
   case defer d=>
    refine⟨l _ (A d) _,?_⟩;rw[<-Act.put_comm _ v undef Y,<-Act.put_defers];exact h
   case enter f args=>
    refine Calls.mono h λe C m=>?_;cases e with
    |returned u=>exact⟨l a k u,by rw[<-Act.put_comm a v u Y];exact m⟩
    |panicked c=>exact q _ _ _ m
    |outgrown=>exact m
   case row row args=>exact Rows.mono h λu C m=>⟨l a k u,by rw[<-Act.put_comm a v u Y];exact m⟩
  |halt x w'=>
   cases x<;>simp only[Oper.upon]at h⊢
   case panic u=>exact q _ _ _ h
 rename_i o;simp only[o]at h;exact⟨l a k _,by rw[<-Act.put_comm a v undef Y];exact h⟩
theorem XU{e9 i:Nat}{I:World->Prop}{f:Oper}{v:Value}(ew:ops[i]? =some f)(r:∀(j:Nat)(o:Oper) cs b,ops[j]? =some o->o.op≠ .select cs b)
 (hin:i<e9) (A:gS sn ops i=false) (B:∀c a w,Q (.panic c) (a.put f.dst v) w->Q (.panic c) a w):
 ∀(fuel:Nat)(listed:Array Bool)(a:Act)(w:World),I w->gR sn ops e9 listed->
  (∀j g,ops[j]? =some g->j≠i->listed.getD j true=false->(∀e∈g.after,Region.binds sn e=true->e.on≠i) ->f.apart ops g=true) ->
  i∈Region.ready sn ops listed->fa P ops I f v a->
  ww P sn ops e9 I Q fuel (listed.setIfInBounds i true) (a.put f.dst v) w->ww P sn ops e9 I Q (fuel+1) listed a w:=by
 intro fuel;induction fuel with
 |zero=>
  intro listed a w hb _ _ hr m H;refine⟨λh=>(by rw[h]at hr;cases hr),λj l=>?_⟩;by_cases d:j=i
  .subst d;exact m.wpOp hb ew ⟨λ_ _=>hb,H⟩
  have:=ready_mono l d;rw[H.1]at this;cases this
 |succ fuel s=>
  intro listed a w hb hinv t hr m H;refine⟨λh=>(by rw[h]at hr;cases hr),λj l=>?_⟩;by_cases d:j=i
  .subst d;exact m.wpOp hb ew ⟨λ_ _=>hb,H⟩
  have G:=H.2 j (ready_mono l d);obtain⟨u,g,n,C⟩:=mem_ready.1 l;have D:∀e∈g.after,Region.binds sn e=true->e.on≠i:=λe E hb F=>by
   have G:=C e E hb;rw[F,getD_both (mem_ready.1 hr).1]at G;cases G
  have Y:=MQ n (t j g n d u D) (λcs b=>r i f cs b ew) (λcs b=>r j g cs b n) B m G;have x:∀k ok,ops[k]? =some ok->k≠i->(listed.setIfInBounds j true).getD k true=false->
   (∀e∈ok.after,Region.binds sn e=true->e.on≠i) ->f.apart ops ok=true:=λk ok J K y L=>by
   refine t k ok J K ?_ L;by_cases z:j=k
   .subst z;exact u
   rw[getD_set_ne true z]at y;exact y
  have p:=hinv.lt hin A (mem_ready.1 hr).1 j l;cases q:gS sn ops j with
  |true=>
   refine wpOp_mono (λtc w' ej=>⟨λ_ h=>(by cases h),s (listed.setIfInBounds j true) tc w' (by rw[ej.2];exact hb) (hinv.set l p) x (ready_mono hr (Ne.symm d)) ej.1.1 ?_⟩) (XH q Y);rw[Array.setIfInBounds_comm _ _ d];exact ej.1.2.2
  |false=>
   refine wpOp_mono (λtc w' ej=>⟨λh _=>ej.2.1 h q,s (listed.setIfInBounds j true) tc w' (ej.2.1 p q) (hinv.set l p) x (ready_mono hr (Ne.symm d)) ej.1 ?_⟩) Y;rw[Array.setIfInBounds_comm _ _ d];exact ej.2.2
theorem XM{e9 i:Nat}{I:World->Prop}{f:Oper}{v:Value}(ew:ops[i]? =some f)(p:∀(j:Nat)(o:Oper) cs b,ops[j]? =some o->o.op≠ .select cs b)
 (q:gS sn ops i=true) (x:∀c a w,Q (.panic c) (a.put f.dst v) w->Q (.panic c) a w):
 ∀(fuel:Nat)(listed:Array Bool)(a:Act)(w:World),
  (∀j g,ops[j]? =some g->j≠i->listed.getD j true=false->(∀e∈g.after,Region.binds sn e=true->e.on≠i) ->f.apart ops g=true) ->
  i∈Region.ready sn ops listed->fa P ops (λ_=>True) f v a->
  ww P sn ops e9 I Q fuel (listed.setIfInBounds i true) (a.put f.dst v) w->ww P sn ops e9 I Q (fuel+1) listed a w:=by
 intro fuel;induction fuel with
 |zero=>
  intro listed a w _ hr l H;refine⟨λh=>(by rw[h]at hr;cases hr),λj m=>?_⟩;by_cases d:j=i
  .subst d;exact l.wpOp trivial ew ⟨λ_ h=>(by rw[q]at h;cases h),H⟩
  have:=ready_mono m d;rw[H.1]at this;cases this
 |succ fuel y=>
  intro listed a w r hr l H;refine⟨λh=>(by rw[h]at hr;cases hr),λj m=>?_⟩;by_cases d:j=i
  .subst d;exact l.wpOp trivial ew ⟨λ_ h=>(by rw[q]at h;cases h),H⟩
  have G:=H.2 j (ready_mono m d);obtain⟨s,g,n,z⟩:=mem_ready.1 m;have A:∀e∈g.after,Region.binds sn e=true->e.on≠i:=λe B hb C=>by
   have G:=z e B hb;rw[C,getD_both (mem_ready.1 hr).1]at G;cases G
  have Y:=MQ n (r j g n d s A) (λcs b=>p i f cs b ew) (λcs b=>p j g cs b n) x l G;have D:∀k ok,ops[k]? =some ok->k≠i->(listed.setIfInBounds j true).getD k true=false->
   (∀e∈ok.after,Region.binds sn e=true->e.on≠i) ->f.apart ops ok=true:=λk ok E F t J=>by
   refine r k ok E F ?_ J;by_cases u:j=k
   .subst u;exact s
   rw[getD_set_ne true u]at t;exact t
  refine wpOp_mono (λtc w' ej=>⟨ej.2.1,y (listed.setIfInBounds j true) tc w' D (ready_mono hr (Ne.symm d)) ej.1 ?_⟩) Y;rw[Array.setIfInBounds_comm _ _ d];exact ej.2.2
theorem fa.pure{i:Nat}{o:Oper}{v:Value}{a:Act}{I:World->Prop}{w:World}(ew:ops[i]? =some o)(e:gS sn ops i=true)(f:I w)(g:fa P ops I o v a):fa P ops (λ_=>True) o v a:=by
 obtain⟨d,x,T,pos,eO,c,_⟩:=Hc e;rw[ew]at c;cases c;rcases g with⟨b,tG⟩|⟨b,_⟩
 .refine .inl ⟨b,λw' _=>?_⟩;have G:=tG w f;simp only[execOp,Sem.run_pure]at G⊢;injection G with G Y;rw[G]
 simp[Region.wanted]at b
end
inductive sF where
 |nil
 |look (i:Nat) (r:sF)
 |one (i:Nat) (r:sF)
 |M1 (i j:Nat) (r:sF)
 |iZ (i j:Nat) (dz fR:sF)
 |p0 (i j k:Nat) (dz fR u1:sF)
 |sL (cs:List (List Nat)) (r:sF)
def lK:sF->Nat
 | .nil=>0
 | .look _ r=>lK r+1
 | .one _ r=>lK r+1
 | .M1 _ _ r=>lK r+2
 | .iZ _ _ dz _=>lK dz+1
 | .p0 _ _ _ dz _ _=>lK dz+1
 | .sL cs r=>lK r+cs.flatten.length
def kU:sF->Bool
 | .nil=>true
 | .one _ r=>kU r
 |_=>false
def q8:List Nat->List (List Nat×List Nat)
 |[]=>[([],[])]
 |i::r=>([],i::r)::(q8 r).map λp=>(i::p.1,p.2)
def Tv:List (List Nat) ->List (List Nat×List (List Nat))
 |[]=>[([],[])]
 |c::cs=>(q8 c).flatMap λp=>(Tv cs).map λq=>(p.1++q.1,p.2::q.2)
def yn(listed:Array Bool)(l:List Nat):Array Bool:=l.foldl (λa i=>a.setIfInBounds i true) listed
def Hw(ops:Array Oper)(e9:Nat)(listed:Array Bool)(cs:List (List Nat)):Bool:=
 cs.flatten.all (λi=>decide (i<e9))&&(Tv cs).all λp=>p.2.all List.isEmpty||(!(Region.ready .any ops (yn listed p.1)).isEmpty&&(Region.ready .any ops (yn listed p.1)).all λi=>p.2.any λc=>c.head? ==some i)
def Iw(ops:Array Oper)(i j:Nat):Bool:=match ops[i]?,ops[j]? with|some hq,some hc=>hq.apart ops hc|_,_=>false
def Iy(ops:Array Oper):List (List Nat) ->Bool
 |[]=>true
 |c::cs=>(c.all λi=>cs.flatten.all λj=>Iw ops i j)&&Iy ops cs
def dg(ops:Array Oper)(e9:Nat):Array Bool->sF->Bool
 |listed,.nil=>(Region.ready .any ops listed).isEmpty
 |listed,.look i r=>decide (i<e9)&&(Region.ready .any ops listed).contains i&&Region.free .any ops listed i&&dg ops e9 (listed.setIfInBounds i true) r
 |listed,.one i r=>decide (Region.ready .any ops listed=[i])&&dg ops e9 (listed.setIfInBounds i true) r
 |listed,.M1 i j r=>decide (i<e9)&&decide (j<e9)&&decide (i≠j)&&decide (Region.ready .any ops listed=[i,j])&&decide (Region.ready .any ops (listed.setIfInBounds i true)=[j])&&decide (Region.ready .any ops (listed.setIfInBounds j true)=[i])&&dg ops e9 ((listed.setIfInBounds i true).setIfInBounds j true) r
 |listed,.iZ i j dz fR=>decide (i<e9)&&decide (j<e9)&&decide (Region.ready .any ops listed=[i,j])&&decide (lK dz=lK fR)&&dg ops e9 (listed.setIfInBounds i true) dz&&dg ops e9 (listed.setIfInBounds j true) fR
 |listed,.p0 i j k dz fR u1=>decide (i<e9)&&decide (j<e9)&&decide (k<e9)&&decide (Region.ready .any ops listed=[i,j,k])&&decide (lK dz=lK fR)&&decide (lK dz=lK u1)&&dg ops e9 (listed.setIfInBounds i true) dz&&dg ops e9 (listed.setIfInBounds j true) fR&&dg ops e9 (listed.setIfInBounds k true) u1
 |listed,.sL cs r=>Iy ops cs&&Hw ops e9 listed cs&&dg ops e9 (yn listed cs.flatten) r
@[irreducible] def e2 (P:Program) (n:Nat) (ops:Array Oper) (e9:Nat) (I:World->Prop) (Q:Exit->te->World->Prop) (r:sF) (f:te) (w:World):Prop:=
 ∀listed a,Region.noSelect ops=true->dg ops e9 listed r=true->(gR .any ops e9 listed/\I w∨kU r=true) ->so n a f->(∀(c:List PanicEntry) f f1 w,Q (.panic c) f w->Q (.panic c) f1 w) ->
  ww P .any ops e9 I (λe tc w'=>∃ae,so n tc ae/\Q e ae w') (lK r) listed a w
section
variable{P:Program}{n e9:Nat}{I:World->Prop}{aB:World}{ops:Array Oper}{Q:Exit->te->World->Prop}{r:sF}{f:te}{w:World}
theorem e2.nil(h:Q .normal f w):e2 P n ops e9 I Q .nil f w:=by
 unfold e2;intro listed a _ b _ ep _;exact⟨by simpa[dg]using b,f,ep,h⟩
theorem M2{i:Nat}{o:Oper}{v:Value}(ew:ops[i]? =some o)(hd:∀x,o.dst=some x->x<n)
 (j:∀a,so n a f->fa P ops I o v a) (hr:e2 P n ops e9 I Q r (dM f o.dst v) w):e2 P n ops e9 I Q (.look i r) f w:=by
 unfold e2 at hr⊢;intro listed a b k hinv ep d;simp only[dg,Bool.and_eq_true,decide_eq_true_eq]at k;obtain⟨⟨⟨em,G⟩,Y⟩,ej⟩:=k;have hinv:gR .any ops e9 listed/\I w:=hinv.resolve_right (λh=>by cases h);have l:i∈Region.ready .any ops listed:=by simpa using G
 cases e:gS .any ops i with
 |true=>
  refine XM ew (Region.noSelect_spec b) e (λc a w⟨ae,g,h⟩=>⟨_,g.ME,d c ae _ w h⟩) (lK r) listed a w (Region.free_spec ew Y) (by simpa using G) ((j a ep).pure ew e hinv.2) ?_;exact hr _ _ b ej (.inl ⟨hinv.1.set l em,hinv.2⟩) (ep.put hd v) d
 |false=>
 refine XU ew (Region.noSelect_spec b) em e (λc a w⟨ae,g,h⟩=>⟨_,g.ME,d c ae _ w h⟩) (lK r) listed a w hinv.2 hinv.1 (Region.free_spec ew Y) (by simpa using G) (j a ep) ?_;exact hr _ _ b ej (.inl ⟨hinv.1.set l em,hinv.2⟩) (ep.put hd v) d
theorem M4{f:te}{o:Oper}{w:World}{v:Value}(h:J P f o w (λu w'=>u=v/\w'=w))(a:∀g args w',(execOp (eD f) o).run P w≠ .ok (.enter g args) w')(b:∀w',(execOp (eD f) o).run P w≠ .ok .skip w'):(execOp (eD f) o).run P w= .ok (.value v) w:=by
 unfold J at h;generalize hr:(execOp (eD f) o).run P w=r at*;cases r with
 |ok x w'=>
  cases x<;>first
   |(exact absurd rfl (b _))
   |(exact absurd rfl (a _ _ _))
   |(obtain⟨rfl,rfl⟩:=h;rfl)
   |exact(h:False).elim
 |halt x w'=>exact(h:False).elim
def Op.looks:Op->Bool
 | .call {callee:=.builtin .len,..}| .call {callee:=.builtin .min,..}| .call {callee:=.builtin .max,..}| .call {callee:=.builtin .cap,..}=>true
 | .move _| .assign _| .pick .. | .load .. | .binOp .. | .unOp .. | .convert .. | .slice .. | .fieldAddr .. | .field .. | .indexAddr .. | .index .. | .extract .. | .build .. | .makeInterface .. | .lookup .. | .nilCheck .. =>true
 |_=>false
theorem M5{ρ:Operand->Value}{o:Oper}(h:Op.looks o.op=true)(P:Program)(w:World):(∀g args w',(execOp ρ o).run P w≠ .ok (.enter g args) w')/\∀w',(execOp ρ o).run P w≠ .ok .skip w':=by
 have key:∀(s:Sem Value),(∀g args w',((do pure (.value (<-s)):Sem Next)).run P w≠ .ok (.enter g args) w')/\∀w',((do pure (.value (<-s)):Sem Next)).run P w≠ .ok .skip w':=by
  intro s;simp only[Sem.run_bind];cases s.run P w<;>simp
 obtain⟨dst,op,T,pos,eO,eQ⟩:=o;cases op
 case call c=>
  obtain⟨callee,args,nI⟩:=c;cases callee
  case builtin b=>cases b<;>simp[Op.looks]at h<;>exact key _
  all_goals simp[Op.looks]at h
 case nilCheck x=>
  simp only[execOp];split
  all_goals try(simp[runtimePanic];done)
  split
  all_goals try(simp[runtimePanic];done)
  rename_i t0 aB _;simp[unsupported];generalize Sem.run P (nilAhead _ _ _ _) w=q;cases q with
  |ok b pl=>cases b with
   |none=>simp[Result.andThen]
   |some b=>cases b<;>simp[Result.andThen]
  |halt x pl=>simp[Result.andThen]
 all_goals first
  |(simp[Op.looks]at h;done)
  |exact key _
  |(simp only[execOp];simp;done)
  |(simp only[execOp,Sem.run_bind];generalize Sem.run P _ _=q;cases q<;>simp)
theorem e2.look{i d:Nat}{op:Op}{T:TypeId}{pos:String}{eO:Array Edge}{eb:Value}(ew:ops[i]? =some ⟨some d,op,T,pos,eO,none⟩)(eB:Op.looks op=true)(hd:Nat.blt d n=true)
 (h:∀w',I w'->J P f ⟨some d,op,T,pos,eO,none⟩ w' (λv b=>v=eb/\b=w')) (hr:e2 P n ops e9 I Q r (o7 f d eb) w):e2 P n ops e9 I Q (.look i r) f w:=
 M2 ew (by intro x Z;cases Z;simpa using hd) (λa ep=>.inl ⟨rfl,λw' c=>by
  rw[ep.eval];obtain⟨G,Y⟩:=M5 (ρ:=eD f) (o:=⟨some d,op,T,pos,eO,none⟩) eB P w';exact M4 (h w' c) G Y⟩) hr
theorem M6{i d:Nat}{op:Op}{T:TypeId}{pos:String}{eO:Array Edge}{g:Nat}{od:Bool}{eb:Value}(sh b:Bool)(t:Nat)(ew:ops[i]? =some ⟨some d,op,T,pos,eO,some (g,od)⟩)(eB:Op.looks op=true)(hd:Nat.blt d n=true)
 (j:(ops[g]?).bind (·.dst)=some t) (k:Nat.blt t n=true) (hb:f t=rK sh (.bool b))
 (h:(sh&&(b==od))=true->∀w',I w'->J P f ⟨some d,op,T,pos,eO,none⟩ w' (λv l=>v=eb/\l=w')) (hr:e2 P n ops e9 I Q r (o7 f d (rK (sh&&(b==od)) eb)) w):e2 P n ops e9 I Q (.look i r) f w:=by
 refine M2 (v:=rK (sh&&(b==od)) eb) ew (by intro x Z;cases Z;simpa using hd) (λa ep=>?_) hr;have e:Region.wanted ⟨some d,op,T,pos,eO,some (g,od)⟩ (yielded ops a.tmps)=(sh&&(b==od)):=by
  simp only[Region.wanted];have:yielded ops a.tmps g=if sh then some b else none:=by
   unfold yielded;simp only[j,Option.bind_some,vc ep (t:=t) (by simpa using k),hb];cases sh
   .rw[bt rfl];rfl
   rw[wm rfl];rfl
  rw[this];cases sh<;>simp
 cases c:(sh&&(b==od))with
 |true=>
  refine .inl ⟨by rw[e,c],λw' m=>?_⟩;rw[ep.eval,wm rfl];obtain⟨G,Y⟩:=M5 (ρ:=eD f) (o:=⟨some d,op,T,pos,eO,none⟩) eB P w';have:=M4 (h c w' m) G Y;exact this
 |false=>exact .inr ⟨by rw[e,c],bt rfl eb⟩
theorem Tx{i d:Nat}{op:Op}{T:TypeId}{pos:String}{eO:Array Edge}{g:Nat}{od:Bool}{eb:Value}(b:Bool)(t:Nat)(ew:ops[i]? =some ⟨some d,op,T,pos,eO,some (g,od)⟩)(eB:Op.looks op=true)(hd:Nat.blt d n=true)
 (a:(ops[g]?).bind (·.dst)=some t) (c:Nat.blt t n=true) (hb:f t= .bool b)
 (h:(b==od)=true->∀w',I w'->J P f ⟨some d,op,T,pos,eO,none⟩ w' (λv e=>v=eb/\e=w')) (hr:e2 P n ops e9 I Q r (o7 f d (rK (b==od) eb)) w):e2 P n ops e9 I Q (.look i r) f w:=
 M6 true b t ew eB hd a c (by rw[hb,wm rfl]) (by simpa using h) (by simpa using hr)
theorem cE{i d:Nat}{op:Op}{T:TypeId}{pos:String}{eO:Array Edge}{g:Nat}{od:Bool}{eb:Value}(t:Nat)(ew:ops[i]? =some ⟨some d,op,T,pos,eO,some (g,od)⟩)(eB:Op.looks op=true)(hd:Nat.blt d n=true)
 (a:(ops[g]?).bind (·.dst)=some t) (b:Nat.blt t n=true) (hb:f t= .bool od)
 (h:∀w',I w'->J P f ⟨some d,op,T,pos,eO,none⟩ w' (λv c=>v=eb/\c=w')) (hr:e2 P n ops e9 I Q r (o7 f d eb) w):e2 P n ops e9 I Q (.look i r) f w:=
 Tx (eb:=eb) od t ew eB hd a b hb (λ_=>h) (by rw[wm (by simp)];exact hr)
def XF(e9 i:Nat)(r:sF)(I:World->Prop)(w':World):Prop:=(i<e9->I w')/\(i<e9∨kU r=true)
theorem kM{i:Nat}{o:Oper}(ew:ops[i]? =some o)(h:∀a,so n a f->wpOp P ops (λe tc w'=>∃ae,so n tc ae/\Q e ae w') i (λtc w'=>XF e9 i r I w'/\∃ae,so n tc ae/\e2 P n ops e9 I Q r ae w') a w):e2 P n ops e9 I Q (.one i r) f w:=by
 unfold e2 at h⊢;intro listed a g c hinv ep k;simp only[dg,Bool.and_eq_true,decide_eq_true_eq]at c;obtain⟨G,ej⟩:=c;refine⟨λem=>(by rw[G]at em;cases em),λj d=>?_⟩;rw[G]at d;have l:j=i:=by simpa using d
 subst l;refine wpOp_mono (λtc w'⟨hb,ae,m,e5⟩=>⟨λh _=>hb.1 h,e5 _ _ g ej ?_ m k⟩) (h a ep);rcases hb.2 with hlt|b
 .rcases hinv with hinv|b
  .exact .inl ⟨hinv.1.set (by rw[G];simp) hlt,hb.1 hlt⟩
  exact .inr b
 exact .inr b
theorem e2.one{i d:Nat}{op:Op}{T:TypeId}{pos:String}{eO:Array Edge}(ew:ops[i]? =some ⟨some d,op,T,pos,eO,none⟩)(hd:Nat.blt d n=true)
 (hlt:Nat.blt i e9=true) (h:J P f ⟨some d,op,T,pos,eO,none⟩ w (λv w'=>I w'/\e2 P n ops e9 I Q r (o7 f d v) w')):e2 P n ops e9 I Q (.one i r) f w:=by
 have hlt:i<e9:=by simpa using hlt
 refine kM ew λa ep=>?_;unfold wpOp;simp only[ew,Region.wanted,if_true];exact .inl (pY ep h λv w'⟨hb,e5⟩=>⟨⟨λ_=>hb,.inl hlt⟩,_,ep.put (dst:=some d) (by intro x Z;cases Z;simpa using hd) v,e5⟩)
theorem n8{i:Nat}{op:Op}{T:TypeId}{pos:String}{eO:Array Edge}(ew:ops[i]? =some ⟨none,op,T,pos,eO,none⟩)
 (hlt:Nat.blt i e9=true) (h:J P f ⟨none,op,T,pos,eO,none⟩ w (λ_ w'=>I w'/\e2 P n ops e9 I Q r f w')):e2 P n ops e9 I Q (.one i r) f w:=by
 have hlt:i<e9:=by simpa using hlt
 refine kM ew λa ep=>?_;unfold wpOp;simp only[ew,Region.wanted,if_true];exact .inl (pY ep h λv w'⟨hb,e5⟩=>⟨⟨λ_=>hb,.inl hlt⟩,_,ep.put (dst:=none) (by intro x Z;cases Z) v,e5⟩)
theorem e2.iZ{dz fR:sF}{i j um uf:Nat}{k l:Op}{m o:TypeId}{p q:String}{r s:Array Edge}(ew:ops[i]? =some ⟨some um,k,m,p,r,none⟩)(A:ops[j]? =some ⟨some uf,l,o,q,s,none⟩)
 (d:Nat.blt um n=true) (e:Nat.blt uf n=true)
 (G:J P f ⟨some um,k,m,p,r,none⟩ w (λv w'=>I w'/\e2 P n ops e9 I Q dz (o7 f um v) w'))
 (Y:J P f ⟨some uf,l,o,q,s,none⟩ w (λv w'=>I w'/\e2 P n ops e9 I Q fR (o7 f uf v) w')):e2 P n ops e9 I Q (.iZ i j dz fR) f w:=by
 have d:um<n:=by simpa using d
 have e:uf<n:=by simpa using e
 unfold e2 at G Y⊢;intro listed a t u hinv ep y;simp only[dg,Bool.and_eq_true,decide_eq_true_eq]at u;obtain⟨⟨⟨⟨⟨B,C⟩,c⟩,D⟩,fH⟩,up⟩:=u;have z:gR .any ops e9 listed:=(hinv.resolve_right (λh=>by cases h)).1;have E:i∈Region.ready .any ops listed:=by rw[c];simp
 have F:j∈Region.ready .any ops listed:=by rw[c];simp
 refine⟨λem=>(by rw[c]at em;cases em),λx Z=>?_⟩;rw[c]at Z;rcases List.mem_cons.1 Z with rfl|Z
 .unfold wpOp;simp only[ew,Region.wanted,if_true];exact .inl (pY ep G λv w'⟨b,g⟩=>⟨λ_ _=>b,g _ _ t fH (.inl ⟨z.set E B,b⟩) (ep.put (dst:=some um) (by intro x Z;cases Z;exact d) v) y⟩)
 obtain rfl:x=j:=by simpa using Z
 unfold wpOp;simp only[A,Region.wanted,if_true];refine .inl (pY ep Y λv w'⟨b,g⟩=>⟨λ_ _=>b,?_⟩);show ww P .any ops e9 I _ (lK dz) _ _ _;rw[D];exact g _ _ t up (.inl ⟨z.set F C,b⟩) (ep.put (dst:=some uf) (by intro x Z;cases Z;exact e) v) y
theorem e2.p0{dz fR u1:sF}{i j k um uf d:Nat}{r s t:Op}{u y z:TypeId}{A B C:String}{D E F:Array Edge}(ew:ops[i]? =some ⟨some um,r,u,A,D,none⟩)(K:ops[j]? =some ⟨some uf,s,y,B,E,none⟩)(c:ops[k]? =some ⟨some d,t,z,C,F,none⟩)
 (g:Nat.blt um n=true) (l:Nat.blt uf n=true) (m:Nat.blt d n=true)
 (G:J P f ⟨some um,r,u,A,D,none⟩ w (λv w'=>I w'/\e2 P n ops e9 I Q dz (o7 f um v) w'))
 (Y:J P f ⟨some uf,s,y,B,E,none⟩ w (λv w'=>I w'/\e2 P n ops e9 I Q fR (o7 f uf v) w'))
 (ej:J P f ⟨some d,t,z,C,F,none⟩ w (λv w'=>I w'/\e2 P n ops e9 I Q u1 (o7 f d v) w')):e2 P n ops e9 I Q (.p0 i j k dz fR u1) f w:=by
 have g:um<n:=by simpa using g
 have l:uf<n:=by simpa using l
 have m:d<n:=by simpa using m
 unfold e2 at G Y ej⊢;intro listed a o H hinv ep p;simp only[dg,Bool.and_eq_true,decide_eq_true_eq]at H;obtain⟨⟨⟨⟨⟨⟨⟨⟨L,M⟩,N⟩,e⟩,O⟩,R⟩,fH⟩,up⟩,S⟩:=H;have q:gR .any ops e9 listed:=(hinv.resolve_right (λh=>by cases h)).1;have T:i∈Region.ready .any ops listed:=by rw[e];simp
 have U:j∈Region.ready .any ops listed:=by rw[e];simp
 have V:k∈Region.ready .any ops listed:=by rw[e];simp
 refine⟨λem=>(by rw[e]at em;cases em),λx Z=>?_⟩;rw[e]at Z;rcases List.mem_cons.1 Z with rfl|Z
 .unfold wpOp;simp only[ew,Region.wanted,if_true];exact .inl (pY ep G λv w'⟨b,c⟩=>⟨λ_ _=>b,c _ _ o fH (.inl ⟨q.set T L,b⟩) (ep.put (dst:=some um) (by intro x Z;cases Z;exact g) v) p⟩)
 rcases List.mem_cons.1 Z with rfl|Z
 .unfold wpOp;simp only[K,Region.wanted,if_true];refine .inl (pY ep Y λv w'⟨b,c⟩=>⟨λ_ _=>b,?_⟩);show ww P .any ops e9 I _ (lK dz) _ _ _;rw[O];exact c _ _ o up (.inl ⟨q.set U M,b⟩) (ep.put (dst:=some uf) (by intro x Z;cases Z;exact l) v) p
 obtain rfl:x=k:=by simpa using Z
 unfold wpOp;simp only[c,Region.wanted,if_true];refine .inl (pY ep ej λv w'⟨b,c⟩=>⟨λ_ _=>b,?_⟩);show ww P .any ops e9 I _ (lK dz) _ _ _;rw[R];exact c _ _ o S (.inl ⟨q.set V N,b⟩) (ep.put (dst:=some d) (by intro x Z;cases Z;exact m) v) p
theorem U.jd{w0 aB w:World}{S T:List eH}(G:U w0 S aB)(Y:U aB T w):U w0 (T++S) w:=by
 have ej:=G.es Y.ee;refine⟨ej.ee,List.pairwise_append.2 ⟨Y.ye,G.ye,λa ep b hb k d f=>?_⟩,λe c=>?_⟩
 .have:=((Y.all a ep).2 k d).1;have:=((G.all b hb).2 k f).2;omega
 rcases List.mem_append.1 c with c|c
 .exact⟨(Y.all e c).1,λk d=>⟨Nat.le_trans G.ee.size ((Y.all e c).2 k d).1,((Y.all e c).2 k d).2⟩⟩
 exact ej.all e c
theorem U.swap{w0 w:World}{a b:eH}{S:List eH}(h:U w0 (a::b::S) w):U w0 (b::a::S) w:=by
 obtain⟨G,Y,ej⟩:=h;refine⟨G,?_,λe c=>ej e (by simp only[List.mem_cons]at c⊢;exact(or_left_comm.1 c))⟩;obtain⟨d,f⟩:=List.pairwise_cons.1 Y;obtain⟨g,i⟩:=List.pairwise_cons.1 f;refine List.pairwise_cons.2 ⟨λx Z=>?_,List.pairwise_cons.2 ⟨λx Z=>d x (List.mem_cons_of_mem _ Z),i⟩⟩;rcases List.mem_cons.1 Z with rfl|Z
 .exactλk G Y=>d b List.mem_cons_self k Y G
 exact g x Z
theorem XW{i d:Nat}{op:Op}{T:TypeId}{pos:String}{eO:Array Edge}{g:Nat}{od:Bool}(eb:Value)(sh b:Bool)(t:Nat)(e:eV aB w)(ew:ops[i]? =some ⟨some d,op,T,pos,eO,some (g,od)⟩)(hd:Nat.blt d n=true)
 (k:(ops[g]?).bind (·.dst)=some t) (l:Nat.blt t n=true) (hb:f t=rK sh (.bool b)) (hlt:Nat.blt i e9=true)
 (h:(sh&&(b==od))=true->J P f ⟨some d,op,T,pos,eO,none⟩ w (λv w'=>v=eb/\eV w w')) (hr:∀w',eV w w'->e2 P n ops e9 (eV aB) Q r (o7 f d (rK (sh&&(b==od)) eb)) w'):e2 P n ops e9 (eV aB) Q (.one i r) f w:=by
 have hlt:i<e9:=by simpa using hlt
 refine kM ew λa ep=>?_;have j:Region.wanted ⟨some d,op,T,pos,eO,some (g,od)⟩ (yielded ops a.tmps)=(sh&&(b==od)):=by
  simp only[Region.wanted];have:yielded ops a.tmps g=if sh then some b else none:=by
   unfold yielded;simp only[k,Option.bind_some,vc ep (t:=t) (by simpa using l),hb];cases sh
   .rw[bt rfl];rfl
   rw[wm rfl];rfl
  rw[this];cases sh<;>simp
 unfold wpOp;simp only[ew];cases c:(sh&&(b==od))with
 |true=>
  rw[j,c,if_pos rfl];refine .inl (pY (o:=⟨some d,op,T,pos,eO,some (g,od)⟩) ep (R:=λv w'=>v=eb/\eV w w') ?_ λv w'⟨G,Y⟩=>⟨⟨λ_=>e.trans Y,.inl hlt⟩,_,ep.put (dst:=some d) (by intro x Z;cases Z;simpa using hd) v,?_⟩)
  .have:=h c;unfold J at this⊢;exact this
  subst G;have:=hr w' Y;rw[c,wm rfl]at this;exact this
 |false=>
  rw[j,c,if_neg (by simp)];refine⟨⟨λ_=>e,.inl hlt⟩,_,ep.put (dst:=some d) (by intro x Z;cases Z;simpa using hd) undef,?_⟩;have:=hr w (eV.refl w);rw[c,bt rfl]at this;exact this
theorem Hv{i d:Nat}{op:Op}{T:TypeId}{pos:String}{eO:Array Edge}{g:Nat}{od:Bool}(eb:Value)(b:Bool)(t:Nat)(a:eV aB w)(ew:ops[i]? =some ⟨some d,op,T,pos,eO,some (g,od)⟩)(hd:Nat.blt d n=true)
 (c:(ops[g]?).bind (·.dst)=some t) (e:Nat.blt t n=true) (hb:f t= .bool b) (hlt:Nat.blt i e9=true)
 (h:(b==od)=true->J P f ⟨some d,op,T,pos,eO,none⟩ w (λv w'=>v=eb/\eV w w')) (hr:∀w',eV w w'->e2 P n ops e9 (eV aB) Q r (o7 f d (rK (b==od) eb)) w'):e2 P n ops e9 (eV aB) Q (.one i r) f w:=
 XW eb true b t a ew hd c e (by rw[hb,wm rfl]) hlt (by simpa using h) (by simpa using hr)
theorem Ft{i d:Nat}{op:Op}{T:TypeId}{pos:String}{eO:Array Edge}{g:Nat}{od:Bool}(t:Nat)(ew:ops[i]? =some ⟨some d,op,T,pos,eO,some (g,od)⟩)(hd:Nat.blt d n=true)
 (b:(ops[g]?).bind (·.dst)=some t) (c:Nat.blt t n=true) (hb:f t= .bool od)
 (hlt:Nat.blt i e9=true) (h:J P f ⟨some d,op,T,pos,eO,none⟩ w (λv w'=>I w'/\e2 P n ops e9 I Q r (o7 f d v) w')):e2 P n ops e9 I Q (.one i r) f w:=by
 have hlt:i<e9:=by simpa using hlt
 refine kM ew λa ep=>?_;have e:Region.wanted ⟨some d,op,T,pos,eO,some (g,od)⟩ (yielded ops a.tmps)=true:=by
  simp only[Region.wanted];have:yielded ops a.tmps g=some od:=by
   unfold yielded;simp only[b,Option.bind_some,vc ep (t:=t) (by simpa using c),hb]
  rw[this];simp
 unfold wpOp;simp only[ew];rw[e,if_pos rfl];refine .inl (pY (o:=⟨some d,op,T,pos,eO,some (g,od)⟩) ep (R:=λv w'=>I w'/\e2 P n ops e9 I Q r (o7 f d v) w') ?_ λv w'⟨hb,e5⟩=>⟨⟨λ_=>hb,.inl hlt⟩,_,ep.put (dst:=some d) (by intro x Z;cases Z;simpa using hd) v,e5⟩);unfold J at h⊢;exact h
theorem e2.put{i:Nat}{d:Option Tmp}{op:Op}{T:TypeId}{pos:String}{eO:Array Edge}(ew:ops[i]? =some ⟨d,op,T,pos,eO,none⟩)(hd:∀x,d=some x->x<n)(hlt:Nat.ble e9 i=true)(b:kU r=true)
 (h:J P f ⟨d,op,T,pos,eO,none⟩ w (λv w'=>e2 P n ops e9 I Q r (dM f d v) w')):e2 P n ops e9 I Q (.one i r) f w:=by
 have hlt:e9<=i:=by simpa using hlt
 refine kM ew λa ep=>?_;unfold wpOp;simp only[ew,Region.wanted,if_true];exact .inl (pY ep h λv w' e5=>⟨⟨λh=>absurd h (by omega),.inr b⟩,_,ep.put hd v,e5⟩)
theorem Fa{i:Nat}{op:Op}{T:TypeId}{pos:String}{eO:Array Edge}(ew:ops[i]? =some ⟨none,op,T,pos,eO,none⟩)(hlt:Nat.ble e9 i=true)(a:kU r=true)
 (h:J P f ⟨none,op,T,pos,eO,none⟩ w (λ_ w'=>e2 P n ops e9 I Q r f w')):e2 P n ops e9 I Q (.one i r) f w:=e2.put (d:=none) ew (by intro x Z;cases Z) hlt a h
theorem Tz{i d:Nat}{op:Op}{T:TypeId}{pos:String}{eO:Array Edge}(ew:ops[i]? =some ⟨some d,op,T,pos,eO,none⟩)(hd:Nat.blt d n=true)(hlt:Nat.ble e9 i=true)(a:kU r=true)
 (h:J P f ⟨some d,op,T,pos,eO,none⟩ w (λv w'=>e2 P n ops e9 I Q r (o7 f d v) w')):e2 P n ops e9 I Q (.one i r) f w:=e2.put (d:=some d) ew (by intro x Z;cases Z;simpa using hd) hlt a h
end
section
theorem Ik(no nd:List (Nat×Value))(f:te):oQ (no++nd) f=oQ no (oQ nd f):=by
 induction no with
 |nil=>rfl
 |cons p l a=>obtain⟨i,v⟩:=p;show o7 (oQ (l++nd) f) i v=o7 (oQ l (oQ nd f)) i v;rw[a]
theorem Hk{l:List (Nat×Value)}{x:Nat}(h:∀p∈l,p.1≠x)(f:te):oQ l f x=f x:=by
 induction l with
 |nil=>rfl
 |cons p l a=>
  obtain⟨i,v⟩:=p;show o7 (oQ l f) i v x=f x;rw[kI _ _ (λe=>h (i,v) List.mem_cons_self e.symm)];exact a λp b=>h p (List.mem_cons_of_mem _ b)
theorem Fo(l:List (Nat×Value)){f g:te}{x:Nat}(h:f x=g x):oQ l f x=oQ l g x:=by
 induction l with
 |nil=>exact h
 |cons p l a=>
  obtain⟨i,v⟩:=p;show o7 (oQ l f) i v x=o7 (oQ l g) i v x;by_cases e:x=i
  .rw[e,y6,y6]
  rw[kI _ _ e,kI _ _ e];exact a
theorem XY{l:List (Nat×Value)}{d:Nat}(h:∀p∈l,p.1≠d)(f:te)(v:Value):oQ l (o7 f d v)=o7 (oQ l f) d v:=by
 funext x;by_cases e:x=d
 .subst e;rw[y6,Hk h,y6]
 rw[kI _ _ e];exact Fo l (kI _ _ e)
theorem Fi:∀{d l:List Nat},(d,l)∈q8 (d++l)
 |[],[]=>by simp[q8]
 |[],i::r=>by simp[q8]
 |i::d,l=>by
  have a:=Fi (d:=d) (l:=l);simp only[List.cons_append,q8];exact List.mem_cons_of_mem _ (List.mem_map.2 ⟨_,a,rfl⟩)
theorem Fs{α:Type}{A Hx Hj:α->List Nat}:∀{σ:List α},(∀c∈σ,Hx c++Hj c=A c) ->((σ.map Hx).flatten,σ.map Hj)∈Tv (σ.map A)
 |[],_=>by simp[Tv]
 |c::σ,h=>by
  have a:=Fs (σ:=σ) (λx Z=>h x (List.mem_cons_of_mem _ Z));have b:=h c List.mem_cons_self;simp only[List.map_cons,List.flatten_cons,Tv,<-b];exact List.mem_flatMap.2 ⟨_,Fi,List.mem_map.2 ⟨_,a,rfl⟩⟩
theorem XB(listed:Array Bool){no nd:List Nat}(h:no.Perm nd):yn listed no=yn listed nd:=by
 unfold yn;refine h.foldl_eq' (λx _ y _ z=>?_) listed;by_cases e:x=y
 .rw[e]
 exact Array.setIfInBounds_comm _ _ e
theorem Fr{ops:Array Oper}{i j:Nat}(h:Iw ops i j=true):∃a b,ops[i]? =some a/\ops[j]? =some b/\a.apart ops b=true:=by
 unfold Iw at h;split at h
 .exact⟨_,_,by assumption,by assumption,h⟩
 cases h
def io(P:Program)(n:Nat)(ops:Array Oper)(w0:World)(S:List eH)(f:te):List Nat->List (Nat×Value) ->List eH->(List (Nat×Value) ->List eH->Prop) ->Prop
 |[],u,e,K=>K u e
 |i::l,u,e,K=>∃d op T pos eO,ops[i]? =some ⟨some d,op,T,pos,eO,none⟩/\d<n/\∀(X:List eH)(w:World),U w0 (e++(S++X)) w->
  J P (oQ u f) ⟨some d,op,T,pos,eO,none⟩ w λv w'=>∃o1,U w0 (o1++(S++X)) w'/\io P n ops w0 S f l ((d,v)::u) o1 K
structure wy where
 all:List Nat
 done:List Nat
 left:List Nat
 u:List (Nat×Value)
 e:List eH
 K:List (Nat×Value) ->List eH->Prop
structure wy.ok(P:Program)(n:Nat)(ops:Array Oper)(w0:World)(S:List eH)(f:te)(c:wy):Prop where
 eZ:c.done++c.left=c.all
 u:∀p∈c.u,∃i∈c.all,∃o,ops[i]? =some o/\o.dst=some p.1
 ch:io P n ops w0 S f c.left c.u c.e c.K
def vv:List (List (Nat×Value) ->List eH->Prop) ->(List (Nat×Value) ->List eH->Prop) ->Prop
 |[],sh=>sh [] []
 |K::fL,sh=>∀u e,K u e->vv fL λus aX=>sh (u++us) (e++aX)
def bi(P:Program)(n:Nat)(ops:Array Oper)(w0:World)(S:List eH)(f:te):List (List Nat) ->List (List (Nat×Value) ->List eH->Prop) ->Prop
 |[],[]=>True
 |c::cs,K::fL=>io P n ops w0 S f c [] [] K/\bi P n ops w0 S f cs fL
 |_,_=>False
theorem Fh{P:Program}{n:Nat}{ops:Array Oper}{w0:World}{S:List eH}{f:te}:∀{σ:List wy}{sh:List (Nat×Value) ->List eH->Prop},(∀c∈σ,c.ok P n ops w0 S f) ->(∀c∈σ,c.left=[]) ->vv (σ.map (·.K)) sh->sh (σ.flatMap (·.u)) (σ.flatMap (·.e))
 |[],sh,_,_,h=>h
 |c::σ,sh,a,eB,h=>by
  have G:=(a c List.mem_cons_self).ch;rw[eB c List.mem_cons_self]at G;exact Fh (σ:=σ) (sh:=λus b=>sh (c.u++us) (c.e++b)) (λx Z=>a x (List.mem_cons_of_mem _ Z)) (λx Z=>eB x (List.mem_cons_of_mem _ Z)) (h c.u c.e G)
def vk(ops:Array Oper)(a b:List Nat):Prop:=∀i∈a,∀j∈b,Iw ops i j=true
theorem Fl{ops:Array Oper}:∀{cs:List (List Nat)},Iy ops cs=true->cs.Pairwise (vk ops)
 |[],_=>.nil
 |c::cs,h=>by
  simp only[Iy,Bool.and_eq_true,List.all_eq_true]at h;refine List.pairwise_cons.2 ⟨λb hb i ew j a=>h.1 i ew j ?_,Fl h.2⟩;exact List.mem_flatten.2 ⟨b,hb,a⟩
theorem vk.off{P:Program}{n:Nat}{ops:Array Oper}{w0:World}{S:List eH}{f:te}{c x:wy}(h:vk ops c.all x.all∨vk ops x.all c.all)(Z:x.ok P n ops w0 S f){i:Nat}{o:Oper}(ew:i∈c.all)(e1:ops[i]? =some o):
 ∀p∈x.u,p.1∉o.looksAt ops/\o.dst≠some p.1:=by
 intro p q;obtain⟨j,g,r,k,hd⟩:=Z.u p q;rcases h with h|h
 .obtain⟨a,b,G,Y,ej⟩:=Fr (h i ew j g);rw[e1]at G;cases G;rw[k]at Y;cases Y;obtain⟨l,d,m⟩:=Oper.apart_spec ej;exact⟨m _ hd,λe=>d _ e hd⟩
 obtain⟨a,b,G,Y,ej⟩:=Fr (h j g i ew);rw[k]at G;cases G;rw[e1]at Y;cases Y;obtain⟨l,d,m⟩:=Oper.apart_spec ej;exact⟨l _ hd,λe=>d _ hd e⟩
theorem XV{P:Program}{ops:Array Oper}{f g:te}{o:Oper}{w:World}{R:Value->World->Prop}(c:∀cs b,o.op≠ .select cs b)(h:∀t∈o.looksAt ops,f t=g t)(a:J P f o w R):J P g o w R:=by
 unfold J at a⊢;rw[<-execOp_congr o c λx Z=>?_]
 .exact a
 cases x with
 |tmp t=>exact h t (List.mem_append_left _ (List.mem_filterMap.2 ⟨.tmp t,by simpa using Z,rfl⟩))
 |const v=>rfl
 |global g=>rfl
 |func g=>rfl
theorem U.Fd{w0 w:World}{S tp:List eH}(h:U w0 S w)(c:S.Perm tp):U w0 tp w:=
 ⟨h.ee,c.pairwise h.ye (λ{a b} d k hb ep=>d k ep hb),λe f=>h.all e (c.mem_iff.2 f)⟩
theorem Fc(A tD C S:List eH):((A++(tD++C))++S).Perm (tD++(S++(A++C))):=by
 have e:(A++(tD++C))++S=A++(tD++(C++S)):=by simp
 rw[e];have G:(A++(tD++(C++S))).Perm (tD++(A++(C++S))):=by
  rw[<-List.append_assoc,<-List.append_assoc tD A];exact List.perm_append_comm.append_right _
 refine G.trans (List.Perm.append_left tD ?_);have a:A++(C++S)=(A++C)++S:=by simp
 rw[a];exact List.perm_append_comm
theorem XK{P:Program}{n e9:Nat}{I:World->Prop}{ops:Array Oper}{Q:Exit->te->World->Prop}{r:sF}{f:te}{w0:World}{S:List eH}(R:Region.noSelect ops=true)(V:∀w,U w0 S w->I w)
 (hz:∀(c:List PanicEntry) f f1 w,Q (.panic c) f w->Q (.panic c) f1 w) {o L:Array Bool} (e4:dg ops e9 L r=true):
 ∀(m:Nat)(σ:List wy)(listed:Array Bool)(a:Act)(w:World),(σ.map (·.left)).flatten.length=m->(∀c∈σ,c.ok P n ops w0 S f) ->(σ.map (·.all)).Pairwise (vk ops) ->
  listed=yn o (σ.map (·.done)).flatten->Hw ops e9 o (σ.map (·.all))=true->yn o (σ.map (·.all)).flatten=L->gR .any ops e9 listed->so n a (oQ (σ.flatMap (·.u)) f) ->U w0 (σ.flatMap (·.e)++S) w->
  vv (σ.map (·.K)) (λus aX=>∀w',U w0 (aX++S) w'->e2 P n ops e9 I Q r (oQ us f) w') ->
  ww P .any ops e9 I (λe tc w'=>∃ae,so n tc ae/\Q e ae w') (lK r+m) listed a w:=by
 intro m;induction m with
 |zero=>
  intro σ listed a w e5 i _ q _ D F ep E H;have eB:∀c∈σ,c.left=[]:=by
   intro c k;have G:(σ.map (·.left)).flatten=[]:=List.eq_nil_of_length_eq_zero e5;exact List.flatten_eq_nil_iff.1 G _ (List.mem_map.2 ⟨c,k,rfl⟩)
  have G:σ.map (·.done)=σ.map (·.all):=List.map_congr_left λc k=>by
   have Y:=(i c k).eZ;rw[eB c k,List.append_nil]at Y;exact Y
  rw[G,D]at q;have W:=Fh i eB H w E;unfold e2 at W;exact W listed a R (by rw[q];exact e4) (.inl ⟨F,V w (E.sub (List.sublist_append_right _ _))⟩) ep hz
 |succ m av=>
  intro σ listed a w e5 i M q N D F ep E H;have XX:=N;simp only[Hw,Bool.and_eq_true,List.all_eq_true,List.any_eq_true,decide_eq_true_eq,Bool.or_eq_true]at N;obtain⟨hlt,lH⟩:=N;have z:=lH _ (Fs (A:=wy.all) (Hx:=wy.done) (Hj:=wy.left) (λc k=>(i c k).eZ));simp only[<-q]at z;have z:=z.resolve_left λG=>by
   have Y:(σ.map (·.left)).flatten=[]:=List.flatten_eq_nil_iff.2 λl eB=>by simpa using G l eB
   rw[Y]at e5;cases e5
  obtain⟨O,XJ⟩:=z;have O:Region.ready .any ops listed≠[]:=by simpa using O
  refine⟨λem=>absurd em O,λh ew=>?_⟩;obtain⟨l,h8,s⟩:=XJ h ew;obtain⟨c,ja,rfl⟩:=List.mem_map.1 h8;obtain⟨c1,j⟩:∃c1,c.left=h::c1:=by
   cases j:c.left with
   |nil=>rw[j]at s;simp at s
   |cons x c1=>rw[j]at s;simp at s;subst s;exact⟨c1,rfl⟩
  obtain⟨pre,post,rfl⟩:=List.append_of_mem ja;have B:=i c (by simp);have X:=B.ch;rw[j]at X;obtain⟨d,op,T,pos,eO,y,XQ,HE⟩:=X;have C:h∈c.all:=by rw[<-B.eZ,j];simp
  have hlt:h<e9:=hlt h (List.mem_flatten.2 ⟨c.all,by simp,C⟩);have Fu:(∀x∈pre,vk ops x.all c.all)/\(∀x∈post,vk ops c.all x.all):=by
   rw[List.map_append,List.map_cons]at M;obtain⟨_,e8,au⟩:=List.pairwise_append.1 M;exact⟨λx Z=>au _ (List.mem_map.2 ⟨x,Z,rfl⟩) _ List.mem_cons_self,λx Z=>(List.pairwise_cons.1 e8).1 _ (List.mem_map.2 ⟨x,Z,rfl⟩)⟩
  have rt:∀p∈pre.flatMap (·.u),p.1∉Oper.looksAt ops ⟨some d,op,T,pos,eO,none⟩/\some d≠some p.1:=by
   intro p g;obtain⟨x,Z,g⟩:=List.mem_flatMap.1 g;exact vk.off (.inr (Fu.1 x Z)) (i x (by simp[Z])) C y p g
  have tW:∀p∈post.flatMap (·.u),p.1∉Oper.looksAt ops ⟨some d,op,T,pos,eO,none⟩/\some d≠some p.1:=by
   intro p g;obtain⟨x,Z,g⟩:=List.mem_flatMap.1 g;exact vk.off (.inl (Fu.2 x Z)) (i x (by simp[Z])) C y p g
  have XZ:(pre++c::post).flatMap (·.u)=pre.flatMap (·.u)++(c.u++post.flatMap (·.u)):=by simp
  have X0:(pre++c::post).flatMap (·.e)=pre.flatMap (·.e)++(c.e++post.flatMap (·.e)):=by simp
  rw[XZ,Ik,Ik]at ep;rw[X0]at E;have tR:U w0 (c.e++(S++(pre.flatMap (·.e)++post.flatMap (·.e)))) w:=E.Fd (Fc _ _ _ _);have Tw:=HE _ w tR;have X1:∀cs b,op≠ .select cs b:=λcs b=>Region.noSelect_spec R _ _ cs b y;have X2:J P (oQ (pre.flatMap (·.u)) (oQ c.u (oQ (post.flatMap (·.u)) f))) ⟨some d,op,T,pos,eO,none⟩ w (λv w'=>∃o1,U w0 (o1++(S++(pre.flatMap (·.e)++post.flatMap (·.e)))) w'/\io P n ops w0 S f c1 ((d,v)::c.u) o1 c.K):=by
   refine XV (ops:=ops) X1 (λt tT=>?_) Tw;rw[Hk (λp g e=>(rt p g).1 (by rw[e];exact tT))];exact Fo c.u (Hk (λp g e=>(tW p g).1 (by rw[e];exact tT)) f).symm
  unfold wpOp;simp only[y,Region.wanted,if_true];refine .inl (pY ep X2 λv w'⟨o1,sC,X3⟩=>⟨λ_ _=>V w' (sC.sub ((List.sublist_append_left S _).trans (List.sublist_append_right _ _))),?_⟩);have X4:=ep.put (dst:=some d) (by intro x Z;cases Z;exact XQ) v;refine av (pre++⟨c.all,c.done++[h],c1,(d,v)::c.u,o1,c.K⟩::post) _ _ _ ?_ ?_ ?_ ?_ ?_ ?_ (F.set ew hlt) ?_ ?_ ?_
  .simp only[List.map_append,List.map_cons,List.flatten_append,List.flatten_cons,List.length_append,j,List.length_cons]at e5⊢;omega
  .intro x Z;rcases List.mem_append.1 Z with Z|Z
   .exact i x (by simp[Z])
   rcases List.mem_cons.1 Z with rfl|Z
   .refine⟨by rw[<-B.eZ,j];simp,λp g=>?_,X3⟩;rcases List.mem_cons.1 g with rfl|g
    .exact⟨h,C,_,y,rfl⟩
    exact B.u p g
   exact i x (by simp[Z])
  .simpa using M
  .rw[q];have aQ:((pre++(⟨c.all,c.done++[h],c1,(d,v)::c.u,o1,c.K⟩:wy)::post).map (·.done)).flatten=(pre.map (·.done)).flatten++(c.done++[h]++(post.map (·.done)).flatten):=by simp
   have oo:((pre++c::post).map (·.done)).flatten=(pre.map (·.done)).flatten++(c.done++(post.map (·.done)).flatten):=by simp
   rw[aQ,oo];have r6:∀l,(yn o l).setIfInBounds h true=yn o (l++[h]):=λl=>by simp[yn]
   rw[r6];refine XB _ ?_;rw[List.append_assoc,List.append_assoc,List.append_assoc];refine List.Perm.append_left _ (List.Perm.append_left _ ?_);exact List.perm_append_comm
  .simpa using XX
  .simpa using D
  .have X5:(pre++(⟨c.all,c.done++[h],c1,(d,v)::c.u,o1,c.K⟩:wy)::post).flatMap (·.u)=pre.flatMap (·.u)++((d,v)::(c.u++post.flatMap (·.u))):=by simp
   rw[X5,Ik];show so n _ (oQ _ (o7 (oQ (c.u++_) f) d v));rw[XY (λp g e=>(rt p g).2 (by rw[e])),Ik];exact X4
  .have X6:(pre++(⟨c.all,c.done++[h],c1,(d,v)::c.u,o1,c.K⟩:wy)::post).flatMap (·.e)=pre.flatMap (·.e)++(o1++post.flatMap (·.e)):=by simp
   rw[X6];exact sC.Fd (Fc _ _ _ _).symm
  simpa using H
theorem bi.build{P:Program}{n:Nat}{ops:Array Oper}{w0:World}{S:List eH}{f:te}:∀{cs:List (List Nat)}{a:List (List (Nat×Value) ->List eH->Prop)},bi P n ops w0 S f cs a->
 ∃σ:List wy,σ.map (·.all)=cs/\σ.map (·.left)=cs/\(σ.map (·.done)).flatten=[]/\σ.map (·.K)=a/\σ.flatMap (·.u)=[]/\σ.flatMap (·.e)=[]/\∀c∈σ,c.ok P n ops w0 S f
 |[],[],_=>⟨[],rfl,rfl,rfl,rfl,rfl,rfl,λc b=>by cases b⟩
 |c::cs,K::a,h=>by
  obtain⟨σ,G,Y,hd,ej,e8,au,a2⟩:=bi.build h.2;refine⟨⟨c,[],c,[],[],K⟩::σ,by simp[G],by simp[Y],by simpa using hd,by simp[ej],by simpa using e8,by simpa using au,λx Z=>?_⟩;rcases List.mem_cons.1 Z with rfl|Z
  .exact⟨rfl,λp d=>absurd d (by simp),h.1⟩
  exact a2 x Z
 |[],_::_,h=>h.elim
 |_::_,[],h=>h.elim
theorem e2.sL{P:Program}{n e9:Nat}{I:World->Prop}{ops:Array Oper}{Q:Exit->te->World->Prop}{r:sF}{f:te}{w w0:World}{S:List eH}{cs:List (List Nat)}(c:List (List (Nat×Value) ->List eH->Prop))(E:U w0 S w)(e:∀w,U w0 S w->I w)
 (g:bi P n ops w0 S f cs c) (hr:vv c (λus i=>∀w',U w0 (i++S) w'->e2 P n ops e9 I Q r (oQ us f) w')):e2 P n ops e9 I Q (.sL cs r) f w:=by
 unfold e2;intro listed a j d hinv ep k;simp only[dg,Bool.and_eq_true]at d;obtain⟨⟨G,Y⟩,ej⟩:=d;have hinv:=(hinv.resolve_right (λh=>by cases h)).1;obtain⟨σ,b,l,eQ,m,o,fH,up⟩:=g.build;refine XK j e k ej _ σ listed a w (by rw[l]) up (by rw[b];exact Fl G) (by rw[eQ];rfl) (by rw[b];exact Y) (by rw[b]) hinv ?_ ?_ ?_
 .rw[o];exact ep
 .rw[fH];exact E
 rw[m];exact hr
theorem io.step{P:Program}{n:Nat}{ops:Array Oper}{w0:World}{S:List eH}{f:te}{i:Nat}{l:List Nat}{u:List (Nat×Value)}{e:List eH}{K:List (Nat×Value) ->List eH->Prop}{d:Nat}{op:Op}{T:TypeId}{pos:String}{eO:Array Edge}
 (ew:ops[i]? =some ⟨some d,op,T,pos,eO,none⟩) (hd:Nat.blt d n=true) (h:∀(X:List eH)(w:World),U w0 (e++(S++X)) w->J P (oQ u f) ⟨some d,op,T,pos,eO,none⟩ w λv w'=>∃o1,U w0 (o1++(S++X)) w'/\io P n ops w0 S f l ((d,v)::u) o1 K):
 io P n ops w0 S f (i::l) u e K:=⟨d,op,T,pos,eO,ew,by simpa using hd,h⟩
theorem io.nil{P:Program}{n:Nat}{ops:Array Oper}{w0:World}{S:List eH}{f:te}{u:List (Nat×Value)}{e:List eH}{K:List (Nat×Value) ->List eH->Prop}(h:K u e):io P n ops w0 S f [] u e K:=h
theorem bi.nil{P:Program}{n:Nat}{ops:Array Oper}{w0:World}{S:List eH}{f:te}:bi P n ops w0 S f [] []:=trivial
theorem bi.cons{P:Program}{n:Nat}{ops:Array Oper}{w0:World}{S:List eH}{f:te}{c:List Nat}{cs:List (List Nat)}{K:List (Nat×Value) ->List eH->Prop}{a:List (List (Nat×Value) ->List eH->Prop)}(h:io P n ops w0 S f c [] [] K)(b:bi P n ops w0 S f cs a):bi P n ops w0 S f (c::cs) (K::a):=⟨h,b⟩
theorem vv.nil{sh:List (Nat×Value) ->List eH->Prop}(h:sh [] []):vv [] sh:=h
theorem vv.cons{K:List (Nat×Value) ->List eH->Prop}{a:List (List (Nat×Value) ->List eH->Prop)}{sh:List (Nat×Value) ->List eH->Prop}(h:∀u e,K u e->vv a λus b=>sh (u++us) (e++b)):vv (K::a) sh:=h
end
class vx(P:Program):Prop where out:P.follows .mixedOrders=true
section
variable{P:Program}{n:Nat}{Q:Exit->te->World->Prop}{f:te}{w:World}
def bn(ops:Array Oper)(e9:Nat):Bool:=decide (e9=ops.size)||(decide (e9<ops.size)&&Hu .any ops e9&&Region.chainB .any ops e9)
theorem HT{ops:Array Oper}{e9:Nat}(h:bn ops e9=true):gR .any ops e9 (Array.replicate ops.size false):=by
 simp only[bn,Bool.or_eq_true,Bool.and_eq_true,decide_eq_true_eq]at h;rcases h with h|⟨⟨G,Y⟩,ej⟩
 .exact .inl h
 exact .inr ⟨G,Y,ej,⟨by simp,λj b _ eB=>(by rw[getD_replicate_false]at eB;cases eB),λt _ a=>getD_in (by simpa using a) (getD_replicate_false _ _)⟩⟩
theorem TI[e5:vx P]{id:Nat}{l:List Oper}(e9:Nat)(r:sF)(b:(Region.noSelect l.toArray&&bn l.toArray e9&&dg l.toArray e9 (Array.replicate l.toArray.size false) r&&decide (lK r=l.length))=true)
 (d:∀(c:List PanicEntry) f f1 w,Q (.panic c) f w->Q (.panic c) f1 w) (h:∀aB,eV w aB->∃I:World->Prop,I aB/\e2 P n l.toArray e9 I Q r f aB):ek P n (.region id l.toArray true) Q f w:=by
 simp only[Bool.and_eq_true,decide_eq_true_eq]at b;obtain⟨⟨⟨e,g⟩,b⟩,hlen⟩:=b;unfold ek;obtain⟨I,i,h⟩:=h _ (eV.drawn w (w.drawn+1));unfold e2 at h;intro a ep;refine wp_region_any e5.out ?_;have:=Ip _ _ _ _ (h _ a e b (.inl ⟨HT g,i⟩) ep d);rw[hlen]at this;simpa using this
theorem vj[e5:vx P]{id:Nat}{l:List Oper}(e9:Nat)(r:sF)(a:(Region.noSelect l.toArray&&bn l.toArray e9&&dg l.toArray e9 (Array.replicate l.toArray.size false) r&&decide (lK r=l.length))=true)
 (b:∀(c:List PanicEntry) f w,¬Q (.panic c) f w) (h:∀aB,eV w aB->∃I:World->Prop,I aB/\e2 P n l.toArray e9 I Q r f aB):ek P n (.region id l.toArray true) Q f w:=
 TI e9 r a (λc f _ w h=>absurd h (b c f w)) h
theorem gC[e5:vx P]{id:Nat}{l:List Oper}(e9:Nat)(r:sF)(a:(Region.noSelect l.toArray&&bn l.toArray e9&&dg l.toArray e9 (Array.replicate l.toArray.size false) r&&decide (lK r=l.length))=true)
 (b:∀(c:List PanicEntry) f w,¬Q (.panic c) f w) (h:∀aB,eV w aB->e2 P n l.toArray e9 (eV aB) Q r f aB):ek P n (.region id l.toArray true) Q f w:=
 vj e9 r a b λaB d=>⟨eV aB,eV.refl aB,h aB d⟩
end
end
section
variable{a c:Int}{k:Nat}
theorem HA(w n:Nat):BitVec.ofInt w (n:Int)=BitVec.ofNat w n:=by simp
theorem X7(a b:Nat)(ep:a<9223372036854775808)(hb:b<9223372036854775808):hL .or .i64 a b=((a|||b:Nat):Int):=by
 show IntKind.i64.wrap ((BitVec.ofInt 64 (a:Int)|||BitVec.ofInt 64 (b:Int)).toNat:Int)=_;have h:a|||b<2^63:=Nat.or_lt_two_pow ep hb;simp only[HA,BitVec.toNat_or,BitVec.toNat_ofNat];rw[Nat.mod_eq_of_lt (by omega),Nat.mod_eq_of_lt (by omega)];exact wrap_i64 (by omega)
theorem Ij(a b:Nat)(ep:a<18446744073709551616)(hb:b<18446744073709551616):hL .or .u64 a b=((a|||b:Nat):Int):=by
 show IntKind.u64.wrap ((BitVec.ofInt 64 (a:Int)|||BitVec.ofInt 64 (b:Int)).toNat:Int)=_;have h:a|||b<2^64:=Nat.or_lt_two_pow ep hb;simp only[HA,BitVec.toNat_or,BitVec.toNat_ofNat];rw[Nat.mod_eq_of_lt (by omega),Nat.mod_eq_of_lt (by omega)];exact wrap_u64 (by omega)
theorem HO(a b:Nat)(ep:a<18446744073709551616)(hb:b<18446744073709551616):hL .and .u64 a b=((a&&&b:Nat):Int):=by
 show IntKind.u64.wrap ((BitVec.ofInt 64 (a:Int)&&&BitVec.ofInt 64 (b:Int)).toNat:Int)=_;have h:a&&&b<=a:=Nat.and_le_left;simp only[HA,BitVec.toNat_and,BitVec.toNat_ofNat];rw[Nat.mod_eq_of_lt (by omega),Nat.mod_eq_of_lt (by omega)];exact wrap_u64 (by omega)
theorem HI(a m i:Nat)(h:a<2^i):a|||m*2^i=a+m*2^i:=by
 have:=Nat.two_pow_add_eq_or_of_lt h m;rw[Nat.or_comm,Nat.mul_comm m,<-this];omega
theorem X8(c:UInt8):hL .andNot .u8 (c.toNat:Int) 128=((c.toNat%128:Nat):Int):=by
 have h:∀m:Fin 256,hL .andNot .u8 (m.val:Int) 128=((m.val%128:Nat):Int):=by decide+kernel
 exact h ⟨c.toNat,c.toNat_lt⟩
theorem X9(d:k<64)(b:a*2^k=c)(hb: -9223372036854775808<=c/\c<=9223372036854775807):IntKind.i64.wrap (a*2^(min (Int.toNat (k:Int)) IntKind.i64.bits))=c:=by
 have:min (Int.toNat (k:Int)) IntKind.i64.bits=k:=by simp[IntKind.bits];omega
 rw[this,b];exact wrap_i64 hb
theorem Fm(d:k<64)(b:a*2^k=c)(hb:0<=c/\c<=18446744073709551615):IntKind.u64.wrap (a*2^(min (Int.toNat (k:Int)) IntKind.u64.bits))=c:=by
 have:min (Int.toNat (k:Int)) IntKind.u64.bits=k:=by simp[IntKind.bits];omega
 rw[this,b];exact wrap_u64 hb
theorem Je{a:Nat}{K:IntKind}(b:k<=K.bits):Int.fdiv (a:Int) (2^(min (Int.toNat (k:Int)) K.bits))=((a/2^k:Nat):Int):=by
 have:min (Int.toNat (k:Int)) K.bits=k:=by simp;omega
 rw[this,Int.fdiv_eq_ediv_of_nonneg _ (by exact Int.le_of_lt (Int.pow_pos (by omega)))];simp
theorem wb(c:UInt8):c.toNat<256:=c.toNat_lt
end
section
open Go.ChangeShapes Go.WideShapes Go.ChangeAt
variable{P:Program}{H:Type}{f:Func}{W:World}{args:Array Value}
section
variable{H:Type}{enc:TypeId×Value->H}{P:Program}{w:World}
abbrev dP(enc:TypeId×Value->H)(P:Program)(w:World)(fuel:Nat)(t:TypeId)(cs:List Value):Option (DataW H×List MemPlace):=DataW.trod enc P w 0 (λ_=>true) true fuel t cs
def yd(P:Program)(t:TypeId)(α:Type)[O α](I:World->α->Prop):Prop:=
 ∀(H:Type)(enc:TypeId×Value->H)(w:World)(fuel:Nat)(cs:List Value)(d:DataW H)(ps:List MemPlace),dP enc P w fuel t cs=some (d,ps) ->∃x:α,cs=(O.enc x).toList/\I w x
theorem HN{t:TypeId}{k:IntKind}(a:P.underlying t=some (.int k)){fuel:Nat}{cs:List Value}{d:DataW H}{ps:List MemPlace}(h:dP enc P w fuel t cs=some (d,ps)):∃n,cs=[.int k n]/\(Lit.int k n).wf=true:=by
 cases fuel with
 |zero=>simp[dP,DataW.trod]at h
 |succ fuel=>
  unfold dP DataW.trod at h;rw[a]at h;split at h<;>simp_all
theorem Jt{t:TypeId}(a:P.underlying t=some .bool){fuel:Nat}{cs:List Value}{d:DataW H}{ps:List MemPlace}(h:dP enc P w fuel t cs=some (d,ps)):∃b,cs=[.bool b]:=by
 cases fuel with
 |zero=>simp[dP,DataW.trod]at h
 |succ fuel=>
  unfold dP DataW.trod at h;rw[a]at h;split at h<;>simp_all
theorem Iq{α b:Type}{g:α->Option b}:∀{l:List α}{r:List b},l.mapM g=some r->∀x∈l,∃y,g x=some y
 |[],_,_=>by simp
 |a::l,r,h=>by
  simp only[List.mapM_cons]at h;cases ep:g a with
  |none=>simp[ep]at h
  |some y=>
   cases eB:l.mapM g with
   |none=>simp[ep,eB]at h
   |some c=>
    intro x Z;rcases List.mem_cons.1 Z with rfl|Z
    .exact⟨y,ep⟩
    exact Iq eB x Z
theorem Ja{t:TypeId}{nk:Array Field}(a:P.underlying t=some (.struct nk)){fuel:Nat}{cs:List Value}{d:DataW H}{ps:List MemPlace}(h:dP enc P w fuel t cs=some (d,ps)):
 cs.length=P.cellsOf t/\∃b,∀f∈nk.toList,∃y,dP enc P w b f.type ((cs.drop f.offset).take (P.cellsOf f.type))=some y:=by
 cases fuel with
 |zero=>simp[dP,DataW.trod]at h
 |succ fuel=>
  unfold dP DataW.trod at h;rw[a]at h;simp only at h;split at h
  .rename_i eB;refine⟨eB,fuel,?_⟩;rw[Option.map_eq_some_iff]at h;obtain⟨xs,Z,_⟩:=h;exact Iq Z
  cases h
theorem Ff{t e:TypeId}(f:P.underlying t=some (.slice e)){fuel:Nat}{cs:List Value}{d:DataW H}{ps:List MemPlace}(h:dP enc P w fuel t cs=some (d,ps)):
 cs=[.slice none 0 0]∨∃a len cap g,cs=[.slice (some a) len cap]/\len<=cap/\cap<=maxLen/\∀i,i<cap->∃c y,w.cells? 0 (a.add (i*P.cellsOf e)) (P.cellsOf e)=some c/\dP enc P w g e c=some y:=by
 cases fuel with
 |zero=>simp[dP,DataW.trod]at h
 |succ fuel=>
  unfold dP DataW.trod at h;rw[f]at h;simp only at h;split at h
  case h_7=>exact .inl rfl
  case h_8 o1 a len cap j=>
   cases j;refine .inr ?_;split at h
   .rename_i hb;refine⟨_,_,_,fuel,rfl,hb.2.1,hb.2.2,λi ew=>?_⟩;simp only[if_true,Option.bind_eq_some_iff]at h;obtain⟨k,G,Y⟩:=h;rw[Option.map_eq_some_iff]at Y;obtain⟨rest,Y,_⟩:=Y;have key:∃y,(w.cells? 0 (a.add (i*P.cellsOf e)) (P.cellsOf e)).bind (DataW.trod enc P w 0 (λ_=>true) true fuel e)=some y:=by
     by_cases eB:i<len
     .exact Iq G i (List.mem_range.2 eB)
     obtain⟨y,b⟩:=Iq Y (i-len) (List.mem_range.2 (by omega));rw[show len+(i-len)=i by omega]at b;exact⟨y,b⟩
    obtain⟨y,b⟩:=key;rw[Option.bind_eq_some_iff]at b;obtain⟨c,ej,e8⟩:=b;exact⟨c,y,ej,e8⟩
   cases h
  all_goals simp_all
theorem Fp{a:Addr}{n:Nat}{l:List Value}(h:w.cells? 0 a n=some l):l.length=n/\∀j,j<n->w.cell? (a.add j)=l[j]? :=by
 simp only[World.cells?,Nat.zero_le,if_true]at h;have key:∀(no:List Nat)(r:List Value),no.mapM (λi=>w.cell? (a.add i))=some r->r.length=no.length/\∀(j x:Nat),no[j]? =some x->w.cell? (a.add x)=r[j]? :=by
  intro no;induction no with
  |nil=>intro r hr;simp at hr;subst hr;simp
  |cons x no c=>
   intro r hr;simp only[List.mapM_cons]at hr;cases G:w.cell? (a.add x)with
   |none=>simp[G]at hr
   |some v=>
    cases Y:no.mapM (λi=>w.cell? (a.add i))with
    |none=>simp[G,Y]at hr
    |some d=>
     simp[G,Y]at hr;subst hr;obtain⟨i1,i2⟩:=c d Y;refine⟨by simp[i1],λj y b=>?_⟩;cases j with
     |zero=>simp at b;subst b;simpa using G
     |succ j=>simpa using i2 j y (by simpa using b)
 obtain⟨e,f⟩:=key _ _ h;exact⟨by simpa using e,λj g=>f j j (by simp[g])⟩
theorem Jo{α:Type}{n:Nat}{p:Nat->α->Prop}(h:∀i,i<n->∃x,p i x):∃xs:List α,xs.length=n/\∀i x,xs[i]? =some x->p i x:=by
 induction n with
 |zero=>exact⟨[],rfl,by simp⟩
 |succ n a=>
  obtain⟨xs,eB,Z⟩:=a λi ew=>h i (by omega);obtain⟨y,b⟩:=h n (by omega);refine⟨xs++[y],by simp[eB],λi x ew=>?_⟩;rw[List.getElem?_append]at ew;split at ew
  .exact Z i x ew
  rename_i hlt;have:i=n:=by
   have:=(List.getElem?_eq_some_iff.1 ew).1;simp at this;omega
  subst this;simp[eB]at ew;subst ew;exact b
theorem Ji{α:Type}[O α]:∀(xs:List α)(j:Nat)(u:Value),(ij xs)[j]? =some u->∃x,xs[j/O.eo α]? =some x/\(O.enc x)[j%O.eo α]? =some u:=by
 intro xs j u h;have a:=O.pos (α:=α);have hlt:=(List.getElem?_eq_some_iff.1 h).1;rw[uc]at hlt;have ew:j/O.eo α<xs.length:=Nat.div_lt_of_lt_mul (by rw[Nat.mul_comm];exact hlt);refine⟨xs[j/O.eo α],List.getElem?_eq_getElem ew,?_⟩;have e5:j%O.eo α<(O.enc xs[j/O.eo α]).size:=by rw[O.ez];exact Nat.mod_lt _ a
 have:=Io xs _ _ (List.getElem?_eq_getElem ew) (j%O.eo α) _ (Array.getElem?_eq_getElem e5);rw[Nat.div_add_mod' j (O.eo α)]at this;rw[this]at h;rw[Array.getElem?_eq_getElem e5];exact h
theorem Fg{α:Type}[O α]{I:World->α->Prop}{t e:TypeId}(m:hl P t e)(n:yd P e α I)(p:nm P e (O.eo α)){fuel:Nat}{v:Value}{d:DataW H}{ps:List MemPlace}(h:dP enc P w fuel t [v]=some (d,ps)):
 ∃xs:List α,ex w v xs/\∀x∈xs,I w x:=by
 have q:P.cellsOf e=O.eo α:=by
  have:=p.out;unfold Program.cellsOf;rw[this];rfl
 have k:=O.pos (α:=α);rcases Ff m.out h with em|⟨a,len,cap,r,em,eB,e5,c⟩
 .simp at em;subst em;exact⟨[],ex.nil w,by simp⟩
 simp at em;subst em;rw[q]at c;have z:∀i,i<len->∃x:α,(∀j,j<O.eo α->w.cell? ((a.add (i*O.eo α)).add j)=(O.enc x)[j]?)/\I w x:=by
  intro i ew;obtain⟨f,y,G,Y⟩:=c i (by omega);obtain⟨x,Z,A⟩:=n H enc w r f y.1 y.2 Y;obtain⟨_,e8⟩:=Fp G;exact⟨x,λj B=>by rw[e8 j B,Z];simp,A⟩
 obtain⟨xs,o2,l⟩:=Jo z;refine⟨xs,⟨some a,cap,by rw[o2],by omega,e5,by simp,λL C M=>?_⟩,λx Z=>?_⟩
 .cases C;have g:a.spot=none:=by
   obtain⟨f,y,G,_⟩:=c 0 (by omega);obtain⟨ej,e8⟩:=Fp G;have au:=e8 0 k;have a2:f[0]?≠none:=by rw[List.getElem?_eq_getElem (by omega)];simp
   rw[<-au]at a2;simp only[Nat.zero_mul]at a2;have D:(a.add 0).add 0=a:=by simp[Addr.add]
   rw[D]at a2;unfold World.cell? at a2;cases E:a.spot with
   |none=>rfl
   |some s=>simp[E]at a2;split at a2<;>simp at a2
  refine⟨g,λj u F=>?_⟩;obtain⟨x,J,K⟩:=Ji xs j u F;have iK:=(l _ _ J).1 (j%O.eo α) (Nat.mod_lt _ k);rw[K]at iK;rw[<-iK];obtain⟨b,o,s⟩:=a;simp only at g;subst g;rw[wh,wh];congr 2;rw[Nat.add_assoc,Nat.div_add_mod' j (O.eo α)]
 obtain⟨i,ew⟩:=List.getElem?_of_mem Z;exact(l i x ew).2
end
theorem Js{t:TypeId}[h:hZ P t .u8]:yd P t UInt8 (λ_ _=>True):=by
 intro H enc w fuel cs d ps hr;obtain⟨n,rfl,a⟩:=HN h.out hr;have hb:0<=n/\n<=255:=by simpa[Lit.wf,IntKind.min,IntKind.max,IntKind.signed,IntKind.bits]using a
 refine⟨UInt8.ofNat n.toNat,?_,trivial⟩;simp[XA];omega
section
variable{H:Type}{enc:TypeId×Value->H}{P:Program}{W:World}{base:Nat}{v:Value}{d:DataW H}{ps:List MemPlace}{t:TypeId}
theorem Jr{α:Type}[O α]{I:World->α->Prop}(ep:mj P t)(c:yd P t α I)(a:Value.okWide P W .any base t v)(hr:DataW.Trod enc P W 0 (λ_=>true) true t v d ps):∃x:α,v= .agg (O.enc x)/\I W x:=by
 have ep:=ep.out;unfold vm at ep;unfold Value.okWide at a;obtain⟨fuel,hr⟩:=hr;have e:∃cs,v= .agg cs:=by
  cases b:P.underlying t with
  |none=>simp[b]at ep
  |some x=>
   rw[b]at a ep;cases x<;>simp at ep<;>(obtain⟨cs,h,_⟩:=a;exact⟨cs,h⟩)
 obtain⟨cs,rfl⟩:=e;obtain⟨x,Z,f⟩:=c H enc W fuel _ d ps hr;refine⟨x,?_,f⟩;simp only[Value.cells]at Z;congr 1;exact Array.toList_inj.1 Z
theorem Jh{α:Type}[O α]{I:World->α->Prop}{e:TypeId}(b:hl P t e)(c:yd P e α I)(f:nm P e (O.eo α))(g:Value.okWide P W .any base t v)(hr:DataW.Trod enc P W 0 (λ_=>true) true t v d ps):
 ∃xs:List α,ex W v xs/\∀x∈xs,I W x:=by
 obtain⟨a,len,cap,rfl⟩:=okWide_slice b.out g;obtain⟨fuel,hr⟩:=hr;exact Fg b c f hr
theorem Jl(a:hZ P t .u8)(b:Value.okWide P W .any base t v)(hr:DataW.Trod enc P W 0 (λ_=>true) true t v d ps):∃n:Nat,v= .int .u8 (n:Int)/\n<=255:=by
 obtain⟨n,rfl,_,_,c⟩:=open_int a.out b hr;have e:0<=n/\n<=255:=by simpa[Lit.wf,IntKind.min,IntKind.max,IntKind.signed,IntKind.bits]using c
 exact⟨n.toNat,by congr 1;omega,by omega⟩
end
theorem Fy{H:Type}{enc:TypeId×Value->H}{P:Program}(eB:laidOutB P=true){W a:World}(hb:eV W a):
 ∀(nI:List TypeId)(vs:List Value)(uW:List (DataW H))(ps:List MemPlace),(∀t∈nI,P.readableRec t=true/\t<P.types.size) ->
  DataW.TrodAll enc P W 0 (λ_=>true) true nI vs uW ps->(∀x∈ps,x.block<W.heap.size) ->DataW.TrodAll enc P a 0 (λb=>decide (b<W.heap.size)) true nI vs uW ps
 |[],[],[],ps,_,h,_=>h
 |t::nI,v::vs,d::uW,ps,c,h,hlt=>by
  obtain⟨p,q,G,Y,rfl⟩:=h;have ej:=c t List.mem_cons_self;exact⟨p,q,Below.trod eB ej.1 ej.2 G hb (λx Z=>hlt x (List.mem_append_left _ Z)),Fy eB hb nI vs uW q (λt h=>c t (List.mem_cons_of_mem _ h)) Y (λx Z=>hlt x (List.mem_append_right _ Z)),rfl⟩
 |[],_::_,_,_,_,h,_=>by simp[DataW.TrodAll]at h
 |[],[],_::_,_,_,h,_=>by simp[DataW.TrodAll]at h
 |_::_,[],_,_,_,h,_=>by simp[DataW.TrodAll]at h
 |_::_,_::_,[],_,_,h,_=>by simp[DataW.TrodAll]at h
theorem Jd{enc:TypeId×Value->H}{s:ChangeSpec}(eB:laidOutB P=true)(d:∀t∈f.params.toList,P.readableRec t=true/\t<P.types.size)
 {a:World} {uW:List (DataW H)} {fD:List MemPlace} (tG:s.vars=[]) (o4:DataW.Whole enc P f.params.toList s.vars false W args.toList uW [] fD)
 (e:(s.fn H (uW++[])).results=[.lit (.bool true)]) (g:(s.fn H (uW++[])).args=uW) (i:(s.fn H (uW++[])).vars=[]) {tD:TypeId} (hr:f.resultTypes=#[tD]) (j:P.underlying tD=some .bool) (hb:eV W a):
 s.post enc P f false true false false W args (.bool true) a:=by
 have b:=o4;obtain⟨p,q,k,c,rfl,l,m⟩:=o4;rw[tG]at c;obtain⟨_,rfl⟩:=trodVars_none c;refine⟨uW,[],p++[],[],p,[],b,?_,?_,?_,hb.frame _,λh=>by cases h⟩
 .rw[e,hr];exact trodAll_mk1 (shut_bool j true)
 .rw[g];exact Fy eB hb _ _ _ _ d k (λx Z=>b.lt x (by simpa using Z))
 rw[i,tG];rfl
theorem Jc{enc:TypeId×Value->H}{F:FuncId}{s:ChangeSpec}
 (b:nr P F args W (λr w'=>r= .bool true/\eV W w')) (c:∀a,eV W a->s.post enc P f false true false false W args (.bool true) a):
 Calls P F args W λe a=>∃v,e= .returned v/\s.post enc P f false true false false W args v a:=by
 unfold nr at b;exact b.mono λe a⟨v,d,tG,hb⟩=>⟨.bool true,by rw[d,tG],c a hb⟩
end
section
open Go.ChangeShapes Go.WideShapes Go.ChangeAt
variable{n:Nat}
instance:O (Vector UInt8 (n+1))where
 enc v:=v.toArray.map λc=>.int .u8 c.toNat
 eo:=n+1
 pos:=by omega
 ez v:=by simp
 one v u a:=by simp at a;obtain⟨c,_,rfl⟩:=a;rfl
theorem q9(v:Vector UInt8 (n+1)):O.enc v=v.toArray.map (λc=>.int .u8 c.toNat):=rfl
theorem IA(l:List UInt8):ij l=l.map λc=>Value.int .u8 c.toNat:=by
 induction l with
 |nil=>rfl
 |cons c l a=>rw[yt,a];rfl
theorem II(v:Vector UInt8 (n+1)):(O.enc v).toList=ij v.toList:=by rw[IA];simp[q9,Vector.toList]
end
section
open Go.ChangeShapes Go.WideShapes Go.ChangeAt
variable{o e:Nat}{p:Array Value->Prop}
structure ec where
 a:Option Addr
 n:Nat
 c:Nat
def ec.v(s:ec):Value:=.slice s.a s.n s.c
instance:O ec where
 enc s:=#[s.v]
 eo:=1
 pos:=by omega
 ez _:=rfl
 one s u a:=by simp at a;subst a;rfl
instance:O Bool where
 enc s:=#[.bool s]
 eo:=1
 pos:=by omega
 ez _:=rfl
 one s u a:=by simp at a;subst a;rfl
theorem hu(a b:List (Array Value))(v:Value)(e1:(eK a).size=o):(eK (a++#[v]::b))[o]? =some v:=by
 subst e1;rw[qQ,cq,Array.getElem?_append_right (Nat.le_refl _),Nat.sub_self,Array.getElem?_append_left (by simp)];rfl
theorem p1(a b:List (Array Value))(p:Array Value)(e1:(eK a).size=o)(c:o+p.size=e):(eK (a++p::b)).extract o e=p:=by
 subst e1;subst c;rw[qQ,cq];simp
theorem vq{xs p:Array Value}{i:Nat}{v:Value}(h:xs.extract o e=p)(a:p[i]? =some v)(ew:o+i<e):xs[o+i]? =some v:=by
 subst h;rw[Array.getElem?_extract]at a;split at a
 .exact a
 cases a
theorem rD{ps:List (Array Value)}(h:∀p∈ps,∀u∈p.toList,u.oneCell'=true):∀u∈(eK ps).toList,u.oneCell'=true:=by
 induction ps with
 |nil=>intro u a;simp[vy]at a
 |cons p ps b=>
  intro u a;rw[cq,Array.toList_append,List.mem_append]at a;rcases a with a|a
  .exact h p List.mem_cons_self u a
  exact b (λq c=>h q (List.mem_cons_of_mem _ c)) u a
theorem ze(r:Option Nat):∀u∈(#[Value.map r]:Array Value).toList,u.oneCell'=true:=by intro u a;simp at a;subst a;rfl
theorem oZ(k:IntKind)(n:Int):∀u∈(#[Value.int k n]:Array Value).toList,u.oneCell'=true:=by intro u a;simp at a;subst a;rfl
theorem rC:∀q∈([]:List (Array Value)),p q:=by intro q a;cases a
theorem all_cons{x:Array Value}{l:List (Array Value)}(Z:p x)(eB:∀q∈l,p q):∀q∈x::l,p q:=by
 intro q a;rcases List.mem_cons.1 a with rfl|a
 .exact Z
 exact eB q a
theorem IN(p:Array Value)(ps:List (Array Value)):(eK (p::ps)).toList=p.toList++(eK ps).toList:=by rw[cq,Array.toList_append]
theorem wv{cs e r:List Value}{s:Nat}(h:(cs.drop o).take s=e)(hr:cs.drop (o+s)=r):cs.drop o=e++r:=by
 subst h;subst hr;rw[<-List.drop_drop,List.take_append_drop]
theorem Fv{P:Program}{T n:Nat}(h:nm P T n):P.cellsOf T=n:=by unfold Program.cellsOf;rw[h.out];rfl
section
variable{H:Type}{enc:TypeId×Value->H}{P:Program}{w:World}
theorem Fk{t:TypeId}{nk:Array Field}{n:Nat}(c:P.underlying t=some (.struct nk))(e:nm P t n){fuel:Nat}{cs:List Value}{d:DataW H}{ps:List MemPlace}(h:dP enc P w fuel t cs=some (d,ps)):
 cs.drop n=[]/\∃a,∀(i:Nat)(f:Field)(T o m:Nat),nk[i]? =some f->f.type=T->f.offset=o->nm P T m->∃d ps,dP enc P w a T ((cs.drop o).take m)=some (d,ps):=by
 obtain⟨eB,a,g⟩:=Ja c h;refine⟨List.drop_of_length_le (by rw[eB,Fv e];exact Nat.le_refl _),a,λi f T o m ew j e1 e5=>?_⟩;subst j;subst e1;obtain⟨y,b⟩:=g f (Array.mem_toList_iff.2 (Array.mem_of_getElem? ew));rw[Fv e5]at b;exact⟨y.1,y.2,b⟩
theorem TR{t:TypeId}(a:hZ P t .i64){fuel:Nat}{cs:List Value}{d:DataW H}{ps:List MemPlace}(h:dP enc P w fuel t cs=some (d,ps)):∃c:Int,cs=[.int .i64 c]/\-9223372036854775808<=c/\c<=9223372036854775807:=by
 obtain⟨n,rfl,b⟩:=HN a.out h;exact⟨n,rfl,by simpa[Lit.wf,IntKind.min,IntKind.max,IntKind.signed,IntKind.bits]using b⟩
theorem IS{t:TypeId}(a:hZ P t .u64){fuel:Nat}{cs:List Value}{d:DataW H}{ps:List MemPlace}(h:dP enc P w fuel t cs=some (d,ps)):∃c:Nat,cs=[.int .u64 c]/\c<=18446744073709551615:=by
 obtain⟨n,rfl,b⟩:=HN a.out h;have e:0<=n/\n<=18446744073709551615:=by simpa[Lit.wf,IntKind.min,IntKind.max,IntKind.signed,IntKind.bits]using b
 exact⟨n.toNat,by simp;omega,by omega⟩
theorem Fx{α:Type}[O α]{I:World->α->Prop}{t e:TypeId}(b:hl P t e)(c:yd P e α I)(f:nm P e (O.eo α)){fuel:Nat}{cs:List Value}{d:DataW H}{ps:List MemPlace}(h:dP enc P w fuel t cs=some (d,ps)):
 ∃s:ec,cs=[s.v]/\∃xs:List α,ex w s.v xs/\∀x∈xs,I w x:=by
 rcases Ff b.out h with rfl|⟨a,len,cap,_,rfl,_⟩
 .exact⟨⟨none,0,0⟩,rfl,[],ex.nil w,by simp⟩
 exact⟨⟨some a,len,cap⟩,rfl,Fg b c f h⟩
theorem Ju{α:Type}[O α]{I:World->α->Prop}{t:TypeId}(a:yd P t α I){fuel:Nat}{cs:List Value}{d:DataW H}{ps:List MemPlace}(h:dP enc P w fuel t cs=some (d,ps)):∃x:α,cs=(O.enc x).toList/\I w x:=a H enc w fuel cs d ps h
theorem Jm{α:Type}[O α]{I:World->α->Prop}{W:World}{base:Nat}{v:Value}{d:DataW H}{ps:List MemPlace}{t:TypeId}(a:yd P t α I)(ep:mj P t)(b:Value.okWide P W .any base t v)(hr:DataW.Trod enc P W 0 (λ_=>true) true t v d ps):∃x:α,v= .agg (O.enc x)/\I W x:=
 Jr ep a b hr
end
end
section
section
variable{α:Type}[O α]
theorem ex.Fj{w:World}{v:Value}{xs:List α}(h:ex w v xs){k m:Nat}(a:k<=xs.length)(e5:k<=m)(b:m<=s2 v):ex w (nz v 0 k m (O.eo α)) (xs.take k):=by
 have:=h.cut (l:=0) (h:=k) (m:=m) (Nat.zero_le _) a e5 b;simpa using this
end
section
variable{α:Type}[O α]{P:Program}{f:te}{w w0:World}{S:List eH}{R:Value->World->Prop}{d:Option Tmp}{T:TypeId}{pos:String}{eO:Array Edge}{eQ:Option (Nat×Bool)}
theorem J.hD{x:Operand}{v:Value}{t eb:Nat}{xs:List α}[hl P t eb](Z:eD f x=v)(a:ex w v xs)(h:R (.int .i64 xs.length) w):
 J P f ⟨d,.call {callee:=.builtin .len,args:=#[x],argTypes:=#[t]},T,pos,eO,eQ⟩ w R:=by
 subst Z;exact Xg a h
theorem J.cap{x:Operand}{v:Value}{t eb:Nat}{xs:List α}[b:hl P t eb](Z:eD f x=v)(tG:ex w v xs)(h:R (.int .i64 (s2 v)) w):
 J P f ⟨d,.call {callee:=.builtin .cap,args:=#[x],argTypes:=#[t]},T,pos,eO,eQ⟩ w R:=by
 obtain⟨a,c,rfl,_⟩:=tG;refine iz (v:=.int .i64 c) (w':=w) ?_ h;simp[execOp,resolve,invoke,builtin,Builtin.cap_,Z,run_underlying b.out,goInt]
theorem Jf{x y:Operand}{t eb r4:Nat}{z:Value}{ys:List α}[e:hl P t eb][g:nm P eb (O.eo α)][hb:y8 P eb r4][i:oB P eb z](j:z.cells.size=O.eo α)
 (E:U w0 S w) (Z:eD f x= .slice none 0 0) (l:ex w (eD f y) ys) (m:ys.length*r4<=140737488355328) (n:ys.length<=maxLen)
 (h:∀a w',eV w w'->U w0 (V a eb ys::S) w'->R a w'):
 J P f ⟨d,.call {callee:=.builtin .append,args:=#[x,y],argTypes:=#[t,t]},T,pos,eO,eQ⟩ w R:=by
 have em:l6 w (.slice none 0 0) eb ([]:List α):=.inl ⟨rfl,rfl⟩;obtain⟨a,w',hr,G,Y,ej⟩:=MR (P:=P) (ty:=T) e g hb i j em l (by simpa using m) (by simpa using n);have c:eV w w':=⟨Y.os,Y.tape,Y.output,Y.size,λk b=>Y.block k b (by simp[Value.ownBlock])⟩;refine iz (v:=a) (w':=w') ?_ (h a w' c ?_)
 .simp[execOp,resolve,invoke,builtin,Z,hr]
 rw[List.nil_append]at G;exact E.pB c G λk b=>by
  rcases ej k b with e8|e8
  .simp[Value.ownBlock]at e8
  exact e8.1
end
end
section
variable{n T e sl eo o d K:Nat}{P:Program}{w:World}{xs ys:Array Value}{f:Field}{nk:List Field}{r:Bool}
class k0(P:Program)(T:TypeId):Prop where out:P.eqGuardType P.depth T=false:=by kernel_rfl
class k1(P:Program)(T:TypeId)(α:Type)[O α][DecidableEq α](m:outParam Nat):Prop where
 run:∀(w:World)(d:Nat),m<=d->∀(x y:α),(Op.equalIn d T (.agg (O.enc x)) (.agg (O.enc y))).run P w= .ok (decide (x=y)) w
 le:m<=1000
theorem Fq(v:Vector UInt8 (n+1)):O.enc v=(v.toList.map Extern.Stop.cell).toArray:=by
 apply Array.ext';simp[q9,Vector.toList,Extern.Stop.cell]
class HS(a b:Nat):Prop where out:a=b
instance{a:Nat}:HS a a:=⟨rfl⟩
theorem Fz(ep:du P T (n+1) e)(ew:hZ P e .u8)(a:nm P e 1):k1 P T (Vector UInt8 (n+1)) 2 where
 le:=by omega
 run w d hd x y:=by
  obtain⟨d,rfl⟩:∃d',d=d'+2:=⟨d-2,by omega⟩;rw[Fq,Fq];rw[run_equalIn_bytes w d T e (n+1) ep.out ew.out (λw=>m5 a w) x.toList y.toList (by simp) (by simp)];congr 1;rw[Bool.eq_iff_iff];simp[<-Vector.toList_inj]
instance[ep:du P T sl e][a:HS sl (n+1)][ew:hZ P e .u8][b:nm P e 1]:k1 P T (Vector UInt8 (n+1)) 2:=Fz (a.out▸ep) ew b
theorem IR[ep:mj P T][a:nm P T eo](w:World)(cs:Array Value)(o:Nat):(part T cs o).run P w= .ok (.agg (cs.extract o (o+eo))) w:=by
 simp[part,Tm ep.out,m5 a]
theorem bh[ep:uX P T](w:World){cs:Array Value}{v:Value}(h:cs[o]? =some v):(part T cs o).run P w= .ok v w:=by
 simp[part,Tm ep.out,h]
theorem FE{α:Type}[O α][DecidableEq α]{m:Nat}[c:k1 P T α m][mj P T][nm P T eo]{a b:α}
 (hd:m<=d) (e:f.type=T) (e1:f.offset=o) (g:f.name≠ "_") (Z:xs.extract o (o+eo)=O.enc a) (h:ys.extract o (o+eo)=O.enc b)
 (hr:(Op.eqFields d xs ys nk).run P w= .ok r w):(Op.eqFields d xs ys (f::nk)).run P w= .ok (decide (a=b)&&r) w:=by
 subst e;subst e1;simp only[Op.eqFields,g,ne_eq,not_false_eq_true,if_true,Sem.run_bind,IR (eo:=eo) w xs,IR (eo:=eo) w ys,Result.andThen_ok,Z,h,c.run w d hd];cases decide (a=b)<;>simp[hr]
theorem ewN[hb:Ha P T][uX P T]{a b:Bool}
 (hd:1<=d) (c:f.type=T) (e1:f.offset=o) (g:f.name≠ "_") (Z:xs[o]? =some (.bool a)) (h:ys[o]? =some (.bool b))
 (hr:(Op.eqFields d xs ys nk).run P w= .ok r w):(Op.eqFields d xs ys (f::nk)).run P w= .ok (decide (a=b)&&r) w:=by
 subst c;subst e1;obtain⟨d,rfl⟩:∃d',d=d'+1:=⟨d-1,by omega⟩;have e:=run_equalIn_bool' (P:=P) w d f.type a b hb.out;simp only[Op.eqFields,g,ne_eq,not_false_eq_true,if_true,Sem.run_bind,bh w Z,bh w h,Result.andThen_ok,e];cases a<;>cases b<;>simp[hr]
theorem HR{k:IntKind}[hb:hZ P T k][uX P T]{a b:Int}
 (hd:1<=d) (c:f.type=T) (e1:f.offset=o) (g:f.name≠ "_") (Z:xs[o]? =some (.int k a)) (i:ys[o]? =some (.int k b))
 (hr:(Op.eqFields d xs ys nk).run P w= .ok r w):(Op.eqFields d xs ys (f::nk)).run P w= .ok (decide (a=b)&&r) w:=by
 subst c;subst e1;obtain⟨d,rfl⟩:∃d',d=d'+1:=⟨d-1,by omega⟩;have e:=run_equalIn_int (P:=P) w d f.type k k a b hb.out;simp only[Op.eqFields,g,ne_eq,not_false_eq_true,if_true,Sem.run_bind,bh w Z,bh w i,Result.andThen_ok,e];by_cases h:a=b<;>simp[h,hr]
theorem FT:(Op.eqFields d xs ys []).run P w= .ok true w:=rfl
theorem FA{t:Nat}{nk:Array Field}(a:P.underlying t=some (.struct nk))(c:P.stoodInHeld t=false)(h:(Op.eqFields d xs ys nk.toList).run P w= .ok r w):
 (Op.equalIn (d+1) t (.agg xs) (.agg ys)).run P w= .ok r w:=by
 have b:P.fieldsOf t=nk:=by simp[Program.fieldsOf,a]
 rw[run_equalIn_struct w d t xs ys (by rw[b];exact a) c,b];exact h
section
variable{P:Program}{f:te}{w:World}{R:Value->World->Prop}{d:Option Tmp}{T:TypeId}{pos:String}{eO:Array Edge}{eQ:Option (Nat×Bool)}
theorem jm{α:Type}[O α][DecidableEq α]{s t m:Nat}[c:k1 P s α m][e:k0 P s]{x y:Operand}{a b:α}(Z:eD f x= .agg (O.enc a))(g:eD f y= .agg (O.enc b))(h:R (.bool (decide (a=b))) w):J P f ⟨d,.binOp .eql s x y t,T,pos,eO,eQ⟩ w R:=by
 refine iz (v:=.bool (decide (a=b))) (w':=w) ?_ h;have i:(eqGuard .eql s x y (.agg (O.enc a)) (.agg (O.enc b))).run P w= .ok () w:=by simp[eqGuard,run_program,e.out]
 have j:(binOp .eql s (.agg (O.enc a)) (.agg (O.enc b))).run P w= .ok (.bool (decide (a=b))) w:=by
  rw[run_eql_struct,c.run w 10000 (Nat.le_trans c.le (by decide))];rfl
 simp only[execOp,Z,g,Sem.run_bind,i,j,Sem.run_pure,Result.andThen_ok]
theorem TH{α:Type}[O α][DecidableEq α]{s t m:Nat}[c:k1 P s α m][e:k0 P s]{x y:Operand}{a b:α}(Z:eD f x= .agg (O.enc a))(g:eD f y= .agg (O.enc b))(h:R (.bool (!decide (a=b))) w):J P f ⟨d,.binOp .neq s x y t,T,pos,eO,eQ⟩ w R:=by
 refine iz (v:=.bool (!decide (a=b))) (w':=w) ?_ h;have i:(eqGuard .neq s x y (.agg (O.enc a)) (.agg (O.enc b))).run P w= .ok () w:=by simp[eqGuard,run_program,e.out]
 have j:(binOp .neq s (.agg (O.enc a)) (.agg (O.enc b))).run P w= .ok (.bool (!decide (a=b))) w:=by
  rw[run_neq_struct,c.run w 10000 (Nat.le_trans c.le (by decide))];rfl
 simp only[execOp,Z,g,Sem.run_bind,i,j,Sem.run_pure,Result.andThen_ok]
end
class oi(tn:Type)where
 iu:tn->Value
 same:∀k,Instr.sameBits 10000 (iu k) (iu k)=true
section
variable{tn tx:Type}[DecidableEq tn]
def dE(e7:tx->Value)(k:tn):List (tn×tx) ->Nat->Option (Nat×Value)
 |[],_=>none
 |(x,v)::r,i=>if k=x then some (i,e7 v)else dE e7 k r (i+1)
def tL(k:tn):List (tn×tx) ->Option tx
 |[]=>none
 |(x,v)::r=>if k=x then some v else tL k r
def oC(k:tn)(v:tx):List (tn×tx) ->List (tn×tx)
 |[]=>[(k,v)]
 |(x,u)::r=>if k=x then(k,v)::r else(x,u)::oC k v r
def sp(k:tn):List (tn×tx) ->List (tn×tx)
 |[]=>[]
 |(x,u)::r=>if k=x then r else(x,u)::sp k r
theorem mT(k uy:tn)(v:tx):∀l:List (tn×tx),tL uy (oC k v l)=if uy=k then some v else tL uy l
 |[]=>by simp only[oC,tL]
 |(x,u)::r=>by
  have a:=mT k uy v r;simp only[oC];by_cases h:k=x
  .subst h;by_cases Y:uy=k<;>simp[tL,Y]
  by_cases Y:uy=x
  .subst Y;simp[tL,h,Ne.symm h]
  simp[tL,h,Y,a]
theorem IH(k:tn)(u v:tx):∀l:List (tn×tx),oC k v (oC k u l)=oC k v l
 |[]=>by simp[oC]
 |(x,y)::r=>by
  by_cases h:k=x
  .subst h;simp[oC]
  simp[oC,h,IH k u v r]
theorem HH{k x:tn}{v:tx}:∀{l:List (tn×tx)},x∈(oC k v l).map Prod.fst↔x=k∨x∈l.map Prod.fst
 |[]=>by simp[oC]
 |(y,u)::r=>by
  by_cases h:k=y
  .subst h;simp[oC]
  simp only[oC,h,if_false,List.map_cons,List.mem_cons];rw[HH (l:=r)];constructor
  .rintro(h|h|h)
   .exact .inr (.inl h)
   .exact .inl h
   exact .inr (.inr h)
  rintro(h|h|h)
  .exact .inr (.inl h)
  .exact .inl h
  exact .inr (.inr h)
theorem FO(k:tn)(v:tx):∀{l:List (tn×tx)},(l.map Prod.fst).Nodup->((oC k v l).map Prod.fst).Nodup
 |[],_=>by simp[oC]
 |(y,u)::r,h=>by
  simp only[List.map_cons,List.nodup_cons]at h;by_cases a:k=y
  .subst a;simpa[oC]using h
  simp only[oC,a,if_false,List.map_cons,List.nodup_cons];refine⟨λe5=>?_,FO k v h.2⟩;rcases HH.1 e5 with G|G
  .exact a G.symm
  exact h.1 G
theorem HD(k:tn):∀l:List (tn×tx),(sp k l).Sublist l
 |[]=>.slnil
 |(y,u)::r=>by
  by_cases a:k=y
  .simp only[sp,a,if_true];exact .cons _ (List.Sublist.refl _)
  simp only[sp,a,if_false];exact .cons₂ _ (HD k r)
theorem zt{k:tn}:∀{l:List (tn×tx)},tL k l=none↔k∉l.map Prod.fst
 |[]=>by simp[tL]
 |(y,u)::r=>by
  by_cases a:k=y
  .subst a;simp[tL]
  simp[tL,a,zt (l:=r)]
theorem HC(k uy:tn):∀{l:List (tn×tx)},(l.map Prod.fst).Nodup->tL uy (sp k l)=if uy=k then none else tL uy l
 |[],_=>by simp[sp,tL]
 |(x,u)::r,h=>by
  simp only[List.map_cons,List.nodup_cons]at h;have b:=HC k uy h.2;by_cases a:k=x
  .subst a;by_cases Y:uy=k
   .subst Y;simp[sp,zt.2 h.1]
   simp[sp,tL,Y]
  by_cases Y:uy=x
  .subst Y;simp[sp,tL,a,Ne.symm a]
  simp[sp,tL,a,Y,b]
theorem jf{e7:tx->Value}{k:tn}:∀{l:List (tn×tx)}{i:Nat},dE e7 k l i=none↔tL k l=none
 |[],_=>by simp[dE,tL]
 |(x,v)::r,i=>by by_cases h:k=x<;>simp[dE,tL,h,jf (l:=r)]
theorem k2{e7:tx->Value}{k:tn}:∀{l:List (tn×tx)}{i j:Nat}{u:Value},dE e7 k l i=some (j,u) ->∃m v,j=i+m/\u=e7 v/\l[m]? =some (k,v)/\tL k l=some v/\∀a,oC k a l=l.set m (k,a)/\sp k l=l.eraseIdx m
 |[],_,_,_,h=>by simp[dE]at h
 |(x,v)::r,i,j,u,h=>by
  by_cases b:k=x
  .subst b;simp[dE]at h;exact⟨0,v,by omega,h.2.symm,by simp,by simp[tL],λa=>by simp[oC,sp]⟩
  simp[dE,b]at h;obtain⟨m,cT,G,Y,ej,e8,au⟩:=k2 h;exact⟨m+1,cT,by omega,Y,by simpa using ej,by simp[tL,b,e8],λa=>by simp[oC,sp,b,(au a).1,(au a).2]⟩
theorem TL{k:tn}{v:tx}:∀{l:List (tn×tx)},tL k l=none->oC k v l=l++[(k,v)]
 |[],_=>rfl
 |(x,u)::r,h=>by
  by_cases a:k=x
  .simp[tL,a]at h
  simp[tL,a]at h;simp[oC,a,TL h]
theorem IL{k:tn}:∀{l:List (tn×tx)},tL k l=none->sp k l=l
 |[],_=>rfl
 |(x,u)::r,h=>by
  by_cases a:k=x
  .simp[tL,a]at h
  simp[tL,a]at h;simp[sp,a,IL h]
end
class u2(P:Program)(K:TypeId)(tn:Type)[DecidableEq tn][oi tn]:Prop where
 wk:∀(u3:Bool)(w:World)(k:tn),(Instr.checkKey u3 10000 K (oi.iu k)).run P w= .ok () w
 vz:∀{tx:Type}(e7:tx->Value)(w:World)(k:tn)(l:List MapEntry)(eI:List (tn×tx)),l.map (λe=>(e.key,e.val))=eI.map (λp=>(oi.iu p.1,e7 p.2)) ->(Instr.findKey K (oi.iu k) l).run P w= .ok (dE e7 k eI 0) w
theorem Jp(l:List UInt8)(n:Nat):((l.map (λc=>Value.int .u8 c.toNat)).zip (l.map (λc=>Value.int .u8 c.toNat))).all (λ(x,y)=>Instr.sameBits n x y)=true:=by
 induction l with
 |nil=>rfl
 |cons c l a=>simp[Instr.sameBits,a]
instance:oi (Vector UInt8 (n+1))where
 iu v:=.agg (O.enc v)
 same v:=by
  have h:=Jp v.toList 9999;rw[Instr.sameBits];simp only[beq_self_eq_true,Bool.true_and,II,IA];exact h
theorem HU{P:Program}{K:TypeId}{tn tx:Type}[DecidableEq tn][oi tn](e7:tx->Value)(w:World)(k:tn)(a:∀x:tn,(Op.equal K (oi.iu k) (oi.iu x)).run P w= .ok (decide (k=x)) w):
 ∀(l:List MapEntry)(eI:List (tn×tx))(i:Nat),l.map (λe=>(e.key,e.val))=eI.map (λp=>(oi.iu p.1,e7 p.2)) ->(Instr.findAsking K (oi.iu k) l i).run P w= .ok (dE e7 k eI i) w
 |[],[],i,_=>rfl
 |e::l,(x,v)::eI,i,h=>by
  simp only[List.map_cons,List.cons.injEq,Prod.mk.injEq]at h;obtain⟨⟨G,Y⟩,ej⟩:=h;have c:=HU e7 w k a l eI (i+1) ej;simp only[Instr.findAsking,G,Sem.run_bind,a,Result.andThen_ok,dE,Y];by_cases b:k=x
  .simp[b]
  simp[b,c]
 |[],_::_,_,h=>by simp at h
 |_::_,[],_,h=>by simp at h
theorem Jg[ep:du P K (n+1) e][ew:hZ P e .u8][a:nm P e 1][m:uX P e](u3:Bool)(w:World)(k:Vector UInt8 (n+1)):(Instr.checkKey u3 10000 K (.agg (O.enc k))).run P w= .ok () w:=by
 show(Instr.checkKey u3 (9998+1+1) K (.agg (O.enc k))).run P w= .ok () w;generalize 9998=d;rw[Instr.checkKey];simp only[Sem.run_bind,run_underlying ep.out,Result.andThen_ok,Std.Legacy.Range.forIn_eq_forIn_range',Std.Legacy.Range.size,Nat.sub_zero,Nat.add_sub_cancel,Nat.div_one];have eB:∀i∈List.range' 0 (n+1) 1,i<n+1:=λi ew=>by simpa using(List.mem_range'_1.1 ew).2
 generalize List.range' 0 (n+1) 1=l at eB⊢;induction l with
 |nil=>simp
 |cons i l b=>
  have c:i<n+1:=eB i (by simp);have f:(part e (O.enc k) (i*1)).run P w= .ok (.int .u8 (k[i].toNat:Int)) w:=bh w (by simp[q9,c]);have g:(Instr.checkKey u3 (d+1) e (.int .u8 (k[i].toNat:Int))).run P w= .ok () w:=by
   rw[Instr.checkKey];simp only[Sem.run_bind,run_underlying ew.out,Result.andThen_ok];rfl
  simp only[List.forIn_cons,Sem.run_bind,m5 a,f,g,Result.andThen_ok,Sem.run_pure];exact b λj h=>eB j (by simp[h])
theorem Jw(ep:du P K (n+1) e)(ew:hZ P e .u8)(a:nm P e 1)(c:uX P e):u2 P K (Vector UInt8 (n+1))where
 wk u3 w k:=Jg u3 w k
 vz e7 w k l eI h:=by
  have b:∀x:Vector UInt8 (n+1),(Op.equal K (oi.iu k) (oi.iu x)).run P w= .ok (decide (k=x)) w:=λx=>(Fz ep ew a).run w 10000 (by decide) k x;have Y:=HU e7 w k b l eI 0 h;unfold Instr.findKey;simp only[Sem.run_bind,run_underlying ep.out,Result.andThen_ok];cases l with
  |nil=>
   cases eI with
   |nil=>rfl
   |cons p r=>simp at h
  |cons e l=>exact Y
instance[ep:du P K sl e][a:HS sl (n+1)][ew:hZ P e .u8][b:nm P e 1][c:uX P e]:u2 P K (Vector UInt8 (n+1)):=Jw (a.out▸ep) ew b c
def FI(aX:Array MapEntry)(clock:Nat):Prop:=(∀x∈aX.toList,x.born<clock)/\(aX.toList.map (·.born)).Nodup
section
variable{tn tx:Type}[DecidableEq tn][oi tn]
def yu(e7:tx->Value)(aX:Array MapEntry)(clock:Nat)(eI:List (tn×tx)):Prop:=
 aX.toList.map (λe=>(e.key,e.val))=eI.map (λp=>(oi.iu p.1,e7 p.2))/\FI aX clock/\(eI.map Prod.fst).Nodup
def hV(w:World)(r:Nat)(e7:tx->Value)(eI:List (tn×tx)):Prop:=∃aX clock,w.heap[r]? =some (.map aX clock)/\yu e7 aX clock eI
def FN(w:World)(r:Nat)(e7:tx->Value)(eI:List (tn×tx))(born:Nat)(k:tn):Prop:=
 ∃aX clock i v,w.heap[r]? =some (.map aX clock)/\yu e7 aX clock eI/\aX.findIdx? (λe=>(e.born:Int)==(born:Int))=some i/\dE e7 k eI 0=some (i,v)
@[irreducible] def tM (r:Nat) (e7:tx->Value) (eI:List (tn×tx)):eH:=⟨λk=>k=r,λw=>hV w r e7 eI,λw w' h⟨aX,c,G,Y⟩=>⟨aX,c,by rw[h r rfl];exact G,Y⟩⟩
@[irreducible] def k4 (r:Nat) (e7:tx->Value) (eI:List (tn×tx)) (born:Nat) (k:tn):eH:=⟨λk=>k=r,λw=>FN w r e7 eI born k,λw w' h⟨aX,c,i,v,G,Y⟩=>⟨aX,c,i,v,by rw[h r rfl];exact G,Y⟩⟩
theorem cA(r:Nat)(e7:tx->Value)(eI:List (tn×tx)):(tM r e7 eI).F=λk=>k=r:=by unfold tM;rfl
theorem mA(r:Nat)(e7:tx->Value)(eI:List (tn×tx)):(tM r e7 eI).A=λw=>hV w r e7 eI:=by unfold tM;rfl
theorem TD(r:Nat)(e7:tx->Value)(eI:List (tn×tx))(b:Nat)(k:tn):(k4 r e7 eI b k).F=λk=>k=r:=by unfold k4;rfl
theorem IC(r:Nat)(e7:tx->Value)(eI:List (tn×tx))(b:Nat)(k:tn):(k4 r e7 eI b k).A=λw=>FN w r e7 eI b k:=by unfold k4;rfl
def HF(w w':World)(v:Value)(e7:tx->Value)(eI:List (tn×tx)):Prop:=∃r,v= .map (some r)/\w.heap.size<=r/\hV w' r e7 eI
theorem k5{e7:tx->Value}{a:Array MapEntry}{clock:Nat}{eI:List (tn×tx)}(h:yu e7 a clock eI):a.size=eI.length:=by
 have:=congrArg List.length h.1;simpa using this
theorem HP{e7:tx->Value}{a:Array MapEntry}{clock i:Nat}{eI:List (tn×tx)}{k:tn}{v c:tx}(h:yu e7 a clock eI)(ew:eI[i]? =some (k,v))(g:MapEntry->MapEntry)(hb:∀e,(g e).born=e.born)
 (m:∀e,a[i]? =some e->((g e).key,(g e).val)=(oi.iu k,e7 c)):yu e7 (a.modify i g) clock (eI.set i (k,c)):=by
 obtain⟨G,⟨Y,ej⟩,e8⟩:=h;have d:(a.modify i g).toList.map (·.born)=a.toList.map (·.born):=by
  apply List.ext_getElem?;intro j;simp only[List.getElem?_map,Array.getElem?_toList,Array.getElem?_modify];split
  .rename_i b;subst b;cases a[i]? <;>simp[hb]
  rfl
 refine⟨?_,⟨?_,by rw[d];exact ej⟩,?_⟩
 .apply List.ext_getElem?;intro j;have au:=congrArg (λl=>l[j]?) G;simp only[List.getElem?_map,Array.getElem?_toList]at au;simp only[List.getElem?_map,Array.getElem?_toList,Array.getElem?_modify,List.getElem?_set];have n:i<eI.length:=(List.getElem?_eq_some_iff.1 ew).1;by_cases b:i=j
  .subst b;simp only[ew,Option.map_some,Option.map_eq_some_iff]at au;obtain⟨e,f,_⟩:=au;simp[f,m e f,n]
  simp[b,au]
 .intro x Z;have:x.born∈(a.modify i g).toList.map (·.born):=List.mem_map.2 ⟨x,Z,rfl⟩;rw[d]at this;obtain⟨y,o,e⟩:=List.mem_map.1 this;rw[<-e];exact Y y o
 have:(eI.set i (k,c)).map Prod.fst=eI.map Prod.fst:=by
  apply List.ext_getElem?;intro j;simp only[List.getElem?_map,List.getElem?_set];by_cases b:i=j
  .subst b;have p:=(List.getElem?_eq_some_iff.1 ew).2;simp[p,(List.getElem?_eq_some_iff.1 ew).1]
  simp[b]
 rw[this];exact e8
theorem FR{e7:tx->Value}{c:Array MapEntry}{clock:Nat}{eI:List (tn×tx)}{k:tn}{v:tx}(h:yu e7 c clock eI)(d:tL k eI=none):yu e7 (c.push {key:=oi.iu k,val:=e7 v,born:=clock}) (clock+1) (eI++[(k,v)]):=by
 obtain⟨G,⟨Y,ej⟩,e8⟩:=h;refine⟨by simp[G],⟨?_,?_⟩,?_⟩
 .intro x Z;simp only[Array.toList_push,List.mem_append,List.mem_singleton]at Z;rcases Z with Z|rfl
  .exact Nat.lt_succ_of_lt (Y x Z)
  exact Nat.lt_succ_self _
 .simp only[Array.toList_push,List.map_append,List.map_cons,List.map_nil];refine List.nodup_append.2 ⟨ej,by simp,λa ep b hb=>?_⟩;simp only[List.mem_singleton]at hb;subst hb;obtain⟨x,Z,rfl⟩:=List.mem_map.1 ep;exact Nat.ne_of_lt (Y x Z)
 simp only[List.map_append,List.map_cons,List.map_nil];refine List.nodup_append.2 ⟨e8,by simp,λa ep b hb=>?_⟩;simp only[List.mem_singleton]at hb;subst hb;intro e;subst e;exact zt.1 d ep
theorem HG{α a:Type}(g:α->a):∀(l:List α)(i:Nat),(l.eraseIdx i).map g=(l.map g).eraseIdx i
 |[],_=>rfl
 |_::_,0=>rfl
 |_::l,i+1=>by simp[HG g l i]
theorem Jy{e7:tx->Value}{a:Array MapEntry}{clock i:Nat}{eI:List (tn×tx)}(h:yu e7 a clock eI)(ew:i<eI.length):yu e7 (a.eraseIdxIfInBounds i) clock (eI.eraseIdx i):=by
 have d:=k5 h;obtain⟨G,⟨Y,ej⟩,e8⟩:=h;have b:(a.eraseIdxIfInBounds i).toList=a.toList.eraseIdx i:=by
  unfold Array.eraseIdxIfInBounds;rw[dif_pos (by omega)];simp
 have c:(a.eraseIdxIfInBounds i).toList.Sublist a.toList:=by rw[b];exact List.eraseIdx_sublist _ _
 refine⟨?_,⟨λx Z=>Y x (c.subset Z),(c.map _).nodup ej⟩,((List.eraseIdx_sublist _ _).map _).nodup e8⟩;rw[b,HG,HG,G]
theorem FH{P:Program}{w:World}{x:Value}(h:Instr.sameBits 10000 x x=true):(Instr.keyThatStays x x).run P w= .ok x w:=by
 unfold Instr.keyThatStays;rw[if_pos h];rfl
section
variable{P:Program}{f:te}{w w0:World}{S:List eH}{R:Value->World->Prop}{d:Option Tmp}{T:TypeId}{pos:String}{eO:Array Edge}{eQ:Option (Nat×Bool)}
theorem U.map{r:Nat}{e7:tx->Value}{eI:List (tn×tx)}(E:U w0 S w)(a:tP (tM r e7 eI) S):hV w r e7 eI:=by have:=E.get a;rw[mA]at this;exact this
theorem U.HW{w':World}{r:Nat}{e7:tx->Value}{eI:List (tn×tx)}(E:U w0 S w)(hb:eV w w')(e5:hV w' r e7 eI)(hr:w.heap.size<=r):U w0 (tM r e7 eI::S) w':=by
 refine E.new hb (by rw[mA];exact e5) (by
  rw[cA];intro k a;have a:k=r:=a;subst a;obtain⟨b,c,h,_⟩:=e5;exact⟨hr,(Array.getElem?_eq_some_iff.1 h).1⟩)
theorem U.vE{r:Nat}{e7:tx->Value}{eI:List (tn×tx)}(E:U w0 S w)(a:tP (tM r e7 eI) S):HF w0 w (.map (some r)) e7 eI:=by
 have Y:=(E.all _ a.mem).2;rw[cA]at Y;exact⟨r,rfl,(Y r rfl).1,E.map a⟩
theorem U.HY{r born:Nat}{k:tn}{e7:tx->Value}{eI:List (tn×tx)}(E:U w0 S w){tp:List eH}(a:iH (k4 r e7 eI born k) (tM r e7 eI) S tp):U w0 tp w:=by
 refine lv ⟨rfl,rfl,rfl,Nat.le_refl _,λ_ _ _=>rfl⟩ ?_ ?_ E a
 .have:=E.get a.kS;rw[IC]at this;obtain⟨b,c,i,v,G,Y,_⟩:=this;rw[mA];exact⟨b,c,G,Y⟩
 rw[cA,TD];exactλk d=>.inl d
theorem hV.es{w':World}{r:Nat}{e7:tx->Value}{eI:List (tn×tx)}(hb:eV w w')(h:hV w r e7 eI):hV w' r e7 eI:=by
 obtain⟨a,c,G,Y⟩:=h;exact⟨a,c,hb.get G,Y⟩
theorem J.makeMap(tn:Type)[DecidableEq tn][oi tn]{tx:Type}(e7:tx->Value){t:TypeId}(E:U w0 S w)(h:∀r w',eV w w'->U w0 (tM r e7 ([]:List (tn×tx))::S) w'->R (.map (some r)) w'):J P f ⟨d,.makeMap t none,T,pos,eO,eQ⟩ w R:=by
 have hb:eV w (w.alloc (.map #[] 0)):=eV.alloc w _;refine iz (v:=.map (some w.heap.size)) (w':=w.alloc (.map #[] 0)) ?_ (h _ _ hb (E.HW hb ⟨#[],0,heap_alloc_new w _,by simp,⟨by simp,by simp⟩,by simp⟩ (Nat.le_refl _)));simp[execOp,Instr.makeMap]
theorem J.lookup{t K eb r:Nat}{z:Value}{x ix:Operand}{k:tn}{e7:tx->Value}{eI:List (tn×tx)}[e5:rH P t K eb][a:u2 P K tn][e:oB P eb z](g:hV w r e7 eI)(Z:eD f x= .map (some r))(ew:eD f ix=oi.iu k)
 (h:R (((tL k eI).map e7).getD z) w):J P f ⟨d,.lookup t x ix false,T,pos,eO,eQ⟩ w R:=by
 obtain⟨j,c,hb,l⟩:=g;have n:=a.vz e7 w k j.toList eI l.1;refine iz (v:=((tL k eI).map e7).getD z) (w':=w) ?_ h;simp only[execOp,Instr.lookup,Z,ew,Sem.run_bind,run_underlying e5.out,Result.andThen_ok,MapKept.run_getObj_map hb,Sem.run_pure,a.wk,n];cases b:dE e7 k eI 0 with
 |none=>
  rw[jf.1 b];simp[vf e]
 |some p=>
  obtain⟨i,u⟩:=p;obtain⟨m,v,_,rfl,_,e8,_⟩:=k2 b;rw[e8];simp
theorem Jb{t K eb r:Nat}{z:Value}{x ix:Operand}{k:tn}{e7:tx->Value}{eI:List (tn×tx)}[e5:rH P t K eb][a:u2 P K tn][e:oB P eb z](g:hV w r e7 eI)(Z:eD f x= .map (some r))(ew:eD f ix=oi.iu k)
 (h:R (.tuple #[((tL k eI).map e7).getD z,.bool (tL k eI).isSome]) w):J P f ⟨d,.lookup t x ix true,T,pos,eO,eQ⟩ w R:=by
 obtain⟨j,c,hb,l⟩:=g;have n:=a.vz e7 w k j.toList eI l.1;refine iz (v:=.tuple #[((tL k eI).map e7).getD z,.bool (tL k eI).isSome]) (w':=w) ?_ h;simp only[execOp,Instr.lookup,Z,ew,Sem.run_bind,run_underlying e5.out,Result.andThen_ok,MapKept.run_getObj_map hb,Sem.run_pure,a.wk,n];cases b:dE e7 k eI 0 with
 |none=>
  rw[jf.1 b];simp[vf e]
 |some p=>
  obtain⟨i,u⟩:=p;obtain⟨m,v,_,rfl,_,e8,_⟩:=k2 b;rw[e8];simp
theorem jp{r:Nat}{o a:Obj}(hb:w.heap[r]? =some o):qV (λk=>k=r) w {w with heap:=w.heap.setIfInBounds r a}:=
 ⟨rfl,rfl,rfl,by simp,λk _ b=>by simp[Ne.symm b]⟩
theorem jg{r:Nat}{o a:Obj}(hb:w.heap[r]? =some o):({w with heap:=w.heap.setIfInBounds r a}:World).heap[r]? =some a:=by
 have:=(Array.getElem?_eq_some_iff.1 hb).1;simp[this]
theorem J.mapUpdate{t K eb r:Nat}{x ix y:Operand}{k:tn}{v:tx}{e7:tx->Value}{eI:List (tn×tx)}[e5:rH P t K eb][a:u2 P K tn](E:U w0 S w)(z:tP (tM r e7 eI) S)(Z:eD f x= .map (some r))(ew:eD f ix=oi.iu k)(q:eD f y=e7 v)
 (h:∀w',(∀tp,iH (tM r e7 eI) (tM r e7 (oC k v eI)) S tp->U w0 tp w') ->R undef w'):J P f ⟨d,.mapUpdate t x ix y,T,pos,eO,eQ⟩ w R:=by
 obtain⟨b,c,hb,g⟩:=E.map z;have s:=a.vz e7 w k b.toList eI g.1;cases j:dE e7 k eI 0 with
 |none=>
  have em:=jf.1 j;refine qK (w':={w with heap:=w.heap.setIfInBounds r (.map (b.push {key:=oi.iu k,val:=e7 v,born:=c}) (c+1))}) ?_ (h _ λtp n=>lv (by rw[cA];exact jp hb) ?_ ?_ E n)
  .simp[execOp,Instr.mapUpdate,Z,ew,q,run_underlying e5.out,MapKept.run_getObj_map hb,a.wk,s,j,MapKept.run_setObj_map _ hb]
  .rw[mA];exact⟨_,_,jg hb,by rw[TL em];exact FR g em⟩
  rw[cA,cA];exactλk a=>.inl a
 |some p=>
  obtain⟨i,u⟩:=p;obtain⟨m,am,G,rfl,ej,e8,au⟩:=k2 j;obtain rfl:i=m:=by omega
  have o:i<b.size:=by rw[k5 g];exact(List.getElem?_eq_some_iff.1 ej).1
  have A:(b[i]'o).key=oi.iu k:=by
   have:=congrArg (λl=>l[i]?) g.1;simp[ej,o]at this;exact this.1
  refine qK (w':={w with heap:=w.heap.setIfInBounds r (.map (b.modify i λe=>{e with key:=oi.iu k,val:=e7 v}) c)}) ?_ (h _ λtp n=>lv (by rw[cA];exact jp hb) ?_ ?_ E n)
  .simp[execOp,Instr.mapUpdate,Z,ew,q,run_underlying e5.out,MapKept.run_getObj_map hb,a.wk,s,j,o,A,FH (oi.same k),MapKept.run_setObj_map _ hb]
  .rw[mA];refine⟨_,_,jg hb,?_⟩;rw[(au v).1];exact HP g ej _ (λ_=>rfl) (λ_ _=>rfl)
  rw[cA,cA];exactλk a=>.inl a
theorem FD{a:Array MapEntry}{c i:Nat}(h:FI a c)(ew:i<a.size):a.findIdx? (λe=>(e.born:Int)==((a[i]'ew).born:Int))=some i:=by
 rw[Array.findIdx?_eq_some_iff_getElem];refine⟨ew,by simp,λj b=>?_⟩;have ej:=h.2;have d:(a[j]'(by omega)).born≠(a[i]'ew).born:=by
  intro e;have:=List.pairwise_iff_getElem.1 ej j i (by simp;omega) (by simpa using ew) b;simp at this;exact this e
 simp;omega
theorem J.mapEntry{t K eb r:Nat}{z0:tx}{x ix:Operand}{k:tn}{e7:tx->Value}{eI:List (tn×tx)}[e5:rH P t K eb][g:u2 P K tn](B:oB P eb (e7 z0))(E:U w0 S w)(C:tP (tM r e7 eI) S)(Z:eD f x= .map (some r))(ew:eD f ix=oi.iu k)
 (h:∀(born:Nat) w',(∀tp,iH (tM r e7 eI) (k4 r e7 (oC k ((tL k eI).getD z0) eI) born k) S tp->U w0 tp w') ->R (.tuple #[e7 ((tL k eI).getD z0),.int .i64 born]) w'):J P f ⟨d,.mapEntry t x ix,T,pos,eO,eQ⟩ w R:=by
 obtain⟨a,c,hb,j⟩:=E.map C;have y:=g.vz e7 w k a.toList eI j.1;cases n:dE e7 k eI 0 with
 |none=>
  have em:=jf.1 n;have o:=FR (v:=z0) j em;refine iz (v:=.tuple #[e7 z0,.int .i64 c]) (w':={w with heap:=w.heap.setIfInBounds r (.map (a.push {key:=oi.iu k,val:=e7 z0,born:=c}) (c+1))}) ?_ ?_
  .simp[execOp,Instr.mapEntry,Z,ew,run_underlying e5.out,MapKept.run_getObj_map hb,g.wk,y,n,MapKept.run_setObj_map _ hb,vf B,goInt]
  have G:=h c {w with heap:=w.heap.setIfInBounds r (.map (a.push {key:=oi.iu k,val:=e7 z0,born:=c}) (c+1))};rw[em]at G;simp only[Option.getD_none]at G;refine G λtp q=>lv (by rw[cA];exact jp hb) ?_ ?_ E q
  .rw[IC,TL em];refine⟨_,_,a.size,e7 z0,jg hb,o,?_,?_⟩
   .have:=FD o.2.1 (i:=a.size) (by simp);simpa using this
   have:∀(l:List (tn×tx))(i:Nat),tL k l=none->dE e7 k (l++[(k,z0)]) i=some (i+l.length,e7 z0):=by
    intro l;induction l with
    |nil=>intro i _;simp[dE]
    |cons p l D=>
     intro i eB;obtain⟨x,u⟩:=p;by_cases s:k=x
     .simp[tL,s]at eB
     simp[tL,s]at eB;simp[dE,s,D (i+1) eB];omega
   rw[this eI 0 em,k5 j];simp
  rw[cA,TD];exactλk g=>.inl g
 |some p=>
  obtain⟨i,u⟩:=p;obtain⟨m,am,G,rfl,ej,e8,au⟩:=k2 n;obtain rfl:i=m:=by omega
  have b:i<a.size:=by rw[k5 j];exact(List.getElem?_eq_some_iff.1 ej).1
  have z:(a[i]'b).key=oi.iu k/\(a[i]'b).val=e7 am:=by
   have:=congrArg (λl=>l[i]?) j.1;simp[ej,b]at this;exact this
  have o:yu e7 (a.modify i λe=>{e with key:=oi.iu k}) c (eI.set i (k,am)):=HP j ej _ (λ_=>rfl) (λe A=>by
   have:e=a[i]:=by rw[Array.getElem?_eq_getElem b]at A;cases A;rfl
   subst this;simp[z.2])
  refine iz (v:=.tuple #[e7 am,.int .i64 ((a[i]'b).born:Nat)]) (w':={w with heap:=w.heap.setIfInBounds r (.map (a.modify i λe=>{e with key:=oi.iu k}) c)}) ?_ ?_
  .simp[execOp,Instr.mapEntry,Z,ew,run_underlying e5.out,MapKept.run_getObj_map hb,g.wk,y,n,b,z.1,FH (oi.same k),MapKept.run_setObj_map _ hb,goInt]
  have a2:=h (a[i]'b).born {w with heap:=w.heap.setIfInBounds r (.map (a.modify i λe=>{e with key:=oi.iu k}) c)};rw[e8]at a2;simp only[Option.getD_some]at a2;refine a2 λtp q=>lv (by rw[cA];exact jp hb) ?_ ?_ E q
  .rw[IC,(au am).1];refine⟨_,_,i,e7 am,jg hb,o,?_,?_⟩
   .have F:i<(a.modify i λe=>{e with key:=oi.iu k}).size:=by simpa using b
    have:=FD o.2.1 (i:=i) F;simpa[Array.getElem_modify]using this
   have:eI.set i (k,am)=eI:=by
    have eB:=(List.getElem?_eq_some_iff.1 ej).1;have:eI[i]=(k,am):=(List.getElem?_eq_some_iff.1 ej).2;rw[<-this,List.set_getElem_self]
   rw[this];exact n
  rw[cA,TD];exactλk g=>.inl g
theorem J.entryStore{t r born:Nat}{x ix y:Operand}{k:tn}{v:tx}{e7:tx->Value}{eI:List (tn×tx)}(E:U w0 S w)(o:tP (k4 r e7 eI born k) S)(Z:eD f x= .map (some r))(ew:eD f ix= .int .i64 born)(p:eD f y=e7 v)
 (h:∀w',(∀tp,iH (k4 r e7 eI born k) (tM r e7 (oC k v eI)) S tp->U w0 tp w') ->R undef w'):J P f ⟨d,.entryStore t x ix y,T,pos,eO,eQ⟩ w R:=by
 have j:=E.get o;rw[IC]at j;obtain⟨a,c,i,u,hb,b,q,s⟩:=j;obtain⟨m,am,G,rfl,ej,e8,au⟩:=k2 s;obtain rfl:i=m:=by omega
 have g:i<a.size:=by rw[k5 b];exact(List.getElem?_eq_some_iff.1 ej).1
 have z:(a[i]'g).key=oi.iu k:=by
  have:=congrArg (λl=>l[i]?) b.1;simp[ej,g]at this;exact this.1
 refine qK (w':={w with heap:=w.heap.setIfInBounds r (.map (a.modify i λe=>{e with val:=e7 v}) c)}) ?_ (h _ λtp A=>lv (by rw[TD];exact jp hb) ?_ ?_ E A)
 .simp[execOp,Instr.entryStore,Z,ew,p,MapKept.run_getObj_map hb,asInt,asIntOf,q,MapKept.run_setObj_map _ hb]
 .rw[mA];refine⟨_,_,jg hb,?_⟩;rw[(au v).1];exact HP b ej _ (λ_=>rfl) (λe n=>by
   have:e=a[i]:=by rw[Array.getElem?_eq_getElem g]at n;cases n;rfl
   subst this;simp[z])
 rw[cA,TD];exactλk B=>.inl B
theorem FC{t K eb r:Nat}{x:Operand}{e7:tx->Value}{eI:List (tn×tx)}[e5:rH P t K eb](a:hV w r e7 eI)(Z:eD f x= .map (some r))(h:R (.int .i64 eI.length) w):
 J P f ⟨d,.call {callee:=.builtin .len,args:=#[x],argTypes:=#[t]},T,pos,eO,eQ⟩ w R:=by
 obtain⟨e,c,hb,b⟩:=a;refine iz (v:=.int .i64 eI.length) (w':=w) ?_ h;simp[execOp,resolve,invoke,builtin,Builtin.len_,Z,run_underlying e5.out,goInt,MapKept.run_getObj_map hb,k5 b]
theorem J.delete{t K eb r:Nat}{x ix:Operand}{k:tn}{e7:tx->Value}{eI:List (tn×tx)}[e5:rH P t K eb][a:u2 P K tn]{nI:Array TypeId}(l:nI[0]? =some t)(E:U w0 S w)(o:tP (tM r e7 eI) S)(Z:eD f x= .map (some r))(ew:eD f ix=oi.iu k)
 (h:∀w',(∀tp,iH (tM r e7 eI) (tM r e7 (sp k eI)) S tp->U w0 tp w') ->R (.tuple #[]) w'):J P f ⟨d,.call {callee:=.builtin .delete,args:=#[x,ix],argTypes:=nI},T,pos,eO,eQ⟩ w R:=by
 obtain⟨e,c,hb,g⟩:=E.map o;have n:=a.vz e7 w k e.toList eI g.1;cases b:dE e7 k eI 0 with
 |none=>
  have em:=jf.1 b;refine iz (v:=.tuple #[]) (w':={w with heap:=w.heap.setIfInBounds r (.map e c)}) ?_ (h _ λtp j=>lv (by rw[cA];exact jp hb) ?_ ?_ E j)
  .simp[execOp,resolve,invoke,builtin,Builtin.delete_,l,Z,ew,run_underlying e5.out,MapKept.run_getObj_map hb,a.wk,n,b,MapKept.run_setObj_map _ hb]
  .rw[mA];exact⟨_,_,jg hb,by rw[IL em];exact g⟩
  rw[cA,cA];exactλk a=>.inl a
 |some p=>
  obtain⟨i,u⟩:=p;obtain⟨m,am,G,rfl,ej,e8,au⟩:=k2 b;obtain rfl:i=m:=by omega
  refine iz (v:=.tuple #[]) (w':={w with heap:=w.heap.setIfInBounds r (.map (e.eraseIdxIfInBounds i) c)}) ?_ (h _ λtp j=>lv (by rw[cA];exact jp hb) ?_ ?_ E j)
  .simp[execOp,resolve,invoke,builtin,Builtin.delete_,l,Z,ew,run_underlying e5.out,MapKept.run_getObj_map hb,a.wk,n,b,MapKept.run_setObj_map _ hb]
  .rw[mA];exact⟨_,_,jg hb,by rw[(au am).2];exact Jy g (List.getElem?_eq_some_iff.1 ej).1⟩
  rw[cA,cA];exactλk a=>.inl a
end
end
end
end Go.Fer
