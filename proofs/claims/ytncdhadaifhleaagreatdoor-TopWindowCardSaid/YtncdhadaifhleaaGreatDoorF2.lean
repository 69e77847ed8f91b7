import Derived.Test.YtncdhadaifhleaaGreatDoorF1
import Derived.Maps.RangeRun
import Derived.Laws.Externs
import Derived.Laws.MakeOwn
import Derived.Laws.CopyRow
import Derived.SizedLaws
import Derived.RangeFuncRecord
import Derived.RangeFuncLeaves
import Derived.RangeFuncOwn
import Derived.RangeFuncSeq
import Derived.Scope
import Derived.RangeFuncBound
import Derived.OrdersIn
import Derived.Laws.MathBits
import Derived.Recover
import Derived.Lib.AppendZeros
set_option linter.all false
set_option synthInstance.maxSize 100000
set_option synthInstance.maxHeartbeats 400000
set_option maxHeartbeats 8000000
set_option maxRecDepth 100000
namespace Go.Fer
open Go Go.RowKit
section
section
variable{α:Type}[O α]
theorem Jx(xs:List α)(i:Nat)(y:α)(ew:i<xs.length)(j:Nat):
 (ij (xs.set i y))[j]? =if i*O.eo α<=j/\j<i*O.eo α+O.eo α then(O.enc y)[j-i*O.eo α]? else(ij xs)[j]? :=by
 have a:ij (xs.set i y)=ij (xs.take i)++((O.enc y).toList++ij (xs.drop (i+1))):=by
  rw[List.set_eq_take_append_cons_drop,if_pos ew,vp,yt]
 have b:ij xs=ij (xs.take i)++((O.enc xs[i]).toList++ij (xs.drop (i+1))):=by
  conv=>lhs;rw[<-List.take_append_drop i xs,List.drop_eq_getElem_cons ew]
  rw[vp,yt]
 have no:(ij (xs.take i)).length=i*O.eo α:=by rw[uc,List.length_take,Nat.min_eq_left (by omega)]
 have nd:(O.enc y).toList.length=O.eo α:=by rw[Array.length_toList,O.ez]
 have c:(O.enc xs[i]).toList.length=O.eo α:=by rw[Array.length_toList,O.ez]
 rw[a,b];by_cases G:j<i*O.eo α
 .rw[if_neg (by omega),List.getElem?_append_left (by omega),List.getElem?_append_left (by omega)]
 rw[List.getElem?_append_right (by omega),List.getElem?_append_right (l₁:=ij (xs.take i)) (by omega),no];by_cases Y:j<i*O.eo α+O.eo α
 .rw[if_pos (by omega),List.getElem?_append_left (by omega),Array.getElem?_toList]
 rw[if_neg (by omega),List.getElem?_append_right (l₁:=(O.enc y).toList) (by omega),List.getElem?_append_right (l₁:=(O.enc xs[i]).toList) (by omega),nd,c]
end
section
variable{α:Type}[O α]{P:Program}{f:te}{w w0:World}{S:List eH}{R:Value->World->Prop}{d:Option Tmp}{T:TypeId}{pos:String}{eO:Array Edge}{eQ:Option (Nat×Bool)}
theorem pd{m eb eo:Nat}{x y:Operand}{v u:Value}{xs:List α}{i off:Nat}{l9:α}[s:nm P m eo](E:U w0 S w)(t:tP (V v eb xs) S)(ew:i<xs.length)(Z:eD f x=rs (oX v i (O.eo α)) off)(z:eD f y=u)
 (A:u.cells.size=eo) (K:off+eo<=O.eo α) (G:∀c∈u.cells.toList,c.oneCell'=true) (B:iI (O.enc (xs[i]'ew)) off u.cells=O.enc l9)
 (h:∀w',(∀tp,iH (V v eb xs) (V v eb (xs.set i l9)) S tp->U w0 tp w') ->R undef w'):J P f ⟨d,.store m x y,T,pos,eO,eQ⟩ w R:=by
 have e1:=E.cQ t;rcases e1 with⟨_,rfl⟩|⟨g,cap,ne,rfl,n,o,C,L,D⟩
 .simp at ew
 have hmul:i*O.eo α+O.eo α<=xs.length*O.eo α:=by
  have:=Nat.mul_le_mul_right (O.eo α) (show i+1<=xs.length from ew);rw[Nat.succ_mul]at this;exact this
 have M:xs.length*O.eo α<=cap*O.eo α:=Nat.mul_le_mul_right _ o;have F:eD f x= .pointer (some ⟨g,i*O.eo α+off,none⟩):=by rw[Z];simp[oX,rs]
 have hr:=Iu (P:=P) s n (i*O.eo α+off) u A (by omega) G;have H:(ne.toList.take (i*O.eo α+off)++u.cells.toList++ne.toList.drop (i*O.eo α+off+u.cells.toList.length)).toArray=iI ne (i*O.eo α+off) u.cells:=by
  unfold iI;apply Array.ext';simp only[Array.toList_append,Array.toList_extract,List.extract_eq_take_drop,Nat.sub_zero,List.drop_zero,Array.length_toList];congr 1;rw[List.take_of_length_le (by simp)]
 rw[H]at hr;refine qK (w':=w.setRow g (iI ne (i*O.eo α+off) u.cells)) ?_ (h _ λtp I=>lv ?_ ?_ ?_ E I)
 .simp[execOp,Instr.storeAt,F,z,Instr.sureAddr,hr]
 .rw[dm];exact⟨rfl,rfl,rfl,by simp[World.setRow],λk _ b=>setRow_other w g k _ (λe=>b (by simp[Value.ownBlock,e]))⟩
 .rw[df];refine .inr ⟨g,cap,iI ne (i*O.eo α+off) u.cells,by simp,setRow_heap w g ne _ eb _ n,by simpa using o,C,?_,?_⟩
  .unfold iI;simp;omega
  apply List.ext_getElem?;intro j;rw[Jx xs i l9 ew j,List.getElem?_take,Array.getElem?_toList,List.length_set];have a:=congrArg (λl=>l[j]?) D;simp only[List.getElem?_take,Array.getElem?_toList]at a;by_cases p:j<xs.length*O.eo α
  .rw[if_pos p]at a⊢;rw[wu ne u.cells _ (by omega) j];by_cases hin:i*O.eo α<=j/\j<i*O.eo α+O.eo α
   .rw[if_pos hin,<-B,wu _ u.cells off (by rw[O.ez];omega)];have q:=Io xs i xs[i] (List.getElem?_eq_getElem ew) (j-i*O.eo α) ((O.enc xs[i])[j-i*O.eo α]'(by rw[O.ez];omega)) (Array.getElem?_eq_getElem _);rw[show i*O.eo α+(j-i*O.eo α)=j by omega]at q;by_cases r:i*O.eo α+off<=j/\j<i*O.eo α+off+u.cells.size
    .rw[if_pos r,if_pos (by omega)];congr 1;omega
    rw[if_neg r,if_neg (by omega),a,q];exact(Array.getElem?_eq_getElem _).symm
   rw[if_neg hin,if_neg (by omega)];exact a
  rw[if_neg p,if_neg (by omega)];exact(List.getElem?_eq_none (by rw[uc];omega)).symm
 rw[dm,dm];intro k b;exact .inl b
theorem fi{x ix:Operand}{t n eb eo b o:Nat}{k:IntKind}{i:Int}[a:du P t n eb][c:nm P eb eo](Z:eD f x= .pointer (some ⟨b,o,none⟩))(ew:eD f ix= .int k i)(hb:0<=i/\i<(n:Int))
 (h:R (.pointer (some ⟨b,o+i.toNat*eo,none⟩)) w):J P f ⟨d,.indexAddr t x ix,T,pos,eO,eQ⟩ w R:=by
 refine iz (v:=.pointer (some ⟨b,o+i.toNat*eo,none⟩)) (w':=w) ?_ h;simp[execOp,Instr.indexAt,ew,asIntOf,run_underlying a.out,Z,Instr.sureAddr,hb,m5 c,wh]
end
def aO(n:Nat):Vector UInt8 n:=Vector.replicate n 0
theorem iW(n:Nat):O.enc (aO (n+1))=Array.replicate (n+1) (.int .u8 0):=by simp[aO,q9]
theorem sg{n:Nat}(v:Vector UInt8 (n+1))(i:Nat)(ew:i<n+1)(c:UInt8):O.enc (v.set i c ew)=(O.enc v).setIfInBounds i (.int .u8 c.toNat):=by
 apply Array.ext_getElem?;intro j;simp only[q9,Vector.toArray_set,Array.getElem?_map,Array.getElem?_setIfInBounds,Array.getElem?_set,Array.size_map];by_cases h:i=j
 .subst h;simp[ew]
 simp[h]
section
variable{P:Program}{f:te}{w w0:World}{S:List eH}{R:Value->World->Prop}{d:Option Tmp}{T:TypeId}{pos:String}{eO:Array Edge}{eQ:Option (Nat×Bool)}
theorem nX{α:Type}[O α]{x ix:Operand}{v:Value}{t eb:Nat}{k:IntKind}{i:Int}{xs:List α}[b:hl P t eb][c:nm P eb (O.eo α)](Z:eD f x=v)(a:ex w v xs)(ew:eD f ix= .int k i)(hb:0<=i/\i<(xs.length:Int))
 (h:R (oX v i.toNat (O.eo α)) w):J P f ⟨d,.indexAddr t x ix,T,pos,eO,eQ⟩ w R:=by
 subst Z;exact Xw a ew hb h
theorem ag{eb:TypeId}{x:Operand}{ob v:Value}(Z:eD f x=ob)(eB:s1 P eb w ob v)(h:R v w):J P f ⟨d,.load eb x,T,pos,eO,eQ⟩ w R:=by
 subst Z;exact J.load eB h
theorem Jj{x:Operand}{a:Value}(h:eD f x=a):(#[x]:Array Operand).toList.map (eD f)=[a]:=by simp[h]
theorem HV{x y:Operand}{a b:Value}(h:eD f x=a)(Y:eD f y=b):(#[x,y]:Array Operand).toList.map (eD f)=[a,b]:=by simp[h,Y]
theorem ym{tn tx:Type}[DecidableEq tn][oi tn]{t K eb r:Nat}{z0 u:tx}{x ix:Operand}{k:tn}{e7:tx->Value}{eI:List (tn×tx)}[e5:rH P t K eb][c:u2 P K tn](g:oB P eb (e7 z0))(a:hV w r e7 eI)(Z:eD f x= .map (some r))(ew:eD f ix=oi.iu k)
 (b:(tL k eI).getD z0=u) (h:R (e7 u) w):J P f ⟨d,.lookup t x ix false,T,pos,eO,eQ⟩ w R:=by
 refine J.lookup (z:=e7 z0) a Z ew ?_;subst b;have e:((tL k eI).map e7).getD (e7 z0)=e7 ((tL k eI).getD z0):=by cases tL k eI<;>rfl
 rw[e];exact h
theorem iJ{α:Type}[O α]{eb a b:Nat}{x y:Operand}{r:α}{cs:Array Value}[i:nm P eb (O.eo α)](E:U w0 S w)(Z:eD f x= .pointer (some ⟨b,0,none⟩))(e:eD f y= .agg (O.enc r))(g:tP (B b cs a) S)(e1:cs.size=O.eo α)
 (h:∀w',(∀tp,iH (B b cs a) (B b (O.enc r) a) S tp->U w0 tp w') ->R undef w'):J P f ⟨d,.store eb x y,T,pos,eO,eQ⟩ w R:=
 Im (c:=O.enc r) E Z (by rw[e];rfl) g (O.ez r) e1 (O.one r) h
theorem sV{α:Type}[O α]{s:TypeId}{parts:Array (Nat×Operand)}{zs ps:List (Array Value)}{r:α}[e:nY P s zs](a:O.enc r=eK ps)(b:uQ zs (parts.toList.map λ(i,x)=>(i,eD f x))=ps)(c:pr zs (parts.toList.map λ(i,x)=>(i,eD f x)))
 (h:R (.agg (O.enc r)) w):J P f ⟨d,.build s parts,T,pos,eO,eQ⟩ w R:=by
 refine J.build c ?_;rw[b,<-a];exact h
theorem yf{n s eb:TypeId}{parts:Array (Nat×Operand)}{fA:Array Value}{k:Vector UInt8 (n+1)}[c:du P s (n+1) eb][e:oB P s (.agg fA)][g:nm P eb 1]
 (a:qZ fA (parts.toList.map λ(i,x)=>(i,eD f x))=O.enc k) (b:∀p∈parts.toList.map (λ(i,x)=>(i,eD f x)),p.1<fA.size/\p.2.cells=#[p.2])
 (h:R (.agg (O.enc k)) w):J P f ⟨d,.build s parts,T,pos,eO,eQ⟩ w R:=by
 refine jr b ?_;rw[a];exact h
end
theorem FF(a k:Nat):((a:Int)).tmod (k:Int)=((a%k:Nat):Int):=by rw[Int.tmod_eq_emod_of_nonneg (by omega)];omega
end
section
section
variable{tn tx:Type}[DecidableEq tn][oi tn]
def jy(w:World)(oM r:Nat)(e7:tx->Value)(eI:List (tn×tx))(is:List Nat):Prop:=
 oM≠r/\∃aX clock,w.heap[r]? =some (.map aX clock)/\yu e7 aX clock eI/\is.Nodup/\(∀i∈is,i<eI.length)/\
  w.heap[oM]? =some (.mapIter (some r) clock ((is.map λi=>(aX[i]?.map (·.born)).getD 0).toArray) clock)
@[irreducible] def ld (oM r:Nat) (e7:tx->Value) (eI:List (tn×tx)) (is:List Nat):eH:=
 ⟨λk=>k=r∨k=oM,λw=>jy w oM r e7 eI is,λw w' h⟨em,aX,c,G,Y,ej,e8,au⟩=>⟨em,aX,c,by rw[h r (.inl rfl)];exact G,Y,ej,e8,by rw[h oM (.inr rfl)];exact au⟩⟩
theorem TF(oM r:Nat)(e7:tx->Value)(eI:List (tn×tx))(is:List Nat):(ld oM r e7 eI is).F=λk=>k=r∨k=oM:=by unfold ld;rfl
theorem HK(oM r:Nat)(e7:tx->Value)(eI:List (tn×tx))(is:List Nat):(ld oM r e7 eI is).A=λw=>jy w oM r e7 eI is:=by unfold ld;rfl
theorem jy.map{w:World}{oM r:Nat}{e7:tx->Value}{eI:List (tn×tx)}{is:List Nat}(h:jy w oM r e7 eI is):hV w r e7 eI:=by
 obtain⟨_,a,c,G,Y,_⟩:=h;exact⟨a,c,G,Y⟩
theorem FP:∀(n:Nat)(is:List Nat),is.Nodup->(∀i∈is,i<n) ->is.length<=n
 |0,is,_,eB=>by
  cases is with
  |nil=>simp
  |cons x r=>have:=eB x List.mem_cons_self;omega
 |n+1,is,h,eB=>by
  have G:=FP n (is.erase n) (h.erase n) (λi ew=>by
   have Y:=(h.mem_erase_iff).1 ew;have:=eB i Y.2;omega)
  rw[List.length_erase]at G;split at G<;>omega
section
variable{P:Program}{f:te}{w w0:World}{S:List eH}{R:Value->World->Prop}{d:Option Tmp}{T:TypeId}{pos:String}{eO:Array Edge}{eQ:Option (Nat×Bool)}
theorem U.wx{oM r:Nat}{e7:tx->Value}{eI:List (tn×tx)}{is:List Nat}(E:U w0 S w)(a:tP (ld oM r e7 eI is) S):jy w oM r e7 eI is:=by have:=E.get a;rw[HK]at this;exact this
theorem J.range{t K eb r:Nat}{x:Operand}{e7:tx->Value}{eI:List (tn×tx)}[e5:rH P t K eb](E:U w0 S w)(b:tP (tM r e7 eI) S)(Z:eD f x= .map (some r))
 (h:∀(oM:Nat) w',(∀tp,iH (tM r e7 eI) (ld oM r e7 eI []) S tp->U w0 tp w') ->R (.pointer (some ⟨oM,0,none⟩)) w'):J P f ⟨d,.range t x,T,pos,eO,eQ⟩ w R:=by
 obtain⟨e,c,hb,g⟩:=E.map b;have hlt:=(Array.getElem?_eq_some_iff.1 hb).1;refine iz (v:=.pointer (some ⟨w.heap.size,0,none⟩)) (w':=w.alloc (.mapIter (some r) c #[] c)) ?_ (h w.heap.size _ λtp i=>lv ?_ ?_ ?_ E i)
 .simp[execOp,Instr.range,Z,run_underlying e5.out,MapKept.run_getObj_map hb]
 .exact⟨rfl,rfl,rfl,by simp,λk a _=>heap_alloc_old w _ a⟩
 .rw[HK];refine⟨by omega,e,c,?_,g,List.nodup_nil,by simp,?_⟩
  .rw[heap_alloc_old w _ hlt];exact hb
  simpa using heap_alloc_new w (.mapIter (some r) c #[] c)
 rw[cA,TF];intro k a;rcases a with rfl|rfl
 .exact .inl rfl
 exact .inr ⟨Nat.le_refl _,by simp⟩
theorem Jq{oM r:Nat}{x:Operand}{e7:tx->Value}{eI:List (tn×tx)}{is:List Nat}(E:U w0 S w)(K:tP (ld oM r e7 eI is) S)(Z:eD f x= .pointer (some ⟨oM,0,none⟩))
 (ub:(∀i,i<eI.length->i∈is) ->R (.tuple #[.bool false]) w)
 (L:∀i w'(ew:i<eI.length),i∉is->is.length<eI.length->(∀tp,iH (ld oM r e7 eI is) (ld oM r e7 eI (is++[i])) S tp->U w0 tp w') ->R (.tuple #[.bool true,oi.iu (eI[i]'ew).1,e7 (eI[i]'ew).2]) w'):
 J P f ⟨d,.next x false,T,pos,eO,eQ⟩ w R:=by
 obtain⟨u,g,c,hb,m,M,hlt,y⟩:=E.wx K;have V:=k5 m;have N:∀i j(ew:i<g.size)(h:j<g.size),(g[i]'ew).born=(g[j]'h).born->i=j:=by
  intro i j ew h e;have ej:=m.2.1.2;rcases Nat.lt_trichotomy i j with n|n|n
  .have:=List.pairwise_iff_getElem.1 ej i j (by simpa using ew) (by simpa using h) n;simp at this;exact absurd e this
  .exact n
  have:=List.pairwise_iff_getElem.1 ej j i (by simpa using h) (by simpa using ew) n;simp at this;exact absurd e.symm this
 rcases run_next_at (P:=P) w T oM r c c _ g c y hb m.2.1.1 (Nat.le_refl _)with⟨em,hr⟩|⟨e,z,aB,A,hr⟩
 .refine iz (v:=.tuple #[.bool false]) (w':=w) (by simp[execOp,Z,hr]) (ub λi ew=>?_);have o:i<g.size:=by omega
  have G:¬(g[i]∈leftOf g ((is.map λi=>(g[i]?.map (·.born)).getD 0).toArray)):=by
   rw[Array.eq_empty_of_size_eq_zero em];simp
  simp only[leftOf,Array.mem_filter,Array.getElem_mem,true_and]at G;simp at G;obtain⟨j,h,B⟩:=G;have C:j<g.size:=by have:=hlt j h;omega
  simp[C]at B;have:=N j i C o B;subst this;exact h
 simp only[leftOf]at z;have D:e∈g.toList/\¬(e.born∈is.map λi=>(g[i]?.map (·.born)).getD 0):=by
  simpa[Array.mem_filter]using z
 obtain⟨i,ew⟩:=List.getElem?_of_mem D.1;have o:i<g.size:=by have:=(List.getElem?_eq_some_iff.1 ew).1;simpa using this
 have q:g[i]=e:=by have:=(List.getElem?_eq_some_iff.1 ew).2;simpa using this
 have s:i<eI.length:=by omega
 have F:e.key=oi.iu (eI[i]).1/\e.val=e7 (eI[i]).2:=by
  have:=congrArg (λl=>l[i]?) m.1;simp[o,s,q]at this;exact this
 have hE:i∉is:=λe5=>D.2 (List.mem_map.2 ⟨i,e5,by simp[o,q]⟩);have H:(is++[i]).Nodup:=List.nodup_append.2 ⟨M,by simp,λa ep b hb=>by simp at hb;subst hb;intro e;subst e;exact hE ep⟩;have I:∀j∈is++[i],j<eI.length:=by
  intro j h;rcases List.mem_append.1 h with h|h
  .exact hlt j h
  simp at h;subst h;exact s
 have hlen:=FP _ _ H I;simp at hlen;rw[F.1,F.2]at hr;have p:aB.heap=w.heap:=by rcases A with rfl|rfl<;>rfl
 have O:=(Array.getElem?_eq_some_iff.1 y).1;refine iz (v:=.tuple #[.bool true,oi.iu (eI[i]).1,e7 (eI[i]).2]) (by simp only[execOp,Z,Sem.run_bind,hr,Result.andThen_ok,Sem.run_pure];rfl) (L i _ s hE (by omega) λtp Q=>lv ?_ ?_ ?_ E Q)
 .rw[TF];have e1:aB.os=w.os/\aB.tape=w.tape/\aB.output=w.output:=by rcases A with rfl|rfl<;>exact⟨rfl,rfl,rfl⟩
  refine⟨e1.1,e1.2.1,e1.2.2,by simp[ChangeMaps.setBlock,p],λk _ t=>?_⟩;have:oM≠k:=λe=>t (.inr e.symm);simp[ChangeMaps.setBlock,p,this]
 .rw[HK];refine⟨u,g,c,?_,m,H,I,?_⟩
  .simp[ChangeMaps.setBlock,p,u,hb]
  simp[ChangeMaps.setBlock,p,O,o,q]
 rw[TF,TF];exactλk t=>.inl t
theorem jb{oM r:Nat}{x:Operand}{e7:tx->Value}{eI:List (tn×tx)}{is:List Nat}(E:U w0 S w)(e:tP (ld oM r e7 eI is) S)(Z:eD f x= .pointer (some ⟨oM,0,none⟩))
 (h:∀(b:Bool)(vs:Array Value)(a:List Nat) w',vs[0]? =some (.bool b) ->(b=false->a=is/\∀i,i<eI.length->i∈is) ->(b=true->∃i,i<eI.length/\i∉is/\is.length<eI.length/\a=is++[i]) ->
  (∀tp,iH (ld oM r e7 eI is) (ld oM r e7 eI a) S tp->U w0 tp w') ->R (.tuple vs) w'):J P f ⟨d,.next x false,T,pos,eO,eQ⟩ w R:=by
 refine Jq E e Z (λg=>h false _ is w rfl (λ_=>⟨rfl,g⟩) (λh=>by cases h) λtp c=>?_) (λi w' ew hE eB c=>h true _ (is++[i]) w' rfl (λh=>by cases h) (λ_=>⟨i,ew,hE,eB,rfl⟩) c);exact lv ⟨rfl,rfl,rfl,Nat.le_refl _,λ_ _ _=>rfl⟩ (E.get e) (λk j=>.inl j) E c
theorem jv{oM r i:Nat}{x:Operand}{e7:tx->Value}{eI:List (tn×tx)}{is:List Nat}(j:jy w oM r e7 eI (is++[i]))(ew:i<eI.length)(Z:eD f x= .pointer (some ⟨oM,0,none⟩))
 (h:R (.tuple #[oi.iu (eI[i]'ew).1,e7 (eI[i]'ew).2]) w):J P f ⟨d,.entry x,T,pos,eO,eQ⟩ w R:=by
 obtain⟨n,a,c,hb,b,o,hlt,k⟩:=j;have e:i<a.size:=by rw[k5 b];exact ew
 have g:(a[i]).key=oi.iu (eI[i]).1/\(a[i]).val=e7 (eI[i]).2:=by
  have:=congrArg (λl=>l[i]?) b.1;simp[e,ew]at this;exact this
 have m:w.heap[oM]? =some (.mapIter (some r) c (((is.map λi=>(a[i]?.map (·.born)).getD 0).toArray).push (a[i]).born) c):=by
  rw[k];simp[e]
 have hr:=run_entry_at (P:=P) w oM r c _ a c (a[i]) m hb (by simp) b.2.1.2;rw[g.1,g.2]at hr;exact iz (v:=.tuple #[oi.iu (eI[i]).1,e7 (eI[i]).2]) (w':=w) (by simp[execOp,Z,hr]) h
end
end
end
section
variable{e:eH}{S tp l:List eH}{w0 w:World}{P:Program}{T:TypeId}{b o eb:Nat}{cs:Array Value}{tn:Type}{f:te}{R:Value->World->Prop}{d:Option Tmp}{pos:String}{eO:Array Edge}{eQ:Option (Nat×Bool)}{x:Operand}
inductive rX(e:eH):List eH->List eH->Prop
 |nW {S:List eH}:rX e (e::S) S
 |ei {x:eH} {S tp:List eH} (h:rX e S tp):rX e (x::S) (x::tp)
section
variable{e:eH}{S:List eH}{eE tt tC ap aD o8 iF nK sE rR lr dc ct cx:eH}
theorem rX.em:rX e (e::S) (S):=.nW
theorem rX.G:rX e (eE::e::S) (eE::S):=.ei .em
theorem rX.Y:rX e (eE::tt::e::S) (eE::tt::S):=.ei .G
theorem rX.ej:rX e (eE::tt::tC::e::S) (eE::tt::tC::S):=.ei .Y
theorem rX.e8:rX e (eE::tt::tC::ap::e::S) (eE::tt::tC::ap::S):=.ei .ej
theorem rX.au:rX e (eE::tt::tC::ap::aD::e::S) (eE::tt::tC::ap::aD::S):=.ei .e8
theorem rX.a2:rX e (eE::tt::tC::ap::aD::o8::e::S) (eE::tt::tC::ap::aD::o8::S):=.ei .au
theorem rX.iK:rX e (eE::tt::tC::ap::aD::o8::iF::e::S) (eE::tt::tC::ap::aD::o8::iF::S):=.ei .a2
theorem rX.iG:rX e (eE::tt::tC::ap::aD::o8::iF::nK::e::S) (eE::tt::tC::ap::aD::o8::iF::nK::S):=.ei .iK
theorem rX.sr:rX e (eE::tt::tC::ap::aD::o8::iF::nK::sE::e::S) (eE::tt::tC::ap::aD::o8::iF::nK::sE::S):=.ei .iG
theorem rX.hh:rX e (eE::tt::tC::ap::aD::o8::iF::nK::sE::rR::e::S) (eE::tt::tC::ap::aD::o8::iF::nK::sE::rR::S):=.ei .sr
theorem rX.l5:rX e (eE::tt::tC::ap::aD::o8::iF::nK::sE::rR::lr::e::S) (eE::tt::tC::ap::aD::o8::iF::nK::sE::rR::lr::S):=.ei .hh
theorem rX.uV:rX e (eE::tt::tC::ap::aD::o8::iF::nK::sE::rR::lr::dc::e::S) (eE::tt::tC::ap::aD::o8::iF::nK::sE::rR::lr::dc::S):=.ei .l5
theorem rX.mx:rX e (eE::tt::tC::ap::aD::o8::iF::nK::sE::rR::lr::dc::ct::e::S) (eE::tt::tC::ap::aD::o8::iF::nK::sE::rR::lr::dc::ct::S):=.ei .uV
theorem rX.az:rX e (eE::tt::tC::ap::aD::o8::iF::nK::sE::rR::lr::dc::ct::cx::e::S) (eE::tt::tC::ap::aD::o8::iF::nK::sE::rR::lr::dc::ct::cx::S):=.ei .mx
end
theorem rX.hK(h:rX e S tp):S.Perm (e::tp):=by
 induction h with
 |nW=>exact List.Perm.refl _
 |ei _ a=>exact(List.Perm.cons _ a).trans (List.Perm.swap _ _ _)
theorem U.hK(h:U w0 S w)(c:S.Perm tp):U w0 tp w:=
 ⟨h.ee,c.pairwise h.ye (λ{a b} d k hb ep=>d k ep hb),λe f=>h.all e (c.mem_iff.2 f)⟩
theorem U.pick(h:U w0 S w)(a:rX e S tp):U w0 (e::tp) w:=h.hK a.hK
def FY(l:List eH):Prop:=l.Pairwise (λa b:eH=>∀k,a.F k->¬b.F k)
@[irreducible] def hC (l:List eH):eH:=
 ⟨λk=>∃e∈l,e.F k,λw=>FY l/\∀e∈l,e.A w,λw w' h⟨G,Y⟩=>⟨G,λe eR=>e.eW w w' (λb hb=>h b ⟨e,eR,hb⟩) (Y e eR)⟩⟩
theorem IG(l:List eH):(hC l).F=λk=>∃e∈l,e.F k:=by unfold hC;rfl
theorem p2(l:List eH):(hC l).A=λw=>FY l/\∀e∈l,e.A w:=by unfold hC;rfl
theorem U.de(h:U w0 (hC l::S) w):U w0 (l++S) w:=by
 obtain⟨G,Y,ej⟩:=h;have e8:=ej _ List.mem_cons_self;rw[p2,IG]at e8;obtain⟨au,a2⟩:=List.pairwise_cons.1 Y;refine⟨G,List.pairwise_append.2 ⟨e8.1.1,a2,λa ep b hb k d f=>?_⟩,λe c=>?_⟩
 .have:=au b hb k;rw[IG]at this;exact this ⟨a,ep,d⟩ f
 rcases List.mem_append.1 c with c|c
 .exact⟨e8.1.2 e c,λk g=>e8.2 k ⟨e,c,g⟩⟩
 exact ej e (List.mem_cons_of_mem _ c)
theorem U.closed(h:U w0 (l++S) w):U w0 (hC l::S) w:=by
 obtain⟨G,Y,ej⟩:=h;obtain⟨e8,au,a2⟩:=List.pairwise_append.1 Y;refine⟨G,List.pairwise_cons.2 ⟨λb hb k f g=>?_,au⟩,λe c=>?_⟩
 .rw[IG]at f;obtain⟨a,ep,d⟩:=f;exact a2 a ep b hb k d g
 rcases List.mem_cons.1 c with rfl|c
 .rw[p2,IG];refine⟨⟨e8,λe c=>(ej e (List.mem_append_left _ c)).1⟩,λk⟨e,c,d⟩=>(ej e (List.mem_append_left _ c)).2 k d⟩
 exact ej e (List.mem_append_right _ c)
def jk(w w':World)(e:eH):Prop:=e.A w'/\∀k,e.F k->w.heap.size<=k/\k<w'.heap.size
theorem U.TW{w':World}(E:U w0 S w)(hb:eV w w')(h:jk w w' e):U w0 (e::S) w':=E.new hb h.1 h.2
theorem U.zi(E:U w0 S w)(a:tP e S):jk w0 w e:=E.all e a.mem
section
variable{tn tx α:Type}[DecidableEq tn][O α]
theorem HJ{k:tn}{x:tx}:∀{l:List (tn×tx)},tL k l=some x->l.Perm ((k,x)::sp k l)
 |(y,u)::r,h=>by
  by_cases a:k=y
  .subst a;simp[tL]at h;subst h;simp[sp]
  simp[tL,a]at h;have b:=HJ (l:=r) h;simp only[sp,a,if_false];exact(List.Perm.cons _ b).trans (List.Perm.swap _ _ _)
theorem FB{k:tn}{x:tx}:∀{l:List (tn×tx)},(l.map Prod.fst).Nodup->(oC k x l).Perm ((k,x)::sp k l)
 |[],_=>by simp[oC,sp]
 |(y,u)::r,h=>by
  simp only[List.map_cons,List.nodup_cons]at h;by_cases a:k=y
  .subst a;simp[oC,sp]
  simp only[oC,sp,a,if_false];exact(List.Perm.cons _ (FB (l:=r) h.2)).trans (List.Perm.swap _ _ _)
def fs(T:TypeId)(eI:List (tn×(Value×List α))):List eH:=eI.map λp=>V p.2.1 T p.2.2
variable{w0 w:World}{T:TypeId}{eI:List (tn×(Value×List α))}{k:tn}
theorem FV{l c2:List (tn×(Value×List α))}(h:l.Perm c2):(fs T l).Perm (fs T c2):=h.map _
theorem U.JT(L:List eH){S:List eH}{x:Value×List α}(E:U w0 (L++(fs T eI++S)) w)(h:tL k eI=some x):U w0 (V x.1 T x.2::(L++(fs T (sp k eI)++S))) w:=by
 refine E.hK ?_;refine((((FV (HJ h)).append_right S)).append_left L).trans ?_;exact List.perm_middle
theorem U.JA(L:List eH){S:List eH}{v:Value}{xs:List α}(a:(eI.map Prod.fst).Nodup)(E:U w0 (V v T xs::(L++(fs T (sp k eI)++S))) w):U w0 (L++(fs T (oC k (v,xs) eI)++S)) w:=by
 refine E.hK (List.Perm.symm ?_);refine((((FV (FB a)).append_right S)).append_left L).trans ?_;exact List.perm_middle
end
section
variable{P:Program}{f:te}{w:World}{R:Value->World->Prop}{d:Option Tmp}{T:TypeId}{pos:String}{eO:Array Edge}{eQ:Option (Nat×Bool)}
theorem FK{s eb:Nat}(b:fE P s eb)(a:Option Addr)(w:World):(Op.equal s (.pointer a) (.pointer none)).run P w= .ok a.isNone w:=by
 unfold Op.equal;show(Op.equalIn (9999+1) s (.pointer a) (.pointer none)).run P w= .ok a.isNone w;generalize 9999=k;cases a<;>simp[Op.equalIn,run_underlying b.out]
theorem FX{s K eb:Nat}(b:rH P s K eb)(a:Option Nat)(w:World):(Op.equal s (.map a) (.map none)).run P w= .ok a.isNone w:=by
 unfold Op.equal;show(Op.equalIn (9999+1) s (.map a) (.map none)).run P w= .ok a.isNone w;generalize 9999=k;cases a<;>simp[Op.equalIn,run_underlying b.out]
theorem IW{s t eb:Nat}{x y:Operand}{a:Option Addr}[b:fE P s eb](Z:eD f x= .pointer a)(c:eD f y= .pointer none)(h:R (.bool a.isNone) w):J P f ⟨d,.binOp .eql s x y t,T,pos,eO,eQ⟩ w R:=by
 refine iz (v:=.bool a.isNone) (w':=w) ?_ h;have e:eqGuard .eql s x y (.pointer a) (.pointer none)=pure ():=rfl;have g:binOp .eql s (.pointer a) (.pointer none)=(do pure (.bool (<-Op.equal s (.pointer a) (.pointer none)))):=rfl;simp only[execOp,Z,c,e,g,Sem.run_bind,Sem.run_pure,Result.andThen_ok,FK b]
theorem IY{s t eb:Nat}{x y:Operand}{a:Option Addr}[b:fE P s eb](Z:eD f x= .pointer a)(c:eD f y= .pointer none)(h:R (.bool (!a.isNone)) w):J P f ⟨d,.binOp .neq s x y t,T,pos,eO,eQ⟩ w R:=by
 refine iz (v:=.bool (!a.isNone)) (w':=w) ?_ h;have e:eqGuard .neq s x y (.pointer a) (.pointer none)=pure ():=rfl;have g:binOp .neq s (.pointer a) (.pointer none)=(do pure (.bool (!(<-Op.equal s (.pointer a) (.pointer none))))):=rfl;simp only[execOp,Z,c,e,g,Sem.run_bind,Sem.run_pure,Result.andThen_ok,FK b]
theorem JO{s t K eb:Nat}{x y:Operand}{a:Option Nat}[b:rH P s K eb](Z:eD f x= .map a)(c:eD f y= .map none)(h:R (.bool a.isNone) w):J P f ⟨d,.binOp .eql s x y t,T,pos,eO,eQ⟩ w R:=by
 refine iz (v:=.bool a.isNone) (w':=w) ?_ h;have e:eqGuard .eql s x y (.map a) (.map none)=pure ():=rfl;have g:binOp .eql s (.map a) (.map none)=(do pure (.bool (<-Op.equal s (.map a) (.map none)))):=rfl;simp only[execOp,Z,c,e,g,Sem.run_bind,Sem.run_pure,Result.andThen_ok,FX b]
theorem JI{s t K eb:Nat}{x y:Operand}{a:Option Nat}[b:rH P s K eb](Z:eD f x= .map a)(c:eD f y= .map none)(h:R (.bool (!a.isNone)) w):J P f ⟨d,.binOp .neq s x y t,T,pos,eO,eQ⟩ w R:=by
 refine iz (v:=.bool (!a.isNone)) (w':=w) ?_ h;have e:eqGuard .neq s x y (.map a) (.map none)=pure ():=rfl;have g:binOp .neq s (.map a) (.map none)=(do pure (.bool (!(<-Op.equal s (.map a) (.map none))))):=rfl;simp only[execOp,Z,c,e,g,Sem.run_bind,Sem.run_pure,Result.andThen_ok,FX b]
end
theorem an.vA{T:Nat}[uX P T]{v:Value}(a:an w (.pointer (some ⟨b,0,none⟩)) cs)(c:cs[o]? =some v):s1 P T w (.pointer (some ⟨b,o,none⟩)) v:=by
 have:=ud (P:=P) (T:=T) a o c;simpa[rs]using this
theorem U.nS(h:U w0 (e::S) w):U w0 S w:=h.sub (.cons _ (List.Sublist.refl _))
theorem zn{tx:Type}[DecidableEq tn][oi tn]{t K r:Nat}{z0 u:tx}{ix:Operand}{k:tn}{e7:tx->Value}{eI:List (tn×tx)}[e5:rH P t K eb][c:u2 P K tn](g:oB P eb (e7 z0))(a:hV w r e7 eI)(Z:eD f x= .map (some r))(ew:eD f ix=oi.iu k)
 (b:(tL k eI).getD z0=u) (h:R (.tuple #[e7 u,.bool (tL k eI).isSome]) w):J P f ⟨d,.lookup t x ix true,T,pos,eO,eQ⟩ w R:=by
 refine Jb (z:=e7 z0) a Z ew ?_;subst b;have e:((tL k eI).map e7).getD (e7 z0)=e7 ((tL k eI).getD z0):=by cases tL k eI<;>rfl
 rw[e];exact h
theorem U.FJ{α:Type}[DecidableEq tn][O α]{eI:List (tn×(Value×List α))}(L:List eH)(k:tn)(E:U w0 (L++(fs T eI++S)) w):
 U w0 (V ((tL k eI).getD (.slice none 0 0,[])).1 T ((tL k eI).getD (.slice none 0 0,[])).2::(L++(fs T (sp k eI)++S))) w:=by
 cases h:tL k eI with
 |none=>
  rw[IL h];exact E.lR T
 |some x=>exact E.JT L h
theorem FQ{tn tx:Type}[DecidableEq tn]{k:tn}:∀{l:List (tn×tx)},(l.map Prod.fst).Nodup->sp k l=l.filter (λq=>decide (q.1≠k))
 |[],_=>rfl
 |(y,u)::r,h=>by
  simp only[List.map_cons,List.nodup_cons]at h;by_cases a:k=y
  .subst a;simp only[sp,if_true];rw[List.filter_cons_of_neg (by simp)];refine(List.filter_eq_self.2 λq b=>?_).symm;have:q.1≠k:=λe=>h.1 (e▸List.mem_map_of_mem b);simpa using this
  simp only[sp,a,if_false];rw[List.filter_cons_of_pos (by simpa using Ne.symm a),FQ h.2]
structure im where
 p:Option Nat
def im.v(x:im):Value:=.pointer (x.p.map λb=>⟨b,0,none⟩)
instance:O im where
 enc s:=#[s.v]
 eo:=1
 pos:=by omega
 ez _:=rfl
 one s u a:=by simp at a;subst a;rfl
theorem iU{a eo:Nat}[i:nm P eb eo]{y:Operand}{v:Value}{iA:Array Value}(E:U w0 S w)(Z:eD f x= .pointer (some ⟨b,o,none⟩))(c:eD f y=v)(e:tP (B b cs a) S)
 (tG:v.cells.size=eo) (e1:o+eo<=cs.size) (G:∀u∈v.cells.toList,u.oneCell'=true) (g:iI cs o v.cells=iA)
 (h:∀w',(∀tp,iH (B b cs a) (B b iA a) S tp->U w0 tp w') ->R undef w'):J P f ⟨d,.store eb x y,T,pos,eO,eQ⟩ w R:=by
 subst g;exact J.store E Z c e tG e1 G h
end
section
section
variable{P:Program}{f:te}{w:World}{R:Value->World->Prop}{d:Option Tmp}{T:TypeId}{pos:String}{eO:Array Edge}{eQ:Option (Nat×Bool)}
theorem TY{g:FuncId}{args:Array Operand}{nI:Array TypeId}{vs:List Value}{v:Value}(hr:(callFunc g vs.toArray).run P w= .ok (.value v) w)(a:args.toList.map (eD f)=vs)(h:R v w):
 J P f ⟨d,.call {callee:=.value (.func g),args:=args,argTypes:=nI},T,pos,eO,eQ⟩ w R:=by
 have ep:args.map (eD f)=vs.toArray:=by subst a;apply Array.ext';simp
 refine iz (v:=v) (w':=w) ?_ h;simp[execOp,resolve,eD,Deferred.ofValue,invoke,ep,hr]
theorem F0{fn:Func}{g:FuncId}(a:P.funcs[g]? =some fn)(b:(fn.name== "runtime.NumGoroutine")=false)
 (hb:fn.body.isNone=true) (c:Extern.findNext fn=none) (d:Extern.find fn=some Go.add64Entry) (x y:Nat) (w:World):
 (callFunc g #[.int .u64 (x:Int),.int .u64 (y:Int),.int .u64 0]).run P w= .ok (.value (.tuple #[.int .u64 (((x+y)%18446744073709551616:Nat):Int),.int .u64 (((x+y)/18446744073709551616:Nat):Int)])) w:=by
 rw[Go.run_callFunc_extern a b hb c d,Go.run_add64 x y 0 (by omega) (by omega) (by omega) (by omega)];simp only[Result.andThen];congr 5<;>omega
end
structure aa where
 n:Nat
 deriving DecidableEq
instance:O aa where
 enc s:=#[.int .u64 (s.n:Int)]
 eo:=1
 pos:=by omega
 ez _:=rfl
 one s u a:=by simp at a;subst a;rfl
theorem zr(s:aa):O.enc s=#[.int .u64 (s.n:Int)]:=rfl
theorem JS(a:Nat):IntKind.u64.wrap (a:Int)=((a%18446744073709551616:Nat):Int):=by rw[IntKind.wrap_u64];omega
theorem bl(a b:Nat):IntKind.u64.wrap ((a:Int)+(b:Int))=(((a+b)%18446744073709551616:Nat):Int):=by rw[<-Int.natCast_add];exact JS _
def nO(a b:Nat):Nat:=if a+b<18446744073709551616 then a+b else 18446744073709551615
theorem IB(a b:Nat):nO a b<18446744073709551616:=by unfold nO;split<;>omega
end
section
section
variable{α:Type}[O α]
theorem F1(z:α):∀(n j:Nat),(ij (List.replicate n z))[j]? =if j<n*O.eo α then(O.enc z)[j%O.eo α]? else none
 |0,j=>by simp[ij]
 |n+1,j=>by
  have a:=O.pos (α:=α);have eB:(O.enc z).toList.length=O.eo α:=by simp[O.ez]
  rw[List.replicate_succ,yt,List.getElem?_append,eB,Nat.succ_mul];by_cases h:j<O.eo α
  .rw[if_pos h,if_pos (by omega),Nat.mod_eq_of_lt h];simp
  rw[if_neg h,F1 z n (j-O.eo α)];have e:(j-O.eo α)%O.eo α=j%O.eo α:=(Nat.mod_eq_sub_mod (by omega)).symm;rw[e];by_cases Y:j-O.eo α<n*O.eo α
  .rw[if_pos Y,if_pos (by omega)]
  rw[if_neg Y,if_neg (by omega)]
theorem HQ(z:α)(n:Nat):(madeCells (O.enc z) (n*O.eo α)).toList=ij (List.replicate n z):=by
 have a:=O.pos (α:=α);apply List.ext_getElem?;intro j;rw[F1];simp only[madeCells,Array.toList_map,Array.toList_range,List.getElem?_map,O.ez];by_cases h:j<n*O.eo α
 .rw[if_pos h,List.getElem?_range h];have Y:j%O.eo α<(O.enc z).size:=by rw[O.ez];exact Nat.mod_lt _ a
  simp[Y]
 rw[if_neg h,List.getElem?_eq_none (by simp;omega)];rfl
variable{P:Program}{f:te}{w w0:World}{S:List eH}{R:Value->World->Prop}{d:Option Tmp}{T:TypeId}{pos:String}{eO:Array Edge}{eQ:Option (Nat×Bool)}
theorem dt{t eb r4 n:Nat}{x y:Operand}(z:α)[e:hl P t eb][g:nm P eb (O.eo α)][hb:y8 P eb r4]{lc:Value}[j:oB P eb lc](k:lc.cells=O.enc z)(E:U w0 S w)
 (Z:eD f x= .int .i64 (n:Int)) (l:eD f y= .int .i64 (n:Int)) (r:r4*n<=281474976710656) (a:n<=maxLen)
 (h:∀b w',eV w w'->U w0 (V (.slice (some ⟨b,0,none⟩) n n) eb (List.replicate n z)::S) w'->R (.slice (some ⟨b,0,none⟩) n n) w'):J P f ⟨d,.makeSlice t x y,T,pos,eO,eQ⟩ w R:=by
 obtain⟨i,ew,m,o,p⟩:∃i,P.info? eb=some i/\i.size=O.eo α/\i.bytes=r4/\i.zero=some lc:=by
  have G:=g.out;have Y:=hb.out;have ej:=j.out;cases ew:P.info? eb with
  |none=>simp[ew]at G
  |some i=>simp[ew]at G Y ej;exact⟨i,rfl,G,Y,ej⟩
 have q:(i.bytes:Int)*(n:Int)<=281474976710656:=by
  rw[o,<-Int.natCast_mul];omega
 have hr:=run_make (P:=P) w t eb i lc e.out ew p .i64 .i64 n n (by omega) (Int.le_refl _) q (by simp only[maxLen]at a;omega);simp only[Int.toNat_natCast,k,m]at hr;have c:=E.MD (cs:=madeCells (O.enc z) (n*O.eo α)) (eb:=eb) (List.replicate n z) (HQ z n) (by simpa using a);simp only[List.length_replicate]at c;refine iz (v:=.slice (some ⟨w.heap.size,0,none⟩) n n) (w':=w.alloc (.cells (madeCells (O.enc z) (n*O.eo α)) eb)) ?_ (h _ _ (eV.alloc w _) c);simp[execOp,Z,l,hr]
theorem IK{t D eb:Nat}{x y:Operand}{v:Value}{xs ys:List α}[p:hl P t eb][F:nm P eb (O.eo α)](E:U w0 S w)(q:tP (V v eb xs) S)(Z:eD f x=v)(H:ex w (eD f y) ys)(eB:xs.length=ys.length)
 (h:∀w',(∀tp,iH (V v eb xs) (V v eb ys) S tp->U w0 tp w') ->R (.int .i64 (ys.length:Int)) w'):J P f ⟨d,.call {callee:=.builtin .copy,args:=#[x,y],argTypes:=#[t,D]},T,pos,eO,eQ⟩ w R:=by
 have pK:=O.pos (α:=α);obtain⟨i,ew,I⟩:∃i,P.info? eb=some i/\i.size=O.eo α:=by
  have G:=F.out;cases ew:P.info? eb with
  |none=>simp[ew]at G
  |some i=>simp[ew]at G;exact⟨i,rfl,G⟩
 have K:=E.cQ q;obtain⟨a,c,r,ah,a8,L,M⟩:=H;rcases K with⟨rfl,rfl⟩|⟨g,cap,ne,rfl,A,sf,N,ll,mE⟩
 .have z:ys=[]:=List.eq_nil_of_length_eq_zero (by simpa using eB.symm);subst z;refine iz (v:=.int .i64 0) (w':=w) ?_ (h w λtp n=>lv ⟨rfl,rfl,rfl,Nat.le_refl _,λ_ _ _=>rfl⟩ (E.get q) (λk m=>.inl m) E n);have sw:∀(x:Addr),(loadCells x 0).run P w= .ok #[] w:=λx=>by simpa using run_loadCells_list (P:=P) w x [] (by simp)
  cases a<;>simp[execOp,resolve,invoke,builtin,Z,r,Builtin.copy_,run_underlying p.out,Builtin.lenOf,Builtin.firstCells,sizeOf,typeInfo,ew,goInt,sw]
 by_cases Q:ys.length=0
 .have z:ys=[]:=List.eq_nil_of_length_eq_zero Q;subst z;have W:xs=[]:=List.eq_nil_of_length_eq_zero (by simpa using eB);subst W;refine iz (v:=.int .i64 0) (w':=w) ?_ (h w λtp n=>lv ⟨rfl,rfl,rfl,Nat.le_refl _,λ_ _ _=>rfl⟩ (E.get q) (λk m=>.inl m) E n);have sw:∀(x:Addr),(loadCells x 0).run P w= .ok #[] w:=λx=>by simpa using run_loadCells_list (P:=P) w x [] (by simp)
  cases a<;>simp[execOp,resolve,invoke,builtin,Z,r,Builtin.copy_,run_underlying p.out,Builtin.lenOf,Builtin.firstCells,sizeOf,typeInfo,ew,goInt,sw,storeCells]
 have X:∃l,a=some l:=by
  cases a with
  |none=>have:=L rfl;omega
  |some l=>exact⟨l,rfl⟩
 obtain⟨l,rfl⟩:=X;have hr:=M l rfl (by omega);have HZ:∀(j:Nat)(u:Value),(ij ys)[j]? =some u->w.cell? (l.add j)=some u:=by
  intro j u tO;have Y:=hr.2 j u tO;have e:l.add j=⟨l.block,l.off+j,none⟩:=by
   have G:=hr.1;obtain⟨b,o,s⟩:=l;simp only at G;subst G;exact wh b o j
  rw[e];exact Y
 have B:(ij ys).length=ys.length*O.eo α:=uc ys;have hmul:ys.length*O.eo α<=cap*O.eo α:=Nat.mul_le_mul_right _ (by omega);have nJ:=run_loadCells_list (P:=P) w l (ij ys) HZ;have C:=run_storeCells_at P g 0 eb (ij ys) 0 ne w A (by omega) (Ia ys);simp only[Nat.zero_add,Nat.add_zero]at C;have H0:Nat.min ys.length xs.length=ys.length:=by rw[eB];exact Nat.min_self _
 refine iz (v:=.int .i64 (ys.length:Int)) (w':=w.setRow g (ne.toList.take 0++ij ys++ne.toList.drop (ij ys).length).toArray) ?_ (h _ λtp n=>lv ?_ ?_ ?_ E n)
 .rw[B]at nJ;have aQ:(Builtin.firstCells (O.eo α) ys.length (.slice (some l) ys.length c)).run P w= .ok (ij ys).toArray w:=by simp[Builtin.firstCells,nJ]
  simp[execOp,resolve,invoke,builtin,Z,r,Builtin.copy_,run_underlying p.out,Builtin.lenOf,sizeOf,typeInfo,ew,I,H0,goInt,aQ,C]
 .rw[dm];exact⟨rfl,rfl,rfl,by simp[World.setRow],λk _ m=>setRow_other w g k _ (λe=>m (by simp[Value.ownBlock,e]))⟩
 .rw[df];refine .inr ⟨g,cap,_,by rw[eB],setRow_heap w g ne _ eb _ A,by omega,N,?_,?_⟩
  .simp only[List.size_toArray,List.length_append,List.length_take,List.length_drop,Array.length_toList];omega
  simp only[List.take_zero,List.nil_append,<-B];exact List.take_left
 rw[dm,dm];exactλk m=>.inl m
end
end
section
open Go.ChangeShapes Go.WideShapes Go.ChangeAt

end
section
variable{v:Value}{n:Nat}
section
variable{P:Program}{f:te}{w:World}{R:Value->World->Prop}{d:Option Tmp}{T:TypeId}{pos:String}{eO:Array Edge}{eQ:Option (Nat×Bool)}
theorem JH{t:TypeId}(ep:mj P t):P.concrete t=true:=by
 have Y:=ep.out;unfold vm at Y;unfold Program.concrete;cases a:P.underlying t with
 |none=>simp[a]at Y
 |some d=>cases d<;>simp[a]at Y<;>rfl
theorem J.iface{s:TypeId}{x:Operand}{v:Value}[ep:mj P s](Z:eD f x=v)(h:R (.iface s v) w):J P f ⟨d,.makeInterface s x,T,pos,eO,eQ⟩ w R:=by
 refine iz (v:=.iface s v) (w':=w) ?_ h;simp[execOp,Z,run_makeInterface,JH ep]
end
def zl(v:Value)(n:Nat):Prop:=(v= .slice none 0 0/\n=0)∨∃g cap,v= .slice (some ⟨g,0,none⟩) n cap/\n<=cap/\cap<=maxLen
theorem zl.JL(h:zl v n):∃a n c,v= .slice a n c:=by
 rcases h with⟨rfl,_⟩|⟨g,c,rfl,_⟩<;>exact⟨_,_,_,rfl⟩
theorem zl.JD(h:zl v n)(eo:Nat):nz v 0 n (s2 v) eo=v:=by
 rcases h with⟨rfl,rfl⟩|⟨g,c,rfl,G,Y⟩
 .simp[nz,s2]
 by_cases a:c=0<;>simp[nz,s2,a]
section
variable{α:Type}[O α]{w w0:World}{S:List eH}
theorem l6.shape{v:Value}{e:TypeId}{xs:List α}(h:l6 w v e xs):zl v xs.length:=by
 rcases h with⟨rfl,rfl⟩|⟨g,cap,ne,rfl,_,G,Y,_⟩
 .exact .inl ⟨rfl,rfl⟩
 exact .inr ⟨g,cap,rfl,G,Y⟩
theorem U.F2{v:Value}{eb:TypeId}{xs:List α}{k m:Nat}{tp:List eH}(E:U w0 S w)(e:k<=xs.length)(e5:k<=m)(a:m<=s2 v)(d:iH (V v eb xs) (V (nz v 0 k m (O.eo α)) eb (xs.take k)) S tp):U w0 tp w:=by
 have e1:=E.cQ d.kS;refine lv ⟨rfl,rfl,rfl,Nat.le_refl _,λ_ _ _=>rfl⟩ ?_ ?_ E d
 .rw[df];have eB:(xs.take k).length=k:=by simp;omega
  rcases e1 with⟨rfl,rfl⟩|⟨g,cap,ne,rfl,f,G,Y,ej,e8⟩
  .simp only[s2]at a;obtain rfl:m=0:=by omega
   obtain rfl:k=0:=by omega
   exact .inl ⟨by simp[nz],by simp⟩
  simp only[s2]at a;refine .inr ⟨g,m,ne,?_,f,by omega,by omega,Nat.le_trans (Nat.mul_le_mul_right _ a) ej,?_⟩
  .by_cases b:m=0<;>simp[nz,b,eB]
  rw[eB,Ii,<-e8,List.take_take,Nat.min_eq_left (Nat.mul_le_mul_right _ e)]
 rw[dm,dm];intro uy c;refine .inl ?_;rcases e1 with⟨rfl,rfl⟩|⟨g,cap,ne,rfl,_⟩
 .simp[nz,Value.ownBlock]at c
 by_cases b:m=0<;>simp[nz,b,Value.ownBlock]at c⊢<;>exact c
theorem ex.mI{v:Value}{xs:List α}(h:ex w v xs):∃s:ec,v=s.v:=by
 obtain⟨a,c,h⟩:=h.eq;exact⟨⟨a,xs.length,c⟩,h⟩
end
def zd(n:Int):UInt8:=UInt8.ofNat (n%256).toNat
theorem F3(n:Int):IntKind.u8.wrap n=((zd n).toNat:Int):=by
 rw[Xc];unfold zd;rw[UInt8.toNat_ofNat'];have:=Int.emod_nonneg n (show(256:Int)≠0 by decide);have:=Int.emod_lt_of_pos n (show(0:Int)<256 by decide);omega
end
section
variable{n l sl b:Nat}{D:List Deferred}{a:Act}{f:te}{P:Program}{w A tD w0 W:World}{R:Value->World->Prop}{T:TypeId}{c:Array Value}
structure sK(n:Nat)(D:List Deferred)(a:Act)(f:te):Prop where
 defers:a.defers=D
 size:a.tmps.size=n
 ot:∀i,a.tmps.getD i undef=f i
theorem sK.IX(h:sK n D a f):so n {a with defers:=[]} f:=⟨rfl,h.size,h.ot⟩
theorem sK.eval(h:sK n D a f):a.eval=eD f:=by
 have Y:=h.IX.eval;exact Y
theorem sK.put(h:sK n D a f){dst:Option Tmp}(hd:∀d,dst=some d->d<n)(v:Value):sK n D (a.put dst v) (dM f dst v):=by
 have Y:=h.IX.put hd v;cases dst with
 |none=>exact⟨h.defers,Y.size,Y.ot⟩
 |some d=>exact⟨h.defers,Y.size,Y.ot⟩
theorem so.F4(h:so n a f):sK n [] a f:=⟨h.defers,h.size,h.ot⟩
theorem sK.nil(h:sK n [] a f):so n a f:=⟨h.defers,h.size,h.ot⟩
@[irreducible] def opI (P:Program) (f:te) (o:Oper) (w:World) (R:Value->World->Prop):Prop:=
 match(execOp (eD f) o).run P w with
 | .ok (.value v) w'=>R v w'
 | .ok .skip w'=>R undef w'
 | .ok (.enter g args) w'=>Calls P g args w' λe hs=>∃v,e= .returned v/\R v hs
 | .ok (.round l fn tmps assign body) w'=>RoundIn Fence.wide 0 P l fn tmps assign body w' λe hs=>∃v,e= .returned v/\R v hs
 |_=>False
theorem J.opI{o:Oper}(h:J P f o w R):opI P f o w R:=by
 unfold J at h;unfold Fer.opI;generalize(execOp (eD f) o).run P w=r at*;cases r with
 |ok x w'=>cases x<;>first|exact h|exact(h:False).elim
 |halt x w'=>exact(h:False).elim
theorem opI.yield{d:Option Tmp}{pos:String}{eO:Array Edge}{eQ:Option (Nat×Bool)}{x y:Operand}{nI:Array TypeId}{u:Value}{R':World->Prop}
 (Z:eD f x= .func (.yield l) #[] #[]) (a:eD f y=u) (b:YieldAt Fence.wide 0 P l #[u] w λe w'=>e= .returned (.bool true)/\R' w') (h:∀w',R' w'->R (.bool true) w'):
 opI P f ⟨d,.call {callee:=.value x,args:=#[y],argTypes:=nI},T,pos,eO,eQ⟩ w R:=by
 obtain⟨fn,tmps,assign,body,hr,c⟩:=b;have g:(execOp (eD f) ⟨d,.call {callee:=.value x,args:=#[y],argTypes:=nI},T,pos,eO,eQ⟩).run P w= .ok (.round l fn tmps assign body) w:=by
  have i:(#[y].map (eD f))=#[u]:=by simp[a]
  simp only[execOp,resolve,Z,Deferred.ofValue,Sem.run_bind,Sem.run_pure,Result.andThen_ok,Go.invoke,i];exact hr
 unfold opI;rw[g];exact c.mono λe w'⟨j,k⟩=>⟨_,j,h _ k⟩
abbrev p3(r:Option Nat):Fence:={Fence.wide with round:=r}
@[irreducible] def oH (r:Option Nat) (m:Nat) (P:Program) (n:Nat) (ops:Array Oper) (D:List Deferred) (Q:Exit->te->World->Prop) (is:List Nat) (f:te) (w:World):Prop:=
 ∀a,sK n D a f->wpOpsIn (p3 r) m P ops (λe tc w'=>∃ae,sK n D tc ae/\Q e ae w') is a w
section
variable{r:Option Nat}{m:Nat}{P:Program}{n:Nat}{ops:Array Oper}{D:List Deferred}{Q:Exit->te->World->Prop}{is:List Nat}{f:te}{w:World}
theorem oH.nil(h:Q .normal f w):oH r m P n ops D Q [] f w:=by
 unfold oH;exactλa ep=>⟨f,ep,h⟩
theorem oH.cons{i:Nat}{o:Oper}(e1:ops[i]? =some o)(j:o.guard=none)(hd:∀x,o.dst=some x->x<n)(k:∀c,o.op≠ .defer c)(h:opI P f o w (λv w'=>oH r m P n ops D Q is (dM f o.dst v) w')):
 oH r m P n ops D Q (i::is) f w:=by
 unfold oH;intro a ep;unfold wpOpsIn;simp only[e1];have p:Region.wanted o (yielded ops a.tmps)=true:=by unfold Region.wanted;rw[j]
 rw[if_pos p];refine⟨λ_ _=>trivial,?_⟩;rw[Oper.semAt_eq _ _ _ k,ep.eval];unfold opI at h;generalize(execOp (eD f) o).run P w=q at*;have go:∀v w',oH r m P n ops D Q is (dM f o.dst v) w'->wpOpsIn (p3 r) m P ops (λe tc w'=>∃ae,sK n D tc ae/\Q e ae w') is (a.put o.dst v) w':=by
  intro v w' tG;unfold oH at tG;exact tG _ (ep.put hd v)
 cases q with
 |halt x w'=>exact(h:False).elim
 |ok x w'=>
  cases x with
  |value v=>exact go _ _ h
  |skip=>exact go _ _ h
  |enter g args=>
   refine⟨λb=>by simp[p3,Fence.wide]at b,?_⟩;have Y:CallsIn Fence.wide (m-1) P g args w' _:=callsIn_wide.2 h;exact CallsIn.mono (F:=p3 r) Y λe s⟨v,d,tG⟩=>by subst d;exact go _ _ tG
  |round l fn tmps assign body=>
   refine⟨λb=>by simp[p3,Fence.wide]at b,?_⟩;have Y:RoundIn (p3 r) (m-1) P l fn tmps assign body w' _:=⟨trivial,λc cs _=>h.2 c cs (room_wide _)⟩;exact Y.mono λe s⟨v,d,tG⟩=>by subst d;exact go _ _ tG
  |_=>exact(h:False).elim
theorem oH.op{i d:Nat}{op:Op}{T:TypeId}{pos:String}{eO:Array Edge}(e1:ops[i]? =some ⟨some d,op,T,pos,eO,none⟩)(hd:Nat.blt d n=true)(a:∀c,op≠ .defer c)
 (h:opI P f ⟨some d,op,T,pos,eO,none⟩ w (λv w'=>oH r m P n ops D Q is (o7 f d v) w')):oH r m P n ops D Q (i::is) f w:=
 oH.cons e1 rfl (by intro x Z;cases Z;simpa using hd) a h
theorem jx{i:Nat}{op:Op}{T:TypeId}{pos:String}{eO:Array Edge}(e1:ops[i]? =some ⟨none,op,T,pos,eO,none⟩)(a:∀c,op≠ .defer c)
 (h:opI P f ⟨none,op,T,pos,eO,none⟩ w (λ_ w'=>oH r m P n ops D Q is f w')):oH r m P n ops D Q (i::is) f w:=
 oH.cons e1 rfl (by intro x Z;cases Z) a h
theorem zc{id:Nat}(h:oH none 0 P n ops [] Q (List.range ops.size) f w):ek P n (.region id ops false) Q f w:=by
 unfold ek;unfold oH at h;intro a ep;refine(wpIn_wide (n:=0)).1 (wpIn_mono (wpIn_region (h a ep.F4)) ?_);rintro e tc w' ⟨ae,hr,b⟩;exact⟨ae,hr.nil,b⟩
end
structure cO(sl b:Nat)(A tD:World):Prop where
 os:tD.os=A.os
 tape:tD.tape=A.tape
 output:tD.output=A.output
 size:A.heap.size<=tD.heap.size
 block:∀k,k<sl->k≠b->tD.heap[k]? =A.heap[k]?
theorem cO.trans{C:World}(h:cO sl b A tD)(k:cO sl b tD C):cO sl b A C:=
 ⟨k.os.trans h.os,k.tape.trans h.tape,k.output.trans h.output,Nat.le_trans h.size k.size,λi ew hb=>(k.block i ew hb).trans (h.block i ew hb)⟩
theorem JC(h:eV A tD)(a:sl<=A.heap.size):cO sl b A tD:=⟨h.os,h.tape,h.output,h.size,λk c _=>h.block k (Nat.lt_of_lt_of_le c a)⟩
theorem cO.putObj(A:World)(o:Obj)(eB:sl<=l):cO sl b A (A.putObj l o):=⟨rfl,rfl,rfl,by simp,λk a _=>World.putObj_heap_other (by omega)⟩
theorem F5(h:eV A tD):A.grownBy tD none:=⟨h.os,h.tape,h.output,h.size,λk a _=>h.block k a⟩
theorem cO.es(h:eV w0 A)(a:cO sl b A tD)(d:w0.heap.size<=sl)(hb:w0.heap.size<=b):eV w0 tD:=
 ⟨a.os.trans h.os,a.tape.trans h.tape,a.output.trans h.output,Nat.le_trans h.size a.size,λk c=>(a.block k (by omega) (by omega)).trans (h.block k c)⟩
theorem JU{ea W0 W1 f:World}{r9:List eH}(d:U ea (B b c T::r9) W0)(E:U ea r9 W1)(g:cO W0.heap.size b W1 f):U ea r9 f:=by
 have hb:=((d.all _ (List.mem_cons_self)).2 b (by unfold B;rfl));refine⟨cO.es E.ee g d.ee.size hb.1,E.ye,λe h=>?_⟩;have G:=d.all e (List.mem_cons_of_mem _ h);have Y:=E.all e h;have i:∀k,e.F k->k≠b:=by
  intro k a j;subst j;exact(List.pairwise_cons.1 d.ye).1 e h k (by unfold B;rfl) a
 refine⟨e.eW W1 f (λk a=>g.block k (G.2 k a).2 (i k a)) Y.1,λk a=>⟨(G.2 k a).1,?_⟩⟩;exact Nat.lt_of_lt_of_le (Y.2 k a).2 g.size
def F6{α:Type}(P:Program)(ra:Nat)(oN:List Value)(enc:α->Value)(xs:List α)(sl b:Nat)(w:World):Prop:=
 ∀(l:Nat)(rU:Nat->World->Prop)(W:World),eV w W->(∀k A tD,rU k A->eV A tD->rU k tD) ->
  (∀k(er:k<xs.length) W1,rU k W1->YieldAt Fence.wide 0 P l #[enc (xs[k]'er)] W1 λe ng=>e= .returned (.bool true)/\rU (k+1) ng/\cO sl b W1 ng) ->
  rU 0 W->nr P ra (.func (.yield l) #[] #[]::oN).toArray W λ_ ng=>rU xs.length ng
@[irreducible] def lx (P:Program) (n:Nat) (c:Code) (D:List Deferred) (Q:Exit->Act->World->Prop) (f:te) (w:World):Prop:=
 ∀a,sK n D a f->c.wpIn Fence.wide 2 P Q a w
section
variable{P:Program}{n:Nat}{D:List Deferred}{Q:Exit->Act->World->Prop}{f:te}{w:World}
theorem IJ{id:Nat}{ops:Array Oper}{nu:Code}(h:oH none 2 P n ops D (λe ae w'=>e= .normal/\lx P n nu D Q ae w') (List.range ops.size) f w):lx P n (.seq (.region id ops false) nu) D Q f w:=by
 unfold lx;unfold oH at h;intro a ep;refine wpIn_seq (wpIn_mono (wpIn_region (h a ep)) ?_);rintro e tc w' ⟨ae,hr,rfl,b⟩;unfold lx at b;exact b tc hr
theorem lx.run{c:Code}{a:Act}(h:lx P n c D Q f w)(ep:sK n D a f):c.wpIn Fence.wide 2 P Q a w:=by
 unfold lx at h;exact h a ep
theorem lx.seq{si nu:Code}(h:lx P n si D (Exit.then (nu.wpIn Fence.wide 2 P Q) Q) f w):lx P n (.seq si nu) D Q f w:=by
 unfold lx;exactλa ep=>wpIn_seq (h.run ep)
theorem lx.ret(h:∀a,sK n D a f->Q .ret a w):lx P n .ret D Q f w:=by
 unfold lx;exactλa ep=>wpIn_ret (h a ep)
theorem lx.range{α:Type}{xs:List α}{enc:α->Value}{g:Operand}{p rE u y z:Nat}{i j:Array Oper}{ra:Nat}[S:lS P ra]{oN:List Value}{b:Nat}
 (T:eD f g= .func (.func ra) #[] oN.toArray) (U:Nat.blt p n=true) (V:F6 P ra oN enc xs w.heap.size b w)
 (I:Nat->World->Prop) (q:Nat)
 (m:∀k A tD row,I k A->A.grownBy tD row->(∀r,row=some r->w.heap.size<=r/\∃o:Obj,A.heap[r]? =some o/\o.isCells=false) ->I k tD)
 (em:I 0 w)
 (X:∀(l:Nat)(x:α)(W:World),oH (some l) 0 P n i [] (λe ae s=>e= .normal/\ae=o7 (o7 f p (enc x)) q (enc x)/\s=W) (List.range i.size) (o7 f p (enc x)) W)
 (Z:∀(l k:Nat)(c:k<xs.length)(W:World),I k W->oH (some l) 0 P n j [] (λe _ s=>e= .normal/\KeepsOthers W s/\cO w.heap.size b W s/\I (k+1) s) (List.range j.size) (o7 (o7 f p (enc (xs[k]'c))) q (enc (xs[k]'c))) W)
 (pc:∀(d:Nat)(W:World),I xs.length W->W.heap[d]? =some (.deferred (some [])) ->w.heap.size<=d->∀a,sK n ({target:=.collected d,args:=#[]}::D) a f->Q .normal a W):
 lx P n (.block rE (.rangeFunc g #[p] (.region z i false) (.block u (.region y j false)))) D Q f w:=by
 unfold lx;intro a ep;refine wpIn_block (wpIn_rangeFunc ?_);intro fn zm;obtain⟨rec,h⟩:∃rec:LoopState->Loop,rec=λeW=>{state:=eW,pending:=none,fn,tmps:=a.tmps,params:=#[p],assign:=(.region z i false),body:=(.block u (.region y j false)),defers:=w.heap.size}:=⟨_,rfl⟩;obtain⟨L,H⟩:∃L,L=w.heap.size+1:=⟨_,rfl⟩;obtain⟨W1,t⟩:∃W1,(w.alloc (.deferred (some []))).alloc (.loop (rec .ready))=W1:=⟨_,rfl⟩;have J:eV w W1:=by rw[<-t];exact(eV.alloc w _).trans (eV.alloc _ _)
 have JF:W1.heap[L]? =some (.loop (rec .ready)):=by
  rw[<-t,H];have:=World.alloc_heap_new (w.alloc (.deferred (some []))) (.loop (rec .ready));rwa[World.size_alloc]at this
 have JP:W1.heap[w.heap.size]? =some (.deferred (some [])):=by
  rw[<-t];exact(Below.heap_alloc _ _ _ (by simp)).trans (World.alloc_heap_new w _)
 refine⟨L,[{target:=.collected w.heap.size,args:=#[]}],W1,{target:=.fn (.func ra) oN.toArray,args:=#[.func (.yield L) #[] #[]]},W1,ra,#[.func (.yield L) #[] #[]]++oN.toArray,W1,?_,?_,λ_ _=>trivial,?_,λ_=>by omega,?_⟩
 .rw[<-t,h,H];exact run_enterLoop_outer _ _ _ _ _
 .have eR:=ep.eval;simp only[resolve,rangeCall,eR,T];simp[go_sem];rfl
 .simp[invoke,go_sem,gI S]
 have K:=V L (λk W=>I k W/\W.heap[L]? =some (.loop (rec .ready))/\W.heap[w.heap.size]? =some (.deferred (some []))) W1 J
  (λk A tD⟨G,Y,ej⟩ B=>⟨m k A tD none G (F5 B) (λr e=>by cases e),B.get Y,B.get ej⟩)
  (by
   rintro k c W ⟨ew,eB,hd⟩;have hlt:L<W.heap.size:=(Array.getElem?_eq_some_iff.1 eB).1;have tu:(Instr.yield L #[enc (xs[k]'c)]).run P W= .ok (.round L fn (a.tmps.setIfInBounds p (enc (xs[k]'c))) (.region z i false) (.block u (.region y j false))) W:=by
    have G:=run_yield (P:=P) (args:=#[enc (xs[k]'c)]) eB (by rw[h];rfl);rw[h]at G;simpa using G
   refine⟨fn,_,_,_,tu,roundIn_of_wpIn (F:=Fence.wide) trivial ?_⟩;have bd:sK n [] {tmps:=a.tmps.setIfInBounds p (enc (xs[k]'c)),defers:=[]} (o7 f p (enc (xs[k]'c))):=by
    have G:sK n [] {a with defers:=[]} f:=⟨rfl,ep.size,ep.ot⟩;exact G.put (dst:=some p) (by intro d hd;cases hd;simpa using U) _
   have M:=X L (xs[k]'c) W;unfold oH at M;refine wpIn_mono (wpIn_region (M _ bd)) ?_;rintro e dT aB ⟨f1,oe,rfl,rfl,iN⟩;have u4:=iN.symm;subst u4;have lk:(W.putObj L (.loop {rec .ready with state:=.busy})).heap[L]? =some (.loop {rec .ready with state:=.busy}):=World.putObj_heap_same hlt;have bc:(W.putObj L (.loop {rec .ready with state:=.busy})).heap[w.heap.size]? =some (.deferred (some [])):=(World.putObj_heap_other (by omega)).trans hd;have IQ:I k (W.putObj L (.loop {rec .ready with state:=.busy})):=m k W _ (some L) ew (grownBy_putObj' W L _) (λr e=>by cases e;exact⟨by omega,_,eB,rfl⟩);refine⟨_,run_beginRound eB (by rw[h]),?_⟩;have N:=Z L k c _ IQ;unfold oH at N;refine wpIn_block (wpIn_mono (wpIn_region (N _ oe)) ?_);rintro e da C ⟨f2,nw,rfl,O,bu,JG⟩;have E:=O.same _ _ lk rfl;have wz:=O.same _ _ bc rfl;have JW:=(Array.getElem?_eq_some_iff.1 E).1;have ub:=run_endRound (P:=P) none E;refine⟨_,_,ub,rfl,⟨m _ C _ (some L) JG (grownBy_putObj' C L _) (λr e=>by cases e;exact⟨by omega,_,E,rfl⟩),?_,(World.putObj_heap_other (by omega)).trans wz⟩,?_⟩
   .rw[World.putObj_heap_same JW,h];rfl
   exact((cO.putObj W _ (by omega)).trans bu).trans (cO.putObj C _ (by omega)))
  ⟨m 0 w W1 none em (F5 J) (λr e=>by cases e),JF,JP⟩
 unfold nr at K;have TX:CallsIn Fence.wide 1 P ra (#[.func (.yield L) #[] #[]]++oN.toArray) W1 _:=callsIn_wide.2 (by
  have aQ:(#[.func (.yield L) #[] #[]]++oN.toArray:Array Value)=(.func (.yield L) #[] #[]::oN).toArray:=by apply Array.ext';simp
  rw[aQ];exact K)
 refine CallsIn.mono TX ?_;rintro e W2 ⟨v,rfl,ew,eB,hd⟩;have hlt:=(Array.getElem?_eq_some_iff.1 eB).1;have ub:=run_endLoop (P:=P) eB (by rw[h];simp);rw[h]at ub;refine⟨none,_,ub,?_⟩;have R:=pc w.heap.size _ (m _ W2 (W2.putObj L (.loop {rec .ready with state:=.exhausted})) (some L) ew (grownBy_putObj' W2 L _) (λr e=>by cases e;exact⟨by omega,_,eB,rfl⟩)) ((World.putObj_heap_other (by omega)).trans hd) (Nat.le_refl _);rw[h]at R;exact R _ ⟨by rw[<-ep.defers];rfl,ep.size,ep.ot⟩
theorem Pe{g:FuncId}{fn:Func}{c:Code}{args:List Value}{R:Value->World->Prop}
 (a:P.funcs[g]? =some fn) (hb:fn.body=some c) (b:fn.ntmps=n) (d:Nat.ble args.length n=true)
 (h:lx P n c [] (bodyPostM Fence.wide 2 P fn (λe w'=>∃v,e= .returned v/\R v w')) (mv args) w):nr P g args.toArray w R:=by
 unfold nr;refine(callsIn_wide (n:=2)).1 (callsIn_of_wp_marks a hb trivial ?_ rfl);unfold lx at h;have f:args.length<=n:=by simpa using d
 refine h _ ⟨rfl,by simp[b];omega,λi=>?_⟩;simp only[mv,Array.getD_eq_getD_getElem?,Array.getElem?_append,List.size_toArray];split
 .simp
 rename_i ew;have:args[i]? =none:=List.getElem?_eq_none (by omega);simp only[this,Option.getD_none,Array.getElem?_replicate];split<;>rfl
theorem JY{fn:Func}{R:Value->World->Prop}{a:Act}{d:Nat}{aw:List ResultVar}{vs:List Value}(ep:sK n [{target:=.collected d,args:=#[]}] a f)(hd:w.heap[d]? =some (.deferred (some [])))(hr:fn.results=aw.toArray)
 (tG:hY P f (w.putObj d (.deferred none)) aw vs) (b:R (uB vs) (w.putObj d (.deferred none))):bodyPostM Fence.wide 2 P fn (λe w'=>∃v,e= .returned v/\R v w') .ret a w:=by
 have c:fn.results.toList=aw:=by rw[hr]
 subst c;show LeavesInM _ _ _ _ _ _ a.defers _ _;rw[ep.defers];exact⟨by simp,.inl ⟨_,_,rfl,run_takeDeferred hd,_,hY.run (a:={a with defers:=[]}) ep.IX tG,_,rfl,b⟩⟩
end
theorem JB(h:eV A tD):KeepsOthers A tD:=⟨h.size,λk o a _=>h.get a⟩
theorem eV.putObj{d:Nat}{o:Obj}(h:eV w0 W)(hd:w0.heap.size<=d):eV w0 (W.putObj d o):=
 ⟨h.os,h.tape,h.output,Nat.le_trans h.size (by simp),λk a=>(World.putObj_heap_other (by omega)).trans (h.block k a)⟩
theorem JV{k:Nat}(d:(B b c T).A W)(a:(B b c T).F k):∃o:Obj,W.heap[k]? =some o/\o.isCells=true:=by
 unfold B at d a;have a:k=b:=a;subst a;exact⟨_,d,rfl⟩
theorem U.JK{S:List eH}{row:Option Nat}(h:U w0 S A)(a:A.grownBy tD row)(hr:∀r,row=some r->w.heap.size<=r/\∃o:Obj,A.heap[r]? =some o/\o.isCells=false)(p:w0.heap.size<=w.heap.size)
 (l:∀e∈S,∃b c T,e=B b c T):U w0 S tD:=by
 have key:∀k o,A.heap[k]? =some o->(k<w0.heap.size∨o.isCells=true) ->tD.heap[k]? =A.heap[k]? :=by
  intro k o d Y;refine a.block k (Array.getElem?_eq_some_iff.1 d).1 ?_;intro e;obtain⟨ej,q,g,i⟩:=hr k e.symm;rcases Y with Y|Y
  .omega
  rw[d]at g;cases g;rw[Y]at i;cases i
 refine⟨⟨a.os.trans h.ee.os,a.tape.trans h.ee.tape,a.output.trans h.ee.output,Nat.le_trans h.ee.size a.size,λk d=>?_⟩,h.ye,λe j=>?_⟩
 .have m:k<A.heap.size:=Nat.lt_of_lt_of_le d h.ee.size;exact(key k _ (Array.getElem?_eq_getElem m) (.inl d)).trans (h.ee.block k d)
 have G:=h.all e j;refine⟨e.eW A tD (λk f=>?_) G.1,λk f=>⟨(G.2 k f).1,Nat.lt_of_lt_of_le (G.2 k f).2 a.size⟩⟩;obtain⟨b,c,T,rfl⟩:=l e j;obtain⟨o,e1,n⟩:=JV G.1 f;exact key k o e1 (.inr n)
section
variable{P:Program}{f:te}{w:World}{R:Value->World->Prop}{d:Option Tmp}{T:TypeId}{pos:String}{eO:Array Edge}{eQ:Option (Nat×Bool)}
theorem JX{eb c b:Nat}[j:nm P eb 1]{x y:Operand}{u v:Value}{w0:World}{S:List eH}(E:U w0 S w)(Z:eD f x= .pointer (some ⟨b,0,none⟩))(l:eD f y=v)(g:v.cells=#[v])(G:v.oneCell'=true)(m:tP (B b #[u] c) S)
 (h:∀w',(∀tp,iH (B b #[u] c) (B b #[v] c) S tp->U w0 tp w') ->(∀sl,cO sl b w w') ->KeepsOthers w w'->R undef w'):J P f ⟨d,.store eb x y,T,pos,eO,eQ⟩ w R:=by
 have hb:=E.dF m;have hr:=Iu (P:=P) j hb 0 v (by rw[g];rfl) (by simp) (by rw[g];intro u i;simp at i;subst i;exact G);have n:((#[u]:Array Value).toList.take 0++v.cells.toList++(#[u]:Array Value).toList.drop (0+v.cells.toList.length)).toArray=#[v]:=by rw[g];rfl
 rw[n]at hr;refine qK (w':=w.setRow b #[v]) ?_ (h _ (λtp p=>lv ?_ ?_ ?_ E p) (λsl=>⟨rfl,rfl,rfl,by simp[World.setRow],λk _ a=>setRow_other w b k _ a⟩) ⟨by simp[World.setRow],λk o a e1=>?_⟩)
 .simp[execOp,Instr.storeAt,Z,l,Instr.sureAddr,hr]
 .unfold B;exact⟨rfl,rfl,rfl,by simp[World.setRow],λk _ a=>setRow_other w b k _ a⟩
 .unfold B;exact setRow_heap w b _ _ c _ hb
 .unfold B;intro k a;exact .inl a
 by_cases e:k=b
 .subst e;rw[hb]at a;cases a;cases e1
 exact(setRow_other w b k _ e).trans a
end
end
section
variable{o:Oper}
@[irreducible] def lu (l:Nat) (o:Obj):eH:=⟨λk=>k=l,λw=>w.heap[l]? =some o,λw w' h rt=>(h l rfl).trans rt⟩
theorem IZ(l:Nat)(o:Obj):(lu l o).F=λk=>k=l:=by unfold lu;rfl
theorem H8(l:Nat)(o:Obj):(lu l o).A=λw=>w.heap[l]? =some o:=by unfold lu;rfl
section
variable{w0 w:World}{S tp:List eH}
theorem U.I0{l:Nat}{o:Obj}(h:U w0 S w)(a:tP (lu l o) S):w.heap[l]? =some o:=by have:=h.get a;rw[H8]at this;exact this
theorem U.I1(h:U w0 S w)(o:Obj):U w0 (lu w.heap.size o::S) (w.alloc o):=
 h.new (eV.alloc w _) (by rw[H8];exact heap_alloc_new w _) (by rw[IZ];intro k a;have a:k=w.heap.size:=a;subst a;exact⟨Nat.le_refl _,by simp⟩)
theorem U.H9{l:Nat}{o:Obj}(a:Obj)(h:U w0 S w)(c:iH (lu l o) (lu l a) S tp):U w0 tp (w.putObj l a):=by
 have eB:=h.I0 c.kS;have hlt:=(Array.getElem?_eq_some_iff.1 eB).1;have f:qV (lu l o).F w (w.putObj l a):=⟨rfl,rfl,rfl,by simp,λk d b=>by
  rw[IZ]at b;have b:k≠l:=b;exact World.putObj_heap_other (by omega)⟩
 refine lv (w:=w) (w':=w.putObj l a) (e:=lu l o) (o1:=lu l a) f ?_ ?_ h c
 .rw[H8];exact World.putObj_heap_same hlt
 rw[IZ,IZ];exactλk d=>.inl d
end
@[irreducible] def ny (l:Nat) (P:Program) (n:Nat) (c:Code) (Q:Exit->te->World->Prop) (f:te) (w:World):Prop:=
 ∀a,sK n [] a f->c.wpIn (p3 (some l)) 0 P (λe tc w'=>∃ae,sK n [] tc ae/\Q e ae w') a w
section
variable{l:Nat}{P:Program}{n:Nat}{Q:Exit->te->World->Prop}{f:te}{w:World}
theorem ny.run{c:Code}{a:Act}(h:ny l P n c Q f w)(ep:sK n [] a f):c.wpIn (p3 (some l)) 0 P (λe tc w'=>∃ae,sK n [] tc ae/\Q e ae w') a w:=by
 unfold ny at h;exact h a ep
theorem ny.region{id:Nat}{ops:Array Oper}(h:oH (some l) 0 P n ops [] Q (List.range ops.size) f w):ny l P n (.region id ops false) Q f w:=by
 unfold ny;unfold oH at h;exactλa ep=>wpIn_region (h a ep)
theorem ny.seq{si nu:Code}(h:ny l P n si (λe ae w'=>match e with| .normal=>ny l P n nu Q ae w'|e=>Q e ae w') f w):ny l P n (.seq si nu) Q f w:=by
 unfold ny;intro a ep;refine wpIn_seq (wpIn_mono (h.run ep) ?_);rintro e tc w' ⟨ae,hr,b⟩;cases e<;>first|exact ny.run b hr|exact⟨ae,hr,b⟩
theorem ny.cond{c:Operand}{x y:Code}(b:Bool)(d:eD f c= .bool b)(e:b=true->ny l P n x Q f w)(g:b=false->ny l P n y Q f w):ny l P n (.cond c x y) Q f w:=by
 unfold ny;intro a ep;refine wpIn_cond (t:=b) (by rw[ep.eval];exact d) ?_;cases b
 .exact(g rfl).run ep
 exact(e rfl).run ep
theorem ny.skip(h:Q .normal f w):ny l P n .skip Q f w:=by unfold ny;exactλa ep=>wpIn_skip ⟨f,ep,h⟩
theorem ny.block{id:Nat}{c:Code}(h:ny l P n c (λe ae w'=>match e with| .exit i=>if i=id then Q .normal ae w' else Q (.exit i) ae w'|e=>Q e ae w') f w):ny l P n (.block id c) Q f w:=by
 unfold ny;intro a ep;refine wpIn_block (wpIn_mono (h.run ep) ?_);rintro e tc w' ⟨ae,hr,b⟩;cases e with
 |exit i=>
  show Exit.inBlock id _ (.exit i) tc w';have b:if i=id then Q .normal ae w' else Q (.exit i) ae w':=b
  simp only[Exit.inBlock];by_cases ew:i=id
  .rw[if_pos ew]at b;simp only[ew,if_true];exact⟨ae,hr,b⟩
  rw[if_neg ew]at b;simp only[ew,if_false];exact⟨ae,hr,b⟩
 |_=>exact⟨ae,hr,b⟩
end
section
variable{P:Program}{n:Nat}{D:List Deferred}{Q:Exit->Act->World->Prop}{f:te}{w:World}
theorem JJ{oh σ ρ:Type}{g:Operand}{p q rE:Nat}{cI cb:Code}{ra:Nat}[iR:lS P ra]{oN:List Value}{ea:World}{r9:List eH}
 (wE:oh->Prop) (eb:oh->List eH) (u v:oh->Value) (K:oh->σ->Prop) (eN:σ->List eH) (M:oh->ρ->Prop) (k:ρ->List eH) (Fin:σ->Prop) (Stop:ρ->Prop)
 (tF:eD f g= .func (.func ra) #[] oN.toArray) (e3:Nat.blt p n=true) (aY:Nat.blt q n=true) (E:U ea r9 w)
 (rz:∀(l:Nat)(X N:List eH)(W:World),U ea (X++r9) W->
  (∀t W1,wE t->U ea (X++eb t) W1->YieldAt Fence.wide 0 P l #[u t,v t] W1 λe i=>(e= .returned (.bool true)/\∃s,K t s/\U ea (X++eN s) i)∨(e= .returned (.bool false)/\∃r,M t r/\U ea (N++k r) i)) ->
  nr P ra (.func (.yield l) #[] #[]::oN).toArray W λ_ i=>(∃s,Fin s/\U ea (X++eN s) i)∨(∃r,Stop r/\U ea (N++k r) i))
 (jj:∀(l:Nat)(X:List eH)(t:oh)(W:World),wE t->U ea (X++eb t) W->
  ny l P n cI (λe ae i=>e= .normal/\∃A,U ea (X++A) i/\∀C W2,U ea (C++A) W2->
   ny l P n cb (λe _ O=>(e= .normal/\∃s,K t s/\U ea (C++eN s) O)∨(e= .exit rE/\∃r,M t r/\U ea (C++k r) O)) ae W2) (o7 (o7 f p (u t)) q (v t)) W)
 (pc:∀(d:Nat)(W:World)(s:σ),Fin s->U ea (lu d (.deferred (some []))::eN s) W->∀a,sK n ({target:=.collected d,args:=#[]}::D) a f->Q .normal a W)
 (Le:∀(d:Nat)(W:World)(r:ρ),Stop r->U ea (lu d (.deferred (some []))::k r) W->∀a,sK n ({target:=.collected d,args:=#[]}::D) a f->Q .normal a W):
 lx P n (.block rE (.rangeFunc g #[p,q] cI cb)) D Q f w:=by
 unfold lx;intro a ep;refine wpIn_block (wpIn_rangeFunc ?_);intro fn zm;obtain⟨rec,b⟩:∃rec:LoopState->Option Code->Loop,rec=λeW s4=>{state:=eW,pending:=s4,fn,tmps:=a.tmps,params:=#[p,q],assign:=cI,body:=cb,defers:=w.heap.size}:=⟨_,rfl⟩;obtain⟨L,R⟩:∃L,L=w.heap.size+1:=⟨_,rfl⟩;obtain⟨d,hd⟩:∃d,d=w.heap.size:=⟨_,rfl⟩;obtain⟨X,B⟩:∃X:LoopState->Option Code->List eH,X=λeW s4=>[lu L (.loop (rec eW s4)),lu d (.deferred (some []))]:=⟨_,rfl⟩;have j:∀{eW s4 S W},U ea (X eW s4++S) W->W.heap[L]? =some (.loop (rec eW s4)):=by
  intro eW s4 S W h;rw[B]at h;exact h.I0 (S:=lu L (.loop (rec eW s4))::_) .nW
 have m:∀{eW s4 S W}(H I),U ea (X eW s4++S) W->U ea (X H I++S) (W.putObj L (.loop (rec H I))):=by
  intro eW s4 S W H I h;rw[B]at h⊢;exact U.H9 (o:=.loop (rec eW s4)) _ h .nW
 have T:∀{eW s4 S W},U ea (X eW s4++S) W->U ea (lu d (.deferred (some []))::S) W:=by
  intro eW s4 S W h;rw[B]at h;exact h.sub (List.sublist_cons_self _ _)
 obtain⟨W1,V⟩:∃W1,(w.alloc (.deferred (some []))).alloc (.loop (rec .ready none))=W1:=⟨_,rfl⟩;have tR:U ea (X .ready none++r9) W1:=by
  rw[<-V,B,R,hd];have h:=(E.I1 (.deferred (some []))).I1 (.loop (rec .ready none));rw[World.size_alloc]at h;exact h
 refine⟨L,[{target:=.collected w.heap.size,args:=#[]}],W1,{target:=.fn (.func ra) oN.toArray,args:=#[.func (.yield L) #[] #[]]},W1,ra,#[.func (.yield L) #[] #[]]++oN.toArray,W1,?_,?_,λ_ _=>trivial,?_,λ_=>by omega,?_⟩
 .rw[<-V,b,R];exact run_enterLoop_outer _ _ _ _ _
 .have eR:=ep.eval;simp only[resolve,rangeCall,eR,tF];simp[go_sem];rfl
 .simp[invoke,go_sem,gI iR]
 have Z:=rz L (X .ready none) (X .done (some (.exit rE))) W1 tR (λt W tu c=>by
  have eB:=j c;have Lt:(Instr.yield L #[u t,v t]).run P W= .ok (.round L fn ((a.tmps.setIfInBounds p (u t)).setIfInBounds q (v t)) cI cb) W:=by
   have G:=run_yield (P:=P) (args:=#[u t,v t]) eB (by rw[b];rfl);rw[b]at G;simpa using G
  refine⟨fn,_,_,_,Lt,roundIn_of_wpIn (F:=Fence.wide) trivial ?_⟩;have bd:sK n [] {tmps:=(a.tmps.setIfInBounds p (u t)).setIfInBounds q (v t),defers:=[]} (o7 (o7 f p (u t)) q (v t)):=by
   have G:sK n [] {a with defers:=[]} f:=⟨rfl,ep.size,ep.ot⟩;exact(G.put (dst:=some p) (by intro d hd;cases hd;simpa using e3) _).put (dst:=some q) (by intro d hd;cases hd;simpa using aY) _
  refine wpIn_mono ((jj L (X .ready none) t W tu c).run bd) ?_;rintro e dT aB ⟨f1,oe,rfl,A,vS,er⟩;have h8:=j vS;refine⟨_,run_beginRound h8 (by rw[b]),?_⟩;have x:U ea (X .busy none++A) (aB.putObj L (.loop {rec .ready none with state:=.busy})):=by
   have Y:=m .busy none vS;rw[b]at Y⊢;exact Y
  refine wpIn_mono ((er (X .busy none) _ x).run oe) ?_;rintro e da h9 ⟨f2,nw,wT⟩;rcases wT with⟨rfl,s,tm,y⟩|⟨rfl,r,hb,y⟩
  .refine⟨_,_,run_endRound (P:=P) none (j y),.inl ⟨rfl,s,tm,?_⟩⟩;have Y:=m .ready none y;rw[b]at Y⊢;exact Y
  refine⟨_,_,run_endRound (P:=P) (some (.exit rE)) (j y),.inr ⟨rfl,r,hb,?_⟩⟩;have Y:=m .done (some (.exit rE)) y;rw[b]at Y⊢;exact Y)
 unfold nr at Z;have TX:CallsIn Fence.wide 1 P ra (#[.func (.yield L) #[] #[]]++oN.toArray) W1 _:=callsIn_wide.2 (by
  have aQ:(#[.func (.yield L) #[] #[]]++oN.toArray:Array Value)=(.func (.yield L) #[] #[]::oN).toArray:=by apply Array.ext';simp
  rw[aQ];exact Z)
 refine CallsIn.mono TX ?_;rintro e W2 ⟨v,rfl,jc⟩;rcases jc with⟨s,J,c⟩|⟨r,J,c⟩
 .have ub:=run_endLoop (P:=P) (j c) (by rw[b];simp);refine⟨none,_,(by rw[ub,b]),?_⟩;have x:U ea (X .exhausted none++eN s) (W2.putObj L (.loop {rec .ready none with state:=.exhausted})):=by
   have Y:=m .exhausted none c;rw[b]at Y⊢;exact Y
  have z:=pc d _ s J (T x) {a with defers:={target:=.collected w.heap.size,args:=#[]}::a.defers} ⟨by rw[<-ep.defers,hd],ep.size,ep.ot⟩;rw[b]at z;exact z
 have ub:=run_endLoop (P:=P) (j c) (by rw[b];simp);refine⟨some (.exit rE),_,(by rw[ub,b]),?_⟩;refine wpIn_exit ?_;have x:U ea (X .exhausted (some (.exit rE))++k r) (W2.putObj L (.loop {rec .done (some (.exit rE))with state:=.exhausted})):=by
  have Y:=m .exhausted (some (.exit rE)) c;rw[b]at Y⊢;exact Y
 have z:=Le d _ r J (T x) {a with defers:={target:=.collected w.heap.size,args:=#[]}::a.defers} ⟨by rw[<-ep.defers,hd],ep.size,ep.ot⟩;show Exit.inBlock rE Q (.exit rE) _ _;simp only[Exit.inBlock,if_true];rw[b]at z;exact z
end
theorem JQ{P:Program}{r:Option Nat}{m:Nat}{a:Act}{w:World}{K:Act->World->Prop}{Q:Exit->Act->World->Prop}(f:∀c,o.op≠ .defer c)(h:o.wp P a w K Q):o.wpIn (p3 r) m P a w K Q:=by
 refine⟨λ_ _=>trivial,?_⟩;rw[Oper.semAt_eq _ _ _ f];unfold Oper.wp at h;generalize(execOp a.eval o).run P w=i at*;cases i with
 |ok x w'=>
  cases x with
  |enter g args=>
   refine⟨λb=>by simp[p3,Fence.wide]at b,?_⟩;have Y:CallsIn Fence.wide (m-1) P g args w' _:=callsIn_wide.2 h;exact CallsIn.mono (F:=p3 r) Y λe k j=>j
  |row row args=>exact⟨λb=>by simp[p3,Fence.wide]at b,λc cs _=>(by obtain⟨v,pl,tZ,s⟩:=h c cs;exact⟨v,pl,tZ,stepsIn_wide.2 s⟩)⟩
  |value v=>exact h
  |skip=>exact h
  |defer d=>exact h
  |_=>exact(h:False).elim
 |halt x w'=>cases x<;>exact h
def La(ops:List Oper):Bool:=ops.all λo=>match o.op with| .defer _=>false|_=>true
theorem JZ{l:List Oper}(h:La l=true){i:Nat}(e1:l.toArray[i]? =some o):∀c,o.op≠ .defer c:=by
 intro c a;have e5:o∈l:=by simpa using Array.mem_of_getElem? e1
 have:=List.all_eq_true.1 h o e5;rw[a]at this;cases this
theorem I2{P:Program}{r:Option Nat}{m:Nat}{sn:Region.Mode}{ops:Array Oper}{Q:Exit->Act->World->Prop}(b:¬LetsOut Q)(d:∀(i:Nat)(o:Oper),ops[i]? =some o->∀c,o.op≠ .defer c):
 ∀(n:Nat)(listed:Array Bool)(a:Act)(w:World),wpAny P sn ops Q n listed a w->wpAnyIn (p3 r) m P sn ops Q n listed a w
 |0,_,_,_,h=>h
 |n+1,listed,a,w,h=>⟨h.1,λi ew=>by
  have Y:=h.2 i ew;unfold wpOp at Y;unfold wpOpIn;cases e1:ops[i]? with
  |none=>simp only[e1]at Y⊢;exact I2 b d n _ _ _ Y
  |some o=>
   simp only[e1]at Y⊢;split at Y
   .rename_i e;rw[if_pos e];rcases Y with Y|Y
    .exact Oper.wpIn_mono (λa w f=>I2 b d n _ _ _ f) (JQ (d i o e1) Y)
    exact absurd Y.2 b
   rename_i e;rw[if_neg e];exact⟨λ_ _=>trivial,I2 b d n _ _ _ Y⟩⟩
section
variable{P:Program}{n:Nat}{Q:Exit->te->World->Prop}{f:te}{w:World}
theorem J0[e5:vx P][D:lb]{id:Nat}{l:List Oper}{c1:Option Nat}{m:Nat}(e9:Nat)(r:sF)(b:(Region.noSelect l.toArray&&bn l.toArray e9&&dg l.toArray e9 (Array.replicate l.toArray.size false) r&&decide (lK r=l.length)&&La l)=true)
 (d:∀(c:List PanicEntry) f w,¬Q (.panic c) f w) (g:∀f w,¬Q .outgrown f w) (h:∀aB,eV w aB->∃I:World->Prop,I aB/\e2 P n l.toArray e9 I Q r f aB) (a:Act) (ep:so n a f):(Code.region id l.toArray true).wpIn (p3 c1) m P (λe tc w'=>∃ae,so n tc ae/\Q e ae w') a w:=by
 simp only[Bool.and_eq_true,decide_eq_true_eq]at b;obtain⟨⟨⟨⟨j,k⟩,b⟩,hlen⟩,p⟩:=b;obtain⟨I,q,h⟩:=h _ (eV.drawn w (w.drawn+1));unfold e2 at h;refine wpIn_region_any e5.out ?_;have:=Ip _ _ _ _ (h _ a j b (.inl ⟨HT k,q⟩) ep (λc f f1 w h=>absurd h (d c f w)));rw[hlen]at this;exact I2 (by rintro⟨a,w,ae,_,s⟩;exact g _ _ s) (λi o e1=>JZ p e1) _ _ _ _ (by simpa using this)
theorem Lo[e5:vx P]{c2 id:Nat}{l:List Oper}(e9:Nat)(r:sF)(b:(Region.noSelect l.toArray&&bn l.toArray e9&&dg l.toArray e9 (Array.replicate l.toArray.size false) r&&decide (lK r=l.length)&&La l)=true)
 (d:∀(c:List PanicEntry) f w,¬Q (.panic c) f w) (g:∀f w,¬Q .outgrown f w) (h:∀aB,eV w aB->∃I:World->Prop,I aB/\e2 P n l.toArray e9 I Q r f aB):ny c2 P n (.region id l.toArray true) Q f w:=by
 unfold ny;exactλa ep=>wpIn_mono (J0 e9 r b d g h a ep.nil) λe tc w'⟨ae,hr,i⟩=>⟨ae,hr.F4,i⟩
end
end
section
open Go.Proofs Tryz
@[reducible] noncomputable def bm{α:Type}(l:List (Nat×α))(k:Nat):Option α:=List.rec (motive:=λ_=>Option α) none (λp _ r=>Prod.rec (motive:=λ_=>Option α) (λa b=>match Nat.beq k a with|true=>some b|false=>r) p) l
class vR{α:Type}(a:Option α)(b:outParam α):Prop where t:a=some b
instance{α:Type}{b:α}:vR (some b) b:=⟨rfl⟩
theorem Pt{α:Type}{l:List (Nat×α)}{k:Nat}{b:α}(h:bm l k=some b):(k,b)∈l:=by
 induction l with
 |nil=>cases h
 |cons p l d=>
  obtain⟨a,c⟩:=p;change(match Nat.beq k a with|true=>some c|false=>bm l k)=some b at h;split at h
  .rename_i e;cases h;rw[Nat.eq_of_beq_eq_true e];exact List.mem_cons_self
  exact List.mem_cons_of_mem _ (d h)
theorem zf{l:List (Nat×Nat)}{f:Nat->Option Nat}{k b:Nat}(h:(l.all λp=>f p.1==some p.2)=true)[Y:vR (bm l k) b]:f k=some b:=by
 have:=List.all_eq_true.1 h _ (Pt Y.t);simpa using this
@[reducible] noncomputable def Pa:List (Nat×Nat):=[(3,1),(4,1),(5,1),(22,1),(23,1),(25,3),(26,1),(28,11),(29,1),(30,1),(34,1),(37,1),(39,3),(40,1),(42,32),(43,1),(44,1),(46,39),(48,40),(49,1),(51,3),(53,48),(60,32),(62,34),(64,66),(66,34),(69,1),(70,1),(71,1),(73,3),(77,1),(80,1),(81,1),(83,1),(84,1),(86,7),(92,1),(101,1),(102,1),(103,1),(129,1),(130,1),(131,1),(134,1),(141,1),(143,51),(154,1),(156,3),(160,2),(163,2),(165,2),(169,1),(170,1),(172,4),(180,1),(189,6),(221,34),(227,2),(230,3),(235,4),(251,64),(252,1),(274,2),(295,2),(346,2),(356,1),(358,1),(365,1),(366,2),(405,1),(407,2),(410,1),(411,1),(415,54),(417,58),(438,41),(470,1),(472,1),(478,6),(493,3),(520,1),(574,2),(577,33),(621,35),(627,2)]
theorem J1:(Pa.all λp=>((prog.info? p.1).map (·.size))==some p.2)=true:=by kernel_rfl
instance{T s:Nat}[h:vR (bm Pa T) s]:nm prog T s:=⟨zf (f:=λT=>(prog.info? T).map (·.size)) J1⟩
@[reducible] noncomputable def Po:List (Nat×Nat):=[(3,8),(4,1),(5,1),(23,8),(30,24),(34,8),(60,32),(62,48),(64,80),(66,34),(77,1),(86,120),(92,8),(134,24),(143,248),(160,32),(163,32),(189,64),(221,80),(230,56),(251,64),(295,16),(358,8),(407,32),(410,8),(415,296),(417,344),(472,8),(493,40)]
theorem J2:(Po.all λp=>((prog.info? p.1).map (·.bytes))==some p.2)=true:=by kernel_rfl
instance{T s:Nat}[h:vR (bm Po T) s]:y8 prog T s:=⟨zf (f:=λT=>(prog.info? T).map (·.bytes)) J2⟩
@[reducible] noncomputable def Li:List (Nat×Nat):=[(3,0),(4,0),(5,0),(22,0),(23,0),(25,1),(26,0),(28,1),(29,0),(30,0),(34,0),(37,0),(39,1),(40,0),(42,1),(43,0),(44,0),(46,1),(48,1),(49,0),(51,1),(53,1),(56,0),(60,1),(62,1),(64,1),(66,1),(69,0),(70,0),(71,0),(73,1),(77,0),(80,0),(81,0),(83,0),(84,0),(86,1),(92,0),(96,0),(99,0),(101,0),(102,0),(103,0),(125,0),(129,0),(130,0),(131,0),(132,0),(133,0),(134,0),(141,0),(143,1),(154,0),(156,1),(160,1),(169,0),(170,0),(172,1),(180,0),(185,0),(189,1),(203,0),(206,0),(221,1),(224,0),(227,1),(230,1),(235,1),(246,0),(247,0),(251,1),(252,0),(254,0),(255,0),(274,1),(282,0),(283,0),(285,0),(287,0),(295,1),(300,0),(323,0),(324,0),(327,0),(344,0),(346,1),(356,0),(358,0),(365,0),(366,1),(367,0),(374,0),(391,0),(392,0),(395,0),(405,0),(407,1),(410,0),(411,0),(415,1),(417,1),(432,0),(470,0),(472,0),(480,0),(520,1),(574,1),(577,1),(621,1),(625,0),(627,1)]
theorem Pn:(Li.all λp=>((vm prog p.1).map λb=>bif b then 1 else 0)==some p.2)=true:=by kernel_rfl
theorem Ps{b:Bool}{o:Option Bool}(h:(o.map λb=>bif b then 1 else 0)=some (bif b then 1 else 0)):o=some b:=by cases o with
 |none=>cases h
 |some c=>cases c<;>cases b<;>first|rfl|cases h
instance{T:Nat}[h:vR (bm Li T) 0]:uX prog T:=⟨Ps (b:=false) (zf (f:=λT=>(vm prog T).map λb=>bif b then 1 else 0) Pn)⟩
instance{T:Nat}[h:vR (bm Li T) 1]:mj prog T:=⟨Ps (b:=true) (zf (f:=λT=>(vm prog T).map λb=>bif b then 1 else 0) Pn)⟩
@[reducible] noncomputable def Pr:List (Nat×Nat):=[(22,92),(26,4),(29,64),(30,5),(37,251),(40,60),(43,230),(44,221),(49,66),(69,163),(70,165),(71,23),(81,86),(83,30),(84,189),(89,91),(103,77),(134,3),(154,160),(170,295),(180,185),(185,53),(206,407),(252,134),(327,493),(347,346),(356,358),(374,143),(405,417),(408,410),(411,62),(470,472),(506,415),(507,34),(608,80)]
theorem J3:(Pr.all λp=>(match prog.underlying p.1 with|some (.slice eb)=>some eb|_=>none)==some p.2)=true:=by kernel_rfl
instance{T eb:Nat}[h:vR (bm Pr T) eb]:hl prog T eb:=⟨by
 have G:=zf (f:=λT=>match prog.underlying T with|some (.slice eb)=>some eb|_=>none) (k:=T) (b:=eb) J3;split at G
 .rename_i Y;cases G;exact Y
 cases G⟩
@[reducible] noncomputable def Ph:List (Nat×Nat):=[(33,105),(56,127),(96,136),(99,205),(101,208),(102,302),(129,259),(130,326),(131,329),(132,245),(133,249),(254,376),(255,369),(283,394),(285,397),(300,434),(358,372),(365,364),(472,478),(480,482),(505,34),(625,62)]
theorem wl:(Ph.all λp=>(match prog.underlying p.1 with|some (.pointer eb)=>some eb|_=>none)==some p.2)=true:=by kernel_rfl
instance{T eb:Nat}[h:vR (bm Ph T) eb]:fE prog T eb:=⟨by
 have G:=zf (f:=λT=>match prog.underlying T with|some (.pointer eb)=>some eb|_=>none) (k:=T) (b:=eb) wl;split at G
 .rename_i Y;cases G;exact Y
 cases G⟩
@[reducible] noncomputable def Pl:List (Nat×List Nat):=[(25,[0,1,2]),(28,[0,1,2,3,4,5,8,9,10]),(39,[0,1,2]),(46,[0,1,4,5,37,38]),(48,[0,1]),(51,[0,1,2]),(53,[0,1,41,42,45,46,47]),(62,[0,1,33]),(64,[0,32]),(66,[0,32,33]),(73,[0,1,2]),(86,[0,1,2,3,4,5]),(105,[0,1,2,3,4,5,6,7,8,9]),(127,[0]),(136,[0,11,12,13,14,15,16,17]),(143,[0,1,49]),(156,[0,1,2]),(160,[0,1]),(172,[0,1]),(189,[0,1,2,3,4,5]),(205,[0]),(208,[0,1]),(221,[0,32,33]),(230,[0,1,2]),(235,[0,1]),(245,[0,4800,4801,4802]),(249,[0,1]),(257,[0,1]),(259,[0]),(289,[0,1,2,3,4,5]),(295,[0,1]),(299,[0,1,2]),(302,[0,3,4,5,6,7]),(326,[0,1,2]),(329,[0,1]),(346,[0,1]),(364,[0,1,2]),(369,[0,2]),(372,[0,2,3]),(376,[0,1,2]),(394,[0,1,2]),(397,[0]),(407,[0,1]),(415,[0,48]),(417,[0,1,2,3,57]),(434,[0,3,4,5]),(438,[0,40]),(478,[0,1,2,3,4,5]),(482,[0,1]),(493,[0,1,2]),(502,[0,48,49,50]),(520,[0]),(524,[0,1]),(621,[0,1,2,3]),(627,[0,1]),(636,[0])]
noncomputable def Pd(S i off:Nat):Bool:=match prog.underlying S with
 |some (.struct nk)=>match nk[i]? with
  |some f=>f.offset==off&&(match(prog.info? f.type).map (·.size)with
   |some (_+1)=>true
   |_=>false)
  |none=>false
 |_=>false
theorem J4:(Pl.all λp=>(List.range p.2.length).all λi=>Pd p.1 i (p.2.getD i 0))=true:=by kernel_rfl
class I3(l:List Nat)(i:Nat)(v:outParam Nat):Prop where t:l[i]? =some v
instance{v:Nat}{l:List Nat}:I3 (v::l) 0 v:=⟨rfl⟩
instance{u v i:Nat}{l:List Nat}[h:I3 l i v]:I3 (u::l) (i+1) v:=⟨by simpa using h.t⟩
instance{S i off:Nat}{l:List Nat}[h:vR (bm Pl S) l][Y:I3 l i off]:je prog S i off:=⟨by
 have G:=List.all_eq_true.1 J4 _ (Pt h.t);obtain⟨ej,e8⟩:=List.getElem?_eq_some_iff.1 Y.t;have au:=List.all_eq_true.1 G i (List.mem_range.2 ej);simp only[List.getD_eq_getElem?_getD,Y.t,Option.getD_some]at au;unfold Pd at au;split at au
 .rename_i nk a;split at au
  .rename_i f b;rw[Bool.and_eq_true]at au;obtain⟨a2,iK⟩:=au;split at iK
   .rename_i k c;exact⟨nk,f,a,b,by simpa using a2,k,c⟩
   cases iK
  cases au
 cases au⟩
end
section
open Go.Proofs Tryz
namespace J5
instance:nm prog 3 1:={}
instance:y8 prog 3 8:={}
instance:uX prog 3:={}
instance:oB prog 3 (.int .i64 0):={}
instance:hZ prog 3 .i64:=⟨underlying3⟩
instance:oB prog 4 (.bool false):={}
instance:Ha prog 4:=⟨underlying4⟩
instance:oB prog 5 (.int .u8 0):={}
instance:hZ prog 5 .u8:=⟨underlying5⟩
instance:hl prog 22 92:=⟨underlying22⟩
instance:oB prog 23 (.int .u64 0):={}
instance:hZ prog 23 .u64:=⟨underlying23⟩
instance:mj prog 25:={}
instance:je prog 25 0 0:=Xh 0 underlying25
instance:nY prog 25 [#[.int .u64 0],#[.int .u64 0],#[.int .u64 0]]:=sv underlying25 (by kernel_rfl)
instance:nY prog 28 [#[.slice none 0 0],#[.int .i64 0],#[.int .i64 0],#[.int .i64 0],#[.int .i64 0],eK [#[.int .u64 0],#[.int .u64 0],#[.int .u64 0]],#[.int .u64 0],#[.int .i64 0],#[.slice none 0 0]]:=sv underlying28 (by kernel_rfl)
instance:oB prog 30 (.slice none 0 0):={}
instance:fE prog 33 105:=⟨underlying33⟩
instance:oB prog 34 (.int .i64 0):={}
instance:hZ prog 34 .i64:=⟨underlying34⟩
instance:oB prog 37 (.slice none 0 0):={}
instance:oB prog 39 (.agg (eK [#[.int .u8 0],#[.int .u8 0],#[.int .u8 0]])):={}
instance:oB prog 40 (.slice none 0 0):={}
instance:oB prog 42 (.agg ((Array.replicate 32 (.int .u8 0)))):={}
instance:du prog 42 32 5:=⟨underlying42⟩
instance:k0 prog 42:={}
instance:oB prog 46 (.agg (eK [#[.bool false],eK [#[.int .u8 0],#[.int .u8 0],#[.int .u8 0]],#[.slice none 0 0],(Array.replicate 32 (.int .u8 0)),#[.slice none 0 0],#[.slice none 0 0]])):={}
instance:nY prog 46 [#[.bool false],eK [#[.int .u8 0],#[.int .u8 0],#[.int .u8 0]],#[.slice none 0 0],(Array.replicate 32 (.int .u8 0)),#[.slice none 0 0],#[.slice none 0 0]]:=sv underlying46 (by kernel_rfl)
instance:oB prog 48 (.agg (eK [#[.slice none 0 0],eK [#[.bool false],eK [#[.int .u8 0],#[.int .u8 0],#[.int .u8 0]],#[.slice none 0 0],(Array.replicate 32 (.int .u8 0)),#[.slice none 0 0],#[.slice none 0 0]]])):={}
instance:nY prog 48 [#[.slice none 0 0],eK [#[.bool false],eK [#[.int .u8 0],#[.int .u8 0],#[.int .u8 0]],#[.slice none 0 0],(Array.replicate 32 (.int .u8 0)),#[.slice none 0 0],#[.slice none 0 0]]]:=sv underlying48 (by kernel_rfl)
instance:oB prog 51 (.agg (eK [#[.int .u64 0],#[.int .u64 0],#[.int .i64 0]])):={}
instance:nY prog 51 [#[.int .u64 0],#[.int .u64 0],#[.int .i64 0]]:=sv underlying51 (by kernel_rfl)
instance:oB prog 53 (.agg (eK [#[.slice none 0 0],eK [#[.slice none 0 0],eK [#[.bool false],eK [#[.int .u8 0],#[.int .u8 0],#[.int .u8 0]],#[.slice none 0 0],(Array.replicate 32 (.int .u8 0)),#[.slice none 0 0],#[.slice none 0 0]]],#[.slice none 0 0],eK [#[.int .u64 0],#[.int .u64 0],#[.int .i64 0]],#[.int .u64 0],#[.int .u64 0],#[.int .u64 0]])):={}
instance:nY prog 53 [#[.slice none 0 0],eK [#[.slice none 0 0],eK [#[.bool false],eK [#[.int .u8 0],#[.int .u8 0],#[.int .u8 0]],#[.slice none 0 0],(Array.replicate 32 (.int .u8 0)),#[.slice none 0 0],#[.slice none 0 0]]],#[.slice none 0 0],eK [#[.int .u64 0],#[.int .u64 0],#[.int .i64 0]],#[.int .u64 0],#[.int .u64 0],#[.int .u64 0]]:=sv underlying53 (by kernel_rfl)
instance:oB prog 60 (.agg ((Array.replicate 32 (.int .u8 0)))):={}
instance:du prog 60 32 5:=⟨underlying60⟩
instance:k0 prog 60:={}
instance:oB prog 62 (.agg (eK [#[.int .u64 0],(Array.replicate 32 (.int .u8 0)),#[.int .u64 0]])):={}
instance:k0 prog 62:={}
instance:nY prog 62 [#[.int .u64 0],(Array.replicate 32 (.int .u8 0)),#[.int .u64 0]]:=sv underlying62 (by kernel_rfl)
instance:oB prog 64 (.agg (eK [(Array.replicate 32 (.int .u8 0)),eK [#[.int .u64 0],(Array.replicate 32 (.int .u8 0)),#[.int .u64 0]]])):={}
instance:nY prog 64 [(Array.replicate 32 (.int .u8 0)),eK [#[.int .u64 0],(Array.replicate 32 (.int .u8 0)),#[.int .u64 0]]]:=sv underlying64 (by kernel_rfl)
instance:oB prog 66 (.agg (eK [(Array.replicate 32 (.int .u8 0)),#[.bool false],#[.bool false]])):={}
instance:nY prog 66 [(Array.replicate 32 (.int .u8 0)),#[.bool false],#[.bool false]]:=sv underlying66 (by kernel_rfl)
instance:oB prog 73 (.agg (eK [#[.slice none 0 0],#[.slice none 0 0],#[.slice none 0 0]])):={}
instance:oB prog 77 (.int .u8 0):={}
instance:oB prog 80 (.nilFunc):={}
instance:oB prog 84 (.slice none 0 0):={}
instance:oB prog 86 (.agg (eK [#[.int .u64 0],#[.slice none 0 0],#[.slice none 0 0],#[.slice none 0 0],#[.slice none 0 0],#[.int .u64 0],#[.int .u64 0]])):={}
instance:nY prog 86 [#[.int .u64 0],#[.slice none 0 0],#[.slice none 0 0],#[.slice none 0 0],#[.slice none 0 0],#[.int .u64 0],#[.int .u64 0]]:=sv underlying86 (by kernel_rfl)
instance:oB prog 92 (.float .f64 0):={}
instance:nY prog 105 [#[.pointer none],#[.pointer none],#[.pointer none],#[.pointer none],#[.pointer none],#[.slice none 0 0],#[.int .u64 0],#[.int .u64 0],#[.slice none 0 0],#[.slice none 0 0]]:=sv underlying105 (by kernel_rfl)
instance:rH prog 125 60 40:=⟨underlying125⟩
instance:nY prog 127 [#[.map none]]:=sv underlying127 (by kernel_rfl)
instance:oB prog 134 (.slice none 0 0):={}
instance:nY prog 136 [eK [#[.slice none 0 0],#[.int .i64 0],#[.int .i64 0],#[.int .i64 0],#[.int .i64 0],eK [#[.int .u64 0],#[.int .u64 0],#[.int .u64 0]],#[.int .u64 0],#[.int .i64 0],#[.slice none 0 0]],#[.pointer none],#[.pointer none],#[.pointer none],#[.pointer none],#[.pointer none],#[.slice none 0 0],#[.slice none 0 0]]:=sv underlying136 (by kernel_rfl)
instance:oB prog 143 (.agg (eK [#[.int .u64 0],eK [#[.slice none 0 0],eK [#[.slice none 0 0],eK [#[.bool false],eK [#[.int .u8 0],#[.int .u8 0],#[.int .u8 0]],#[.slice none 0 0],(Array.replicate 32 (.int .u8 0)),#[.slice none 0 0],#[.slice none 0 0]]],#[.slice none 0 0],eK [#[.int .u64 0],#[.int .u64 0],#[.int .i64 0]],#[.int .u64 0],#[.int .u64 0],#[.int .u64 0]],#[.int .u8 0],#[.bool false]])):={}
instance:nY prog 143 [#[.int .u64 0],eK [#[.slice none 0 0],eK [#[.slice none 0 0],eK [#[.bool false],eK [#[.int .u8 0],#[.int .u8 0],#[.int .u8 0]],#[.slice none 0 0],(Array.replicate 32 (.int .u8 0)),#[.slice none 0 0],#[.slice none 0 0]]],#[.slice none 0 0],eK [#[.int .u64 0],#[.int .u64 0],#[.int .i64 0]],#[.int .u64 0],#[.int .u64 0],#[.int .u64 0]],#[.int .u8 0],#[.bool false]]:=sv underlying143 (by kernel_rfl)
instance:oB prog 156 (.agg (eK [#[.slice none 0 0],#[.slice none 0 0],#[.slice none 0 0]])):={}
instance:nY prog 156 [#[.slice none 0 0],#[.slice none 0 0],#[.slice none 0 0]]:=sv underlying156 (by kernel_rfl)
instance:oB prog 160 (.agg (eK [#[.int .i64 0],#[.slice none 0 0]])):={}
instance:nY prog 160 [#[.int .i64 0],#[.slice none 0 0]]:=sv underlying160 (by kernel_rfl)
instance:oB prog 163 (.agg (eK [#[.int .i64 0],#[.slice none 0 0]])):={}
instance:nY prog 163 [#[.int .i64 0],#[.slice none 0 0]]:=sv underlying163 (by kernel_rfl)
end J5
end
section
open Go.Proofs Tryz
namespace J6
instance:oB prog 172 (.agg (eK [#[.int .u8 0],#[.slice none 0 0],#[.slice none 0 0],#[.slice none 0 0]])):={}
instance:oB prog 180 (.slice none 0 0):={}
instance:oB prog 189 (.agg (eK [#[.int .i64 0],#[.int .i64 0],#[.int .u64 0],#[.int .u64 0],#[.int .u64 0],#[.slice none 0 0]])):={}
instance:nY prog 189 [#[.int .i64 0],#[.int .i64 0],#[.int .u64 0],#[.int .u64 0],#[.int .u64 0],#[.slice none 0 0]]:=sv underlying189 (by kernel_rfl)
instance:rH prog 203 60 62:=⟨underlying203⟩
instance:nY prog 205 [#[.map none]]:=sv underlying205 (by kernel_rfl)
instance:nY prog 208 [#[.pointer none],#[.slice none 0 0]]:=sv underlying208 (by kernel_rfl)
instance:oB prog 221 (.agg (eK [(Array.replicate 32 (.int .u8 0)),#[.slice none 0 0],#[.slice none 0 0]])):={}
instance:rH prog 224 60 3:=⟨underlying224⟩
instance:oB prog 227 (.agg ((Array.replicate 2 (.int .u64 0)))):={}
instance:du prog 227 2 23:=⟨underlying227⟩
instance:k0 prog 227:={}
instance:oB prog 228 (.agg ((Array.replicate 2 (.bool false)))):={}
instance:du prog 228 2 4:=⟨underlying228⟩
instance:oB prog 230 (.agg (eK [#[.int .u8 0],#[.slice none 0 0],#[.slice none 0 0]])):={}
instance:oB prog 235 (.agg (eK [#[.int .i64 0],eK [#[.int .u64 0],#[.int .u64 0],#[.int .i64 0]]])):={}
instance:nY prog 235 [#[.int .i64 0],eK [#[.int .u64 0],#[.int .u64 0],#[.int .i64 0]]]:=sv underlying235 (by kernel_rfl)
instance:du prog 243 150 42:=⟨underlying243⟩
instance:rH prog 246 251 42:=⟨underlying246⟩
instance:rH prog 247 42 37:=⟨underlying247⟩
instance:nY prog 249 [#[.map none],#[.map none]]:=sv underlying249 (by kernel_rfl)
instance:du prog 250 64 5:=⟨underlying250⟩
instance:oB prog 251 (.agg ((Array.replicate 64 (.int .u8 0)))):={}
instance:du prog 251 64 5:=⟨underlying251⟩
instance:nY prog 257 [#[.pointer none],#[.pointer none]]:=sv underlying257 (by kernel_rfl)
instance:nY prog 259 [eK [#[.pointer none],#[.pointer none]]]:=sv underlying259 (by kernel_rfl)
instance:oB prog 274 (.agg (eK [#[.int .u64 0],#[.int .u64 0]])):={}
instance:nY prog 274 [#[.int .u64 0],#[.int .u64 0]]:=sv underlying274 (by kernel_rfl)
instance:rH prog 287 3 3:=⟨underlying287⟩
instance:nY prog 289 [#[.pointer none],#[.pointer none],#[.pointer none],#[.map none],#[.slice none 0 0],eK [#[.slice none 0 0],#[.slice none 0 0],#[.slice none 0 0]]]:=sv underlying289 (by kernel_rfl)
instance:oB prog 295 (.agg (eK [#[.int .u64 0],#[.int .u8 0]])):={}
instance:nY prog 295 [#[.int .u64 0],#[.int .u8 0]]:=sv underlying295 (by kernel_rfl)
instance:nY prog 299 [#[.pointer none],#[.pointer none],#[.pointer none]]:=sv underlying299 (by kernel_rfl)
instance:nY prog 302 [eK [#[.pointer none],#[.pointer none],#[.pointer none]],#[.pointer none],#[.bool false],#[.slice none 0 0],#[.slice none 0 0],#[.int .u64 0]]:=sv underlying302 (by kernel_rfl)
instance:rH prog 323 577 574:=⟨underlying323⟩
instance:rH prog 324 60 227:=⟨underlying324⟩
instance:nY prog 326 [#[.int .i64 0],#[.map none],#[.map none]]:=sv underlying326 (by kernel_rfl)
instance:nY prog 329 [#[.slice none 0 0],#[.slice none 0 0]]:=sv underlying329 (by kernel_rfl)
instance:oB prog 334 (.nilIface):={}
instance:oB prog 337 (.nilIface):={}
instance:oB prog 339 (.nilIface):={}
instance:oB prog 346 (.agg (eK [#[.nilFunc],#[.int .i64 0]])):={}
instance:nY prog 346 [#[.nilFunc],#[.int .i64 0]]:=sv underlying346 (by kernel_rfl)
instance:du prog 349 2 3:=⟨underlying349⟩
instance:du prog 350 2 5:=⟨underlying350⟩
instance:oB prog 358 (.pointer none):={}
instance:nY prog 364 [#[.int .i64 0],#[.nilFunc],#[.slice none 0 0]]:=sv underlying364 (by kernel_rfl)
instance:du prog 366 2 365:=⟨underlying366⟩
instance:rH prog 367 3 358:=⟨underlying367⟩
end J6
end
section
open Go.Proofs Tryz
namespace nT
instance:nY prog 369 [(Array.replicate 2 (.pointer none)),#[.map none]]:=sv underlying369 (by kernel_rfl)
instance:nY prog 372 [eK [#[.int .u64 0],#[.int .u64 0]],#[.int .i64 0],(Array.replicate 2 (.int .i64 0))]:=sv underlying372 (by kernel_rfl)
instance:nY prog 376 [#[.slice none 0 0],#[.slice none 0 0],#[.int .i64 0]]:=sv underlying376 (by kernel_rfl)
instance:hZ prog 385 .u64:=⟨underlying385⟩
instance:rH prog 391 3 472:=⟨underlying391⟩
instance:rH prog 392 60 480:=⟨underlying392⟩
instance:nY prog 394 [#[.map none],#[.map none],#[.int .i64 0]]:=sv underlying394 (by kernel_rfl)
instance:rH prog 395 60 4:=⟨underlying395⟩
instance:nY prog 397 [#[.map none]]:=sv underlying397 (by kernel_rfl)
instance:oB prog 407 (.agg (eK [#[.int .u8 0],#[.slice none 0 0]])):={}
instance:oB prog 410 (.pointer none):={}
instance:oB prog 415 (.agg (eK [eK [#[.slice none 0 0],eK [#[.slice none 0 0],eK [#[.bool false],eK [#[.int .u8 0],#[.int .u8 0],#[.int .u8 0]],#[.slice none 0 0],(Array.replicate 32 (.int .u8 0)),#[.slice none 0 0],#[.slice none 0 0]]],#[.slice none 0 0],eK [#[.int .u64 0],#[.int .u64 0],#[.int .i64 0]],#[.int .u64 0],#[.int .u64 0],#[.int .u64 0]],eK [#[.int .i64 0],#[.int .i64 0],#[.int .u64 0],#[.int .u64 0],#[.int .u64 0],#[.slice none 0 0]]])):={}
instance:nY prog 415 [eK [#[.slice none 0 0],eK [#[.slice none 0 0],eK [#[.bool false],eK [#[.int .u8 0],#[.int .u8 0],#[.int .u8 0]],#[.slice none 0 0],(Array.replicate 32 (.int .u8 0)),#[.slice none 0 0],#[.slice none 0 0]]],#[.slice none 0 0],eK [#[.int .u64 0],#[.int .u64 0],#[.int .i64 0]],#[.int .u64 0],#[.int .u64 0],#[.int .u64 0]],eK [#[.int .i64 0],#[.int .i64 0],#[.int .u64 0],#[.int .u64 0],#[.int .u64 0],#[.slice none 0 0]]]:=sv underlying415 (by kernel_rfl)
instance:oB prog 417 (.agg (eK [#[.int .i64 0],#[.int .u64 0],#[.slice none 0 0],eK [eK [#[.slice none 0 0],eK [#[.slice none 0 0],eK [#[.bool false],eK [#[.int .u8 0],#[.int .u8 0],#[.int .u8 0]],#[.slice none 0 0],(Array.replicate 32 (.int .u8 0)),#[.slice none 0 0],#[.slice none 0 0]]],#[.slice none 0 0],eK [#[.int .u64 0],#[.int .u64 0],#[.int .i64 0]],#[.int .u64 0],#[.int .u64 0],#[.int .u64 0]],eK [#[.int .i64 0],#[.int .i64 0],#[.int .u64 0],#[.int .u64 0],#[.int .u64 0],#[.slice none 0 0]]],#[.int .i64 0]])):={}
instance:nY prog 417 [#[.int .i64 0],#[.int .u64 0],#[.slice none 0 0],eK [eK [#[.slice none 0 0],eK [#[.slice none 0 0],eK [#[.bool false],eK [#[.int .u8 0],#[.int .u8 0],#[.int .u8 0]],#[.slice none 0 0],(Array.replicate 32 (.int .u8 0)),#[.slice none 0 0],#[.slice none 0 0]]],#[.slice none 0 0],eK [#[.int .u64 0],#[.int .u64 0],#[.int .i64 0]],#[.int .u64 0],#[.int .u64 0],#[.int .u64 0]],eK [#[.int .i64 0],#[.int .i64 0],#[.int .u64 0],#[.int .u64 0],#[.int .u64 0],#[.slice none 0 0]]],#[.int .i64 0]]:=sv underlying417 (by kernel_rfl)
instance:rH prog 432 60 23:=⟨underlying432⟩
instance:nY prog 434 [eK [#[.int .u64 0],#[.int .u64 0],#[.int .u64 0]],#[.int .u64 0],#[.int .u64 0],#[.map none]]:=sv underlying434 (by kernel_rfl)
instance:oB prog 438 (.agg (eK [eK [#[.slice none 0 0],eK [#[.bool false],eK [#[.int .u8 0],#[.int .u8 0],#[.int .u8 0]],#[.slice none 0 0],(Array.replicate 32 (.int .u8 0)),#[.slice none 0 0],#[.slice none 0 0]]],#[.slice none 0 0]])):={}
instance:nY prog 438 [eK [#[.slice none 0 0],eK [#[.bool false],eK [#[.int .u8 0],#[.int .u8 0],#[.int .u8 0]],#[.slice none 0 0],(Array.replicate 32 (.int .u8 0)),#[.slice none 0 0],#[.slice none 0 0]]],#[.slice none 0 0]]:=sv underlying438 (by kernel_rfl)
instance:oB prog 472 (.pointer none):={}
instance:nY prog 478 [#[.int .i64 0],#[.int .i64 0],#[.int .i64 0],#[.int .i64 0],#[.slice none 0 0],#[.map none]]:=sv underlying478 (by kernel_rfl)
instance:oB prog 480 (.pointer none):={}
instance:nY prog 482 [#[.pointer none],#[.slice none 0 0]]:=sv underlying482 (by kernel_rfl)
instance:oB prog 493 (.agg (eK [#[.slice none 0 0],#[.int .i64 0],#[.int .i64 0]])):={}
instance:nY prog 502 [eK [#[.slice none 0 0],eK [#[.slice none 0 0],eK [#[.bool false],eK [#[.int .u8 0],#[.int .u8 0],#[.int .u8 0]],#[.slice none 0 0],(Array.replicate 32 (.int .u8 0)),#[.slice none 0 0],#[.slice none 0 0]]],#[.slice none 0 0],eK [#[.int .u64 0],#[.int .u64 0],#[.int .i64 0]],#[.int .u64 0],#[.int .u64 0],#[.int .u64 0]],#[.slice none 0 0],#[.int .u64 0],#[.int .u64 0]]:=sv underlying502 (by kernel_rfl)
instance:oB prog 520 (.agg (eK [#[.int .i64 0]])):={}
instance:nY prog 520 [#[.int .i64 0]]:=sv underlying520 (by kernel_rfl)
instance:nY prog 524 [#[.slice none 0 0],#[.int .i64 0]]:=sv underlying524 (by kernel_rfl)
instance:oB prog 555 (.nilFunc):={}
instance:rH prog 557 60 555:=⟨underlying557⟩
end nT
end
section
open Go.Proofs Tryz
namespace J7
instance:rH prog 573 60 574:=⟨underlying573⟩
instance:oB prog 574 (.agg ((Array.replicate 2 (.int .i64 0)))):={}
instance:du prog 574 2 3:=⟨underlying574⟩
instance:k0 prog 574:={}
instance:oB prog 577 (.agg (eK [(Array.replicate 32 (.int .u8 0)),#[.int .i64 0]])):={}
instance:nY prog 577 [(Array.replicate 32 (.int .u8 0)),#[.int .i64 0]]:=sv underlying577 (by kernel_rfl)
instance:rH prog 610 34 77:=⟨underlying610⟩
instance:oB prog 621 (.agg (eK [#[.int .u64 0],#[.int .u64 0],#[.int .u64 0],(Array.replicate 32 (.int .u8 0))])):={}
instance:oB prog 627 (.agg (eK [#[.pointer none],#[.pointer none]])):={}
instance:nY prog 627 [#[.pointer none],#[.pointer none]]:=sv underlying627 (by kernel_rfl)
instance:oB prog 628 (.nilFunc):={}
instance:rH prog 629 23 628:=⟨underlying629⟩
instance:nY prog 636 [#[.slice none 0 0]]:=sv underlying636 (by kernel_rfl)
instance:rH prog 638 23 3:=⟨underlying638⟩
instance:lS prog 5:={}
instance:vx prog:=⟨by kernel_rfl⟩
end J7
end
end Go.Fer

namespace Go.Fer
open Go Go.RowKit
section
variable{a b k:Nat}
section
variable{P:Program}{f:te}{w:World}{R:Value->World->Prop}{d:Option Tmp}{T:TypeId}{pos:String}{eO:Array Edge}{eQ:Option (Nat×Bool)}
theorem J8{fn:Fn}{first captured:Array Operand}{vs cs:List Value}(G:first.toList.map (eD f)=vs)(Y:captured.toList.map (eD f)=cs)(h:R (.func fn vs.toArray cs.toArray) w):J P f ⟨d,.makeFunc fn first captured,T,pos,eO,eQ⟩ w R:=by
 refine iz (v:=.func fn vs.toArray cs.toArray) (w':=w) ?_ h;have a:first.map (eD f)=vs.toArray:=by subst G;apply Array.ext';simp
 have b:captured.map (eD f)=cs.toArray:=by subst Y;apply Array.ext';simp
 simp[execOp,Instr.makeFunc,a,b]
theorem Pc{g:FuncId}[b:lS P g]{x:Operand}{args:Array Operand}{nI:Array TypeId}{vs cs:List Value}{R':Value->World->Prop}(Z:eD f x= .func (.func g) #[] cs.toArray)(a:nr P g (vs++cs).toArray w R')(c:args.toList.map (eD f)=vs)(h:∀v w',R' v w'->R v w'):
 J P f ⟨d,.call {callee:=.value x,args:=args,argTypes:=nI},T,pos,eO,eQ⟩ w R:=by
 unfold nr at a;have ep:(vs++cs).toArray=args.map (eD f)++cs.toArray:=by subst c;apply Array.ext';simp
 rw[ep]at a;have hr:(execOp (eD f) ⟨d,.call {callee:=.value x,args:=args,argTypes:=nI},T,pos,eO,eQ⟩).run P w= .ok (.enter g (args.map (eD f)++cs.toArray)) w:=by
  simp[execOp,resolve,Z,Deferred.ofValue,Go.invoke,gI b]
 unfold J;rw[hr];exact Calls.mono a λe w'⟨v,i,tG⟩=>⟨v,i,h _ _ tG⟩
def mN(P:Program)(v:Value)(vs:List Value)(w:World)(R:Value->World->Prop):Prop:=
 ∃(g:FuncId)(nk cs:List Value),v= .func (.func g) nk.toArray cs.toArray/\lS P g/\nr P g (nk++vs++cs).toArray w R
theorem bf{x:Operand}{args:Array Operand}{nI:Array TypeId}{v:Value}{vs:List Value}{R':Value->World->Prop}(Z:eD f x=v)(ew:mN P v vs w R')(b:args.toList.map (eD f)=vs)(h:∀v w',R' v w'->R v w'):
 J P f ⟨d,.call {callee:=.value x,args:=args,argTypes:=nI},T,pos,eO,eQ⟩ w R:=by
 obtain⟨g,nk,cs,rfl,c,a⟩:=ew;unfold nr at a;have ep:(nk++vs++cs).toArray=nk.toArray++args.map (eD f)++cs.toArray:=by subst b;apply Array.ext';simp
 rw[ep]at a;have hr:(execOp (eD f) ⟨d,.call {callee:=.value x,args:=args,argTypes:=nI},T,pos,eO,eQ⟩).run P w= .ok (.enter g (nk.toArray++args.map (eD f)++cs.toArray)) w:=by
  simp only[execOp,resolve,Z,Deferred.ofValue,Sem.run_bind,Sem.run_pure,Result.andThen_ok,Go.invoke,gI c]
 unfold J;rw[hr];exact Calls.mono a λe w'⟨v,i,tG⟩=>⟨v,i,h _ _ tG⟩
theorem J.neg{s:TypeId}{x:Operand}{k:IntKind}{a c:Int}(Z:eD f x= .int k a)(b:k.wrap (0-a)=c)(h:R (.int k c) w):J P f ⟨d,.unOp .neg s x,T,pos,eO,eQ⟩ w R:=by
 subst b;refine iz (v:=.int k (k.wrap (0-a))) (w':=w) ?_ h;simp[execOp,Z,Op.unary,Op.intArith]
class Pu(P:Program)(T:TypeId):Prop where out:P.underlying T=some .string
theorem J9{t:TypeId}{x ix:Operand}{k:IntKind}{i:Nat}{s:ByteArray}{b:UInt8}[a:Pu P t](Z:eD f x= .string s)(ew:eD f ix= .int k (i:Int))(hb:s[i]? =some b)(h:R (.int .u8 (b.toNat:Int)) w):J P f ⟨d,.index t x ix,T,pos,eO,eQ⟩ w R:=by
 refine iz (v:=.int .u8 (b.toNat:Int)) (w':=w) ?_ h;simp[execOp,Instr.index,ew,Z,asIntOf,run_underlying a.out,hb]
end
theorem zp(h:a+b<18446744073709551616):IntKind.u64.wrap ((a:Int)+(b:Int))=((a+b:Nat):Int):=by rw[IntKind.wrap_u64];omega
theorem yb(h:b<=a)(ep:a<18446744073709551616):IntKind.u64.wrap ((a:Int) -(b:Int))=((a-b:Nat):Int):=by rw[IntKind.wrap_u64];omega
theorem Pm(a b:Nat)(hb:b<=18446744073709551616):IntKind.u64.wrap ((a:Int) -(b:Int))=(((a+18446744073709551616-b)%18446744073709551616:Nat):Int):=by rw[IntKind.wrap_u64];omega
theorem yv(a b:Nat):IntKind.u64.wrap ((a:Int)*(b:Int))=((a*b%18446744073709551616:Nat):Int):=by rw[IntKind.wrap_u64,<-Int.natCast_mul];omega
theorem zg(h:a*b<18446744073709551616):IntKind.u64.wrap ((a:Int)*(b:Int))=((a*b:Nat):Int):=by rw[yv,Nat.mod_eq_of_lt h]
theorem TZ(h:a<18446744073709551616):IntKind.u64.wrap ((a:Int).tdiv (b:Int))=((a/b:Nat):Int):=by
 rw[Int.tdiv_eq_ediv_of_nonneg (by omega),<-Int.natCast_ediv,IntKind.wrap_u64];have:=Nat.div_le_self a b;generalize a/b=z at*;omega
theorem T0(h:a<18446744073709551616):hL .and .u64 (a:Int) 4294967295=((a%4294967296:Nat):Int):=by
 have G:=HO a 4294967295 h (by omega);rw[show a&&&4294967295=a%4294967296 from Nat.and_two_pow_sub_one_eq_mod a 32]at G;exact G
theorem zw(b:k<=64):Int.fdiv (a:Int) (2^(min (Int.toNat (k:Int)) IntKind.u64.bits))=((a/2^k:Nat):Int):=Je b
theorem Pf(b:k<64)(h:a*2^k<18446744073709551616):IntKind.u64.wrap ((a:Int)*2^(min (Int.toNat (k:Int)) IntKind.u64.bits))=((a*2^k:Nat):Int):=Fm b (by simp) (by omega)
theorem Qe(b:k<64):IntKind.u64.wrap ((a:Int)*2^(min (Int.toNat (k:Int)) IntKind.u64.bits))=((a*2^k%18446744073709551616:Nat):Int):=by
 have:min (Int.toNat (k:Int)) IntKind.u64.bits=k:=by simp[IntKind.bits];omega
 rw[this,IntKind.wrap_u64];have e:(a:Int)*2^k=((a*2^k:Nat):Int):=by simp
 rw[e];omega
theorem Qt{m:Nat}(h:a<2^k)(e5:m*2^k+a<18446744073709551616):hL .or .u64 ((m*2^k:Nat):Int) (a:Int)=((m*2^k+a:Nat):Int):=by
 rw[Ij _ _ (by omega) (by omega),Nat.or_comm,HI _ _ _ h,Nat.add_comm]
theorem Qa(tt eE o5 oU:Nat):(tt*4294967296+eE)*(o5*4294967296+oU)=tt*o5*18446744073709551616+(tt*oU+eE*o5)*4294967296+eE*oU:=by grind
theorem Qo{x y:Nat}(Z:x<18446744073709551616)(k:y<18446744073709551616):
 (x%4294967296)*(y%4294967296)<18446744073709551616/\(x/4294967296)*(y%4294967296)<18446744073709551616/\(x%4294967296)*(y/4294967296)<18446744073709551616/\(x/4294967296)*(y/4294967296)<18446744073709551616/\
 (x/4294967296)*(y%4294967296)+(x%4294967296)*(y%4294967296)/4294967296<18446744073709551616/\
 ((x/4294967296)*(y%4294967296)+(x%4294967296)*(y%4294967296)/4294967296)%4294967296+(x%4294967296)*(y/4294967296)<18446744073709551616/\
 (x/4294967296)*(y/4294967296)+((x/4294967296)*(y%4294967296)+(x%4294967296)*(y%4294967296)/4294967296)/4294967296<18446744073709551616/\
 (x/4294967296)*(y/4294967296)+((x/4294967296)*(y%4294967296)+(x%4294967296)*(y%4294967296)/4294967296)/4294967296+
  (((x/4294967296)*(y%4294967296)+(x%4294967296)*(y%4294967296)/4294967296)%4294967296+(x%4294967296)*(y/4294967296))/4294967296<18446744073709551616/\
 (x/4294967296)*(y/4294967296)+((x/4294967296)*(y%4294967296)+(x%4294967296)*(y%4294967296)/4294967296)/4294967296+
  (((x/4294967296)*(y%4294967296)+(x%4294967296)*(y%4294967296)/4294967296)%4294967296+(x%4294967296)*(y/4294967296))/4294967296=x*y/18446744073709551616:=by
 obtain⟨tt,d⟩:∃z,z=x/4294967296:=⟨_,rfl⟩;obtain⟨eE,f⟩:∃z,z=x%4294967296:=⟨_,rfl⟩;obtain⟨o5,g⟩:∃z,z=y/4294967296:=⟨_,rfl⟩;obtain⟨oU,h⟩:∃z,z=y%4294967296:=⟨_,rfl⟩;rw[<-d,<-f,<-g,<-h];have b {a c:Nat} (G:a<=4294967295) (Y:c<=4294967295):a*c<=4294967295*4294967295:=Nat.mul_le_mul G Y;have yk:=b (a:=tt) (c:=o5) (by omega) (by omega);have l:=b (a:=tt) (c:=oU) (by omega) (by omega);have i:=b (a:=eE) (c:=o5) (by omega) (by omega);have j:=b (a:=eE) (c:=oU) (by omega) (by omega);have e:x*y=tt*o5*18446744073709551616+(tt*oU+eE*o5)*4294967296+eE*oU:=by
  rw[show x=tt*4294967296+eE by omega,show y=o5*4294967296+oU by omega];exact Qa tt eE o5 oU
 rw[e];generalize tt*o5=A at*;generalize tt*oU=tD at*;generalize eE*o5=C at*;generalize eE*oU=D at*;refine⟨by omega,by omega,by omega,by omega,by omega,by omega,by omega,by omega,by omega⟩
theorem Qi{ew r5 d s:Nat}(b:s<64)(a:ew<d)(eB:r5<18446744073709551616):ew*2^s+r5/2^(64-s)<d*2^s/\r5/2^(64-s)<2^s:=by
 have G:r5/2^(64-s)<2^s:=by
  rw[Nat.div_lt_iff_lt_mul (Nat.two_pow_pos _),<-Nat.pow_add,show s+(64-s)=64 by omega];exact eB
 have Y:(ew+1)*2^s<=d*2^s:=Nat.mul_le_mul_right _ a;rw[Nat.add_mul,Nat.one_mul]at Y;omega
theorem Qn(a n:Nat)(ep:a<18446744073709551616)(b:n<18446744073709551616):hL .or .u64 (((a+n)%18446744073709551616:Nat):Int) (IntKind.u64.wrap (0-(((a+n)/18446744073709551616:Nat):Int)))=((nO a n:Nat):Int):=by
 unfold nO;by_cases h:a+n<18446744073709551616
 .rw[if_pos h,Nat.mod_eq_of_lt h,Nat.div_eq_of_lt h];have:=Ij (a+n) 0 h (by omega);rw[show IntKind.u64.wrap (0-((0:Nat):Int))=((0:Nat):Int)from by decide,this,Nat.or_zero]
 rw[if_neg h,show(a+n)/18446744073709551616=1 by omega];have Y:=Ij ((a+n)%18446744073709551616) 18446744073709551615 (by omega) (by omega);rw[show IntKind.u64.wrap (0-((1:Nat):Int))=((18446744073709551615:Nat):Int)from by decide,Y];congr 1;have ej:(a+n)%18446744073709551616|||18446744073709551615=18446744073709551615:=by
  have e8:=Nat.or_lt_two_pow (n:=64) (x:=(a+n)%18446744073709551616) (y:=18446744073709551615) (by omega) (by omega);have au:18446744073709551615<=(a+n)%18446744073709551616|||18446744073709551615:=Nat.right_le_or;omega
 exact ej
end
section
def Pp(Q:Exit->te->World->Prop):Exit->te->World->Prop
 | .goto _,_,_=>False
 |e,f,w=>Q e f w
section
variable{P:Program}{n:Nat}{Q:Exit->te->World->Prop}{f:te}{w:World}
theorem ek.scope{c:Code}(h:ek P n c (Pp Q) f w):ek P n (.scope c) Q f w:=by
 unfold ek at*;intro a ep;refine wp_scope_straight (wp_mono (h a ep) λe tc w'⟨ae,hr,b⟩=>?_);cases e with
 |goto l=>exact b.elim
 |_=>exact⟨ae,hr,b⟩
theorem ek.label{l:Nat}(h:Q .normal f w):ek P n (.label l) Q f w:=by unfold ek;exactλa ep=>wp_label ⟨f,ep,h⟩
theorem I5(h:Q .ret f w):Pp Q .ret f w:=h
end
end
section
theorem Ln(r:Option Addr):∀u∈(#[Value.pointer r]:Array Value).toList,u.oneCell'=true:=by intro u a;simp at a;subst a;rfl
instance:oi aa where
 iu x:=.int .u64 (x.n:Int)
 same x:=by simp[Instr.sameBits]
theorem Pg(x:aa):oi.iu x= .int .u64 (x.n:Int):=rfl
theorem Pw{tx:Type}(e7:tx->Value)(k:aa):∀(l:List MapEntry)(eI:List (aa×tx))(i:Nat),l.map (λe=>(e.key,e.val))=eI.map (λp=>(oi.iu p.1,e7 p.2)) ->Instr.findNow (.int .u64) (oi.iu k) l i=some (dE e7 k eI i)
 |[],[],i,_=>rfl
 |e::l,(x,v)::eI,i,h=>by
  simp only[List.map_cons,List.cons.injEq,Prod.mk.injEq]at h;obtain⟨⟨G,Y⟩,ej⟩:=h;have d:=Pw e7 k l eI (i+1) ej;have f:Instr.sameNow (.int .u64) (oi.iu k) e.key=some (decide (k=x)):=by
   rw[G,Pg,Pg];simp only[Instr.sameNow,if_true,Option.some.injEq];rw[Bool.eq_iff_iff,decide_eq_true_eq,beq_iff_eq];constructor
   .intro h;obtain⟨a⟩:=k;obtain⟨b⟩:=x;have h:(a:Int)=(b:Int):=h;have:a=b:=by omega
    rw[this]
   intro h;rw[h]
  simp only[Instr.findNow,f,dE];by_cases c:k=x
  .rw[if_pos c,decide_eq_true c];simp[Y]
  rw[if_neg c,decide_eq_false c];exact d
 |[],_::_,_,h=>by simp at h
 |_::_,[],_,h=>by simp at h
instance{P:Program}{K:Nat}[ew:hZ P K .u64]:u2 P K aa where
 wk u3 w k:=by
  show(Instr.checkKey u3 (9999+1) K (.int .u64 (k.n:Int))).run P w= .ok () w;generalize 9999=d;rw[Instr.checkKey];simp[run_underlying ew.out]
 vz e7 w k l eI h:=MapKept.run_findKey ew.out (Pw e7 k l eI 0 h)
section
variable{tn tx:Type}[DecidableEq tn][oi tn]{P:Program}{f:te}{w w0:World}{S:List eH}{R:Value->World->Prop}{d:Option Tmp}{T:TypeId}{pos:String}{eO:Array Edge}{eQ:Option (Nat×Bool)}
theorem J.insert{t K eb r:Nat}{x ix y:Operand}{k:tn}{v:tx}{e7:tx->Value}{eI:List (tn×tx)}[e5:rH P t K eb][c:u2 P K tn](E:U w0 S w)(a:tP (tM r e7 eI) S)(Z:eD f x= .map (some r))(ew:eD f ix=oi.iu k)(b:eD f y=e7 v)
 (h:∀w',(∀tp,iH (tM r e7 eI) (tM r e7 (oC k v eI)) S tp->U w0 tp w') ->R undef w'):J P f ⟨d,.insert t x ix y,T,pos,eO,eQ⟩ w R:=by
 have em:=J.mapUpdate (P:=P) (f:=f) (d:=d) (t:=t) (T:=T) (pos:=pos) (eO:=eO) (eQ:=eQ) E a Z ew b h;unfold J at em⊢;exact em
theorem Ls{a n e:Nat}{x:Operand}{v:Value}{xs:List UInt8}[ep:du P a n e](Z:eD f x=v)(b:ex w v xs)(c:xs.length=n)(em:0<n)(h:R (oX v 0 1) w):J P f ⟨d,.sliceToArrayPointer a x,T,pos,eO,eQ⟩ w R:=by
 subst c;obtain⟨g,cap,rfl,k,hr⟩:=b.jt em;obtain⟨oG,i,eZ⟩:=g;have j:eZ=none:=hr.1;subst j;refine iz (v:=oX (.slice (some ⟨oG,i,none⟩) xs.length cap) 0 1) (w':=w) ?_ h;simp[execOp,Instr.arrayAt,Z,run_underlying ep.out,oX]
def mS(n:Nat)(xs:List UInt8):Vector UInt8 n:=if h:xs.length=n then⟨xs.toArray,by simp[h]⟩else aO n
theorem Qr{n:Nat}{xs:List UInt8}(h:xs.length=n):(mS n xs).toList=xs:=by unfold mS;rw[dif_pos h];simp[Vector.toList]
theorem ex.key{w:World}{v:Value}{xs:List UInt8}{n:Nat}(h:ex w v xs)(c:xs.length=n+1):an w (oX v 0 1) (O.enc (mS (n+1) xs)):=by
 obtain⟨a,cap,rfl,_,hr⟩:=h.jt (by omega);refine⟨a.block,a.off+0*1,rfl,λj u b=>?_⟩;rw[Nat.zero_mul,Nat.add_zero];refine hr.2 j u ?_;rw[<-Array.getElem?_toList,II,Qr c]at b;exact b
theorem Qh{s eb n:Nat}(a:fE P s eb)(c:nm P eb (n+1))(b o di:Nat)(w:World):(Op.equal s (.pointer (some ⟨b,o,none⟩)) (.pointer (some ⟨b,di,none⟩))).run P w= .ok (decide (o=di)) w:=by
 unfold Op.equal;show(Op.equalIn (9999+1) s (.pointer (some ⟨b,o,none⟩)) (.pointer (some ⟨b,di,none⟩))).run P w=_;generalize 9999=k;have hb:((⟨b,o,none⟩:Addr)==⟨b,di,none⟩)=decide (o=di):=by
  rw[Bool.eq_iff_iff,beq_iff_eq,decide_eq_true_eq];constructor
  .intro h;injection h
  intro h;rw[h]
 simp[Op.equalIn,run_underlying a.out,m5 c,samePointer,sameAddr,hb]
theorem Lr{s t eb n:Nat}{x y:Operand}{b o di:Nat}[a:fE P s eb][c:nm P eb (n+1)](Z:eD f x= .pointer (some ⟨b,o,none⟩))(e:eD f y= .pointer (some ⟨b,di,none⟩))(h:R (.bool (decide (o=di))) w):J P f ⟨d,.binOp .eql s x y t,T,pos,eO,eQ⟩ w R:=by
 refine iz (v:=.bool (decide (o=di))) (w':=w) ?_ h;have g:eqGuard .eql s x y (.pointer (some ⟨b,o,none⟩)) (.pointer (some ⟨b,di,none⟩))=pure ():=rfl;have i:binOp .eql s (.pointer (some ⟨b,o,none⟩)) (.pointer (some ⟨b,di,none⟩))=(do pure (.bool (<-Op.equal s (.pointer (some ⟨b,o,none⟩)) (.pointer (some ⟨b,di,none⟩))))):=rfl;simp only[execOp,Z,e,g,i,Sem.run_bind,Sem.run_pure,Result.andThen_ok,Qh a c]
theorem Pb{x:Operand}{t n eb eo b o:Nat}[a:du P t n eb][c:nm P eb eo](Z:eD f x= .pointer (some ⟨b,o,none⟩))(h:R (.slice (some ⟨b,o,none⟩) n n) w):J P f ⟨d,.slice t x none none none,T,pos,eO,eQ⟩ w R:=by
 refine iz (v:=.slice (some ⟨b,o,none⟩) n n) (w':=w) ?_ h;have hb:(Instr.sliceBounds false n n none none none).run P w= .ok (0,n,n) w:=by
  unfold Instr.sliceBounds;simp
 simp only[execOp,Instr.sliceAt,Sem.run_bind,run_underlying a.out,Result.andThen_ok,Z,Instr.sureAddr,Sem.run_pure,Option.map_none,hb,m5 c];simp[wh]
end
end
section
open Go.ChangeShapes Go.WideShapes Go.ChangeAt
structure eL where
 n:Int
 deriving DecidableEq
instance:O eL where
 enc s:=#[.int .i64 s.n]
 eo:=1
 pos:=by omega
 ez _:=rfl
 one s u a:=by simp at a;subst a;rfl
section
variable{α:Type}[O α]{P:Program}{f:te}{w w0:World}{S:List eH}{R:Value->World->Prop}{d:Option Tmp}{T:TypeId}{pos:String}{eO:Array Edge}{eQ:Option (Nat×Bool)}
theorem Pv{t K eb n m:Nat}{x y:Operand}{v:Value}{xs ys:List α}[z:hl P t eb][L:nm P eb (O.eo α)](E:U w0 S w)(A:tP (V v eb xs) S)(Z:eD f x=nz v n xs.length m (O.eo α))(M:ex w (eD f y) ys)(eB:n+ys.length<=xs.length)(e5:xs.length<=m)(N:m<=s2 v)
 (h:∀w',(∀tp,iH (V v eb xs) (V v eb (xs.take n++ys++xs.drop (n+ys.length))) S tp->U w0 tp w') ->R (.int .i64 (ys.length:Int)) w'):J P f ⟨d,.call {callee:=.builtin .copy,args:=#[x,y],argTypes:=#[t,K]},T,pos,eO,eQ⟩ w R:=by
 have pK:=O.pos (α:=α);obtain⟨i,ew,Q⟩:∃i,P.info? eb=some i/\i.size=O.eo α:=by
  have G:=L.out;cases ew:P.info? eb with
  |none=>simp[ew]at G
  |some i=>simp[ew]at G;exact⟨i,rfl,G⟩
 have B:=E.cQ A;obtain⟨a,c,C,ah,a8,W,X⟩:=M;by_cases tm:ys.length=0
 .have vg:ys=[]:=List.eq_nil_of_length_eq_zero tm;subst vg;have vu:xs.take n++[]++xs.drop (n+([]:List α).length)=xs:=by simp
  rw[vu]at h;refine iz (v:=.int .i64 0) (w':=w) ?_ (h w λtp q=>lv ⟨rfl,rfl,rfl,Nat.le_refl _,λ_ _ _=>rfl⟩ (E.get A) (λk p=>.inl p) E q);have sw:∀(x:Addr),(loadCells x 0).run P w= .ok #[] w:=λx=>by simpa using run_loadCells_list (P:=P) w x [] (by simp)
  obtain⟨b,yx,Ql,tG⟩:=B.shape.JL;subst tG;generalize tY:nz (.slice b yx Ql) n xs.length m (O.eo α)=c4 at Z;obtain⟨ao,nR,nu,rfl⟩:∃ao nR nu,c4= .slice ao nR nu:=by subst tY;exact⟨_,_,_,rfl⟩
  cases a<;>cases ao<;>simp[execOp,resolve,Go.invoke,builtin,Z,C,Builtin.copy_,run_underlying z.out,Builtin.lenOf,Builtin.firstCells,sizeOf,typeInfo,ew,goInt,sw,storeCells]
 rcases B with⟨rfl,rfl⟩|⟨g,cap,ne,rfl,D,F,sD,ll,mE⟩
 .exfalso;simp only[List.length_nil]at eB;omega
 obtain⟨l,rfl⟩:∃l,a=some l:=by
  cases a with
  |none=>have:=W rfl;omega
  |some l=>exact⟨l,rfl⟩
 have hr:=X l rfl (by omega);have HZ:∀(j:Nat)(u:Value),(ij ys)[j]? =some u->w.cell? (l.add j)=some u:=by
  intro j u tO;have Y:=hr.2 j u tO;have e:l.add j=⟨l.block,l.off+j,none⟩:=by
   have G:=hr.1;obtain⟨b,o,s⟩:=l;simp only at G;subst G;exact wh b o j
  rw[e];exact Y
 have r:(ij ys).length=ys.length*O.eo α:=uc ys;have hmul:xs.length*O.eo α<=cap*O.eo α:=Nat.mul_le_mul_right _ F;have FU:(n+ys.length)*O.eo α<=xs.length*O.eo α:=Nat.mul_le_mul_right _ eB;have rt:(n+ys.length)*O.eo α=n*O.eo α+ys.length*O.eo α:=Nat.add_mul _ _ _;have nJ:=run_loadCells_list (P:=P) w l (ij ys) HZ;have H:=run_storeCells_at P g (n*O.eo α) eb (ij ys) 0 ne w D (by omega) (Ia ys);simp only[Nat.add_zero]at H;have H0:Nat.min ys.length (xs.length-n)=ys.length:=Nat.min_eq_left (by omega);have jT:¬m=n:=by omega
 have uw:eD f x= .slice (some ⟨g,n*O.eo α,none⟩) (xs.length-n) (m-n):=by rw[Z];simp[nz,jT]
 refine iz (v:=.int .i64 (ys.length:Int)) (w':=w.setRow g (ne.toList.take (n*O.eo α)++ij ys++ne.toList.drop (n*O.eo α+(ij ys).length)).toArray) ?_ (h _ λtp q=>lv ?_ ?_ ?_ E q)
 .rw[r]at nJ;have aQ:(Builtin.firstCells (O.eo α) ys.length (.slice (some l) ys.length c)).run P w= .ok (ij ys).toArray w:=by simp[Builtin.firstCells,nJ]
  simp[execOp,resolve,Go.invoke,builtin,uw,C,Builtin.copy_,run_underlying z.out,Builtin.lenOf,sizeOf,typeInfo,ew,Q,H0,goInt,aQ,H]
 .rw[dm];exact⟨rfl,rfl,rfl,by simp[World.setRow],λk _ p=>setRow_other w g k _ (λe=>p (by simp[Value.ownBlock,e]))⟩
 .rw[df];have hlen:(xs.take n++ys++xs.drop (n+ys.length)).length=xs.length:=by simp;omega
  refine .inr ⟨g,cap,_,by rw[hlen],setRow_heap w g ne _ eb _ D,by rw[hlen];exact F,sD,?_,?_⟩
  .simp only[List.size_toArray,List.length_append,List.length_take,List.length_drop,Array.length_toList];omega
  rw[hlen,vp,vp,Ii,In,<-mE,r];simp only;rw[List.take_take,Nat.min_eq_left (by omega),<-rt];have I:(List.take (n*O.eo α) ne.toList++ij ys).length=(n+ys.length)*O.eo α:=by
   rw[List.length_append,List.length_take,r,Array.length_toList,Nat.min_eq_left (by omega)];omega
  rw[List.take_append,List.take_of_length_le (by rw[I];exact FU),I];congr 1;rw[List.drop_take]
 rw[dm,dm];exactλk p=>.inl p
end
end
section
variable{P:Program}{g:FuncId}{args vs:List Value}{w:World}{R eb:Value->World->Prop}{n id:Nat}{a:Act}{f:te}{o:Oper}{aw:List ResultVar}{fn:Func}{v:Value}{bp bg:TypeId}{bw bb:String}{bv bk:Array Edge}{nI:Array TypeId}
def s4(v:Value):PanicEntry:={v:=v,recovered:=false}
@[irreducible] def hU (P:Program) (g:FuncId) (args:Array Value) (w:World) (R eb:Value->World->Prop):Prop:=
 Calls P g args w λe w'=>(∃v,e= .returned v/\R v w')∨(∃v,e= .panicked [s4 v]/\eb v w')
theorem hU.mono{args:Array Value}{R' b:Value->World->Prop}(h:hU P g args w R eb)(hr:∀v w',R v w'->R' v w')(a:∀v w',eb v w'->b v w'):hU P g args w R' b:=by
 unfold hU at*;exact Calls.mono h λe w' h=>h.imp (λ⟨v,a,tG⟩=>⟨v,a,hr _ _ tG⟩) (λ⟨v,G,tG⟩=>⟨v,G,a _ _ tG⟩)
@[irreducible] def rM (P:Program) (f:te) (o:Oper) (w:World) (R eb:Value->World->Prop):Prop:=
 match(execOp (eD f) o).run P w with
 | .ok (.value v) w'=>R v w'
 | .ok .skip w'=>R undef w'
 | .ok (.enter g args) w'=>Calls P g args w' λe hs=>(∃v,e= .returned v/\R v hs)∨(∃v,e= .panicked [s4 v]/\eb v hs)
 | .halt (.panic v) w'=>eb v w'
 |_=>False
theorem Pk[D:lb]{K:Act->World->Prop}{Q:Exit->Act->World->Prop}
 (g:so n a f) (h:rM P f o w R eb) (c:∀v w',R v w'->K (a.put o.dst v) w') (d:∀v w',eb v w'->Q (.panic [s4 v]) a w'):o.wp P a w K Q:=by
 unfold rM at h;unfold Oper.wp;rw[g.eval];generalize(execOp (eD f) o).run P w=r at*;cases r with
 |ok x w'=>
  cases x<;>simp only[Oper.upon]at* <;>try exact c _ _ h
  all_goals first
   |exact(h:False).elim
   |(refine Calls.mono h λe i b=>?_
     rcases b with⟨v,b,tG⟩|⟨v,b,tG⟩
     .subst b;exact c _ _ tG
     subst b;exact d _ _ tG)
 |halt x w'=>
  cases x<;>simp only[Oper.upon]at* <;>first
   |exact d _ _ h
   |exact(h:False).elim
section
variable[D:lb]{P:Program}{n e9:Nat}{I:World->Prop}{ops:Array Oper}{Q:Exit->te->World->Prop}{r:sF}{f:te}{w:World}
theorem Px{d:Option Tmp}{op:Op}{T:TypeId}{pos:String}{eO:Array Edge}{rest:List Oper}
 (h:rM P f ⟨d,op,T,pos,eO,none⟩ w (λv w'=>ts P n ops Q rest (dM f d v) w') (λv w'=>Q (.panic [s4 v]) f w'))
 (hd:∀x,d=some x->x<n):ts P n ops Q (⟨d,op,T,pos,eO,none⟩::rest) f w:=by
 unfold ts at h⊢;intro a ep;refine wpList_plain rfl λK b=>Pk ep h (λv w' tG=>b _ _ ?_) (λv w' tG=>⟨f,ep,tG⟩);exact tG _ (ep.put hd v)
theorem dn{d:Nat}{op:Op}{T:TypeId}{pos:String}{eO:Array Edge}{rest:List Oper}(hd:Nat.blt d n=true)
 (h:rM P f ⟨some d,op,T,pos,eO,none⟩ w (λv w'=>ts P n ops Q rest (o7 f d v) w') (λv w'=>Q (.panic [s4 v]) f w')):
 ts P n ops Q (⟨some d,op,T,pos,eO,none⟩::rest) f w:=
 Px (d:=some d) h (by intro x Z;cases Z;simpa using hd)
theorem Qd{op:Op}{T:TypeId}{pos:String}{eO:Array Edge}{rest:List Oper}
 (h:rM P f ⟨none,op,T,pos,eO,none⟩ w (λ_ w'=>ts P n ops Q rest f w') (λv w'=>Q (.panic [s4 v]) f w')):
 ts P n ops Q (⟨none,op,T,pos,eO,none⟩::rest) f w:=
 Px (d:=none) h (by intro x Z;cases Z)
theorem Qc{i d:Nat}{op:Op}{T:TypeId}{pos:String}{eO:Array Edge}(ew:ops[i]? =some ⟨some d,op,T,pos,eO,none⟩)(hd:Nat.blt d n=true)
 (hlt:Nat.blt i e9=true) (h:rM P f ⟨some d,op,T,pos,eO,none⟩ w (λv w'=>I w'/\e2 P n ops e9 I Q r (o7 f d v) w') (λv w'=>Q (.panic [s4 v]) f w')):e2 P n ops e9 I Q (.one i r) f w:=by
 have hlt:i<e9:=by simpa using hlt
 refine kM ew λa ep=>?_;unfold wpOp;simp only[ew,Region.wanted,if_true];exact .inl (Pk ep h (λv w'⟨hb,e5⟩=>⟨⟨λ_=>hb,.inl hlt⟩,_,ep.put (dst:=some d) (by intro x Z;cases Z;simpa using hd) v,e5⟩) (λv w' tG=>⟨f,ep,tG⟩))
end
section
variable{P:Program}{f:te}{w:World}{R eb:Value->World->Prop}{d:Option Tmp}{T:TypeId}{pos:String}{eO:Array Edge}{eQ:Option (Nat×Bool)}
theorem rM.call{g:FuncId}[i:lS P g]{args:Array Operand}{nI:Array TypeId}{vs:List Value}{R' c:Value->World->Prop}(a:hU P g vs.toArray w R' c)(j:args.toList.map (eD f)=vs)(Y:∀v w',c v w'->eb v w')(h:∀v w',R' v w'->R v w'):
 rM P f ⟨d,.call {callee:=.value (.func g),args:=args,argTypes:=nI},T,pos,eO,eQ⟩ w R eb:=by
 unfold hU at a;have ep:args.map (eD f)=vs.toArray:=by subst j;apply Array.ext';simp
 rw[<-ep]at a;have hr:(execOp (eD f) ⟨d,.call {callee:=.value (.func g),args:=args,argTypes:=nI},T,pos,eO,eQ⟩).run P w= .ok (.enter g (args.map (eD f))) w:=by
  simp[execOp,resolve,eD,Deferred.ofValue,Go.invoke,gI i]
 unfold rM;rw[hr];exact Calls.mono a λe w' h'=>h'.imp (λ⟨v,b,tG⟩=>⟨v,b,h _ _ tG⟩) (λ⟨v,b,tG⟩=>⟨v,b,Y _ _ tG⟩)
theorem Lh{g:FuncId}[i:lS P g]{x:Operand}{args:Array Operand}{nI:Array TypeId}{vs nk:List Value}{R' c:Value->World->Prop}(Z:eD f x= .func (.func g) nk.toArray #[])(a:hU P g (nk++vs).toArray w R' c)(j:args.toList.map (eD f)=vs)(Y:∀v w',c v w'->eb v w')(h:∀v w',R' v w'->R v w'):
 rM P f ⟨d,.call {callee:=.value x,args:=args,argTypes:=nI},T,pos,eO,eQ⟩ w R eb:=by
 unfold hU at a;have ep:(nk++vs).toArray=nk.toArray++args.map (eD f)++#[]:=by subst j;apply Array.ext';simp
 rw[ep]at a;have hr:(execOp (eD f) ⟨d,.call {callee:=.value x,args:=args,argTypes:=nI},T,pos,eO,eQ⟩).run P w= .ok (.enter g (nk.toArray++args.map (eD f)++#[])) w:=by
  simp only[execOp,resolve,Z,Deferred.ofValue,Sem.run_bind,Sem.run_pure,Result.andThen_ok,Go.invoke,gI i]
 unfold rM;rw[hr];exact Calls.mono a λe w' h'=>h'.imp (λ⟨v,b,tG⟩=>⟨v,b,h _ _ tG⟩) (λ⟨v,b,tG⟩=>⟨v,b,Y _ _ tG⟩)
theorem rM.panic{x:Operand}{t:TypeId}{v:Value}(Z:eD f x= .iface t v)(h:eb (.iface t v) w):rM P f ⟨d,.panic x,T,pos,eO,eQ⟩ w R eb:=by
 have hr:(execOp (eD f) ⟨d,.panic x,T,pos,eO,eQ⟩).run P w= .halt (.panic (.iface t v)) w:=by
  simp[execOp,Z,Instr.panic]
 unfold rM;rw[hr];exact h
end
def Ll(P:Program)(aw:List ResultVar)(R eb:Value->World->Prop):Exit->te->World->Prop
 | .normal,f,w| .ret,f,w=>∃vs,hY P f w aw vs/\R (uB vs) w
 | .panic c,_,w=>∃v,c=[s4 v]/\eb v w
 |_,_,_=>False
theorem wO(h:hY P f w aw vs)(a:R (uB vs) w):Ll P aw R eb .ret f w:=⟨vs,h,a⟩
theorem Qu(h:hY P f w aw vs)(a:R (uB vs) w):Ll P aw R eb .normal f w:=⟨vs,h,a⟩
theorem zy{m:Nat}(a:m=n)(b:args.length<=n):so n {tmps:=args.toArray++Array.replicate (m-args.toArray.size) undef,defers:=[]} (mv args):=by
 refine⟨rfl,by simp[a];omega,λi=>?_⟩;simp only[mv,Array.getD_eq_getD_getElem?,Array.getElem?_append,List.size_toArray];split
 .simp
 rename_i ew;have:args[i]? =none:=List.getElem?_eq_none (by omega);simp only[this,Option.getD_none,Array.getElem?_replicate];split<;>rfl
theorem hU.enter{c:Code}
 (d:P.funcs[g]? =some fn) (hb:fn.body=some c) (f:fn.ntmps=n) (hr:fn.results=aw.toArray) (i:Nat.ble args.length n=true)
 (h:ek P n c (Ll P aw R eb) (mv args) w):hU P g args.toArray w R eb:=by
 unfold hU;refine calls_of_wp d hb ?_;unfold ek at h;have j:=zy f (by simpa using i:args.length<=n);have k:fn.results.toList=aw:=by rw[hr]
 subst k;refine wp_mono (h _ j) λe a w⟨ae,hr,q⟩=>?_;cases e with
 |normal=>
  obtain⟨vs,tG,b⟩:=q;exact⟨hr.defers,_,tG.run hr,.inl ⟨_,rfl,b⟩⟩
 |ret=>
  obtain⟨vs,tG,b⟩:=q;exact⟨hr.defers,_,tG.run hr,.inl ⟨_,rfl,b⟩⟩
 |panic c=>
  obtain⟨v,rfl,b⟩:=q;exact⟨hr.defers,.inr ⟨_,rfl,b⟩⟩
 |_=>exact(q:False).elim
theorem so.out{D:lb}(h: @so D n a f):a.defers=D.uW/\a.tmps.size=n/\∀i,a.tmps.getD i undef=f i:=⟨h.defers,h.size,h.ot⟩
theorem Qm{ops:Array Oper}{Q:Exit->Act->List Frame->World->Prop}{i:Nat}{rest:List Nat}{cs:List Frame}{w':World}(ew:ops[i]? =some o)(b:o.guard=none)
 (hr:(execOp a.eval o).run P w= .ok (.value v) w') (h:wpOpsS P ops Q rest (a.put o.dst v) cs w'):wpOpsS P ops Q (i::rest) a cs w:=by
 simp only[wpOpsS,ew,Region.wanted,b,if_true,hr];simpa only[Oper.upon]using h
def Qf(R:World->Prop):Exit->te->World->Prop
 | .normal,_,w| .ret,_,w=>R w
 |_,_,_=>False
class Pj(P:Program)(T:TypeId):Prop where out:∃lj,P.underlying T=some (.interface lj)
section
variable{P:Program}{f:te}{w:World}{R:Value->World->Prop}{d:Option Tmp}{T:TypeId}{pos:String}{eO:Array Edge}{eQ:Option (Nat×Bool)}
theorem Pq{s t:TypeId}{x:Operand}{v:Value}{b:Bool}[a:Pj P s](Z:eD f x=v)(tG:(v= .nilIface/\b=false)∨(∃u y,v= .iface u y)/\b=true)(h:R (.bool b) w):J P f ⟨d,.binOp .neq s x (.const .nilIface) t,T,pos,eO,eQ⟩ w R:=by
 obtain⟨lj,c⟩:=a.out;refine iz (v:=.bool b) (w':=w) ?_ h;have e:(Op.equal s v .nilIface).run P w= .ok (!b) w:=by
  unfold Op.equal;show(Op.equalIn (9999+1) s v .nilIface).run P w= .ok (!b) w;generalize 9999=k;rcases tG with⟨rfl,rfl⟩|⟨⟨u,y,rfl⟩,rfl⟩<;>simp[Op.equalIn,run_underlying c]
 have g:(eqGuard .neq s x (.const .nilIface) v .nilIface).run P w= .ok () w:=by
  rcases tG with⟨rfl,rfl⟩|⟨⟨u,y,rfl⟩,rfl⟩<;>simp[eqGuard]
 have i:binOp .neq s v .nilIface=(do pure (.bool (!(<-Op.equal s v .nilIface)))):=by
  rcases tG with⟨rfl,rfl⟩|⟨⟨u,y,rfl⟩,rfl⟩<;>rfl
 have j:eD f (.const .nilIface)= .nilIface:=rfl;simp only[execOp,Z,j,i,Sem.run_bind,g,Result.andThen_ok,e,Sem.run_pure,Bool.not_not]
theorem Qp{s a:TypeId}{x:Operand}{v:Value}{zs:List (Array Value)}[e5:nY P s zs](Z:eD f x= .iface s v)(h:R (.tuple #[v,.bool true]) w):J P f ⟨d,.typeAssert x a s true,T,pos,eO,eQ⟩ w R:=by
 refine iz (v:=.tuple #[v,.bool true]) (w':=w) ?_ h;obtain⟨nk,b,_⟩:=e5.out;simp[execOp,Z,Instr.typeAssert,run_underlying b]
end
theorem Pz{nu:Code}{d1 d2:Nat}{R:World->Prop}{u b:FrameMode}
 (l:P.funcs[g]? =some fn) (hb:fn.body=some (.seq (.region id [⟨some d1,.call {callee:=.builtin .recover,args:=#[],argTypes:=nI},bp,bw,bv,none⟩,⟨some d2,.assign (.tmp d1),bg,bb,bk,none⟩].toArray false) nu))
 (p:fn.ntmps=n) (hr:fn.results=#[]) (q:Nat.ble args.length n=true) (r:Nat.blt d1 n=true) (s:Nat.blt d2 n=true)
 (t:(u= .returning/\b= .returning/\v= .nilIface)∨(u= .panicking [s4 v]/\b= .panicking [{v:=v,recovered:=true}]))
 (h:ek P n nu (Qf R) (o7 (o7 (mv args) d1 v) d2 v) w):
 CallsD P g args.toArray u w (λe m w'=>m=b/\∃x,e= .returned x/\R w'):=by
 refine callsD_of_wpS l hb λc cs e5=>?_;have y:=zy p (by simpa using q:args.length<=n);refine wpS_seq (wpS_region ?_);unfold ek at h;have z:d1<n:=by simpa using r
 have A:d2<n:=by simpa using s
 generalize E:({tmps:=args.toArray++Array.replicate (fn.ntmps-args.toArray.size) undef,defers:=[]}:Act)=a at*;have f:=y.put (dst:=some d1) (by intro x Z;cases Z;exact z) v;have B:=f.put (dst:=some d2) (by intro x Z;cases Z;exact A) v;have C:(a.put (some d1) v).eval (.tmp d1)=v:=by
  rw[f.eval];simp[eD,dM,y6]
 have D:∀w,(execOp a.eval ⟨some d1,.call {callee:=.builtin .recover,args:=#[],argTypes:=nI},bp,bw,bv,none⟩).run P w= .ok .recover w:=by
  intro w;simp[execOp,resolve,Go.invoke,builtin]
 have key:∀iA,iA={c with mode:=b}::cs->wpOpsS P [⟨some d1,.call {callee:=.builtin .recover,args:=#[],argTypes:=nI},bp,bw,bv,none⟩,⟨some d2,.assign (.tmp d1),bg,bb,bk,none⟩].toArray (Exit.thenS (nu.wpS P (bodyPostS P fn c cs λe m w'=>m=b/\∃x,e= .returned x/\R w')) (bodyPostS P fn c cs λe m w'=>m=b/\∃x,e= .returned x/\R w')) [1] (a.put (some d1) v) iA w:=by
  intro iA i;refine Qm (o:=⟨some d2,.assign (.tmp d1),bg,bb,bk,none⟩) (v:=v) (w':=w) rfl rfl (by simp[execOp,C]) ?_;show Code.wpS _ _ _ _ _ _;refine wpS_of_wp (wp_mono (h _ B) ?_);rintro e tc w' ⟨ae,j,d⟩;have k:(results fn tc.tmps).run P w'= .ok (.tuple #[]) w':=by unfold results;simp[hr]
  cases e with
  |normal=>exact⟨j.defers,b,i,_,k,rfl,_,rfl,d⟩
  |ret=>exact⟨j.defers,b,i,_,k,rfl,_,rfl,d⟩
  |_=>exact(d:False).elim
 show wpOpsS P _ _ [0,1] a (c::cs) w;unfold wpOpsS;simp only[List.getElem?_toArray,List.getElem?_cons_zero,Region.wanted,if_true,D];rcases t with⟨G,Y,ej⟩|⟨G,Y⟩
 .have e:recoverD (c::cs)=none:=by simp[recoverD,e5,G]
  simp only[e];subst ej;refine key _ ?_;rw[Y,<-G,<-e5]
 have e:recoverD (c::cs)=some (v,{c with mode:=b}::cs):=by simp[recoverD,e5,G,Y,s4]
 simp only[e];exact key _ rfl
theorem Qv{tmps:Array Value}{R:Ending->World->Prop}{cap:Array Value}{u:FrameMode}[b:lS P g]{la:World->Prop}{m:FrameMode}(c:u≠ .run)(e5:settle m= .returning)
 (h:CallsD P g cap u w (λe a w'=>a=m/\∃x,e= .returned x/\la w')) (d:∀w',la w'->∃v,(results fn tmps).run P w'= .ok v w'/\R (.returned v) w'):
 Leaves P fn tmps R [{target:=.fn (.func g) cap,args:=#[]}] u w:=by
 refine leaves_cons (f:=g) (args:=cap) c (by simp[Go.invoke,gI b]) (h.mono ?_);rintro e a w' ⟨rfl,x,rfl,i⟩;obtain⟨v,G,Y⟩:=d _ i;simp only[e5];exact⟨v,G,Y⟩
theorem Qk{gc:FuncId}[T:lS P gc]{jO jI:Code}{d:Nat}{h:Array Operand}{cs:te->List Value}
 {rU:te->World->Prop}
 (t:P.funcs[g]? =some fn) (hb:fn.body=some (.seq jO (.seq (.region id [⟨some d,.makeFunc (.func gc) #[] h,bp,bw,bv,none⟩,⟨none,.defer {callee:=.value (.tmp d),args:=#[],argTypes:=nI},bg,bb,bk,none⟩].toArray false) jI)))
 (u:fn.ntmps=n) (hr:fn.results=aw.toArray) (y:Nat.ble args.length n=true) (hd:Nat.blt d n=true)
 (q:ek P n jO (λe f w'=>e= .normal/\rU f w') (mv args) w)
 (z:∀f,h.toList.map (eD f)=cs f)
 (i:∀f w'(l:List Value)(D:lb),rU f w'->cs f=l->D=⟨[{target:=.fn (.func gc) l.toArray,args:=#[]}]⟩ -> @ek D P n jI (λe ae A=>∃m j:FrameMode,(e= .normal/\m= .returning∨e= .ret/\m= .returning∨∃c,e= .panic c/\m= .panicking c)/\m≠ .run/\settle j= .returning/\
  ∃la:World->Prop,CallsD P gc l.toArray m A (λe B b=>B=j/\∃x,e= .returned x/\la b)/\∀b,la b->∃vs,hY P ae b aw vs/\R (uB vs) b) (o7 f d (.func (.func gc) #[] l.toArray)) w'):nr P g args.toArray w R:=by
 unfold nr;refine calls_of_wp_defers t hb ?_;have C:=zy u (by simpa using y:args.length<=n);have E:d<n:=by simpa using hd
 have F:fn.results.toList=aw:=by rw[hr]
 subst F;unfold ek at q;refine wp_seq (wp_mono (q _ C) ?_);rintro e a aB ⟨f,ep,rfl,G⟩;have i:=i f aB _ _ G rfl rfl;show Code.wp _ _ _ _ _;refine wp_seq (wp_region_lit ?_);have H:(execOp a.eval ⟨some d,.makeFunc (.func gc) #[] h,bp,bw,bv,none⟩).run P aB= .ok (.value (.func (.func gc) #[] (cs f).toArray)) aB:=by
  have:h.map (eD f)=(cs f).toArray:=by rw[<-z f];apply Array.ext';simp
  rw[ep.eval];simp[execOp,Instr.makeFunc,this]
 have k:=ep.put (dst:=some d) (by intro x Z;cases Z;exact E) (.func (.func gc) #[] (cs f).toArray);have I:(execOp (a.put (some d) (.func (.func gc) #[] (cs f).toArray)).eval ⟨none,.defer {callee:=.value (.tmp d),args:=#[],argTypes:=nI},bg,bb,bk,none⟩).run P aB= .ok (.defer {target:=.fn (.func gc) (cs f).toArray,args:=#[]}) aB:=by
  rw[k.eval];simp[execOp,resolve,eD,dM,y6,Deferred.ofValue]
 refine wpList_plain rfl λK o=>?_;unfold Oper.wp;rw[H];refine o _ _ ?_;refine wpList_plain rfl λK o=>?_;unfold Oper.wp;rw[I];refine o _ _ (wpList_nil ?_);show Code.wp _ _ _ _ _;have r: @so ⟨[{target:=.fn (.func gc) (cs f).toArray,args:=#[]}]⟩ n {(a.put (some d) (.func (.func gc) #[] (cs f).toArray))with defers:=[{target:=.fn (.func gc) (cs f).toArray,args:=#[]}]} (o7 f d (.func (.func gc) #[] (cs f).toArray)):=
  @so.mk ⟨_⟩ _ _ _ rfl k.size k.ot
 have J:a.defers=[]:=ep.defers;unfold ek at i;simp only[Act.put,J]at r⊢;refine wp_mono (i _ r) ?_;rintro e tc w' ⟨ae,p,m,j,e5,L,M,la,N,O⟩;have Q:Leaves P fn tc.tmps (λe w'=>∃v,e= .returned v/\R v w') [{target:=.fn (.func gc) (cs f).toArray,args:=#[]}] m w':=by
  refine Qv L M N λb ej=>?_;obtain⟨vs,tG,S⟩:=O b ej;exact⟨_,tG.run (a:={tc with defers:=[]}) (n:=n) (so.mk rfl p.out.2.1 p.out.2.2),_,rfl,S⟩
 have s:=p.out.1;simp only at s;rcases e5 with⟨rfl,rfl⟩|⟨rfl,rfl⟩|⟨c,rfl,rfl⟩<;>(show Leaves _ _ _ _ _ _ _;rw[s];exact Q)
end
section
variable{P:Program}{n i d g e eo o id:Nat}{f:te}{w:World}{op:Op}{T bp bg:TypeId}{pos bw bb:String}{eO bv bk:Array Edge}{α:Type}{v:ec}{S:List eH}{c p q:Array Value}{cs args:List Value}{R:Value->World->Prop}{fn:Func}{aw:List ResultVar}{rU:te->World->Prop}{gc:FuncId}{jO jI:Code}{nI:Array TypeId}
section
variable[D:lb]{P:Program}{n:Nat}{Q:Exit->te->World->Prop}{f:te}{w:World}
theorem zb{c:Operand}{x y:Code}(a:eD f c= .bool true)(h:ek P n x Q f w):ek P n (.cond c x y) Q f w:=ek.cond true a (λ_=>h) (λe=>by cases e)
theorem vH{c:Operand}{x y:Code}(a:eD f c= .bool false)(h:ek P n y Q f w):ek P n (.cond c x y) Q f w:=ek.cond false a (λe=>by cases e) (λ_=>h)
def oc(P:Program)(n:Nat)(c:Code)(Q:Exit->te->World->Prop):Nat->te->World->Prop
 |0,_,_=>False
 |m+1,f,w=>ek P n c (uY (oc P n c Q m) Q) f w
theorem oL{c:Code}(m:Nat)(h:oc P n c Q m f w):ek P n (.loop c) Q f w:=by
 refine ek.loop (λm f w=>oc P n c Q m f w) m h λm f w a=>?_;cases m with
 |zero=>exact a.elim
 |succ m=>
  refine ek.mono (a:ek P n c (uY (oc P n c Q m) Q) f w) λe f w q=>?_;cases e with
  |normal=>exact⟨m,Nat.lt_succ_self m,q⟩
  |_=>exact q
theorem oc.step{c:Code}{m:Nat}(h:ek P n c (uY (oc P n c Q m) Q) f w):oc P n c Q (m+1) f w:=h
end
section
variable[D:lb]{P:Program}{n e9:Nat}{ops:Array Oper}{Q:Exit->te->World->Prop}{f:te}{w:World}{I:World->Prop}{r:sF}
theorem wN{i d:Nat}{op:Op}{T:TypeId}{pos:String}{eO:Array Edge}{g:Nat}{od:Bool}(t:Nat)(ew:ops[i]? =some ⟨some d,op,T,pos,eO,some (g,od)⟩)(eB:Op.looks op=true)(hd:Nat.blt d n=true)
 (a:(ops[g]?).bind (·.dst)=some t) (b:Nat.blt t n=true) (hb:f t= .bool (!od)) (hr:e2 P n ops e9 I Q r (o7 f d undef) w):e2 P n ops e9 I Q (.look i r) f w:=
 Tx (eb:=undef) (!od) t ew eB hd a b hb (λh=>by cases od<;>simp at h) (by rw[bt (by cases od<;>rfl)];exact hr)
theorem xi{i d:Nat}{op:Op}{T:TypeId}{pos:String}{eO:Array Edge}{g:Nat}{od:Bool}(t:Nat)(ew:ops[i]? =some ⟨some d,op,T,pos,eO,some (g,od)⟩)(eB:Op.looks op=true)(hd:Nat.blt d n=true)
 (a:(ops[g]?).bind (·.dst)=some t) (b:Nat.blt t n=true) (hb:f t=undef) (hr:e2 P n ops e9 I Q r (o7 f d undef) w):e2 P n ops e9 I Q (.look i r) f w:=
 M6 (eb:=undef) false true t ew eB hd a b (by rw[hb,bt rfl]) (λh=>by simp at h) (by rw[bt (Bool.false_and _)];exact hr)
end
theorem Qj{D:lb}{e9:Nat}{ops:Array Oper}{Q:Exit->te->World->Prop}{I:World->Prop}{r:sF}{od:Bool}(t:Nat)(b:I w)(ew:ops[i]? =some ⟨some d,op,T,pos,eO,some (g,od)⟩)(hd:Nat.blt d n=true)
 (c:(ops[g]?).bind (·.dst)=some t) (e:Nat.blt t n=true) (hb:f t= .bool (!od)) (hlt:Nat.blt i e9=true)
 (hr:e2 P n ops e9 I Q r (o7 f d undef) w):e2 P n ops e9 I Q (.one i r) f w:=by
 have hlt:i<e9:=by simpa using hlt
 refine kM ew λa ep=>?_;have h:Region.wanted ⟨some d,op,T,pos,eO,some (g,od)⟩ (yielded ops a.tmps)=false:=by
  simp only[Region.wanted];have:yielded ops a.tmps g=some (!od):=by
   unfold yielded;simp only[c,Option.bind_some,vc ep (t:=t) (by simpa using e),hb]
  rw[this];cases od<;>simp
 unfold wpOp;simp only[ew,h,Bool.false_eq_true,if_false];exact⟨⟨λ_=>b,.inl hlt⟩,_,ep.put (dst:=some d) (by intro x Z;cases Z;simpa using hd) undef,hr⟩
def ec.cut(v:ec)(l h m eo:Nat):ec:=⟨if m=l then v.a else v.a.map λoR=>⟨oR.block,oR.off+l*eo,none⟩,h-l,m-l⟩
theorem s5[O α]{xs ys:List α}(a:ex w v.v xs){l h m:Nat}(G:l<=h)(Y:h<=xs.length)(ej:h<=m)(e8:m<=s2 v.v)(b:(xs.take h).drop l=ys):ex w (v.cut l h m (O.eo α)).v ys:=by
 subst b;exact ex.cut a G Y ej e8
section
variable{α:Type}[O α]{P:Program}{f:te}{w:World}{R:Value->World->Prop}{d:Option Tmp}{T:TypeId}{pos:String}{eO:Array Edge}{eQ:Option (Nat×Bool)}{t eb:Nat}{x y:Operand}{v:ec}{xs:List α}{l h':Nat}{k:IntKind}
theorem zv[hl P t eb][nm P eb (O.eo α)](Z:eD f x=v.v)(a:ex w v.v xs)(b:eD f y= .int k (h':Int))(eB:h'<=xs.length)(h:R (v.cut 0 h' v.c (O.eo α)).v w):J P f ⟨d,.slice t x none (some y) none,T,pos,eO,eQ⟩ w R:=
 hj (xs:=xs) (l:=0) (h':=h') (m:=v.c) (by rw[Z];exact a) ⟨by rw[Z];rfl,by rw[Z];exact Nat.le_refl _⟩ ⟨⟨k,b⟩,Nat.le_trans eB a.cap⟩ ⟨rfl,Nat.zero_le _⟩ (by rw[Z];exact h)
theorem PT[hl P t eb][nm P eb (O.eo α)](Z:eD f x=v.v)(a:ex w v.v xs)(b:eD f y= .int k (l:Int))(eB:l<=xs.length)(h:R (v.cut l xs.length v.c (O.eo α)).v w):J P f ⟨d,.slice t x (some y) none none,T,pos,eO,eQ⟩ w R:=
 hj (xs:=xs) (l:=l) (h':=xs.length) (m:=v.c) (by rw[Z];exact a) ⟨by rw[Z];rfl,by rw[Z];exact Nat.le_refl _⟩ ⟨⟨rfl,rfl⟩,a.cap⟩ ⟨⟨k,b⟩,eB⟩ (by rw[Z];exact h)
end
theorem iH.Qq{e o1:eH}{tp:List eH}(h:iH e o1 S tp):tP o1 tp:=by
 induction h with
 |nW=>exact .nW
 |ei _ a=>exact .ei a
theorem h2(h:c.toList.all (λu=>u.oneCell')=true):∀u∈c.toList,u.oneCell'=true:=λu a=>List.all_eq_true.1 h u a
theorem ewL{T b:Nat}[mj P T][nm P T eo]{cs:Array Value}(a:an w (.pointer (some ⟨b,0,none⟩)) cs)(o:Nat)(d:cs.extract o (o+eo)=c)(e:o+eo<=cs.size):s1 P T w (.pointer (some ⟨b,o,none⟩)) (.agg c):=by
 have:=s1.wl (P:=P) (T:=T) a o d e;simpa[rs]using this
theorem PA{xs:Array Value}{j:Nat}(h:xs.extract o e=p)(a:p.extract i j=q)(b:o+j<=e):xs.extract (o+i) (o+j)=q:=by
 subst h;subst a;rw[Array.extract_extract];congr 1;omega
def I7(zs:List (Array Value)):List (Nat×Value) ->Prop
 |[]=>True
 |(i,v)::r=>i<zs.length/\v.cells.size=(zs.getD i #[]).size/\I7 zs r
theorem PO{zs:List (Array Value)}{i:Nat}{v:Array Value}(h:v.size=(zs.getD i #[]).size):∀{r:List (Nat×Value)},I7 zs r->I7 (zs.set i v) r
 |[],_=>trivial
 |(j,u)::r,⟨G,Y,ej⟩=>by
  refine⟨by rw[List.length_set];exact G,?_,PO h ej⟩;rw[Y];simp only[List.getD_eq_getElem?_getD,List.getElem?_set];by_cases a:i=j
  .subst a;rw[if_pos rfl,if_pos G];simp only[List.getD_eq_getElem?_getD]at h;exact h.symm
  rw[if_neg a]
theorem hT:∀{parts:List (Nat×Value)}{zs:List (Array Value)},I7 zs parts->pr zs parts
 |[],_,_=>trivial
 |(_,_)::_,_,⟨G,Y,ej⟩=>⟨G,Y,hT (PO Y ej)⟩
theorem vL{A X v:Array Value}(a:A.extract o e=p)(b:iI p i v=q)(E:iI A o q=X)(c:A.size=n)(tG:v.size+i<=e-o)(h:e<=n)(d:o<=e):iI A (o+i) v=X:=by
 subst a;subst b;subst E;subst c;have f:(A.extract o e).size=e-o:=by rw[Array.size_extract];omega
 have g:(iI (A.extract o e) i v).size=e-o:=by
  have:=f;unfold iI;simp only[Array.size_append,Array.size_extract];omega
 apply Array.ext_getElem?;intro k;rw[wu A v (o+i) (by omega) k,wu A _ o (by omega) k,g];by_cases G:o<=k/\k<o+(e-o)
 .rw[if_pos G,wu _ v i (by omega) (k-o)];by_cases Y:o+i<=k/\k<o+i+v.size
  .rw[if_pos Y,if_pos (by omega)];congr 1;omega
  rw[if_neg Y,if_neg (by omega),Array.getElem?_extract,if_pos (by omega)];congr 1;omega
 rw[if_neg G,if_neg (by omega)]
section
variable{P:Program}{f:te}{w w0:World}{S:List eH}{R:Value->World->Prop}{d:Option Tmp}{T:TypeId}{pos:String}{eO:Array Edge}{eQ:Option (Nat×Bool)}
theorem xn{α:Type}[O α]{a eb eo:Nat}{x y:Operand}{v u:Value}{xs zs:List α}{i off:Nat}{l9:α}[m:nm P a eo](E:U w0 S w)(b:tP (V v eb xs) S)(ew:i<xs.length)(Z:eD f x=rs (oX v i (O.eo α)) off)(e:eD f y=u)
 (g:u.cells.size=eo) (j:off+eo<=O.eo α) (G:∀c∈u.cells.toList,c.oneCell'=true) (k:iI (O.enc (xs[i]'ew)) off u.cells=O.enc l9) (l:xs.set i l9=zs)
 (h:∀w',(∀tp,iH (V v eb xs) (V v eb zs) S tp->U w0 tp w') ->R undef w'):J P f ⟨d,.store a x y,T,pos,eO,eQ⟩ w R:=by
 subst l;exact pd E b ew Z e g j G k h
theorem jN{s:TypeId}{parts:Array (Nat×Operand)}{zs:List (Array Value)}{c:Array Value}[e:nY P s zs](a:pr zs (parts.toList.map λ(i,x)=>(i,eD f x)))
 (b:eK (uQ zs (parts.toList.map λ(i,x)=>(i,eD f x)))=c) (h:R (.agg c) w):J P f ⟨d,.build s parts,T,pos,eO,eQ⟩ w R:=
 J.build a (by rw[b];exact h)
class zk(P:Program)(t:TypeId)(name:String)(g:outParam FuncId):Prop where
 out:(∃sig,(P.info? t).bind (λi=>i.methods.find? (λm=>m.name==name))=some ⟨name,sig,#[],some (g,true)⟩)/\∃e,P.underlying t=some (.pointer e)
theorem Qz{P:Program}{t g:Nat}{name:String}(e5:zk P t name g)(v:Value)(n:Nat)(w:World):(Go.method (n+1) t v name).run P w= .ok (g,v) w:=by
 obtain⟨⟨sig,h⟩,e,a⟩:=e5.out;cases ew:P.info? t with
 |none=>simp[ew]at h
 |some i=>
  simp only[ew,Option.bind_some]at h;simp[Go.method,typeInfo,ew,h,follow,receiverAt,run_underlying a,Place.get]
theorem QE{recv:Operand}{name:String}{args:Array Operand}{nI:Array TypeId}{t g:Nat}{x:Value}{vs:List Value}{R':Value->World->Prop}[e5:zk P t name g][c:lS P g](hr:eD f recv= .iface t x)(a:nr P g (x::vs).toArray w R')(i:args.toList.map (eD f)=vs)(h:∀v w',R' v w'->R v w'):
 J P f ⟨d,.call {callee:=.invoke recv name,args:=args,argTypes:=nI},T,pos,eO,eQ⟩ w R:=by
 unfold nr at a;have b:(x::vs).toArray=#[x]++args.map (eD f):=by subst i;apply Array.ext';simp
 rw[b]at a;have j:(#[Value.iface t x]++args.map (eD f)).extract 1 (#[Value.iface t x]++args.map (eD f)).size=args.map (eD f):=by
  apply Array.ext';simp;rw[List.take_of_length_le (by simp)]
 have em:(#[Value.iface t x]++args.map (eD f))[0]? =some (Value.iface t x):=by rw[Array.getElem?_append_left (by simp)];rfl
 obtain⟨n,k⟩:∃n,P.types.size+Made.depth=n+1:=⟨_,rfl⟩;have l:(callMethod (.iface t x) name (args.map (eD f))).run P w= .ok (.enter g (#[x]++args.map (eD f))) w:=by
  simp only[callMethod,Sem.run_bind,run_program,Result.andThen_ok,k,Qz e5,gI c]
 have m:(execOp (eD f) ⟨d,.call {callee:=.invoke recv name,args:=args,argTypes:=nI},T,pos,eO,eQ⟩).run P w= .ok (.enter g (#[x]++args.map (eD f))) w:=by
  simp only[execOp,resolve,hr,Sem.run_bind,Sem.run_pure,Result.andThen_ok,Go.invoke,em,j,l]
 unfold J;rw[m];exact Calls.mono a λe w'⟨v,b,tG⟩=>⟨v,b,h _ _ tG⟩
theorem QA{t e:TypeId}(ep:fE P t e):P.concrete t=true:=by
 have Y:=ep.out;unfold Program.concrete;simp[Y]
theorem QO{s e:TypeId}{x:Operand}{v:Value}[ep:fE P s e](Z:eD f x=v)(h:R (.iface s v) w):J P f ⟨d,.makeInterface s x,T,pos,eO,eQ⟩ w R:=by
 refine iz (v:=.iface s v) (w':=w) ?_ h;simp[execOp,Z,run_makeInterface,QA ep]
theorem PI{s a e:TypeId}{x:Operand}{v:Value}[e5:fE P s e](Z:eD f x= .iface s v)(h:R (.tuple #[v,.bool true]) w):J P f ⟨d,.typeAssert x a s true,T,pos,eO,eQ⟩ w R:=by
 refine iz (v:=.tuple #[v,.bool true]) (w':=w) ?_ h;have b:=e5.out;simp[execOp,Z,Instr.typeAssert,run_underlying b]
theorem QI{g:FuncId}[a:lS P g]{x:Operand}{args:Array Operand}{nI:Array TypeId}{vs nk:List Value}{R':Value->World->Prop}(Z:eD f x= .func (.func g) nk.toArray #[])(b:nr P g (nk++vs).toArray w R')(c:args.toList.map (eD f)=vs)(h:∀v w',R' v w'->R v w'):
 J P f ⟨d,.call {callee:=.value x,args:=args,argTypes:=nI},T,pos,eO,eQ⟩ w R:=
 bf (v:=.func (.func g) nk.toArray #[]) Z ⟨g,nk,[],rfl,a,by rw[List.append_nil];exact b⟩ c h
theorem I8{t n eb:Nat}{x ix:Operand}{k:IntKind}{i:Int}{cs:Array Value}{v:Value}[a:du P t n eb][c:uX P eb][b:nm P eb 1](Z:eD f x= .agg cs)(ew:eD f ix= .int k i)(hb:0<=i/\i<(n:Int))(tG:cs[i.toNat]? =some v)(h:R v w):J P f ⟨d,.index t x ix,T,pos,eO,eQ⟩ w R:=by
 refine iz (v:=v) (w':=w) ?_ h;simp[execOp,Z,ew,Instr.index,asIntOf,run_underlying a.out,hb.1,hb.2,m5 b,bh (P:=P) (T:=eb) w tG]
theorem c6{α:Type}[O α]{x:Operand}{v:Value}{t eb:Nat}{xs:List α}(n:Nat)[hl P t eb](Z:eD f x=v)(a:ex w v xs)(b:xs.length=n)(h:R (.int .i64 n) w):
 J P f ⟨d,.call {callee:=.builtin .len,args:=#[x],argTypes:=#[t]},T,pos,eO,eQ⟩ w R:=J.hD Z a (by rw[b];exact h)
theorem I9{tn tx:Type}[DecidableEq tn][oi tn]{t K eb r:Nat}{x:Operand}{e7:tx->Value}{eI:List (tn×tx)}(n:Nat)[e5:rH P t K eb](a:hV w r e7 eI)(Z:eD f x= .map (some r))(b:eI.length=n)(h:R (.int .i64 n) w):
 J P f ⟨d,.call {callee:=.builtin .len,args:=#[x],argTypes:=#[t]},T,pos,eO,eQ⟩ w R:=FC a Z (by rw[b];exact h)
class T7(P:Program)(T:TypeId):Prop where out:∃lj,P.underlying T=some (.interface lj)
class Lc(P:Program)(T:TypeId):Prop where out:(P.info? T).map (·.comparable)=some true:=by kernel_rfl
theorem QN{P:Program}{s t:TypeId}{k:IntKind}{a b:Int}(d:T7 P s)(e:hZ P t k)(c:Lc P t)(w:World):(Op.equal s (.iface t (.int k a)) (.iface t (.int k b))).run P w= .ok (decide (a=b)) w:=by
 obtain⟨lj,f⟩:=d.out;unfold Op.equal;show(Op.equalIn (9998+1+1) s (.iface t (.int k a)) (.iface t (.int k b))).run P w= .ok (decide (a=b)) w;generalize 9998=m;have c:=c.out;cases ew:P.info? t with
 |none=>simp[ew]at c
 |some i=>
  simp[ew]at c;simp[Op.equalIn,run_underlying f,run_underlying e.out,typeInfo,ew,c];rfl
theorem QS{s t c:TypeId}{k:IntKind}{a b:Int}{x y:Operand}[e:T7 P s][g:hZ P t k][i:Lc P t](Z:eD f x= .iface t (.int k a))(j:eD f y= .iface t (.int k b))(h:R (.bool (decide (a=b))) w):J P f ⟨d,.binOp .eql s x y c,T,pos,eO,eQ⟩ w R:=by
 refine iz (v:=.bool (decide (a=b))) (w':=w) ?_ h;have l:eqGuard .eql s x y (.iface t (.int k a)) (.iface t (.int k b))=pure ():=rfl;have m:binOp .eql s (.iface t (.int k a)) (.iface t (.int k b))=(do pure (.bool (<-Op.equal s (.iface t (.int k a)) (.iface t (.int k b))))):=rfl;simp only[execOp,Z,j,l,m,Sem.run_bind,Sem.run_pure,Result.andThen_ok,QN e g i]
theorem QR{P:Program}{s:TypeId}{t:TypeId}{u:Value}(a:T7 P s)(w:World):(Op.equal s (.iface t u) .nilIface).run P w= .ok false w:=by
 obtain⟨lj,b⟩:=a.out;unfold Op.equal;show(Op.equalIn (9999+1) s (.iface t u) .nilIface).run P w= .ok false w;generalize 9999=m;simp[Op.equalIn,run_underlying b]
theorem PN{s a:TypeId}{x:Operand}{v:Value}[b:T7 P s](Z:eD f x=v)(tG:∃t u,v= .iface t u)(h:R (.bool false) w):J P f ⟨d,.binOp .eql s x (.const .nilIface) a,T,pos,eO,eQ⟩ w R:=by
 obtain⟨t,u,rfl⟩:=tG;refine iz (v:=.bool false) (w':=w) ?_ h;have c:eqGuard .eql s x (.const .nilIface) (.iface t u) .nilIface=pure ():=rfl;have e:binOp .eql s (.iface t u) .nilIface=(do pure (.bool (<-Op.equal s (.iface t u) .nilIface))):=rfl;have g:eD f (.const .nilIface)= .nilIface:=rfl;simp only[execOp,Z,g,c,e,Sem.run_bind,Sem.run_pure,Result.andThen_ok,QR b]
def Lu(od:Array (String×TypeId))(Nt:Array Method):List (String×TypeId):=od.toList.filter λ(name,sig)=> !Nt.any λm=>m.name==name&&m.sig==sig
theorem QH{od:Array (String×TypeId)}{a:Array Method}{y:String×TypeId}(h:Lu od a=[y]):∃m,Instr.missingMethod od a=some m:=by
 unfold Lu at h;unfold Instr.missingMethod;simp only[h,List.map_cons,List.map_nil];by_cases b:y.1.contains (Char.ofNat 46)<;>simp[List.partition,List.partition.loop,b,Instr.least]
class Na(P:Program)(s t:TypeId):Prop where out:∃lj,P.underlying s=some (.interface lj)/\(P.info? t).map (λi=>(Lu lj i.methods).length)=some 1
theorem Lm{s a t:TypeId}{x:Operand}{u z:Value}[eB:Na P s t][b:oB P s z](Z:eD f x= .iface t u)(h:R (.tuple #[z,.bool false]) w):J P f ⟨d,.typeAssert x a s true,T,pos,eO,eQ⟩ w R:=by
 obtain⟨lj,G,c⟩:=eB.out;obtain⟨i,Y,e⟩:=Option.map_eq_some_iff.1 c;obtain⟨y,ej⟩:=List.length_eq_one_iff.1 e;obtain⟨m,e5⟩:=QH ej;refine iz (v:=.tuple #[z,.bool false]) (w':=w) ?_ h;simp[execOp,Z,Instr.typeAssert,run_underlying G,typeInfo,Y,e5,vf b]
theorem QC{recv:Operand}{name:String}{args:Array Operand}{nI:Array TypeId}{r v:Value}{vs:List Value}(Z:eD f recv=r)(a:args.toList.map (eD f)=vs)(hr:(callMethod r name vs.toArray).run P w= .ok (.value v) w)(h:R v w):
 J P f ⟨d,.call {callee:=.invoke recv name,args:=args,argTypes:=nI},T,pos,eO,eQ⟩ w R:=by
 refine iz (v:=v) (w':=w) ?_ h;have ep:args.map (eD f)=vs.toArray:=by subst a;apply Array.ext';simp
 have b:(#[r]++vs.toArray).extract 1 (#[r]++vs.toArray).size=vs.toArray:=by
  apply Array.ext';simp
 have em:(#[r]++vs.toArray)[0]? =some r:=by rw[Array.getElem?_append_left (by simp)];rfl
 simp only[execOp,resolve,Z,ep,Sem.run_bind,Sem.run_pure,Result.andThen_ok,Go.invoke,em,b,hr]
theorem p4{tn tx:Type}[DecidableEq tn][oi tn]{t K eb r:Nat}{z0:tx}{o:Option tx}{x ix:Operand}{k:tn}{e7:tx->Value}{eI:List (tn×tx)}[e5:rH P t K eb][e:u2 P K tn](a:oB P eb (e7 z0))(b:hV w r e7 eI)(Z:eD f x= .map (some r))(ew:eD f ix=oi.iu k)
 (c:tL k eI=o) (h:R (e7 (o.getD z0)) w):J P f ⟨d,.lookup t x ix false,T,pos,eO,eQ⟩ w R:=ym a b Z ew (by rw[c]) h
theorem zx{tn tx:Type}[DecidableEq tn][oi tn]{t K eb r:Nat}{z0:tx}{o:Option tx}{x ix:Operand}{k:tn}{e7:tx->Value}{eI:List (tn×tx)}[e5:rH P t K eb][e:u2 P K tn](b:oB P eb (e7 z0))(c:hV w r e7 eI)(Z:eD f x= .map (some r))(ew:eD f ix=oi.iu k)
 (a:tL k eI=o) (h:R (.tuple #[e7 (o.getD z0),.bool o.isSome]) w):J P f ⟨d,.lookup t x ix true,T,pos,eO,eQ⟩ w R:=zn b c Z ew (by rw[a]) (by rw[a];exact h)
theorem xr{tn tx:Type}[DecidableEq tn][oi tn]{t K eb r:Nat}{x ix y:Operand}{k:tn}{v:tx}{e7:tx->Value}{eI hm:List (tn×tx)}[e5:rH P t K eb][c:u2 P K tn](E:U w0 S w)(a:tP (tM r e7 eI) S)(Z:eD f x= .map (some r))(ew:eD f ix=oi.iu k)(b:eD f y=e7 v)
 (tG:oC k v eI=hm) (h:∀w',(∀tp,iH (tM r e7 eI) (tM r e7 hm) S tp->U w0 tp w') ->R undef w'):J P f ⟨d,.insert t x ix y,T,pos,eO,eQ⟩ w R:=J.insert E a Z ew b (by rw[tG];exact h)
theorem gF{tn tx:Type}[DecidableEq tn][oi tn]{t K eb r:Nat}{x ix y:Operand}{k:tn}{v:tx}{e7:tx->Value}{eI hm:List (tn×tx)}[e5:rH P t K eb][c:u2 P K tn](E:U w0 S w)(a:tP (tM r e7 eI) S)(Z:eD f x= .map (some r))(ew:eD f ix=oi.iu k)(b:eD f y=e7 v)
 (tG:oC k v eI=hm) (h:∀w',(∀tp,iH (tM r e7 eI) (tM r e7 hm) S tp->U w0 tp w') ->R undef w'):J P f ⟨d,.mapUpdate t x ix y,T,pos,eO,eQ⟩ w R:=J.mapUpdate E a Z ew b (by rw[tG];exact h)
theorem xh{tn tx:Type}[DecidableEq tn][oi tn]{t K eb r:Nat}{x ix:Operand}{k:tn}{e7:tx->Value}{eI hm:List (tn×tx)}[e5:rH P t K eb][c:u2 P K tn]{nI:Array TypeId}(a:nI[0]? =some t)(E:U w0 S w)(b:tP (tM r e7 eI) S)(Z:eD f x= .map (some r))(ew:eD f ix=oi.iu k)
 (tG:sp k eI=hm) (h:∀w',(∀tp,iH (tM r e7 eI) (tM r e7 hm) S tp->U w0 tp w') ->R (.tuple #[]) w'):J P f ⟨d,.call {callee:=.builtin .delete,args:=#[x,ix],argTypes:=nI},T,pos,eO,eQ⟩ w R:=J.delete a E b Z ew (by rw[tG];exact h)
def ip(o:Option Nat):Value:=.pointer (o.map λb=>⟨b,0,none⟩)
theorem ex.xl{α:Type}[O α]{v:Value}{xs:List α}(h:ex w v xs):∃s:ec,v=s.v:=by
 obtain⟨a,c,rfl⟩:=h.eq;exact⟨⟨a,_,c⟩,rfl⟩
theorem h3{α:Type}[O α]{x y:Operand}{t eb r4:Nat}{z:Value}{ys:List α}[j:hl P t eb][k:nm P eb (O.eo α)][hb:y8 P eb r4][l:oB P eb z](b:z.cells.size=O.eo α)
 (E:U w0 S w) (Z:eD f x= .slice none 0 0) (c:ex w (eD f y) ys) (e:ys.length*r4<=140737488355328) (g:ys.length<=maxLen)
 (h:∀(s:ec) w',eV w w'->U w0 (V s.v eb ys::S) w'->R s.v w'):
 J P f ⟨d,.call {callee:=.builtin .append,args:=#[x,y],argTypes:=#[t,t]},T,pos,eO,eQ⟩ w R:=
 Jf b E Z c e g λm w' i a=>by
  obtain⟨s,rfl⟩:=(a.eu .nW).xl;exact h s w' i a
theorem fr{α:Type}[O α]{x y:Operand}{t eb r4:Nat}{z v:Value}{xs ys zs:List α}[l:hl P t eb][m:nm P eb (O.eo α)][hb:y8 P eb r4][n:oB P eb z](c:z.cells.size=O.eo α)
 (E:U w0 S w) (Z:eD f x=v) (e1:tP (V v eb xs) S) (e:ex w (eD f y) ys) (g:xs++ys=zs) (i:(xs.length+ys.length)*r4<=140737488355328) (j:xs.length+ys.length<=maxLen)
 (h:∀(s:ec) w',(∀tp,iH (V v eb xs) (V s.v eb zs) S tp->U w0 tp w') ->R s.v w'):
 J P f ⟨d,.call {callee:=.builtin .append,args:=#[x,y],argTypes:=#[t,t]},T,pos,eO,eQ⟩ w R:=by
 subst g;refine dj c E Z e1 e i j λb w' h'=>?_;obtain⟨tp,a⟩:∃tp,iH (V v eb xs) (V b eb (xs++ys)) S tp:=by
  clear h h' E;induction e1 with
  |nW=>exact⟨_,.nW⟩
  |ei _ k=>obtain⟨tp,a⟩:=k;exact⟨_,.ei a⟩
 have e5:tP (V b eb (xs++ys)) tp:=a.Qq;obtain⟨s,rfl⟩:=((h' tp a).eu e5).xl;exact h s w' h'
end
theorem QU{k:Nat}(h:(v.cut 0 n n eo).v.ownBlock=some k):v.v.ownBlock=some k:=by
 obtain⟨a,m,c⟩:=v;by_cases eB:n=0<;>cases a<;>simp[ec.cut,ec.v,Value.ownBlock,eB]at h⊢<;>exact h
theorem U.xd[O α]{ea:World}{xs:List α}(h:U ea (V v.v T xs::S) w):U ea (V (v.cut 0 xs.length xs.length (O.eo α)).v T xs::S) w:=by
 have a:sH ea w v.v T xs:=h.cZ .nW;refine lv (e:=V v.v T xs) (w:=w) ⟨rfl,rfl,rfl,Nat.le_refl _,λ_ _ _=>rfl⟩ ?_ ?_ h .nW
 .rw[df];exact a.cut.1
 rw[dm,dm];intro k b;exact .inl (QU b)
theorem sH.eW[O α]{w':World}{v:Value}{xs:List α}(h:sH w w' v T xs)(hb:eV w w'):∃s:ec,v=s.v/\U w [V s.v T xs] w':=by
 obtain⟨s,rfl⟩:=h.1.eu.xl;exact⟨s,rfl,(eY w).pB hb h.1 h.2⟩
instance:oi eL where
 iu x:=.int .i64 x.n
 same x:=by simp[Instr.sameBits]
theorem PS(x:eL):oi.iu x= .int .i64 x.n:=rfl
theorem PR{tx:Type}(e7:tx->Value)(k:eL):∀(l:List MapEntry)(eI:List (eL×tx))(i:Nat),l.map (λe=>(e.key,e.val))=eI.map (λp=>(oi.iu p.1,e7 p.2)) ->Instr.findNow (.int .i64) (oi.iu k) l i=some (dE e7 k eI i)
 |[],[],i,_=>rfl
 |e::l,(x,v)::eI,i,h=>by
  simp only[List.map_cons,List.cons.injEq,Prod.mk.injEq]at h;obtain⟨⟨G,Y⟩,ej⟩:=h;have d:=PR e7 k l eI (i+1) ej;have f:Instr.sameNow (.int .i64) (oi.iu k) e.key=some (decide (k=x)):=by
   rw[G,PS,PS];simp only[Instr.sameNow,if_true,Option.some.injEq];rw[Bool.eq_iff_iff,decide_eq_true_eq,beq_iff_eq];constructor
   .intro h;obtain⟨a⟩:=k;obtain⟨b⟩:=x;have h:a=b:=h;rw[h]
   intro h;rw[h]
  simp only[Instr.findNow,f,dE];by_cases c:k=x
  .rw[if_pos c,decide_eq_true c];simp[Y]
  rw[if_neg c,decide_eq_false c];exact d
 |[],_::_,_,h=>by simp at h
 |_::_,[],_,h=>by simp at h
instance{K:Nat}[ew:hZ P K .i64]:u2 P K eL where
 wk u3 w k:=by
  show(Instr.checkKey u3 (9999+1) K (.int .i64 k.n)).run P w= .ok () w;generalize 9999=d;rw[Instr.checkKey];simp[run_underlying ew.out]
 vz e7 w k l eI h:=MapKept.run_findKey ew.out (PR e7 k l eI 0 h)
def u6(P:Program)(g:FuncId)(args:Array Value)(w:World)(R:Value->World->Prop):Prop:=
 ∀u:FrameMode,CallsD P g args u w λe c5 w'=>c5=u/\∃v,e= .returned v/\R v w'
theorem u6.mono{g:FuncId}{args:Array Value}{R':Value->World->Prop}(h:u6 P g args w R)(hr:∀v w',R v w'->R' v w'):u6 P g args w R':=
 λu=>(h u).mono λ_ _ _⟨G,v,Y,ej⟩=>⟨G,v,Y,hr v _ ej⟩
theorem u6.enter{g:FuncId}{c:Code}
 (d:P.funcs[g]? =some fn) (hb:fn.body=some c) (f:fn.ntmps=n) (hr:fn.results=aw.toArray) (i:Nat.ble args.length n=true)
 (h: @ek vl P n c (x9 P aw R) (mv args) w):u6 P g args.toArray w R:=by
 intro u;have j:=zy f (by simpa using i:args.length<=n);have k:fn.results.toList=aw:=by rw[hr]
 subst k;unfold ek at h;refine(callsD_of_wp (R:=λe w'=>∃v,e= .returned v/\R v w') d hb ?_).mono λe l w' h=>h;refine wp_mono (h _ j) λe a w⟨ae,hr,q⟩=>?_;cases e with
 |normal=>
  obtain⟨vs,tG,b⟩:=q;exact⟨hr.defers,_,tG.run hr,_,rfl,b⟩
 |ret=>
  obtain⟨vs,tG,b⟩:=q;exact⟨hr.defers,_,tG.run hr,_,rfl,b⟩
 |_=>exact(q:False).elim
def Lf(rU:te->World->Prop):Exit->te->World->Prop
 | .normal,f,w| .ret,f,w=>rU f w
 |_,_,_=>False
theorem zj(h:rU f w):Lf rU .ret f w:=h
theorem Lp{g:FuncId}[y:lS P gc]{p:Call}
 (z:P.funcs[g]? =some fn) (hb:fn.body=some (.seq jO (.seq (.region id [⟨some d,op,bp,bw,bv,none⟩,⟨none,.defer p,bg,bb,bk,none⟩].toArray false) jI)))
 (A:fn.ntmps=n) (hr:fn.results=aw.toArray) (B:Nat.ble args.length n=true) (hd:Nat.blt d n=true)
 (r: @ek vl P n jO (λe f w'=>e= .normal/\rU f w') (mv args) w)
 (c:∀f w',rU f w'->∃(v:Value)(cap b l:List Value),(execOp (eD f) ⟨some d,op,bp,bw,bv,none⟩).run P w'= .ok (.value v) w'/\(execOp (eD (o7 f d v)) ⟨none,.defer p,bg,bb,bk,none⟩).run P w'= .ok (.defer {target:=.fn (.func gc) cap.toArray,args:=b.toArray}) w'/\b++cap=l/\
  ∀D:lb,D=⟨[{target:=.fn (.func gc) cap.toArray,args:=b.toArray}]⟩ -> @ek D P n jI (Lf λae C=>u6 P gc l.toArray C λ_ h=>∃vs,hY P ae h aw vs/\R (uB vs) h) (o7 f d v) w'):nr P g args.toArray w R:=by
 unfold nr;refine calls_of_wp_defers z hb ?_;have E:=zy A (by simpa using B:args.length<=n);have F:d<n:=by simpa using hd
 have G:fn.results.toList=aw:=by rw[hr]
 subst G;unfold ek at r;refine wp_seq (wp_mono (r _ E) ?_);rintro e a aB ⟨f,ep,rfl,i⟩;obtain⟨v,cap,b,l,s,t,eB,c⟩:=c f aB i;have c:=c _ rfl;show Code.wp _ _ _ _ _;refine wp_seq (wp_region_lit ?_);rw[<-ep.eval]at s;have H:=ep.put (dst:=some d) (by intro x Z;cases Z;exact F) v;have j:so n (a.put (some d) v) (o7 f d v):=H;rw[<-j.eval]at t;refine wpList_plain rfl λK k=>?_;unfold Oper.wp;rw[s];refine k _ _ ?_;refine wpList_plain rfl λK k=>?_;unfold Oper.wp;rw[t];refine k _ _ (wpList_nil ?_);show Code.wp _ _ _ _ _;have u: @so ⟨[{target:=.fn (.func gc) cap.toArray,args:=b.toArray}]⟩ n {(a.put (some d) v)with defers:=[{target:=.fn (.func gc) cap.toArray,args:=b.toArray}]} (o7 f d v):=
  @so.mk ⟨_⟩ _ _ _ rfl j.size j.ot
 have I:a.defers=[]:=ep.defers;unfold ek at c;simp only[Act.put,I]at u⊢;refine wp_mono (c _ u) ?_;rintro e tc w' ⟨ae,m,q⟩;have key:∀(i:u6 P gc l.toArray w' λ_ h=>∃vs,hY P ae h fn.results.toList vs/\R (uB vs) h),Leaves P fn tc.tmps (λe w'=>∃v,e= .returned v/\R v w') [{target:=.fn (.func gc) cap.toArray,args:=b.toArray}] .returning w':=by
  intro i;subst eB;refine leaves_cons (f:=gc) (args:=(b++cap).toArray) (by simp) (by simp[Go.invoke,gI y]) ((i .returning).mono ?_);rintro e L h ⟨rfl,x,rfl,vs,tG,J⟩;exact⟨_,tG.run (a:={tc with defers:=[]}) (n:=n) (so.mk rfl m.out.2.1 m.out.2.2),_,rfl,J⟩
 have o:=m.out.1;simp only at o;cases e with
 |normal=>show Leaves _ _ _ _ _ _ _;rw[o];exact key q
 |ret=>show Leaves _ _ _ _ _ _ _;rw[o];exact key q
 |_=>exact(q:False).elim
theorem Lg{g:FuncId}[z:lS P gc]{p:Code}{r:Call}
 (A:P.funcs[g]? =some fn) (hb:fn.body=some (.seq jO (.seq p (.seq (.region id [⟨some d,op,bp,bw,bv,none⟩,⟨none,.defer r,bg,bb,bk,none⟩].toArray false) jI))))
 (B:fn.ntmps=n) (hr:fn.results=aw.toArray) (C:Nat.ble args.length n=true) (hd:Nat.blt d n=true)
 (s: @ek vl P n jO (λe f w'=>e= .normal/\@ek vl P n p (λe f w'=>e= .normal/\rU f w') f w') (mv args) w)
 (c:∀f w',rU f w'->∃(v:Value)(cap b l:List Value),(execOp (eD f) ⟨some d,op,bp,bw,bv,none⟩).run P w'= .ok (.value v) w'/\(execOp (eD (o7 f d v)) ⟨none,.defer r,bg,bb,bk,none⟩).run P w'= .ok (.defer {target:=.fn (.func gc) cap.toArray,args:=b.toArray}) w'/\b++cap=l/\
  ∀D:lb,D=⟨[{target:=.fn (.func gc) cap.toArray,args:=b.toArray}]⟩ -> @ek D P n jI (Lf λae E=>u6 P gc l.toArray E λ_ h=>∃vs,hY P ae h aw vs/\R (uB vs) h) (o7 f d v) w'):nr P g args.toArray w R:=by
 unfold nr;refine calls_of_wp_defers A hb ?_;have F:=zy B (by simpa using C:args.length<=n);have G:d<n:=by simpa using hd
 have H:fn.results.toList=aw:=by rw[hr]
 subst H;unfold ek at s;refine wp_seq (wp_mono (s _ F) ?_);rintro e a aB ⟨f,ep,rfl,I⟩;show Code.wp _ _ _ _ _;refine wp_seq (wp_mono (I _ ep) ?_);rintro e a aB ⟨f,ep,rfl,i⟩;obtain⟨v,cap,b,l,t,u,eB,c⟩:=c f aB i;have c:=c _ rfl;show Code.wp _ _ _ _ _;refine wp_seq (wp_region_lit ?_);rw[<-ep.eval]at t;have J:=ep.put (dst:=some d) (by intro x Z;cases Z;exact G) v;have j:so n (a.put (some d) v) (o7 f d v):=J;rw[<-j.eval]at u;refine wpList_plain rfl λK k=>?_;unfold Oper.wp;rw[t];refine k _ _ ?_;refine wpList_plain rfl λK k=>?_;unfold Oper.wp;rw[u];refine k _ _ (wpList_nil ?_);show Code.wp _ _ _ _ _;have y: @so ⟨[{target:=.fn (.func gc) cap.toArray,args:=b.toArray}]⟩ n {(a.put (some d) v)with defers:=[{target:=.fn (.func gc) cap.toArray,args:=b.toArray}]} (o7 f d v):=
  @so.mk ⟨_⟩ _ _ _ rfl j.size j.ot
 have L:a.defers=[]:=ep.defers;unfold ek at c;simp only[Act.put,L]at y⊢;refine wp_mono (c _ y) ?_;rintro e tc w' ⟨ae,m,q⟩;have key:∀(i:u6 P gc l.toArray w' λ_ h=>∃vs,hY P ae h fn.results.toList vs/\R (uB vs) h),Leaves P fn tc.tmps (λe w'=>∃v,e= .returned v/\R v w') [{target:=.fn (.func gc) cap.toArray,args:=b.toArray}] .returning w':=by
  intro i;subst eB;refine leaves_cons (f:=gc) (args:=(b++cap).toArray) (by simp) (by simp[Go.invoke,gI z]) ((i .returning).mono ?_);rintro e N h ⟨rfl,x,rfl,vs,tG,M⟩;exact⟨_,tG.run (a:={tc with defers:=[]}) (n:=n) (so.mk rfl m.out.2.1 m.out.2.2),_,rfl,M⟩
 have o:=m.out.1;simp only at o;cases e with
 |normal=>show Leaves _ _ _ _ _ _ _;rw[o];exact key q
 |ret=>show Leaves _ _ _ _ _ _ _;rw[o];exact key q
 |_=>exact(q:False).elim
theorem Lw{d:Tmp}{a:Array Operand}(h:a.toList.map (eD f)=cs):(execOp (eD f) ⟨some d,.makeFunc (.func g) #[] a,T,pos,eO,none⟩).run P w= .ok (.value (.func (.func g) #[] cs.toArray)) w:=by
 have:a.map (eD f)=cs.toArray:=by rw[<-h];apply Array.ext';simp
 simp[execOp,Instr.makeFunc,this]
theorem Ly{d:Tmp}:(execOp (eD (o7 f d (.func (.func g) #[] cs.toArray))) ⟨none,.defer {callee:=.value (.tmp d),args:=#[],argTypes:=nI},T,pos,eO,none⟩).run P w= .ok (.defer {target:=.fn (.func g) cs.toArray,args:=([]:List Value).toArray}) w:=by
 simp[execOp,resolve,eD,y6,Deferred.ofValue]
theorem Lb{args:Array Operand}{vs:List Value}(h:args.toList.map (eD f)=vs):(execOp (eD f) ⟨none,.defer {callee:=.value (.func g),args:=args,argTypes:=nI},T,pos,eO,none⟩).run P w= .ok (.defer {target:=.fn (.func g) ([]:List Value).toArray,args:=vs.toArray}) w:=by
 have:args.map (eD f)=vs.toArray:=by rw[<-h];apply Array.ext';simp
 simp[execOp,resolve,eD,Deferred.ofValue,this]
end
section
variable{w0 w:World}{S:List eH}{d t eb:Nat}{L:List Nat}{α:Type}{P:Program}{f:te}{R:Value->World->Prop}{T e:TypeId}{pos:String}{eO:Array Edge}{eQ:Option (Nat×Bool)}{x y:Operand}{lc:Value}{k:IntKind}
section
variable{P:Program}{n:Nat}{D:List Deferred}{Q:Exit->Act->World->Prop}{f:te}{w:World}
theorem PL{oh σ ρ:Type}{g:Operand}{p rE:Nat}{cI cb:Code}{ra:Nat}[iR:lS P ra]{oN:List Value}{ea:World}{r9:List eH}
 (wE:oh->Prop) (eb:oh->List eH) (u:oh->Value) (J:oh->σ->Prop) (eN:σ->List eH) (K:oh->ρ->Prop) (k:ρ->List eH) (Fin:σ->Prop) (Stop:ρ->Prop)
 (tF:eD f g= .func (.func ra) #[] oN.toArray) (e3:Nat.blt p n=true) (E:U ea r9 w)
 (rz:∀(l:Nat)(X M:List eH)(W:World),U ea (X++r9) W->
  (∀t W1,wE t->U ea (X++eb t) W1->YieldAt Fence.wide 0 P l #[u t] W1 λe i=>(e= .returned (.bool true)/\∃s,J t s/\U ea (X++eN s) i)∨(e= .returned (.bool false)/\∃r,K t r/\U ea (M++k r) i)) ->
  nr P ra (.func (.yield l) #[] #[]::oN).toArray W λ_ i=>(∃s,Fin s/\U ea (X++eN s) i)∨(∃r,Stop r/\U ea (M++k r) i))
 (jj:∀(l:Nat)(X:List eH)(t:oh)(W:World),wE t->U ea (X++eb t) W->
  ny l P n cI (λe ae i=>e= .normal/\∃z,U ea (X++z) i/\∀B W2,U ea (B++z) W2->
   ny l P n cb (λe _ N=>(e= .normal/\∃s,J t s/\U ea (B++eN s) N)∨(e= .exit rE/\∃r,K t r/\U ea (B++k r) N)) ae W2) (o7 f p (u t)) W)
 (pc:∀(d:Nat)(W:World)(s:σ),Fin s->U ea (lu d (.deferred (some []))::eN s) W->∀a,sK n ({target:=.collected d,args:=#[]}::D) a f->Q .normal a W)
 (Le:∀(d:Nat)(W:World)(r:ρ),Stop r->U ea (lu d (.deferred (some []))::k r) W->∀a,sK n ({target:=.collected d,args:=#[]}::D) a f->Q .normal a W):
 lx P n (.block rE (.rangeFunc g #[p] cI cb)) D Q f w:=by
 unfold lx;intro a ep;refine wpIn_block (wpIn_rangeFunc ?_);intro fn zm;obtain⟨rec,b⟩:∃rec:LoopState->Option Code->Loop,rec=λeW s4=>{state:=eW,pending:=s4,fn,tmps:=a.tmps,params:=#[p],assign:=cI,body:=cb,defers:=w.heap.size}:=⟨_,rfl⟩;obtain⟨L,O⟩:∃L,L=w.heap.size+1:=⟨_,rfl⟩;obtain⟨d,hd⟩:∃d,d=w.heap.size:=⟨_,rfl⟩;obtain⟨X,A⟩:∃X:LoopState->Option Code->List eH,X=λeW s4=>[lu L (.loop (rec eW s4)),lu d (.deferred (some []))]:=⟨_,rfl⟩;have j:∀{eW s4 S W},U ea (X eW s4++S) W->W.heap[L]? =some (.loop (rec eW s4)):=by
  intro eW s4 S W h;rw[A]at h;exact h.I0 (S:=lu L (.loop (rec eW s4))::_) .nW
 have m:∀{eW s4 S W}(C H),U ea (X eW s4++S) W->U ea (X C H++S) (W.putObj L (.loop (rec C H))):=by
  intro eW s4 S W C H h;rw[A]at h⊢;exact U.H9 (o:=.loop (rec eW s4)) _ h .nW
 have R:∀{eW s4 S W},U ea (X eW s4++S) W->U ea (lu d (.deferred (some []))::S) W:=by
  intro eW s4 S W h;rw[A]at h;exact h.sub (List.sublist_cons_self _ _)
 obtain⟨W1,T⟩:∃W1,(w.alloc (.deferred (some []))).alloc (.loop (rec .ready none))=W1:=⟨_,rfl⟩;have tR:U ea (X .ready none++r9) W1:=by
  rw[<-T,A,O,hd];have h:=(E.I1 (.deferred (some []))).I1 (.loop (rec .ready none));rw[World.size_alloc]at h;exact h
 refine⟨L,[{target:=.collected w.heap.size,args:=#[]}],W1,{target:=.fn (.func ra) oN.toArray,args:=#[.func (.yield L) #[] #[]]},W1,ra,#[.func (.yield L) #[] #[]]++oN.toArray,W1,?_,?_,λ_ _=>trivial,?_,λ_=>by omega,?_⟩
 .rw[<-T,b,O];exact run_enterLoop_outer _ _ _ _ _
 .have eR:=ep.eval;simp only[resolve,rangeCall,eR,tF];simp[go_sem];rfl
 .simp[invoke,go_sem,gI iR]
 have V:=rz L (X .ready none) (X .done (some (.exit rE))) W1 tR (λt W tu c=>by
  have eB:=j c;have Lt:(Instr.yield L #[u t]).run P W= .ok (.round L fn (a.tmps.setIfInBounds p (u t)) cI cb) W:=by
   have G:=run_yield (P:=P) (args:=#[u t]) eB (by rw[b];rfl);rw[b]at G;simpa using G
  refine⟨fn,_,_,_,Lt,roundIn_of_wpIn (F:=Fence.wide) trivial ?_⟩;have bd:sK n [] {tmps:=a.tmps.setIfInBounds p (u t),defers:=[]} (o7 f p (u t)):=by
   have G:sK n [] {a with defers:=[]} f:=⟨rfl,ep.size,ep.ot⟩;exact G.put (dst:=some p) (by intro d hd;cases hd;simpa using e3) _
  refine wpIn_mono ((jj L (X .ready none) t W tu c).run bd) ?_;rintro e dT aB ⟨f1,oe,rfl,z,Z,er⟩;have h8:=j Z;refine⟨_,run_beginRound h8 (by rw[b]),?_⟩;have q:U ea (X .busy none++z) (aB.putObj L (.loop {rec .ready none with state:=.busy})):=by
   have Y:=m .busy none Z;rw[b]at Y⊢;exact Y
  refine wpIn_mono ((er (X .busy none) _ q).run oe) ?_;rintro e da h9 ⟨f2,nw,wT⟩;rcases wT with⟨rfl,s,tm,x⟩|⟨rfl,r,hb,x⟩
  .refine⟨_,_,run_endRound (P:=P) none (j x),.inl ⟨rfl,s,tm,?_⟩⟩;have Y:=m .ready none x;rw[b]at Y⊢;exact Y
  refine⟨_,_,run_endRound (P:=P) (some (.exit rE)) (j x),.inr ⟨rfl,r,hb,?_⟩⟩;have Y:=m .done (some (.exit rE)) x;rw[b]at Y⊢;exact Y)
 unfold nr at V;have TX:CallsIn Fence.wide 1 P ra (#[.func (.yield L) #[] #[]]++oN.toArray) W1 _:=callsIn_wide.2 (by
  have aQ:(#[.func (.yield L) #[] #[]]++oN.toArray:Array Value)=(.func (.yield L) #[] #[]::oN).toArray:=by apply Array.ext';simp
  rw[aQ];exact V)
 refine CallsIn.mono TX ?_;rintro e W2 ⟨v,rfl,jc⟩;rcases jc with⟨s,I,c⟩|⟨r,I,c⟩
 .have ub:=run_endLoop (P:=P) (j c) (by rw[b];simp);refine⟨none,_,(by rw[ub,b]),?_⟩;have q:U ea (X .exhausted none++eN s) (W2.putObj L (.loop {rec .ready none with state:=.exhausted})):=by
   have Y:=m .exhausted none c;rw[b]at Y⊢;exact Y
  have y:=pc d _ s I (R q) {a with defers:={target:=.collected w.heap.size,args:=#[]}::a.defers} ⟨by rw[<-ep.defers,hd],ep.size,ep.ot⟩;rw[b]at y;exact y
 have ub:=run_endLoop (P:=P) (j c) (by rw[b];simp);refine⟨some (.exit rE),_,(by rw[ub,b]),?_⟩;refine wpIn_exit ?_;have q:U ea (X .exhausted (some (.exit rE))++k r) (W2.putObj L (.loop {rec .done (some (.exit rE))with state:=.exhausted})):=by
  have Y:=m .exhausted (some (.exit rE)) c;rw[b]at Y⊢;exact Y
 have y:=Le d _ r I (R q) {a with defers:={target:=.collected w.heap.size,args:=#[]}::a.defers} ⟨by rw[<-ep.defers,hd],ep.size,ep.ot⟩;show Exit.inBlock rE Q (.exit rE) _ _;simp only[Exit.inBlock,if_true];rw[b]at y;exact y
end
section
variable{P:Program}{n:Nat}{D:List Deferred}{Q:Exit->Act->World->Prop}{f:te}{w:World}
theorem QM{g:Operand}{p rE:Nat}{cI cb:Code}{ra:Nat}[k:lS P ra]{oN:List Value}{ea:World}{r9:List eH}
 (b:eD f g= .func (.func ra) #[] oN.toArray) (c:Nat.blt p n=true) (E:U ea r9 w)
 (e:∀(x:Value)(X:List eH)(W:World),U ea (X++r9) W->nr P ra (x::oN).toArray W λ_ i=>eV W i)
 (j:∀(d:Nat)(W:World),U ea (lu d (.deferred (some []))::r9) W->∀a,sK n ({target:=.collected d,args:=#[]}::D) a f->Q .normal a W):
 lx P n (.block rE (.rangeFunc g #[p] cI cb)) D Q f w:=by
 refine PL (oh:=Unit) (σ:=Unit) (ρ:=Unit) (λ_=>False) (λ_=>[]) (λ_=>.nilIface) (λ_ _=>False) (λ_=>r9) (λ_ _=>False) (λ_=>[]) (λ_=>True) (λ_=>False) b c E ?_ ?_ ?_ ?_
 .intro l X m W o4 _;exact(e _ X W o4).mono λ_ _ hb=>.inl ⟨(),trivial,o4.es hb⟩
 .intro l X t W h;exact h.elim
 .intro d W _ _ o4;exact j d W o4
 intro d W _ h;exact h.elim
end
def u7(L:List Nat):List Deferred:=L.map λd=>{target:=.collected d,args:=#[]}
@[irreducible] def hM (L:List Nat):eH:=hC (L.map λd=>lu d (.deferred (some [])))
theorem U.jR(h:U w0 S w):U w0 (hM []::S) w:=by unfold hM;exact U.closed (l:=[]) h
theorem U.Lv(h:U w0 (lu d (.deferred (some []))::hM L::S) w):U w0 (hM (d::L)::S) w:=by
 unfold hM at h⊢;have G:=(h.pick (.ei .nW)).de;exact U.closed (l:=(d::L).map λd=>lu d (.deferred (some []))) (G.hK (by simpa using List.perm_middle))
theorem U.QF(h:U w0 (hM (d::L)::S) w):U w0 (lu d (.deferred (some []))::hM L::S) w:=by
 unfold hM at h⊢;have G:=h.de;simp only[List.map_cons,List.cons_append]at G;have Y:U w0 ((L.map λd=>lu d (.deferred (some [])))++(lu d (.deferred (some []))::S)) w:=G.hK (by simpa using List.perm_middle.symm);exact(U.closed Y).hK (List.Perm.swap _ _ _)
@[irreducible] def oq (P:Program) (n:Nat) (c:Code) (Q:Exit->List Nat->te->World->Prop) (L:List Nat) (f:te) (w:World):Prop:=
 ∀a,sK n (u7 L) a f->c.wp P (λe tc w'=>∃ae L',sK n (u7 L') tc ae/\Q e L' ae w') a w
def No(K:List Nat->te->World->Prop)(Q:Exit->List Nat->te->World->Prop):Exit->List Nat->te->World->Prop
 | .normal,L,f,w=>K L f w
 |e,L,f,w=>Q e L f w
def zq(id:Nat)(Q:Exit->List Nat->te->World->Prop):Exit->List Nat->te->World->Prop
 | .exit vd,L,f,w=>cond (Nat.beq vd id) (Q .normal L f w) (Q (.exit vd) L f w)
 |e,L,f,w=>Q e L f w
section
variable{P:Program}{n:Nat}{Q:Exit->List Nat->te->World->Prop}{K:List Nat->te->World->Prop}{L:List Nat}{f:te}{w:World}
theorem rT(h:K L f w):No K Q .normal L f w:=h
theorem PD{i:Nat}(h:Q (.exit i) L f w):No K Q (.exit i) L f w:=h
theorem PC{id:Nat}(h:Q .normal L f w):zq id Q .normal L f w:=h
theorem QP{id:Nat}(h:Q .normal L f w):zq id Q (.exit id) L f w:=by
 have:Nat.beq id id=true:=by simp
 simp only[zq,this,cond_true];exact h
theorem oq.of{c:Code}(h:∀D:lb,D=⟨u7 L⟩ -> @ek D P n c (λe ae w'=>Q e L ae w') f w):oq P n c Q L f w:=by
 have h:=h _ rfl;unfold oq;unfold ek at h;intro a ep;refine wp_mono (h a (@so.mk ⟨u7 L⟩ _ _ _ ep.defers ep.size ep.ot)) ?_;rintro e tc w' ⟨ae,hr,b⟩;have hr:=hr.out;exact⟨ae,L,⟨hr.1,hr.2.1,hr.2.2⟩,b⟩
theorem oq.mono{c:Code}{b:Exit->List Nat->te->World->Prop}(h:oq P n c Q L f w)(d:∀e L f w,Q e L f w->b e L f w):oq P n c b L f w:=by
 unfold oq at*;exactλa ep=>wp_mono (h a ep) λe a w⟨ae,L',hr,q⟩=>⟨ae,L',hr,d _ _ _ _ q⟩
theorem oq.seq{si nu:Code}(h:∀K:List Nat->te->World->Prop,(∀L f w,oq P n nu Q L f w->K L f w) ->oq P n si (No K Q) L f w):oq P n (.seq si nu) Q L f w:=by
 have h:=h (λL f w=>∀(a:Act),sK n (u7 L) a f->nu.wp P (λe tc w'=>∃ae L',sK n (u7 L') tc ae/\Q e L' ae w') a w) (λ_ _ _ h=>by unfold oq at h;exact h);unfold oq at h⊢;intro a ep;refine wp_seq (wp_mono (h a ep) λe tc w'⟨ae,L',hr,q⟩=>?_);cases e with
 |normal=>exact q tc hr
 |_=>exact⟨ae,L',hr,q⟩
theorem oq.block{id:Nat}{c:Code}(h:oq P n c (zq id Q) L f w):oq P n (.block id c) Q L f w:=by
 unfold oq at*;intro a ep;refine wp_block (wp_mono (h a ep) λe tc w'⟨ae,L',hr,q⟩=>?_);cases e with
 |exit d=>
  simp only[Exit.inBlock];split
  .rename_i b;subst b;exact⟨ae,L',hr,by simpa[zq]using q⟩
  rename_i b;have:Nat.beq d id=false:=by rw[<-Bool.not_eq_true,Nat.beq_eq];exact b
  exact⟨ae,L',hr,by simpa[zq,this]using q⟩
 |_=>exact⟨ae,L',hr,q⟩
theorem oq.loop{c:Code}(I:Nat->List Nat->te->World->Prop)(m:Nat)(em:I m L f w)
 (round:∀m L f w,I m L f w->oq P n c (No (λL' ae w'=>∃j,j<m/\I j L' ae w') Q) L f w):oq P n (.loop c) Q L f w:=by
 unfold oq at*;intro a ep;have key:∀(m:Nat)(a:Act)(L:List Nat)(f:te)(w:World),sK n (u7 L) a f->I m L f w->(Code.loop c).wp P (λe tc w'=>∃ae L',sK n (u7 L') tc ae/\Q e L' ae w') a w:=by
  intro m a L f w ep o b k cs;have p:∀(m:Nat)(a:Act)(L:List Nat)(f:te)(w:World),sK n (u7 L) a f->I m L f w->
   ∃e tc w',(∃ae L',sK n (u7 L') tc ae/\Q e L' ae w')/\Arrives P (lone (b.at a (.code c:: .inLoop c::k)) cs w) b k cs e tc w':=by
   intro m;induction m using Nat.strongRecOn with
   |_ m q=>
    intro a L f w ep o;obtain⟨e,h,i,⟨ae,L',hr,d⟩,g⟩:=round m L f w o a ep b (.inLoop c::k) cs;cases e with
    |normal=>
     obtain⟨j,e5,r⟩:=d;obtain⟨s,t,u,v,y⟩:=q j e5 h L' ae i hr r;exact⟨s,t,u,v,.of_steps (Steps.trans g (.one step_inLoop)) y⟩
    |exit id=>exact⟨_,h,i,⟨ae,L',hr,d⟩,.pass (x:=.inLoop c) rfl (λ_ _=>.inl (by simp)) g⟩
    |goto l=>exact⟨_,h,i,⟨ae,L',hr,d⟩,.pass (x:=.inLoop c) rfl (λ_ _=>.inl (by simp)) g⟩
    |ret=>exact⟨_,h,i,⟨ae,L',hr,d⟩,.pass (x:=.inLoop c) rfl (λ_ _=>.inl (by simp)) g⟩
    |panic ch=>exact⟨_,h,i,⟨ae,L',hr,d⟩,.pass (x:=.inLoop c) rfl (λ_ _=>.inl (by simp)) g⟩
    |outgrown=>exact⟨_,h,i,⟨ae,L',hr,d⟩,.pass (x:=.inLoop c) rfl (λ_ _=>.inl (by simp)) g⟩
  obtain⟨e,tc,w',d,g⟩:=p m a L f w ep o;exact⟨e,tc,w',d,.of_steps (.one step_loop) g⟩
 exact key m a L f w ep em
theorem QG{c:Code}(l:List (Nat×Value))(a:oV l f)(h:∀g:te,oq P n c Q L (oQ l g) w):oq P n c Q L f w:=by
 rw[a.eq];exact h f
theorem PU{g:Operand}{p rE:Nat}{cI cb:Code}{ra:Nat}[l:lS P ra]{oN:List Value}{ea:World}{r9:List eH}
 (b:eD f g= .func (.func ra) #[] oN.toArray) (c:Nat.blt p n=true) (E:U ea (hM L::r9) w)
 (i:∀(x:Value)(S:List eH)(W:World),U ea (r9++S) W->nr P ra (x::oN).toArray W λ_ j=>eV W j)
 (k:∀(d:Nat)(W:World),U ea (hM (d::L)::r9) W->Q .normal (d::L) f W):
 oq P n (.block rE (.rangeFunc g #[p] cI cb)) Q L f w:=by
 unfold oq;intro a ep;have h:=QM (n:=n) (D:=u7 L) (Q:=λe tc w'=>∃ae L',sK n (u7 L') tc ae/\Q e L' ae w') (f:=f) (w:=w) (g:=g) (p:=p) (rE:=rE) (cI:=cI) (cb:=cb) b c E
  (λx X W o4=>i x (X++[hM L]) W (o4.hK (by rw[<-List.append_assoc];exact(List.perm_middle (l₁:=X)).trans ((List.perm_append_comm (l₁:=hM L::X) (l₂:=r9)).trans (by
   refine(List.Perm.append_left r9 ?_).trans (by rw[List.append_assoc]);exact List.perm_append_comm (l₁:=[hM L]) (l₂:=X))))))
  (λd W o4 a ep=>⟨f,d::L,ep,k d W o4.Lv⟩)
 exact wpIn_wide.1 (h.run ep)
def PM(P:Program)(n:Nat)(fn:Func)(R:Value->World->Prop):Exit->List Nat->te->World->Prop:=
 λe L f w=>∀a,sK n (u7 L) a f->bodyPostM Fence.wide 2 P fn (λe w'=>∃v,e= .returned v/\R v w') e a w
theorem jH{fn:Func}{R:Value->World->Prop}{aw:List ResultVar}{w0:World}{S:List eH}(hr:fn.results=aw.toArray)(E:U w0 (hM L::S) w)
 (tG:∀w',U w0 S w'->∃vs,hY P f w' aw vs/\R (uB vs) w'):PM P n fn R .ret L f w:=by
 intro a ep;have b:fn.results.toList=aw:=by rw[hr]
 subst b;show LeavesInM _ _ _ _ _ _ a.defers _ _;rw[ep.defers];have key:∀(L:List Nat)(w:World),U w0 (hM L::S) w->LeavesInM Fence.wide 2 P fn a.tmps (λe w'=>∃v,e= .returned v/\R v w') (u7 L) .returning w:=by
  intro L;induction L with
  |nil=>
   intro w E;obtain⟨vs,G,Y⟩:=tG w (E.sub (List.sublist_cons_self _ _));exact⟨_,hY.run (a:={a with defers:=[]}) ep.IX G,_,rfl,Y⟩
  |cons d L c=>
   intro w E;have h:=E.QF;have hd:=h.I0 (l:=d) (o:=.deferred (some [])) .nW;exact⟨by simp,.inl ⟨_,_,rfl,run_takeDeferred hd,c _ ((h.H9 (.deferred none) .nW).sub (List.sublist_cons_self _ _))⟩⟩
 exact key L w E
theorem jL{g:FuncId}{fn:Func}{c:Code}{args:List Value}{R:Value->World->Prop}
 (b:P.funcs[g]? =some fn) (hb:fn.body=some c) (d:fn.ntmps=n) (f:Nat.ble args.length n=true)
 (h:oq P n c (PM P n fn R) [] (mv args) w):nr P g args.toArray w R:=by
 refine Pe b hb d f ?_;unfold lx;unfold oq at h;intro a ep;refine wpIn_wide.2 (wp_mono (h a ep) ?_);rintro e tc w' ⟨ae,L',hr,q⟩;exact q tc hr
end
theorem QW[O α]{d:Option Tmp}{r4 c:Nat}(z:α)[g:hl P t eb][j:nm P eb (O.eo α)][hb:y8 P eb r4][l:oB P eb lc](m:lc.cells=O.enc z)(E:U w0 S w)
 (Z:eD f x= .int .i64 0) (n:eD f y= .int .i64 (c:Int)) (A:r4*c<=281474976710656) (a:c<=maxLen)
 (h:∀b w',eV w w'->U w0 (V (.slice (some ⟨b,0,none⟩) 0 c) eb ([]:List α)::S) w'->R (.slice (some ⟨b,0,none⟩) 0 c) w'):J P f ⟨d,.makeSlice t x y,T,pos,eO,eQ⟩ w R:=by
 obtain⟨i,ew,o,p,q⟩:∃i,P.info? eb=some i/\i.size=O.eo α/\i.bytes=r4/\i.zero=some lc:=by
  have G:=j.out;have Y:=hb.out;have ej:=l.out;cases ew:P.info? eb with
  |none=>simp[ew]at G
  |some i=>simp[ew]at G Y ej;exact⟨i,rfl,G,Y,ej⟩
 have r:(i.bytes:Int)*(c:Int)<=281474976710656:=by
  rw[p,<-Int.natCast_mul];omega
 have hr:=run_make (P:=P) w t eb i lc g.out ew q .i64 .i64 0 c (by omega) (by omega) r (by simp only[maxLen]at a;omega);simp only[Int.toNat_natCast,m,o]at hr;have s:(madeCells (O.enc z) (c*O.eo α)).size=c*O.eo α:=by
  rw[<-Array.length_toList,HQ,uc,List.length_replicate]
 have e1:l6 (w.alloc (.cells (madeCells (O.enc z) (c*O.eo α)) eb)) (.slice (some ⟨w.heap.size,0,none⟩) 0 c) eb ([]:List α):=.inr ⟨w.heap.size,c,_,rfl,heap_alloc_new w _,Nat.zero_le _,a,Nat.le_of_eq s.symm,by simp[ij]⟩;have u:=E.pB (eV.alloc w _) e1 (by intro k e;simp only[Value.ownBlock,Option.some.injEq]at e;subst e;exact Nat.le_refl _);refine iz (v:=.slice (some ⟨w.heap.size,0,none⟩) 0 c) (w':=w.alloc (.cells (madeCells (O.enc z) (c*O.eo α)) eb)) ?_ (h _ _ (eV.alloc w _) u);simp at hr;simp[execOp,Z,n,hr]
theorem PF[O α]{d:Option Tmp}{v:ec}{xs zs:List α}[l:hl P t eb][A:oB P eb lc](z:α)(B:lc.cells=#[lc])(q:O.enc z=#[lc])(C:lc.oneCell'=true)
 (E:U w0 S w) (o:tP (V v.v eb xs) S) (Z:eD f x=(v.cut 0 xs.length v.c (O.eo α)).v) (D:List.replicate xs.length z=zs)
 (h:∀w',(∀tp,iH (V v.v eb xs) (V v.v eb zs) S tp->U w0 tp w') ->R (.tuple #[]) w'):J P f ⟨d,.call {callee:=.builtin .clear,args:=#[x],argTypes:=#[t]},T,pos,eO,eQ⟩ w R:=by
 subst D;have r:O.eo α=1:=by rw[<-O.ez z,q];rfl
 have F:=E.cQ o;rcases F with⟨tG,rfl⟩|⟨g,cap,ne,tG,s,G,H,I,Y⟩
 .have i:eD f x= .slice none 0 0:=by
   obtain⟨a,n,c⟩:=v;simp only[ec.v,Value.slice.injEq]at tG;obtain⟨rfl,rfl,rfl⟩:=tG;rw[Z];rfl
  refine iz (v:=.tuple #[]) (w':=w) ?_ (h w λtp j=>lv ⟨rfl,rfl,rfl,Nat.le_refl _,λ_ _ _=>rfl⟩ (E.get o) (λk b=>.inl b) E j);simp[execOp,resolve,Go.invoke,builtin,i,Builtin.clear_,run_underlying l.out]
 obtain⟨a,n,c⟩:=v;simp only[ec.v,Value.slice.injEq]at tG;obtain⟨rfl,rfl,rfl⟩:=tG;have i:eD f x= .slice (some ⟨g,0,none⟩) xs.length c:=by
  rw[Z];by_cases K:c=0<;>simp[ec.cut,ec.v,K]
 by_cases L:xs.length=0
 .have M:xs=[]:=List.eq_nil_of_length_eq_zero L;subst M;refine iz (v:=.tuple #[]) (w':=w) ?_ (h w λtp j=>lv ⟨rfl,rfl,rfl,Nat.le_refl _,λ_ _ _=>rfl⟩ (E.get o) (λk b=>.inl b) E j);simp[execOp,resolve,Go.invoke,builtin,i,Builtin.clear_,run_underlying l.out]
 have hmul:xs.length<=ne.size:=by rw[r,Nat.mul_one]at I;omega
 have y:(Builtin.zeroCells lc.cells xs.length).toList=List.replicate xs.length lc:=by
  rw[B];simp[Builtin.zeroCells];apply List.ext_getElem<;>simp[Nat.mod_one]
 have p:=run_storeCells_at P g 0 eb (List.replicate xs.length lc) 0 ne w s (by simpa using hmul) (by intro u N;rw[List.eq_of_mem_replicate N];exact C);simp only[Nat.add_zero,List.take_zero,List.nil_append,List.length_replicate,Nat.zero_add]at p;have Q:∀k:Nat,ij (List.replicate k z)=List.replicate k lc:=by
  intro k;induction k with
  |zero=>rfl
  |succ k W=>rw[List.replicate_succ,yt,W,q,List.replicate_succ];rfl
 refine iz (v:=.tuple #[]) (w':=w.setRow g (List.replicate xs.length lc++ne.toList.drop xs.length).toArray) ?_ (h _ λtp j=>lv ?_ ?_ ?_ E j)
 .obtain⟨m,e5⟩:∃m,xs.length=m+1:=⟨xs.length-1,by omega⟩;have X:(zeroValue eb).run P w= .ok lc w:=vf A w;rw[e5]at i y p⊢;simp[execOp,resolve,Go.invoke,builtin,i,Builtin.clear_,run_underlying l.out,X,y,p]
 .rw[dm];exact⟨rfl,rfl,rfl,by simp[World.setRow],λk _ b=>setRow_other w g k _ (λe=>b (by simp[ec.v,Value.ownBlock,e]))⟩
 .rw[df];refine .inr ⟨g,c,_,by rw[List.length_replicate];rfl,setRow_heap w g ne _ eb _ s,by rw[List.length_replicate];exact G,H,?_,?_⟩
  .simp only[List.size_toArray,List.length_append,List.length_replicate,List.length_drop,Array.length_toList];omega
  rw[List.length_replicate,Q,r,Nat.mul_one];simp
 rw[dm,dm];exactλk b=>.inl b
theorem QB[ep:du P T 2 e][ew:hZ P e k][g:nm P e 1][h:uX P e](w:World)(a b c d:Int):(Op.equal T (.agg #[.int k a,.int k b]) (.agg #[.int k c,.int k d])).run P w= .ok (decide (a=c)&&decide (b=d)) w:=by
 show(Op.equalIn (9998+1+1) T _ _).run P w=_;generalize 9998=q;have f:∀x y:Int,(Op.equalIn (q+1) e (.int k x) (.int k y)).run P w= .ok (x==y) w:=by
  intro x y;rw[Op.equalIn];simp[run_underlying ew.out]
 have xc:∀x y:Int,(part e #[.int k x,.int k y] 0).run P w= .ok (.int k x) w:=λx y=>bh w rfl;have jD:∀x y:Int,(part e #[.int k x,.int k y] 1).run P w= .ok (.int k y) w:=λx y=>bh w rfl;rw[Op.equalIn];simp only[Sem.run_bind,run_underlying ep.out,Result.andThen_ok,m5 g,Std.Legacy.Range.forIn_eq_forIn_range',Std.Legacy.Range.size,Nat.sub_zero,Nat.add_sub_cancel,Nat.div_one,List.range',List.forIn_cons,List.forIn_nil,Nat.mul_one,xc,f,Nat.zero_add,jD];by_cases G:a=c<;>by_cases Y:b=d<;>simp[G,Y,xc,jD,f]
theorem zz{g:Option Tmp}{s t:TypeId}{a b c d:Int}[ep:du P s 2 e][ew:hZ P e k][o:nm P e 1][p:uX P e][i:k0 P s]
 (Z:eD f x= .agg #[.int k a,.int k b]) (j:eD f y= .agg #[.int k c,.int k d]) (h:R (.bool (decide (a=c)&&decide (b=d))) w):J P f ⟨g,.binOp .eql s x y t,T,pos,eO,eQ⟩ w R:=by
 refine iz (v:=.bool (decide (a=c)&&decide (b=d))) (w':=w) ?_ h;have l:(eqGuard .eql s x y (.agg #[.int k a,.int k b]) (.agg #[.int k c,.int k d])).run P w= .ok () w:=by simp[eqGuard,run_program,i.out]
 have m:(binOp .eql s (.agg #[.int k a,.int k b]) (.agg #[.int k c,.int k d])).run P w= .ok (.bool (decide (a=c)&&decide (b=d))) w:=by
  have n:(Op.equalIn 10000 s (.agg #[.int k a,.int k b]) (.agg #[.int k c,.int k d])).run P w= .ok (decide (a=c)&&decide (b=d)) w:=QB w a b c d;rw[run_eql_struct,n];rfl
 simp only[execOp,Z,j,l,m,Sem.run_bind,Sem.run_pure,Result.andThen_ok]
end
section
variable{P:Program}{n i s eb:Nat}{Q:Exit->List Nat->te->World->Prop}{f:te}{w:World}{d:Option Tmp}{T:TypeId}{pos:String}{eO:Array Edge}{R:Value->World->Prop}{eQ:Option (Nat×Bool)}{x:Operand}{L:List Nat}
theorem QK{D:lb}{e9:Nat}{ops:Array Oper}{Q:Exit->te->World->Prop}{I:World->Prop}{r:sF}{d:Nat}{op:Op}{g:Nat}{od:Bool}(t:Nat)(b:I w)(ew:ops[i]? =some ⟨some d,op,T,pos,eO,some (g,od)⟩)(hd:Nat.blt d n=true)
 (c:(ops[g]?).bind (·.dst)=some t) (e:Nat.blt t n=true) (hb:f t=undef) (hlt:Nat.blt i e9=true)
 (hr:e2 P n ops e9 I Q r (o7 f d undef) w):e2 P n ops e9 I Q (.one i r) f w:=by
 have hlt:i<e9:=by simpa using hlt
 refine kM ew λa ep=>?_;have h:Region.wanted ⟨some d,op,T,pos,eO,some (g,od)⟩ (yielded ops a.tmps)=false:=by
  simp only[Region.wanted];have:yielded ops a.tmps g=none:=by
   unfold yielded;simp only[c,Option.bind_some,vc ep (t:=t) (by simpa using e),hb];rfl
  rw[this];cases od<;>simp
 unfold wpOp;simp only[ew,h,Bool.false_eq_true,if_false];exact⟨⟨λ_=>b,.inl hlt⟩,_,ep.put (dst:=some d) (by intro x Z;cases Z;simpa using hd) undef,hr⟩
class Lk(P:Program)(T:TypeId):Prop where out:P.underlying T=some (.float .f64)
structure lX where
 n:Nat
instance:O lX where
 enc s:=#[.float .f64 s.n]
 eo:=1
 pos:=by omega
 ez _:=rfl
 one s u a:=by simp at a;subst a;rfl
@[irreducible] def T9 (a b:Nat):Bool:=FloatKind.f64.format.order a b==some .lt
@[irreducible] def Nn (a b:Nat):Bool:=FloatKind.f64.format.order a b==some .gt
@[irreducible] def zE (a b:Nat):Bool:=FloatKind.f64.format.order a b !=some .eq
@[irreducible] def Ns (n:Int):Nat:=FloatKind.f64.nearest n
section
variable{P:Program}{f:te}{w:World}{R:Value->World->Prop}{d:Option Tmp}{T:TypeId}{pos:String}{eO:Array Edge}{eQ:Option (Nat×Bool)}{s t:TypeId}{x y:Operand}{a b:Nat}
theorem QX(Z:eD f x= .float .f64 a)(c:eD f y= .float .f64 b)(h:R (.bool (Nn a b)) w):J P f ⟨d,.binOp .gtr s x y t,T,pos,eO,eQ⟩ w R:=by
 refine iz (v:=.bool (Nn a b)) (w':=w) ?_ h;have e:eqGuard .gtr s x y (.float .f64 a) (.float .f64 b)=pure ():=rfl;have g:binOp .gtr s (.float .f64 a) (.float .f64 b)=pure (.bool (Nn a b)):=by unfold Nn;rfl
 simp only[execOp,Z,c,e,g,Sem.run_bind,Sem.run_pure,Result.andThen_ok]
theorem QJ(Z:eD f x= .float .f64 a)(c:eD f y= .float .f64 b)(h:R (.bool (T9 a b)) w):J P f ⟨d,.binOp .lss s x y t,T,pos,eO,eQ⟩ w R:=by
 refine iz (v:=.bool (T9 a b)) (w':=w) ?_ h;have e:eqGuard .lss s x y (.float .f64 a) (.float .f64 b)=pure ():=rfl;have g:binOp .lss s (.float .f64 a) (.float .f64 b)=pure (.bool (T9 a b)):=by unfold T9;rfl
 simp only[execOp,Z,c,e,g,Sem.run_bind,Sem.run_pure,Result.andThen_ok]
theorem QQ(Z:eD f x= .float .f64 a)(c:eD f y= .float .f64 b)(h:R (.bool (zE a b)) w):J P f ⟨d,.binOp .neq s x y t,T,pos,eO,eQ⟩ w R:=by
 refine iz (v:=.bool (zE a b)) (w':=w) ?_ h;have e:eqGuard .neq s x y (.float .f64 a) (.float .f64 b)=pure ():=rfl;have g:binOp .neq s (.float .f64 a) (.float .f64 b)=pure (.bool (zE a b)):=by unfold zE;rfl
 simp only[execOp,Z,c,e,g,Sem.run_bind,Sem.run_pure,Result.andThen_ok]
theorem QZ(Z:eD f x= .float .f64 a)(c:eD f y= .float .f64 b)(h:∀q w',eV w w'->R (.float .f64 q) w'):J P f ⟨d,.binOp .quo s x y t,T,pos,eO,eQ⟩ w R:=by
 have e:eqGuard .quo s x y (.float .f64 a) (.float .f64 b)=pure ():=rfl;have g:binOp .quo s (.float .f64 a) (.float .f64 b)=Op.floatArith .quo .f64 a b:=rfl;cases hr:FloatKind.f64.format.div a b with
 |some r=>
  refine iz (v:=.float .f64 r) (w':=w) ?_ (h _ _ (eV.refl w));simp only[execOp,Z,c,e,g,Op.floatArith,hr,Sem.run_bind,Sem.run_pure,Result.andThen_ok]
 |none=>
  obtain⟨q,i⟩:∃q,(choose (.nanBits .f64 a b)).run P w= .ok q {w with drawn:=w.drawn+1}:=⟨_,rfl⟩;refine iz (v:=.float .f64 q) (w':={w with drawn:=w.drawn+1}) ?_ (h _ _ (eV.drawn w _));simp only[execOp,Z,c,e,g,Op.floatArith,hr,i,Sem.run_bind,Sem.run_pure,Result.andThen_ok]
theorem Q0{k:IntKind}{m:Int}[a:hZ P s k][b:Lk P t](Z:eD f x= .int k m)(h:R (.float .f64 (Ns m)) w):J P f ⟨d,.convert s t x,T,pos,eO,eQ⟩ w R:=by
 refine iz (v:=.float .f64 (Ns m)) (w':=w) ?_ h;unfold Ns;simp[execOp,convert,run_underlying a.out,run_underlying b.out,Z,Conv.intToFloat]
end
theorem zT{s:TypeId}{parts:Array (Nat×Operand)}{zs:List (Array Value)}{c:List Value}[k:nY P s zs](ps:List (Nat×Value))(b:(parts.toList.map λ(i,x)=>(i,eD f x))=ps)(e:pr zs ps)
 (g:(uQ zs ps).flatMap Array.toList=c) (h:R (.agg c.toArray) w):J P f ⟨d,.build s parts,T,pos,eO,eQ⟩ w R:=by
 subst b;refine jN e ?_ h;subst g;generalize uQ zs _=l;apply Array.ext';induction l with
 |nil=>rfl
 |cons a l j=>rw[cq,Array.toList_append,j];simp
theorem ewC{off:Nat}[e:je P s i off]{ob:Value}{di a:Nat}(Z:eD f x=rs ob di)(c:m6 ob)(e1:di+off=a)(h:R (rs ob a) w):J P f ⟨d,.fieldAddr s x i,T,pos,eO,eQ⟩ w R:=by
 obtain⟨b,o,rfl⟩:=c;subst e1;refine o9 (b:=b) (o:=o+di) Z ?_;rw[Nat.add_assoc];exact h
theorem Q1(b:fE P s eb)(a:Addr)(w:World):(Op.equal s (.pointer none) (.pointer (some a))).run P w= .ok false w:=by
 unfold Op.equal;show(Op.equalIn (9999+1) s (.pointer none) (.pointer (some a))).run P w= .ok false w;generalize 9999=k;simp[Op.equalIn,run_underlying b.out]
theorem Q2{t:Nat}{y:Operand}{a:Addr}[b:fE P s eb](Z:eD f x= .pointer none)(c:eD f y= .pointer (some a))(h:R (.bool false) w):J P f ⟨d,.binOp .eql s x y t,T,pos,eO,eQ⟩ w R:=by
 refine iz (v:=.bool false) (w':=w) ?_ h;have e:eqGuard .eql s x y (.pointer none) (.pointer (some a))=pure ():=rfl;have g:binOp .eql s (.pointer none) (.pointer (some a))=(do pure (.bool (<-Op.equal s (.pointer none) (.pointer (some a))))):=rfl;simp only[execOp,Z,c,e,g,Sem.run_bind,Sem.run_pure,Result.andThen_ok,Q1 b]
theorem U.Nr{tn tx:Type}[DecidableEq tn][oi tn]{w0:World}{S tp:List eH}{oM r:Nat}{e7:tx->Value}{eI:List (tn×tx)}{is:List Nat}(h:U w0 S w)(a:iH (ld oM r e7 eI is) (tM r e7 eI) S tp):U w0 tp w:=
 lv (w:=w) (w':=w) (e:=ld oM r e7 eI is) (o1:=tM r e7 eI) ⟨rfl,rfl,rfl,Nat.le_refl _,λ_ _ _=>rfl⟩ (by rw[mA];exact(h.wx a.kS).map) (by rw[cA,TF];exactλk b=>.inl (.inl b)) h a
def Nh(Q:Exit->List Nat->te->World->Prop):Exit->List Nat->te->World->Prop
 | .panic _,_,_,_=>False
 | .outgrown,_,_,_=>False
 |e,L,f,w=>Q e L f w
theorem zA(h:Q .normal L f w):Nh Q .normal L f w:=h
theorem Lx(h:Q .ret L f w):Nh Q .ret L f w:=h
theorem xu{c:Code}(h:∀D:lb,D=⟨u7 L⟩ -> @ek D P n c (λe ae w'=>Nh Q e L ae w') f w):oq P n c Q L f w:=
 oq.mono (oq.of (Q:=Nh Q) h) λe L f w q=>by cases e<;>first|exact q|exact(q:False).elim
section
variable{l:Nat}{P:Program}{n:Nat}{Q:Exit->te->World->Prop}{f:te}{w:World}
theorem ny.xm{si nu:Code}(h:∀K:te->World->Prop,(∀f w,ny l P n nu Q f w->K f w) ->ny l P n si (uY K Q) f w):ny l P n (.seq si nu) Q f w:=by
 have h:=h (λf w=>ny l P n nu Q f w) (λ_ _ h=>h);refine ny.seq ?_;unfold ny at h⊢;intro a ep;refine wpIn_mono (h a ep) ?_;rintro e tc w' ⟨ae,hr,b⟩;refine⟨ae,hr,?_⟩;cases e<;>exact b
theorem ny.blockQ{id:Nat}{c:Code}(h:ny l P n c (blockQ id Q) f w):ny l P n (.block id c) Q f w:=by
 refine ny.block ?_;unfold ny at h⊢;intro a ep;refine wpIn_mono (h a ep) ?_;rintro e tc w' ⟨ae,hr,b⟩;refine⟨ae,hr,?_⟩;cases e with
 |exit i=>
  by_cases ew:i=id
  .subst ew;have:Nat.beq i i=true:=by simp
   simp only[Fer.blockQ,this,cond_true]at b;simp[b]
  have:Nat.beq i id=false:=by rw[<-Bool.not_eq_true,Nat.beq_eq];exact ew
  simp only[Fer.blockQ,this,cond_false]at b;simp[ew,b]
 |_=>exact b
theorem Q3{c:Operand}{x y:Code}(a:eD f c= .bool true)(h:ny l P n x Q f w):ny l P n (.cond c x y) Q f w:=ny.cond true a (λ_=>h) (λe=>by cases e)
theorem Q4{c:Operand}{x y:Code}(a:eD f c= .bool false)(h:ny l P n y Q f w):ny l P n (.cond c x y) Q f w:=ny.cond false a (λe=>by cases e) (λ_=>h)
def Q5(A:World->Prop):Exit->te->World->Prop
 | .normal,_,w=>A w
 |_,_,_=>False
theorem ny.first{id t:Nat}{x:Operand}{T:TypeId}{pos:String}{eO:Array Edge}{A:te->World->Prop}{v:Value}(Z:eD f x=v)(a:Nat.blt t n=true)(h:A (o7 f t v) w):
 ny l P n (.region id #[⟨some t,.assign x,T,pos,eO,none⟩] false) (λe ae w'=>e= .normal/\A ae w') f w:=by
 refine ny.region ?_;show oH (some _) 0 _ _ _ [] _ [0] _ _;refine oH.op rfl a (by simp) (J.opI ?_);refine iz (v:=v) (w':=w) (by simp[execOp,Z]) ?_;exact oH.nil ⟨rfl,h⟩
end
section
variable{P:Program}{n:Nat}{Q:Exit->List Nat->te->World->Prop}{L:List Nat}{f:te}{w:World}
theorem Lj{oh σ:Type}{g:Operand}{p q rE z:Nat}{T:TypeId}{pos:String}{eO:Array Edge}{cb:Code}{ra:Nat}[O:lS P ra]{oN:List Value}{ea:World}{r9:List eH}
 (wE:oh->Prop) (eb:oh->List eH) (u:oh->Value) (k:oh->σ->Prop) (eN:σ->List eH) (Fin:σ->Prop)
 (B:eD f g= .func (.func ra) #[] oN.toArray) (C:Nat.blt p n=true) (j:Nat.blt q n=true) (E:U ea (hM L::r9) w)
 (F:∀(l:Nat)(S:List eH)(W:World),U ea (r9++S) W->
  (∀t W1,wE t->U ea (eb t++S) W1->YieldAt Fence.wide 0 P l #[u t] W1 λe c=>e= .returned (.bool true)/\∃s,k t s/\U ea (eN s++S) c) ->
  nr P ra (.func (.yield l) #[] #[]::oN).toArray W λ_ c=>∃s,Fin s/\U ea (eN s++S) c)
 (G:∀(l:Nat)(S:List eH)(t:oh)(W:World),wE t->U ea (eb t++S) W->ny l P n cb (Q5 λH=>∃s,k t s/\U ea (eN s++S) H) (o7 (o7 f p (u t)) q (u t)) W)
 (I:∀(d:Nat)(W:World)(s:σ),Fin s->U ea (hM (d::L)::eN s) W->Q .normal (d::L) f W):
 oq P n (.block rE (.rangeFunc g #[p] (.region z #[⟨some q,.assign (.tmp p),T,pos,eO,none⟩] false) cb)) Q L f w:=by
 have b:∀(A X:List eH),(X++(hM L::A)).Perm (A++(X++[hM L])):=by
  intro A X;rw[<-List.append_assoc];refine(List.perm_middle (l₁:=X)).trans ?_;refine(List.perm_append_comm (l₁:=hM L::X) (l₂:=A)).trans ?_;rw[List.append_assoc];exact List.Perm.append_left A (List.perm_append_comm (l₁:=[hM L]) (l₂:=X))
 unfold oq;intro a ep;have h:=PL (n:=n) (D:=u7 L) (Q:=λe tc w'=>∃ae L',sK n (u7 L') tc ae/\Q e L' ae w') (f:=f) (w:=w) (g:=g) (p:=p) (rE:=rE) (ra:=ra) (oN:=oN) (ea:=ea) (r9:=hM L::r9)
  (cI:=.region z #[⟨some q,.assign (.tmp p),T,pos,eO,none⟩] false) (cb:=cb) (ρ:=Unit)
  wE (λt=>hM L::eb t) u k (λs=>hM L::eN s) (λ_ _=>False) (λ_=>[]) Fin (λ_=>False) B C E
  (λl X R W o4 m=>by
   refine(F l (X++[hM L]) W (o4.hK (b _ _)) λt W1 J K=>?_).mono λ_ c⟨s,o,i⟩=>.inl ⟨s,o,i.hK (b _ _).symm⟩;refine(m t W1 J (K.hK (b _ _).symm)).mono ?_;rintro e c (⟨rfl,s,y,i⟩|⟨_,r,hr,_⟩)
   .exact⟨rfl,s,y,i.hK (b _ _)⟩
   exact hr.elim)
  (λl X t W m o4=>by
   refine ny.first (x:=.tmp p) (v:=u t) ?_ j ?_
   .simp[eD,o7]
   refine⟨_,o4,λM W2 N=>?_⟩;have hb:=G l (M++[hM L]) t W2 m (N.hK (b _ _));unfold ny at hb⊢;intro a ep;refine wpIn_mono (hb a ep) ?_;rintro e tc w' ⟨ae,hr,j⟩;refine⟨ae,hr,?_⟩;cases e with
   |normal=>
    obtain⟨s,y,i⟩:=j;exact .inl ⟨rfl,s,y,i.hK (b _ _).symm⟩
   |_=>exact(j:False).elim)
  (λd W s o o4 a ep=>⟨f,d::L,ep,I d W s o o4.Lv⟩)
  (λ_ _ _ h=>h.elim)
 exact wpIn_wide.1 (h.run ep)
end
end
section
theorem Q8{α:Type}[O α](z0:α)(n:Nat):(Builtin.zeroCells (O.enc z0) n).toList=ij (List.replicate n z0):=by
 rw[<-HQ z0 n];unfold Builtin.zeroCells madeCells;rw[O.ez]
theorem Q9{α:Type}[O α]{P:Program}{f:te}{w w0:World}{S:List eH}{R:Value->World->Prop}{d:Option Tmp}{T:TypeId}{pos:String}{eO:Array Edge}{eQ:Option (Nat×Bool)}{x y:Operand}{t b eb r4 n:Nat}{m:Int}(z0:α){z:Value}[j:hl P t eb][ew:hZ P b .i64][l:nm P eb (O.eo α)][hb:y8 P eb r4][o:oB P eb z](c:z.cells=O.enc z0)
 (E:U w0 S w) (Z:eD f x= .slice none 0 0) (p:eD f y= .int .i64 m) (e5:m=(n:Int)) (q:0<n) (C:n*r4<=140737488355328) (e:n<=maxLen)
 (h:∀(s:ec) w',eV w w'->U w0 (V s.v eb (List.replicate n z0)::S) w'->R s.v w'):
 J P f ⟨d,.call {callee:=.builtin .append,args:=#[x,y],argTypes:=#[t,b]},T,pos,eO,eQ⟩ w R:=by
 subst e5;obtain⟨i,r,D,u,A⟩:∃i,P.info? eb=some i/\i.size=O.eo α/\i.bytes=r4/\i.zero=some z:=by
  have G:=l.out;have Y:=hb.out;have ej:=o.out;cases ew:P.info? eb with
  |none=>simp[ew]at G
  |some i=>simp[ew]at G Y ej;exact⟨i,rfl,G,Y,ej⟩
 have F:=O.pos (α:=α);have hr:=Go.Lib.run_append_nil_zeros (P:=P) w t b T eb i z .i64 .i64 j.out ew.out r A n q (by omega) (by simp only[maxLen]at e;omega) (by rw[u];omega);have uJ:=grownCap_ge w n 0 eb;have B:=grownCap_le_maxLen w n 0 eb e;have g:eV w (w.drew.alloc (.cells (Builtin.zeroCells z.cells n++Builtin.zeroCells z.cells (grownCap w n 0 eb-n)) eb)):=⟨rfl,rfl,rfl,by simp,λk a=>heap_alloc_old w.drew _ a⟩;refine iz (v:=.slice (some ⟨w.heap.size,0,none⟩) n (grownCap w n 0 eb)) (w':=_) ?_ (h ⟨some ⟨w.heap.size,0,none⟩,n,grownCap w n 0 eb⟩ _ g (E.pB g (.inr ⟨w.heap.size,_,_,by simp[ec.v],heap_alloc_new w.drew _,by simpa using uJ,B,?_,?_⟩) ?_))
 .simp[Go.execOp,Go.resolve,Go.invoke,Go.builtin,Z,p,hr]
 .simp only[Array.size_append,size_zeroCells,c,O.ez,<-Nat.add_mul];exact Nat.mul_le_mul_right _ (by omega)
 .rw[Array.toList_append,c,Q8,List.length_replicate];have eB:(ij (List.replicate n z0)).length=n*O.eo α:=by rw[uc,List.length_replicate]
  rw[<-eB];exact List.take_left
 intro k a;simp[ec.v,Value.ownBlock]at a;subst a;exact Nat.le_refl _
theorem Nl{α:Type}[O α]{P:Program}{f:te}{w:World}{R:Value->World->Prop}{d:Option Tmp}{T:TypeId}{pos:String}{eO:Array Edge}{eQ:Option (Nat×Bool)}{x:Operand}{v:Value}{t eb:Nat}{n:Int}{xs:List α}[b:hl P t eb](Z:eD f x=v)(tG:ex w v xs)(a:((s2 v:Nat):Int)=n)(h:R (.int .i64 n) w):
 J P f ⟨d,.call {callee:=.builtin .cap,args:=#[x],argTypes:=#[t]},T,pos,eO,eQ⟩ w R:=by
 subst a;exact J.cap Z tG h
theorem Ze{α:Type}[O α]{P:Program}{f:te}{w:World}{R:Value->World->Prop}{d:Option Tmp}{T:TypeId}{pos:String}{eO:Array Edge}{eQ:Option (Nat×Bool)}{s t eb:Nat}{x y:Operand}{v:Value}{xs:List α}[j:hl P s eb](Z:eD f x=v)(b:eD f y= .slice none 0 0)(tG:ex w v xs)(e:0<xs.length)(h:R (.bool false) w):J P f ⟨d,.binOp .eql s x y t,T,pos,eO,eQ⟩ w R:=by
 obtain⟨g,c,i,_⟩:=tG.jt e;exact fO (a:=some g) (Z.trans i) b h
end
end Go.Fer
