import Derived.Test.YtncdhadaifhleaaGreatDoorF1
import Derived.MapKept
import Derived.Stop.BytesEq
import Derived.Maps.RangeRun
import Derived.Laws.Externs
import Derived.Laws.MakeOwn
import Derived.Laws.CopyRow
import Derived.SizedLaws
import Derived.RangeFuncRecord
import Derived.RangeFuncLeaves
import Derived.RangeFuncOwn
import Derived.RangeFuncSeq
import Derived.Scope
import Derived.RangeFuncBound
import Derived.OrdersIn
import Derived.Laws.MathBits
import Derived.Recover
set_option linter.all false
set_option synthInstance.maxSize 100000
set_option synthInstance.maxHeartbeats 400000
set_option maxHeartbeats 8000000
set_option maxRecDepth 100000
namespace Go.Fer
open Go Go.RowKit
section
variable{n T e sr eo o d K:Nat}{P:Program}{w:World}{xs ys:Array Value}{f:Field}{nx:List Field}{r:Bool}
class k0(P:Program)(T:TypeId):Prop where out:P.eqGuardType P.depth T=false:=by kernel_rfl
class k1(P:Program)(T:TypeId)(α:Type)[O α][DecidableEq α](m:outParam Nat):Prop where
 run:∀(w:World)(d:Nat),m<=d->∀(x y:α),(Op.equalIn d T (.agg (O.enc x)) (.agg (O.enc y))).run P w= .ok (decide (x=y)) w
 le:m<=1000
theorem F3(v:Vector UInt8 (n+1)):O.enc v=(v.toList.map Extern.Stop.cell).toArray:=by
 apply Array.ext';simp[ju,Vector.toList,Extern.Stop.cell]
class H7(a b:Nat):Prop where out:a=b
instance{a:Nat}:H7 a a:=⟨rfl⟩
theorem F4(ep:de P T (n+1) e)(ey:lc P e .u8)(a:nh P e 1):k1 P T (Vector UInt8 (n+1)) 2 where
 le:=by omega
 run w d hd x y:=by
  obtain⟨d,rfl⟩:∃d',d=d'+2:=⟨d-2,by omega⟩;rw[F3,F3];rw[run_equalIn_bytes w d T e (n+1) ep.out ey.out (λw=>m3 a w) x.toList y.toList (by simp) (by simp)];congr 1;rw[Bool.eq_iff_iff];simp[<-Vector.toList_inj]
instance[ep:de P T sr e][a:H7 sr (n+1)][ey:lc P e .u8][b:nh P e 1]:k1 P T (Vector UInt8 (n+1)) 2:=F4 (a.out▸ep) ey b
theorem I9[ep:mE P T][a:nh P T eo](w:World)(cs:Array Value)(o:Nat):(part T cs o).run P w= .ok (.agg (cs.extract o (o+eo))) w:=by
 simp[part,TD ep.out,m3 a]
theorem bc[ep:u2 P T](w:World){cs:Array Value}{v:Value}(h:cs[o]? =some v):(part T cs o).run P w= .ok v w:=by
 simp[part,TD ep.out,h]
theorem F5{α:Type}[O α][DecidableEq α]{m:Nat}[c:k1 P T α m][mE P T][nh P T eo]{a b:α}
 (hd:m<=d) (e:f.type=T) (e1:f.offset=o) (g:f.name≠ "_") (h:xs.extract o (o+eo)=O.enc a) (i:ys.extract o (o+eo)=O.enc b)
 (j:(Op.eqFields d xs ys nx).run P w= .ok r w):(Op.eqFields d xs ys (f::nx)).run P w= .ok (decide (a=b)&&r) w:=by
 subst e;subst e1;simp only[Op.eqFields,g,ne_eq,not_false_eq_true,if_true,Sem.run_bind,I9 (eo:=eo) w xs,I9 (eo:=eo) w ys,Result.andThen_ok,h,i,c.run w d hd];cases decide (a=b)<;>simp[j]
theorem ewf[c:TL P T][u2 P T]{a b:Bool}
 (hd:1<=d) (g:f.type=T) (e1:f.offset=o) (h:f.name≠ "_") (i:xs[o]? =some (.bool a)) (j:ys[o]? =some (.bool b))
 (k:(Op.eqFields d xs ys nx).run P w= .ok r w):(Op.eqFields d xs ys (f::nx)).run P w= .ok (decide (a=b)&&r) w:=by
 subst g;subst e1;obtain⟨d,rfl⟩:∃d',d=d'+1:=⟨d-1,by omega⟩;have e:=run_equalIn_bool' (P:=P) w d f.type a b c.out;simp only[Op.eqFields,h,ne_eq,not_false_eq_true,if_true,Sem.run_bind,bc w i,bc w j,Result.andThen_ok,e];cases a<;>cases b<;>simp[k]
theorem H8{k:IntKind}[c:lc P T k][u2 P T]{a b:Int}
 (hd:1<=d) (g:f.type=T) (e1:f.offset=o) (i:f.name≠ "_") (j:xs[o]? =some (.int k a)) (l:ys[o]? =some (.int k b))
 (m:(Op.eqFields d xs ys nx).run P w= .ok r w):(Op.eqFields d xs ys (f::nx)).run P w= .ok (decide (a=b)&&r) w:=by
 subst g;subst e1;obtain⟨d,rfl⟩:∃d',d=d'+1:=⟨d-1,by omega⟩;have e:=run_equalIn_int (P:=P) w d f.type k k a b c.out;simp only[Op.eqFields,i,ne_eq,not_false_eq_true,if_true,Sem.run_bind,bc w j,bc w l,Result.andThen_ok,e];by_cases h:a=b<;>simp[h,m]
theorem F6:(Op.eqFields d xs ys []).run P w= .ok true w:=rfl
theorem F7{t:Nat}{nx:Array Field}(a:P.underlying t=some (.struct nx))(c:P.stoodInHeld t=false)(h:(Op.eqFields d xs ys nx.toList).run P w= .ok r w):
 (Op.equalIn (d+1) t (.agg xs) (.agg ys)).run P w= .ok r w:=by
 have b:P.fieldsOf t=nx:=by simp[Program.fieldsOf,a]
 rw[run_equalIn_struct w d t xs ys (by rw[b];exact a) c,b];exact h
section
variable{P:Program}{f:tr}{w:World}{R:Value->World->Prop}{d:Option Tmp}{T:TypeId}{pos:String}{eO:Array Edge}{eV:Option (Nat×Bool)}
theorem vT{α:Type}[O α][DecidableEq α]{s t m:Nat}[c:k1 P s α m][e:k0 P s]{x y:Operand}{a b:α}(g:eC f x= .agg (O.enc a))(i:eC f y= .agg (O.enc b))(h:R (.bool (decide (a=b))) w):Z P f ⟨d,.binOp .eql s x y t,T,pos,eO,eV⟩ w R:=by
 refine iv (v:=.bool (decide (a=b))) (w':=w) ?_ h;have j:(eqGuard .eql s x y (.agg (O.enc a)) (.agg (O.enc b))).run P w= .ok () w:=by simp[eqGuard,run_program,e.out]
 have k:(binOp .eql s (.agg (O.enc a)) (.agg (O.enc b))).run P w= .ok (.bool (decide (a=b))) w:=by
  rw[run_eql_struct,c.run w 10000 (Nat.le_trans c.le (by decide))];rfl
 simp only[execOp,g,i,Sem.run_bind,j,k,Sem.run_pure,Result.andThen_ok]
theorem T6{α:Type}[O α][DecidableEq α]{s t m:Nat}[c:k1 P s α m][e:k0 P s]{x y:Operand}{a b:α}(g:eC f x= .agg (O.enc a))(i:eC f y= .agg (O.enc b))(h:R (.bool (!decide (a=b))) w):Z P f ⟨d,.binOp .neq s x y t,T,pos,eO,eV⟩ w R:=by
 refine iv (v:=.bool (!decide (a=b))) (w':=w) ?_ h;have j:(eqGuard .neq s x y (.agg (O.enc a)) (.agg (O.enc b))).run P w= .ok () w:=by simp[eqGuard,run_program,e.out]
 have k:(binOp .neq s (.agg (O.enc a)) (.agg (O.enc b))).run P w= .ok (.bool (!decide (a=b))) w:=by
  rw[run_neq_struct,c.run w 10000 (Nat.le_trans c.le (by decide))];rfl
 simp only[execOp,g,i,Sem.run_bind,j,k,Sem.run_pure,Result.andThen_ok]
end
class oi(tl:Type)where
 ih:tl->Value
 same:∀k,Instr.sameBits 10000 (ih k) (ih k)=true
section
variable{tl tx:Type}[DecidableEq tl]
def dL(ti:tx->Value)(k:tl):List (tl×tx) ->Nat->Option (Nat×Value)
 |[],_=>none
 |(x,v)::r,i=>if k=x then some (i,ti v)else dL ti k r (i+1)
def tR(k:tl):List (tl×tx) ->Option tx
 |[]=>none
 |(x,v)::r=>if k=x then some v else tR k r
def oH(k:tl)(v:tx):List (tl×tx) ->List (tl×tx)
 |[]=>[(k,v)]
 |(x,u)::r=>if k=x then(k,v)::r else(x,u)::oH k v r
def rc(k:tl):List (tl×tx) ->List (tl×tx)
 |[]=>[]
 |(x,u)::r=>if k=x then r else(x,u)::rc k r
theorem mI(k uI:tl)(v:tx):∀l:List (tl×tx),tR uI (oH k v l)=if uI=k then some v else tR uI l
 |[]=>by simp only[oH,tR]
 |(x,u)::r=>by
  have a:=mI k uI v r;simp only[oH];by_cases h:k=x
  .subst h;by_cases Y:uI=k<;>simp[tR,Y]
  by_cases Y:uI=x
  .subst Y;simp[tR,h,Ne.symm h]
  simp[tR,h,Y,a]
theorem Nt(k:tl)(u v:tx):∀l:List (tl×tx),oH k v (oH k u l)=oH k v l
 |[]=>by simp[oH]
 |(x,y)::r=>by
  by_cases h:k=x
  .subst h;simp[oH]
  simp[oH,h,Nt k u v r]
theorem H9{k x:tl}{v:tx}:∀{l:List (tl×tx)},x∈(oH k v l).map Prod.fst↔x=k∨x∈l.map Prod.fst
 |[]=>by simp[oH]
 |(y,u)::r=>by
  by_cases h:k=y
  .subst h;simp[oH]
  simp only[oH,h,if_false,List.map_cons,List.mem_cons];rw[H9 (l:=r)];constructor
  .rintro(h|h|h)
   .exact .inr (.inl h)
   .exact .inl h
   exact .inr (.inr h)
  rintro(h|h|h)
  .exact .inr (.inl h)
  .exact .inl h
  exact .inr (.inr h)
theorem F8(k:tl)(v:tx):∀{l:List (tl×tx)},(l.map Prod.fst).Nodup->((oH k v l).map Prod.fst).Nodup
 |[],_=>by simp[oH]
 |(y,u)::r,h=>by
  simp only[List.map_cons,List.nodup_cons]at h;by_cases a:k=y
  .subst a;simpa[oH]using h
  simp only[oH,a,if_false,List.map_cons,List.nodup_cons];refine⟨λth=>?_,F8 k v h.2⟩;rcases H9.1 th with G|G
  .exact a G.symm
  exact h.1 G
theorem Le(k:tl):∀l:List (tl×tx),(rc k l).Sublist l
 |[]=>.slnil
 |(y,u)::r=>by
  by_cases a:k=y
  .simp only[rc,a,if_true];exact .cons _ (List.Sublist.refl _)
  simp only[rc,a,if_false];exact .cons₂ _ (Le k r)
theorem za{k:tl}:∀{l:List (tl×tx)},tR k l=none↔k∉l.map Prod.fst
 |[]=>by simp[tR]
 |(y,u)::r=>by
  by_cases a:k=y
  .subst a;simp[tR]
  simp[tR,a,za (l:=r)]
theorem F9(k uI:tl):∀{l:List (tl×tx)},(l.map Prod.fst).Nodup->tR uI (rc k l)=if uI=k then none else tR uI l
 |[],_=>by simp[rc,tR]
 |(x,u)::r,h=>by
  simp only[List.map_cons,List.nodup_cons]at h;have b:=F9 k uI h.2;by_cases a:k=x
  .subst a;by_cases Y:uI=k
   .subst Y;simp[rc,za.2 h.1]
   simp[rc,tR,Y]
  by_cases Y:uI=x
  .subst Y;simp[rc,tR,a,Ne.symm a]
  simp[rc,tR,a,Y,b]
theorem jm{ti:tx->Value}{k:tl}:∀{l:List (tl×tx)}{i:Nat},dL ti k l i=none↔tR k l=none
 |[],_=>by simp[dL,tR]
 |(x,v)::r,i=>by by_cases h:k=x<;>simp[dL,tR,h,jm (l:=r)]
theorem k2{ti:tx->Value}{k:tl}:∀{l:List (tl×tx)}{i j:Nat}{u:Value},dL ti k l i=some (j,u) ->∃m v,j=i+m/\u=ti v/\l[m]? =some (k,v)/\tR k l=some v/\∀a,oH k a l=l.set m (k,a)/\rc k l=l.eraseIdx m
 |[],_,_,_,h=>by simp[dL]at h
 |(x,v)::r,i,j,u,h=>by
  by_cases b:k=x
  .subst b;simp[dL]at h;exact⟨0,v,by omega,h.2.symm,by simp,by simp[tR],λa=>by simp[oH,rc]⟩
  simp[dL,b]at h;obtain⟨m,cD,G,Y,ez,e6,ac⟩:=k2 h;exact⟨m+1,cD,by omega,Y,by simpa using ez,by simp[tR,b,e6],λa=>by simp[oH,rc,b,(ac a).1,(ac a).2]⟩
theorem T7{k:tl}{v:tx}:∀{l:List (tl×tx)},tR k l=none->oH k v l=l++[(k,v)]
 |[],_=>rfl
 |(x,u)::r,h=>by
  by_cases a:k=x
  .simp[tR,a]at h
  simp[tR,a]at h;simp[oH,a,T7 h]
theorem Na{k:tl}:∀{l:List (tl×tx)},tR k l=none->rc k l=l
 |[],_=>rfl
 |(x,u)::r,h=>by
  by_cases a:k=x
  .simp[tR,a]at h
  simp[tR,a]at h;simp[rc,a,Na h]
end
class u6(P:Program)(K:TypeId)(tl:Type)[DecidableEq tl][oi tl]:Prop where
 wq:∀(u7:Bool)(w:World)(k:tl),(Instr.checkKey u7 10000 K (oi.ih k)).run P w= .ok () w
 vA:∀{tx:Type}(ti:tx->Value)(w:World)(k:tl)(l:List MapEntry)(eS:List (tl×tx)),l.map (λe=>(e.key,e.val))=eS.map (λp=>(oi.ih p.1,ti p.2)) ->(Instr.findKey K (oi.ih k) l).run P w= .ok (dL ti k eS 0) w
theorem Jj(l:List UInt8)(n:Nat):((l.map (λc=>Value.int .u8 c.toNat)).zip (l.map (λc=>Value.int .u8 c.toNat))).all (λ(x,y)=>Instr.sameBits n x y)=true:=by
 induction l with
 |nil=>rfl
 |cons c l a=>simp[Instr.sameBits,a]
instance:oi (Vector UInt8 (n+1))where
 ih v:=.agg (O.enc v)
 same v:=by
  have h:=Jj v.toList 9999;rw[Instr.sameBits];simp only[beq_self_eq_true,Bool.true_and,I6,I5];exact h
theorem Lt{P:Program}{K:TypeId}{tl tx:Type}[DecidableEq tl][oi tl](ti:tx->Value)(w:World)(k:tl)(a:∀x:tl,(Op.equal K (oi.ih k) (oi.ih x)).run P w= .ok (decide (k=x)) w):
 ∀(l:List MapEntry)(eS:List (tl×tx))(i:Nat),l.map (λe=>(e.key,e.val))=eS.map (λp=>(oi.ih p.1,ti p.2)) ->(Instr.findAsking K (oi.ih k) l i).run P w= .ok (dL ti k eS i) w
 |[],[],i,_=>rfl
 |e::l,(x,v)::eS,i,h=>by
  simp only[List.map_cons,List.cons.injEq,Prod.mk.injEq]at h;obtain⟨⟨G,Y⟩,ez⟩:=h;have c:=Lt ti w k a l eS (i+1) ez;simp only[Instr.findAsking,G,Sem.run_bind,a,Result.andThen_ok,dL,Y];by_cases b:k=x
  .simp[b]
  simp[b,c]
 |[],_::_,_,h=>by simp at h
 |_::_,[],_,h=>by simp at h
theorem Jq[ep:de P K (n+1) e][ey:lc P e .u8][a:nh P e 1][m:u2 P e](u7:Bool)(w:World)(k:Vector UInt8 (n+1)):(Instr.checkKey u7 10000 K (.agg (O.enc k))).run P w= .ok () w:=by
 show(Instr.checkKey u7 (9998+1+1) K (.agg (O.enc k))).run P w= .ok () w;generalize 9998=d;rw[Instr.checkKey];simp only[Sem.run_bind,run_underlying ep.out,Result.andThen_ok,Std.Legacy.Range.forIn_eq_forIn_range',Std.Legacy.Range.size,Nat.sub_zero,Nat.add_sub_cancel,Nat.div_one];have eM:∀i∈List.range' 0 (n+1) 1,i<n+1:=λi ey=>by simpa using(List.mem_range'_1.1 ey).2
 generalize List.range' 0 (n+1) 1=l at eM⊢;induction l with
 |nil=>simp
 |cons i l b=>
  have c:i<n+1:=eM i (by simp);have f:(part e (O.enc k) (i*1)).run P w= .ok (.int .u8 (k[i].toNat:Int)) w:=bc w (by simp[ju,c]);have g:(Instr.checkKey u7 (d+1) e (.int .u8 (k[i].toNat:Int))).run P w= .ok () w:=by
   rw[Instr.checkKey];simp only[Sem.run_bind,run_underlying ey.out,Result.andThen_ok];rfl
  simp only[List.forIn_cons,Sem.run_bind,m3 a,f,g,Result.andThen_ok,Sem.run_pure];exact b λj h=>eM j (by simp[h])
theorem Jz(ep:de P K (n+1) e)(ey:lc P e .u8)(a:nh P e 1)(c:u2 P e):u6 P K (Vector UInt8 (n+1))where
 wq u7 w k:=Jq u7 w k
 vA ti w k l eS h:=by
  have b:∀x:Vector UInt8 (n+1),(Op.equal K (oi.ih k) (oi.ih x)).run P w= .ok (decide (k=x)) w:=λx=>(F4 ep ey a).run w 10000 (by decide) k x;have Y:=Lt ti w k b l eS 0 h;unfold Instr.findKey;simp only[Sem.run_bind,run_underlying ep.out,Result.andThen_ok];cases l with
  |nil=>
   cases eS with
   |nil=>rfl
   |cons p r=>simp at h
  |cons e l=>exact Y
instance[ep:de P K sr e][a:H7 sr (n+1)][ey:lc P e .u8][b:nh P e 1][c:u2 P e]:u6 P K (Vector UInt8 (n+1)):=Jz (a.out▸ep) ey b c
def Pe(aY:Array MapEntry)(clock:Nat):Prop:=(∀x∈aY.toList,x.born<clock)/\(aY.toList.map (·.born)).Nodup
section
variable{tl tx:Type}[DecidableEq tl][oi tl]
def yp(ti:tx->Value)(aY:Array MapEntry)(clock:Nat)(eS:List (tl×tx)):Prop:=
 aY.toList.map (λe=>(e.key,e.val))=eS.map (λp=>(oi.ih p.1,ti p.2))/\Pe aY clock/\(eS.map Prod.fst).Nodup
def hV(w:World)(r:Nat)(ti:tx->Value)(eS:List (tl×tx)):Prop:=∃aY clock,w.heap[r]? =some (.map aY clock)/\yp ti aY clock eS
def Pt(w:World)(r:Nat)(ti:tx->Value)(eS:List (tl×tx))(born:Nat)(k:tl):Prop:=
 ∃aY clock i v,w.heap[r]? =some (.map aY clock)/\yp ti aY clock eS/\aY.findIdx? (λe=>(e.born:Int)==(born:Int))=some i/\dL ti k eS 0=some (i,v)
@[irreducible] def tW (r:Nat) (ti:tx->Value) (eS:List (tl×tx)):eL:=⟨λk=>k=r,λw=>hV w r ti eS,λw w' h⟨aY,c,G,Y⟩=>⟨aY,c,by rw[h r rfl];exact G,Y⟩⟩
@[irreducible] def k3 (r:Nat) (ti:tx->Value) (eS:List (tl×tx)) (born:Nat) (k:tl):eL:=⟨λk=>k=r,λw=>Pt w r ti eS born k,λw w' h⟨aY,c,i,v,G,Y⟩=>⟨aY,c,i,v,by rw[h r rfl];exact G,Y⟩⟩
theorem cC(r:Nat)(ti:tx->Value)(eS:List (tl×tx)):(tW r ti eS).F=λk=>k=r:=by unfold tW;rfl
theorem mN(r:Nat)(ti:tx->Value)(eS:List (tl×tx)):(tW r ti eS).A=λw=>hV w r ti eS:=by unfold tW;rfl
theorem T8(r:Nat)(ti:tx->Value)(eS:List (tl×tx))(b:Nat)(k:tl):(k3 r ti eS b k).F=λk=>k=r:=by unfold k3;rfl
theorem Ni(r:Nat)(ti:tx->Value)(eS:List (tl×tx))(b:Nat)(k:tl):(k3 r ti eS b k).A=λw=>Pt w r ti eS b k:=by unfold k3;rfl
def La(w w':World)(v:Value)(ti:tx->Value)(eS:List (tl×tx)):Prop:=∃r,v= .map (some r)/\w.heap.size<=r/\hV w' r ti eS
theorem k4{ti:tx->Value}{a:Array MapEntry}{clock:Nat}{eS:List (tl×tx)}(h:yp ti a clock eS):a.size=eS.length:=by
 have:=congrArg List.length h.1;simpa using this
theorem Lo{ti:tx->Value}{a:Array MapEntry}{clock i:Nat}{eS:List (tl×tx)}{k:tl}{v c:tx}(h:yp ti a clock eS)(ey:eS[i]? =some (k,v))(g:MapEntry->MapEntry)(m:∀e,(g e).born=e.born)
 (n:∀e,a[i]? =some e->((g e).key,(g e).val)=(oi.ih k,ti c)):yp ti (a.modify i g) clock (eS.set i (k,c)):=by
 obtain⟨G,⟨Y,ez⟩,e6⟩:=h;have d:(a.modify i g).toList.map (·.born)=a.toList.map (·.born):=by
  apply List.ext_getElem?;intro j;simp only[List.getElem?_map,Array.getElem?_toList,Array.getElem?_modify];split
  .rename_i b;subst b;cases a[i]? <;>simp[m]
  rfl
 refine⟨?_,⟨?_,by rw[d];exact ez⟩,?_⟩
 .apply List.ext_getElem?;intro j;have ac:=congrArg (λl=>l[j]?) G;simp only[List.getElem?_map,Array.getElem?_toList]at ac;simp only[List.getElem?_map,Array.getElem?_toList,Array.getElem?_modify,List.getElem?_set];have o:i<eS.length:=(List.getElem?_eq_some_iff.1 ey).1;by_cases b:i=j
  .subst b;simp only[ey,Option.map_some,Option.map_eq_some_iff]at ac;obtain⟨e,f,_⟩:=ac;simp[f,n e f,o]
  simp[b,ac]
 .intro x p;have:x.born∈(a.modify i g).toList.map (·.born):=List.mem_map.2 ⟨x,p,rfl⟩;rw[d]at this;obtain⟨y,q,e⟩:=List.mem_map.1 this;rw[<-e];exact Y y q
 have:(eS.set i (k,c)).map Prod.fst=eS.map Prod.fst:=by
  apply List.ext_getElem?;intro j;simp only[List.getElem?_map,List.getElem?_set];by_cases b:i=j
  .subst b;have r:=(List.getElem?_eq_some_iff.1 ey).2;simp[r,(List.getElem?_eq_some_iff.1 ey).1]
  simp[b]
 rw[this];exact e6
theorem Pa{ti:tx->Value}{f:Array MapEntry}{clock:Nat}{eS:List (tl×tx)}{k:tl}{v:tx}(h:yp ti f clock eS)(g:tR k eS=none):yp ti (f.push {key:=oi.ih k,val:=ti v,born:=clock}) (clock+1) (eS++[(k,v)]):=by
 obtain⟨G,⟨Y,ez⟩,e6⟩:=h;refine⟨by simp[G],⟨?_,?_⟩,?_⟩
 .intro x c;simp only[Array.toList_push,List.mem_append,List.mem_singleton]at c;rcases c with c|rfl
  .exact Nat.lt_succ_of_lt (Y x c)
  exact Nat.lt_succ_self _
 .simp only[Array.toList_push,List.map_append,List.map_cons,List.map_nil];refine List.nodup_append.2 ⟨ez,by simp,λa ep b d=>?_⟩;simp only[List.mem_singleton]at d;subst d;obtain⟨x,c,rfl⟩:=List.mem_map.1 ep;exact Nat.ne_of_lt (Y x c)
 simp only[List.map_append,List.map_cons,List.map_nil];refine List.nodup_append.2 ⟨e6,by simp,λa ep b d=>?_⟩;simp only[List.mem_singleton]at d;subst d;intro e;subst e;exact za.1 g ep
theorem Li{α a:Type}(g:α->a):∀(l:List α)(i:Nat),(l.eraseIdx i).map g=(l.map g).eraseIdx i
 |[],_=>rfl
 |_::_,0=>rfl
 |_::l,i+1=>by simp[Li g l i]
theorem JE{ti:tx->Value}{a:Array MapEntry}{clock i:Nat}{eS:List (tl×tx)}(h:yp ti a clock eS)(ey:i<eS.length):yp ti (a.eraseIdxIfInBounds i) clock (eS.eraseIdx i):=by
 have e:=k4 h;obtain⟨G,⟨Y,ez⟩,e6⟩:=h;have b:(a.eraseIdxIfInBounds i).toList=a.toList.eraseIdx i:=by
  unfold Array.eraseIdxIfInBounds;rw[dif_pos (by omega)];simp
 have c:(a.eraseIdxIfInBounds i).toList.Sublist a.toList:=by rw[b];exact List.eraseIdx_sublist _ _
 refine⟨?_,⟨λx d=>Y x (c.subset d),(c.map _).nodup ez⟩,((List.eraseIdx_sublist _ _).map _).nodup e6⟩;rw[b,Li,Li,G]
theorem Po{P:Program}{w:World}{x:Value}(h:Instr.sameBits 10000 x x=true):(Instr.keyThatStays x x).run P w= .ok x w:=by
 unfold Instr.keyThatStays;rw[if_pos h];rfl
section
variable{P:Program}{f:tr}{w w0:World}{S:List eL}{R:Value->World->Prop}{d:Option Tmp}{T:TypeId}{pos:String}{eO:Array Edge}{eV:Option (Nat×Bool)}
theorem U.map{r:Nat}{ti:tx->Value}{eS:List (tl×tx)}(E:U w0 S w)(a:tX (tW r ti eS) S):hV w r ti eS:=by have:=E.get a;rw[mN]at this;exact this
theorem U.Ln{w':World}{r:Nat}{ti:tx->Value}{eS:List (tl×tx)}(E:U w0 S w)(b:eB w w')(th:hV w' r ti eS)(d:w.heap.size<=r):U w0 (tW r ti eS::S) w':=by
 refine E.new b (by rw[mN];exact th) (by
  rw[cC];intro k a;have a:k=r:=a;subst a;obtain⟨e,c,h,_⟩:=th;exact⟨d,(Array.getElem?_eq_some_iff.1 h).1⟩)
theorem U.vO{r:Nat}{ti:tx->Value}{eS:List (tl×tx)}(E:U w0 S w)(a:tX (tW r ti eS) S):La w0 w (.map (some r)) ti eS:=by
 have Y:=(E.all _ a.mem).2;rw[cC]at Y;exact⟨r,rfl,(Y r rfl).1,E.map a⟩
theorem U.Ls{r born:Nat}{k:tl}{ti:tx->Value}{eS:List (tl×tx)}(E:U w0 S w){tg:List eL}(a:iD (k3 r ti eS born k) (tW r ti eS) S tg):U w0 tg w:=by
 refine lk ⟨rfl,rfl,rfl,Nat.le_refl _,λ_ _ _=>rfl⟩ ?_ ?_ E a
 .have:=E.get a.kR;rw[Ni]at this;obtain⟨b,c,i,v,G,Y,_⟩:=this;rw[mN];exact⟨b,c,G,Y⟩
 rw[cC,T8];exactλk d=>.inl d
theorem hV.ei{w':World}{r:Nat}{ti:tx->Value}{eS:List (tl×tx)}(a:eB w w')(h:hV w r ti eS):hV w' r ti eS:=by
 obtain⟨b,c,G,Y⟩:=h;exact⟨b,c,a.get G,Y⟩
theorem Z.makeMap(tl:Type)[DecidableEq tl][oi tl]{tx:Type}(ti:tx->Value){t:TypeId}(E:U w0 S w)(h:∀r w',eB w w'->U w0 (tW r ti ([]:List (tl×tx))::S) w'->R (.map (some r)) w'):Z P f ⟨d,.makeMap t none,T,pos,eO,eV⟩ w R:=by
 have a:eB w (w.alloc (.map #[] 0)):=eB.alloc w _;refine iv (v:=.map (some w.heap.size)) (w':=w.alloc (.map #[] 0)) ?_ (h _ _ a (E.Ln a ⟨#[],0,heap_alloc_new w _,by simp,⟨by simp,by simp⟩,by simp⟩ (Nat.le_refl _)));simp[execOp,Instr.makeMap]
theorem Z.lookup{t K ek r:Nat}{z:Value}{x ix:Operand}{k:tl}{ti:tx->Value}{eS:List (tl×tx)}[th:rP P t K ek][a:u6 P K tl][e:oG P ek z](g:hV w r ti eS)(j:eC f x= .map (some r))(ey:eC f ix=oi.ih k)
 (h:R (((tR k eS).map ti).getD z) w):Z P f ⟨d,.lookup t x ix false,T,pos,eO,eV⟩ w R:=by
 obtain⟨l,c,n,o⟩:=g;have q:=a.vA ti w k l.toList eS o.1;refine iv (v:=((tR k eS).map ti).getD z) (w':=w) ?_ h;simp only[execOp,Instr.lookup,j,ey,Sem.run_bind,run_underlying th.out,Result.andThen_ok,MapKept.run_getObj_map n,Sem.run_pure,a.wq,q];cases b:dL ti k eS 0 with
 |none=>
  rw[jm.1 b];simp[vw e]
 |some p=>
  obtain⟨i,u⟩:=p;obtain⟨m,v,_,rfl,_,e6,_⟩:=k2 b;rw[e6];simp
theorem JT{t K ek r:Nat}{z:Value}{x ix:Operand}{k:tl}{ti:tx->Value}{eS:List (tl×tx)}[th:rP P t K ek][a:u6 P K tl][e:oG P ek z](g:hV w r ti eS)(j:eC f x= .map (some r))(ey:eC f ix=oi.ih k)
 (h:R (.tuple #[((tR k eS).map ti).getD z,.bool (tR k eS).isSome]) w):Z P f ⟨d,.lookup t x ix true,T,pos,eO,eV⟩ w R:=by
 obtain⟨l,c,n,o⟩:=g;have q:=a.vA ti w k l.toList eS o.1;refine iv (v:=.tuple #[((tR k eS).map ti).getD z,.bool (tR k eS).isSome]) (w':=w) ?_ h;simp only[execOp,Instr.lookup,j,ey,Sem.run_bind,run_underlying th.out,Result.andThen_ok,MapKept.run_getObj_map n,Sem.run_pure,a.wq,q];cases b:dL ti k eS 0 with
 |none=>
  rw[jm.1 b];simp[vw e]
 |some p=>
  obtain⟨i,u⟩:=p;obtain⟨m,v,_,rfl,_,e6,_⟩:=k2 b;rw[e6];simp
theorem jf{r:Nat}{o a:Obj}(c:w.heap[r]? =some o):qK (λk=>k=r) w {w with heap:=w.heap.setIfInBounds r a}:=
 ⟨rfl,rfl,rfl,by simp,λk _ b=>by simp[Ne.symm b]⟩
theorem jp{r:Nat}{o a:Obj}(b:w.heap[r]? =some o):({w with heap:=w.heap.setIfInBounds r a}:World).heap[r]? =some a:=by
 have:=(Array.getElem?_eq_some_iff.1 b).1;simp[this]
theorem Z.mapUpdate{t K ek r:Nat}{x ix y:Operand}{k:tl}{v:tx}{ti:tx->Value}{eS:List (tl×tx)}[th:rP P t K ek][b:u6 P K tl](E:U w0 S w)(B:tX (tW r ti eS) S)(s:eC f x= .map (some r))(ey:eC f ix=oi.ih k)(z:eC f y=ti v)
 (h:∀w',(∀tg,iD (tW r ti eS) (tW r ti (oH k v eS)) S tg->U w0 tg w') ->R undef w'):Z P f ⟨d,.mapUpdate t x ix y,T,pos,eO,eV⟩ w R:=by
 obtain⟨g,c,a,j⟩:=E.map B;have A:=b.vA ti w k g.toList eS j.1;cases n:dL ti k eS 0 with
 |none=>
  have em:=jm.1 n;refine qX (w':={w with heap:=w.heap.setIfInBounds r (.map (g.push {key:=oi.ih k,val:=ti v,born:=c}) (c+1))}) ?_ (h _ λtg o=>lk (by rw[cC];exact jf a) ?_ ?_ E o)
  .simp[execOp,Instr.mapUpdate,s,ey,z,run_underlying th.out,MapKept.run_getObj_map a,b.wq,A,n,MapKept.run_setObj_map _ a]
  .rw[mN];exact⟨_,_,jp a,by rw[T7 em];exact Pa j em⟩
  rw[cC,cC];exactλk b=>.inl b
 |some p=>
  obtain⟨i,u⟩:=p;obtain⟨m,ab,G,rfl,ez,e6,ac⟩:=k2 n;obtain rfl:i=m:=by omega
  have q:i<g.size:=by rw[k4 j];exact(List.getElem?_eq_some_iff.1 ez).1
  have C:(g[i]'q).key=oi.ih k:=by
   have:=congrArg (λl=>l[i]?) j.1;simp[ez,q]at this;exact this.1
  refine qX (w':={w with heap:=w.heap.setIfInBounds r (.map (g.modify i λe=>{e with key:=oi.ih k,val:=ti v}) c)}) ?_ (h _ λtg o=>lk (by rw[cC];exact jf a) ?_ ?_ E o)
  .simp[execOp,Instr.mapUpdate,s,ey,z,run_underlying th.out,MapKept.run_getObj_map a,b.wq,A,n,q,C,Po (oi.same k),MapKept.run_setObj_map _ a]
  .rw[mN];refine⟨_,_,jp a,?_⟩;rw[(ac v).1];exact Lo j ez _ (λ_=>rfl) (λ_ _=>rfl)
  rw[cC,cC];exactλk b=>.inl b
theorem Pn{a:Array MapEntry}{c i:Nat}(h:Pe a c)(ey:i<a.size):a.findIdx? (λe=>(e.born:Int)==((a[i]'ey).born:Int))=some i:=by
 rw[Array.findIdx?_eq_some_iff_getElem];refine⟨ey,by simp,λj b=>?_⟩;have ez:=h.2;have d:(a[j]'(by omega)).born≠(a[i]'ey).born:=by
  intro e;have:=List.pairwise_iff_getElem.1 ez j i (by simp;omega) (by simpa using ey) b;simp at this;exact this e
 simp;omega
theorem Z.mapEntry{t K ek r:Nat}{z0:tx}{x ix:Operand}{k:tl}{ti:tx->Value}{eS:List (tl×tx)}[th:rP P t K ek][j:u6 P K tl](D:oG P ek (ti z0))(E:U w0 S w)(F:tX (tW r ti eS) S)(z:eC f x= .map (some r))(ey:eC f ix=oi.ih k)
 (h:∀(born:Nat) w',(∀tg,iD (tW r ti eS) (k3 r ti (oH k ((tR k eS).getD z0) eS) born k) S tg->U w0 tg w') ->R (.tuple #[ti ((tR k eS).getD z0),.int .i64 born]) w'):Z P f ⟨d,.mapEntry t x ix,T,pos,eO,eV⟩ w R:=by
 obtain⟨a,c,b,n⟩:=E.map F;have A:=j.vA ti w k a.toList eS n.1;cases o:dL ti k eS 0 with
 |none=>
  have em:=jm.1 o;have q:=Pa (v:=z0) n em;refine iv (v:=.tuple #[ti z0,.int .i64 c]) (w':={w with heap:=w.heap.setIfInBounds r (.map (a.push {key:=oi.ih k,val:=ti z0,born:=c}) (c+1))}) ?_ ?_
  .simp[execOp,Instr.mapEntry,z,ey,run_underlying th.out,MapKept.run_getObj_map b,j.wq,A,o,MapKept.run_setObj_map _ b,vw D,goInt]
  have G:=h c {w with heap:=w.heap.setIfInBounds r (.map (a.push {key:=oi.ih k,val:=ti z0,born:=c}) (c+1))};rw[em]at G;simp only[Option.getD_none]at G;refine G λtg s=>lk (by rw[cC];exact jf b) ?_ ?_ E s
  .rw[Ni,T7 em];refine⟨_,_,a.size,ti z0,jp b,q,?_,?_⟩
   .have:=Pn q.2.1 (i:=a.size) (by simp);simpa using this
   have:∀(l:List (tl×tx))(i:Nat),tR k l=none->dL ti k (l++[(k,z0)]) i=some (i+l.length,ti z0):=by
    intro l;induction l with
    |nil=>intro i _;simp[dL]
    |cons p l H=>
     intro i eM;obtain⟨x,u⟩:=p;by_cases y:k=x
     .simp[tR,y]at eM
     simp[tR,y]at eM;simp[dL,y,H (i+1) eM];omega
   rw[this eS 0 em,k4 n];simp
  rw[cC,T8];exactλk j=>.inl j
 |some p=>
  obtain⟨i,u⟩:=p;obtain⟨m,ab,G,rfl,ez,e6,ac⟩:=k2 o;obtain rfl:i=m:=by omega
  have g:i<a.size:=by rw[k4 n];exact(List.getElem?_eq_some_iff.1 ez).1
  have B:(a[i]'g).key=oi.ih k/\(a[i]'g).val=ti ab:=by
   have:=congrArg (λl=>l[i]?) n.1;simp[ez,g]at this;exact this
  have q:yp ti (a.modify i λe=>{e with key:=oi.ih k}) c (eS.set i (k,ab)):=Lo n ez _ (λ_=>rfl) (λe C=>by
   have:e=a[i]:=by rw[Array.getElem?_eq_getElem g]at C;cases C;rfl
   subst this;simp[B.2])
  refine iv (v:=.tuple #[ti ab,.int .i64 ((a[i]'g).born:Nat)]) (w':={w with heap:=w.heap.setIfInBounds r (.map (a.modify i λe=>{e with key:=oi.ih k}) c)}) ?_ ?_
  .simp[execOp,Instr.mapEntry,z,ey,run_underlying th.out,MapKept.run_getObj_map b,j.wq,A,o,g,B.1,Po (oi.same k),MapKept.run_setObj_map _ b,goInt]
  have aW:=h (a[i]'g).born {w with heap:=w.heap.setIfInBounds r (.map (a.modify i λe=>{e with key:=oi.ih k}) c)};rw[e6]at aW;simp only[Option.getD_some]at aW;refine aW λtg s=>lk (by rw[cC];exact jf b) ?_ ?_ E s
  .rw[Ni,(ac ab).1];refine⟨_,_,i,ti ab,jp b,q,?_,?_⟩
   .have I:i<(a.modify i λe=>{e with key:=oi.ih k}).size:=by simpa using g
    have:=Pn q.2.1 (i:=i) I;simpa[Array.getElem_modify]using this
   have:eS.set i (k,ab)=eS:=by
    have eM:=(List.getElem?_eq_some_iff.1 ez).1;have:eS[i]=(k,ab):=(List.getElem?_eq_some_iff.1 ez).2;rw[<-this,List.set_getElem_self]
   rw[this];exact o
  rw[cC,T8];exactλk j=>.inl j
theorem Z.entryStore{t r born:Nat}{x ix y:Operand}{k:tl}{v:tx}{ti:tx->Value}{eS:List (tl×tx)}(E:U w0 S w)(p:tX (k3 r ti eS born k) S)(q:eC f x= .map (some r))(ey:eC f ix= .int .i64 born)(s:eC f y=ti v)
 (h:∀w',(∀tg,iD (k3 r ti eS born k) (tW r ti (oH k v eS)) S tg->U w0 tg w') ->R undef w'):Z P f ⟨d,.entryStore t x ix y,T,pos,eO,eV⟩ w R:=by
 have n:=E.get p;rw[Ni]at n;obtain⟨a,c,i,u,b,g,z,A⟩:=n;obtain⟨m,ab,G,rfl,ez,e6,ac⟩:=k2 A;obtain rfl:i=m:=by omega
 have j:i<a.size:=by rw[k4 g];exact(List.getElem?_eq_some_iff.1 ez).1
 have B:(a[i]'j).key=oi.ih k:=by
  have:=congrArg (λl=>l[i]?) g.1;simp[ez,j]at this;exact this.1
 refine qX (w':={w with heap:=w.heap.setIfInBounds r (.map (a.modify i λe=>{e with val:=ti v}) c)}) ?_ (h _ λtg C=>lk (by rw[T8];exact jf b) ?_ ?_ E C)
 .simp[execOp,Instr.entryStore,q,ey,s,MapKept.run_getObj_map b,asInt,asIntOf,z,MapKept.run_setObj_map _ b]
 .rw[mN];refine⟨_,_,jp b,?_⟩;rw[(ac v).1];exact Lo g ez _ (λ_=>rfl) (λe o=>by
   have:e=a[i]:=by rw[Array.getElem?_eq_getElem j]at o;cases o;rfl
   subst this;simp[B])
 rw[cC,T8];exactλk D=>.inl D
theorem Ps{t K ek r:Nat}{x:Operand}{ti:tx->Value}{eS:List (tl×tx)}[th:rP P t K ek](a:hV w r ti eS)(b:eC f x= .map (some r))(h:R (.int .i64 eS.length) w):
 Z P f ⟨d,.call {callee:=.builtin .len,args:=#[x],argTypes:=#[t]},T,pos,eO,eV⟩ w R:=by
 obtain⟨i,c,e,g⟩:=a;refine iv (v:=.int .i64 eS.length) (w':=w) ?_ h;simp[execOp,resolve,invoke,builtin,Builtin.len_,b,run_underlying th.out,goInt,MapKept.run_getObj_map e,k4 g]
theorem Z.delete{t K ek r:Nat}{x ix:Operand}{k:tl}{ti:tx->Value}{eS:List (tl×tx)}[th:rP P t K ek][b:u6 P K tl]{nN:Array TypeId}(n:nN[0]? =some t)(E:U w0 S w)(s:tX (tW r ti eS) S)(o:eC f x= .map (some r))(ey:eC f ix=oi.ih k)
 (h:∀w',(∀tg,iD (tW r ti eS) (tW r ti (rc k eS)) S tg->U w0 tg w') ->R (.tuple #[]) w'):Z P f ⟨d,.call {callee:=.builtin .delete,args:=#[x,ix],argTypes:=nN},T,pos,eO,eV⟩ w R:=by
 obtain⟨g,c,a,j⟩:=E.map s;have q:=b.vA ti w k g.toList eS j.1;cases e:dL ti k eS 0 with
 |none=>
  have em:=jm.1 e;refine iv (v:=.tuple #[]) (w':={w with heap:=w.heap.setIfInBounds r (.map g c)}) ?_ (h _ λtg l=>lk (by rw[cC];exact jf a) ?_ ?_ E l)
  .simp[execOp,resolve,invoke,builtin,Builtin.delete_,n,o,ey,run_underlying th.out,MapKept.run_getObj_map a,b.wq,q,e,MapKept.run_setObj_map _ a]
  .rw[mN];exact⟨_,_,jp a,by rw[Na em];exact j⟩
  rw[cC,cC];exactλk b=>.inl b
 |some p=>
  obtain⟨i,u⟩:=p;obtain⟨m,ab,G,rfl,ez,e6,ac⟩:=k2 e;obtain rfl:i=m:=by omega
  refine iv (v:=.tuple #[]) (w':={w with heap:=w.heap.setIfInBounds r (.map (g.eraseIdxIfInBounds i) c)}) ?_ (h _ λtg l=>lk (by rw[cC];exact jf a) ?_ ?_ E l)
  .simp[execOp,resolve,invoke,builtin,Builtin.delete_,n,o,ey,run_underlying th.out,MapKept.run_getObj_map a,b.wq,q,e,MapKept.run_setObj_map _ a]
  .rw[mN];exact⟨_,_,jp a,by rw[(ac ab).2];exact JE j (List.getElem?_eq_some_iff.1 ez).1⟩
  rw[cC,cC];exactλk b=>.inl b
end
end
end
section
section
variable{α:Type}[O α]
theorem JI(xs:List α)(i:Nat)(y:α)(ey:i<xs.length)(j:Nat):
 (iE (xs.set i y))[j]? =if i*O.eo α<=j/\j<i*O.eo α+O.eo α then(O.enc y)[j-i*O.eo α]? else(iE xs)[j]? :=by
 have a:iE (xs.set i y)=iE (xs.take i)++((O.enc y).toList++iE (xs.drop (i+1))):=by
  rw[List.set_eq_take_append_cons_drop,if_pos ey,vy,yr]
 have b:iE xs=iE (xs.take i)++((O.enc xs[i]).toList++iE (xs.drop (i+1))):=by
  conv=>lhs;rw[<-List.take_append_drop i xs,List.drop_eq_getElem_cons ey]
  rw[vy,yr]
 have iG:(iE (xs.take i)).length=i*O.eo α:=by rw[uj,List.length_take,Nat.min_eq_left (by omega)]
 have iY:(O.enc y).toList.length=O.eo α:=by rw[Array.length_toList,O.eT]
 have c:(O.enc xs[i]).toList.length=O.eo α:=by rw[Array.length_toList,O.eT]
 rw[a,b];by_cases G:j<i*O.eo α
 .rw[if_neg (by omega),List.getElem?_append_left (by omega),List.getElem?_append_left (by omega)]
 rw[List.getElem?_append_right (by omega),List.getElem?_append_right (l₁:=iE (xs.take i)) (by omega),iG];by_cases Y:j<i*O.eo α+O.eo α
 .rw[if_pos (by omega),List.getElem?_append_left (by omega),Array.getElem?_toList]
 rw[if_neg (by omega),List.getElem?_append_right (l₁:=(O.enc y).toList) (by omega),List.getElem?_append_right (l₁:=(O.enc xs[i]).toList) (by omega),iY,c]
end
section
variable{α:Type}[O α]{P:Program}{f:tr}{w w0:World}{S:List eL}{R:Value->World->Prop}{d:Option Tmp}{T:TypeId}{pos:String}{eO:Array Edge}{eV:Option (Nat×Bool)}
theorem pr{m ek eo:Nat}{x y:Operand}{v u:Value}{xs:List α}{i off:Nat}{ds:α}[z:nh P m eo](E:U w0 S w)(A:tX (B v ek xs) S)(ey:i<xs.length)(C:eC f x=rd (oK v i (O.eo α)) off)(D:eC f y=u)
 (F:u.cells.size=eo) (N:off+eo<=O.eo α) (G:∀c∈u.cells.toList,c.oneCell'=true) (H:iH (O.enc (xs[i]'ey)) off u.cells=O.enc ds)
 (h:∀w',(∀tg,iD (B v ek xs) (B v ek (xs.set i ds)) S tg->U w0 tg w') ->R undef w'):Z P f ⟨d,.store m x y,T,pos,eO,eV⟩ w R:=by
 have e1:=E.ue A;rcases e1 with⟨_,rfl⟩|⟨g,cap,i9,rfl,n,o,I,Q,J⟩
 .simp at ey
 have hmul:i*O.eo α+O.eo α<=xs.length*O.eo α:=by
  have:=Nat.mul_le_mul_right (O.eo α) (show i+1<=xs.length from ey);rw[Nat.succ_mul]at this;exact this
 have V:xs.length*O.eo α<=cap*O.eo α:=Nat.mul_le_mul_right _ o;have K:eC f x= .pointer (some ⟨g,i*O.eo α+off,none⟩):=by rw[C];simp[oK,rd]
 have p:=IP (P:=P) z n (i*O.eo α+off) u F (by omega) G;have L:(i9.toList.take (i*O.eo α+off)++u.cells.toList++i9.toList.drop (i*O.eo α+off+u.cells.toList.length)).toArray=iH i9 (i*O.eo α+off) u.cells:=by
  unfold iH;apply Array.ext';simp only[Array.toList_append,Array.toList_extract,List.extract_eq_take_drop,Nat.sub_zero,List.drop_zero,Array.length_toList];congr 1;rw[List.take_of_length_le (by simp)]
 rw[L]at p;refine qX (w':=w.setRow g (iH i9 (i*O.eo α+off) u.cells)) ?_ (h _ λtg M=>lk ?_ ?_ ?_ E M)
 .simp[execOp,Instr.storeAt,K,D,Instr.sureAddr,p]
 .rw[db];exact⟨rfl,rfl,rfl,by simp[World.setRow],λk _ b=>setRow_other w g k _ (λe=>b (by simp[Value.ownBlock,e]))⟩
 .rw[dv];refine .inr ⟨g,cap,iH i9 (i*O.eo α+off) u.cells,by simp,setRow_heap w g i9 _ ek _ n,by simpa using o,I,?_,?_⟩
  .unfold iH;simp;omega
  apply List.ext_getElem?;intro j;rw[JI xs i ds ey j,List.getElem?_take,Array.getElem?_toList,List.length_set];have a:=congrArg (λl=>l[j]?) J;simp only[List.getElem?_take,Array.getElem?_toList]at a;by_cases q:j<xs.length*O.eo α
  .rw[if_pos q]at a⊢;rw[wg i9 u.cells _ (by omega) j];by_cases r:i*O.eo α<=j/\j<i*O.eo α+O.eo α
   .rw[if_pos r,<-H,wg _ u.cells off (by rw[O.eT];omega)];have s:=IS xs i xs[i] (List.getElem?_eq_getElem ey) (j-i*O.eo α) ((O.enc xs[i])[j-i*O.eo α]'(by rw[O.eT];omega)) (Array.getElem?_eq_getElem _);rw[show i*O.eo α+(j-i*O.eo α)=j by omega]at s;by_cases t:i*O.eo α+off<=j/\j<i*O.eo α+off+u.cells.size
    .rw[if_pos t,if_pos (by omega)];congr 1;omega
    rw[if_neg t,if_neg (by omega),a,s];exact(Array.getElem?_eq_getElem _).symm
   rw[if_neg r,if_neg (by omega)];exact a
  rw[if_neg q,if_neg (by omega)];exact(List.getElem?_eq_none (by rw[uj];omega)).symm
 rw[db,db];intro k b;exact .inl b
theorem ph{x ix:Operand}{t n ek eo b o:Nat}{k:IntKind}{i:Int}[a:de P t n ek][c:nh P ek eo](e:eC f x= .pointer (some ⟨b,o,none⟩))(ey:eC f ix= .int k i)(g:0<=i/\i<(n:Int))
 (h:R (.pointer (some ⟨b,o+i.toNat*eo,none⟩)) w):Z P f ⟨d,.indexAddr t x ix,T,pos,eO,eV⟩ w R:=by
 refine iv (v:=.pointer (some ⟨b,o+i.toNat*eo,none⟩)) (w':=w) ?_ h;simp[execOp,Instr.indexAt,ey,asIntOf,run_underlying a.out,e,Instr.sureAddr,g,m3 c,wd]
end
def oc(n:Nat):Vector UInt8 n:=Vector.replicate n 0
theorem nn(n:Nat):O.enc (oc (n+1))=Array.replicate (n+1) (.int .u8 0):=by simp[oc,ju]
theorem sM{n:Nat}(v:Vector UInt8 (n+1))(i:Nat)(ey:i<n+1)(c:UInt8):O.enc (v.set i c ey)=(O.enc v).setIfInBounds i (.int .u8 c.toNat):=by
 apply Array.ext_getElem?;intro j;simp only[ju,Vector.toArray_set,Array.getElem?_map,Array.getElem?_setIfInBounds,Array.getElem?_set,Array.size_map];by_cases h:i=j
 .subst h;simp[ey]
 simp[h]
section
variable{P:Program}{f:tr}{w w0:World}{S:List eL}{R:Value->World->Prop}{d:Option Tmp}{T:TypeId}{pos:String}{eO:Array Edge}{eV:Option (Nat×Bool)}
theorem nL{α:Type}[O α]{x ix:Operand}{v:Value}{t ek:Nat}{k:IntKind}{i:Int}{xs:List α}[e:hc P t ek][g:nh P ek (O.eo α)](a:eC f x=v)(b:ev w v xs)(ey:eC f ix= .int k i)(c:0<=i/\i<(xs.length:Int))
 (h:R (oK v i.toNat (O.eo α)) w):Z P f ⟨d,.indexAddr t x ix,T,pos,eO,eV⟩ w R:=by
 subst a;exact XO b ey c h
theorem ap{ek:TypeId}{x:Operand}{ov v:Value}(a:eC f x=ov)(eM:s0 P ek w ov v)(h:R v w):Z P f ⟨d,.load ek x,T,pos,eO,eV⟩ w R:=by
 subst a;exact Z.load eM h
theorem JN{x:Operand}{a:Value}(h:eC f x=a):(#[x]:Array Operand).toList.map (eC f)=[a]:=by simp[h]
theorem Lh{x y:Operand}{a b:Value}(h:eC f x=a)(Y:eC f y=b):(#[x,y]:Array Operand).toList.map (eC f)=[a,b]:=by simp[h,Y]
theorem vI{tl tx:Type}[DecidableEq tl][oi tl]{t K ek r:Nat}{z0 u:tx}{x ix:Operand}{k:tl}{ti:tx->Value}{eS:List (tl×tx)}[th:rP P t K ek][g:u6 P K tl](i:oG P ek (ti z0))(a:hV w r ti eS)(b:eC f x= .map (some r))(ey:eC f ix=oi.ih k)
 (c:(tR k eS).getD z0=u) (h:R (ti u) w):Z P f ⟨d,.lookup t x ix false,T,pos,eO,eV⟩ w R:=by
 refine Z.lookup (z:=ti z0) a b ey ?_;subst c;have e:((tR k eS).map ti).getD (ti z0)=ti ((tR k eS).getD z0):=by cases tR k eS<;>rfl
 rw[e];exact h
theorem Pl{s t:TypeId}[c:TL P s]{x y:Operand}{a b:Bool}(e:eC f x= .bool a)(g:eC f y= .bool b)(h:R (.bool (a==b)) w):Z P f ⟨d,.binOp .eql s x y t,T,pos,eO,eV⟩ w R:=by
 refine iv (v:=.bool (a==b)) (w':=w) ?_ h;have i:eqGuard .eql s x y (.bool a) (.bool b)=pure ():=rfl;have j:binOp .eql s (.bool a) (.bool b)=(do pure (.bool (<-Op.equal s (.bool a) (.bool b)))):=rfl;simp only[execOp,e,g,i,j,Sem.run_bind,Sem.run_pure,Result.andThen_ok,run_equal_bool w s a b c.out]
theorem Pd{s t:TypeId}[c:TL P s]{x y:Operand}{a b:Bool}(e:eC f x= .bool a)(g:eC f y= .bool b)(h:R (.bool (!(a==b))) w):Z P f ⟨d,.binOp .neq s x y t,T,pos,eO,eV⟩ w R:=by
 refine iv (v:=.bool (!(a==b))) (w':=w) ?_ h;have i:eqGuard .neq s x y (.bool a) (.bool b)=pure ():=rfl;have j:binOp .neq s (.bool a) (.bool b)=(do pure (.bool (!(<-Op.equal s (.bool a) (.bool b))))):=rfl;simp only[execOp,e,g,i,j,Sem.run_bind,Sem.run_pure,Result.andThen_ok,run_equal_bool w s a b c.out]
theorem iV{α:Type}[O α]{ek a b:Nat}{x y:Operand}{r:α}{cs:Array Value}[j:nh P ek (O.eo α)](E:U w0 S w)(e:eC f x= .pointer (some ⟨b,0,none⟩))(g:eC f y= .agg (O.enc r))(i:tX (V b cs a) S)(e1:cs.size=O.eo α)
 (h:∀w',(∀tg,iD (V b cs a) (V b (O.enc r) a) S tg->U w0 tg w') ->R undef w'):Z P f ⟨d,.store ek x y,T,pos,eO,eV⟩ w R:=
 IG (c:=O.enc r) E e (by rw[g];rfl) i (O.eT r) e1 (O.one r) h
theorem rV{α:Type}[O α]{s:TypeId}{parts:Array (Nat×Operand)}{zs ps:List (Array Value)}{r:α}[e:nM P s zs](a:O.enc r=eK ps)(b:u3 zs (parts.toList.map λ(i,x)=>(i,eC f x))=ps)(c:po zs (parts.toList.map λ(i,x)=>(i,eC f x)))
 (h:R (.agg (O.enc r)) w):Z P f ⟨d,.build s parts,T,pos,eO,eV⟩ w R:=by
 refine Z.build c ?_;rw[b,<-a];exact h
theorem yg{n s ek:TypeId}{parts:Array (Nat×Operand)}{fI:Array Value}{k:Vector UInt8 (n+1)}[c:de P s (n+1) ek][e:oG P s (.agg fI)][g:nh P ek 1]
 (a:TM fI (parts.toList.map λ(i,x)=>(i,eC f x))=O.enc k) (b:∀p∈parts.toList.map (λ(i,x)=>(i,eC f x)),p.1<fI.size/\p.2.cells=#[p.2])
 (h:R (.agg (O.enc k)) w):Z P f ⟨d,.build s parts,T,pos,eO,eV⟩ w R:=by
 refine jr b ?_;rw[a];exact h
end
theorem Pc(a k:Nat):((a:Int)).tmod (k:Int)=((a%k:Nat):Int):=by rw[Int.tmod_eq_emod_of_nonneg (by omega)];omega
end
section
section
variable{tl tx:Type}[DecidableEq tl][oi tl]
def jw(w:World)(oC r:Nat)(ti:tx->Value)(eS:List (tl×tx))(is:List Nat):Prop:=
 oC≠r/\∃aY clock,w.heap[r]? =some (.map aY clock)/\yp ti aY clock eS/\is.Nodup/\(∀i∈is,i<eS.length)/\
  w.heap[oC]? =some (.mapIter (some r) clock ((is.map λi=>(aY[i]?.map (·.born)).getD 0).toArray) clock)
@[irreducible] def lm (oC r:Nat) (ti:tx->Value) (eS:List (tl×tx)) (is:List Nat):eL:=
 ⟨λk=>k=r∨k=oC,λw=>jw w oC r ti eS is,λw w' h⟨em,aY,c,G,Y,ez,e6,ac⟩=>⟨em,aY,c,by rw[h r (.inl rfl)];exact G,Y,ez,e6,by rw[h oC (.inr rfl)];exact ac⟩⟩
theorem Aa(oC r:Nat)(ti:tx->Value)(eS:List (tl×tx))(is:List Nat):(lm oC r ti eS is).F=λk=>k=r∨k=oC:=by unfold lm;rfl
theorem Ll(oC r:Nat)(ti:tx->Value)(eS:List (tl×tx))(is:List Nat):(lm oC r ti eS is).A=λw=>jw w oC r ti eS is:=by unfold lm;rfl
theorem jw.map{w:World}{oC r:Nat}{ti:tx->Value}{eS:List (tl×tx)}{is:List Nat}(h:jw w oC r ti eS is):hV w r ti eS:=by
 obtain⟨_,a,c,G,Y,_⟩:=h;exact⟨a,c,G,Y⟩
theorem Pu:∀(n:Nat)(is:List Nat),is.Nodup->(∀i∈is,i<n) ->is.length<=n
 |0,is,_,eM=>by
  cases is with
  |nil=>simp
  |cons x r=>have:=eM x List.mem_cons_self;omega
 |n+1,is,h,eM=>by
  have G:=Pu n (is.erase n) (h.erase n) (λi ey=>by
   have Y:=(h.mem_erase_iff).1 ey;have:=eM i Y.2;omega)
  rw[List.length_erase]at G;split at G<;>omega
section
variable{P:Program}{f:tr}{w w0:World}{S:List eL}{R:Value->World->Prop}{d:Option Tmp}{T:TypeId}{pos:String}{eO:Array Edge}{eV:Option (Nat×Bool)}
theorem U.wz{oC r:Nat}{ti:tx->Value}{eS:List (tl×tx)}{is:List Nat}(E:U w0 S w)(a:tX (lm oC r ti eS is) S):jw w oC r ti eS is:=by have:=E.get a;rw[Ll]at this;exact this
theorem Z.range{t K ek r:Nat}{x:Operand}{ti:tx->Value}{eS:List (tl×tx)}[th:rP P t K ek](E:U w0 S w)(e:tX (tW r ti eS) S)(g:eC f x= .map (some r))
 (h:∀(oC:Nat) w',(∀tg,iD (tW r ti eS) (lm oC r ti eS []) S tg->U w0 tg w') ->R (.pointer (some ⟨oC,0,none⟩)) w'):Z P f ⟨d,.range t x,T,pos,eO,eV⟩ w R:=by
 obtain⟨i,c,a,j⟩:=E.map e;have l:=(Array.getElem?_eq_some_iff.1 a).1;refine iv (v:=.pointer (some ⟨w.heap.size,0,none⟩)) (w':=w.alloc (.mapIter (some r) c #[] c)) ?_ (h w.heap.size _ λtg m=>lk ?_ ?_ ?_ E m)
 .simp[execOp,Instr.range,g,run_underlying th.out,MapKept.run_getObj_map a]
 .exact⟨rfl,rfl,rfl,by simp,λk b _=>heap_alloc_old w _ b⟩
 .rw[Ll];refine⟨by omega,i,c,?_,j,List.nodup_nil,by simp,?_⟩
  .rw[heap_alloc_old w _ l];exact a
  simpa using heap_alloc_new w (.mapIter (some r) c #[] c)
 rw[cC,Aa];intro k b;rcases b with rfl|rfl
 .exact .inl rfl
 exact .inr ⟨Nat.le_refl _,by simp⟩
theorem JS{oC r:Nat}{x:Operand}{ti:tx->Value}{eS:List (tl×tx)}{is:List Nat}(E:U w0 S w)(O:tX (lm oC r ti eS is) S)(z:eC f x= .pointer (some ⟨oC,0,none⟩))
 (dX:(∀i,i<eS.length->i∈is) ->R (.tuple #[.bool false]) w)
 (Q:∀i w'(ey:i<eS.length),i∉is->is.length<eS.length->(∀tg,iD (lm oC r ti eS is) (lm oC r ti eS (is++[i])) S tg->U w0 tg w') ->R (.tuple #[.bool true,oi.ih (eS[i]'ey).1,ti (eS[i]'ey).2]) w'):
 Z P f ⟨d,.next x false,T,pos,eO,eV⟩ w R:=by
 obtain⟨A,g,c,m,n,V,B,C⟩:=E.wz O;have cS:=k4 n;have W:∀i j(ey:i<g.size)(h:j<g.size),(g[i]'ey).born=(g[j]'h).born->i=j:=by
  intro i j ey h e;have ez:=n.2.1.2;rcases Nat.lt_trichotomy i j with o|o|o
  .have:=List.pairwise_iff_getElem.1 ez i j (by simpa using ey) (by simpa using h) o;simp at this;exact absurd e this
  .exact o
  have:=List.pairwise_iff_getElem.1 ez j i (by simpa using h) (by simpa using ey) o;simp at this;exact absurd e.symm this
 rcases run_next_at (P:=P) w T oC r c c _ g c C m n.2.1.1 (Nat.le_refl _)with⟨em,q⟩|⟨e,D,aM,F,q⟩
 .refine iv (v:=.tuple #[.bool false]) (w':=w) (by simp[execOp,z,q]) (dX λi ey=>?_);have p:i<g.size:=by omega
  have G:¬(g[i]∈leftOf g ((is.map λi=>(g[i]?.map (·.born)).getD 0).toArray)):=by
   rw[Array.eq_empty_of_size_eq_zero em];simp
  simp only[leftOf,Array.mem_filter,Array.getElem_mem,true_and]at G;simp at G;obtain⟨j,h,H⟩:=G;have I:j<g.size:=by have:=B j h;omega
  simp[I]at H;have:=W j i I p H;subst this;exact h
 simp only[leftOf]at D;have J:e∈g.toList/\¬(e.born∈is.map λi=>(g[i]?.map (·.born)).getD 0):=by
  simpa[Array.mem_filter]using D
 obtain⟨i,ey⟩:=List.getElem?_of_mem J.1;have p:i<g.size:=by have:=(List.getElem?_eq_some_iff.1 ey).1;simpa using this
 have t:g[i]=e:=by have:=(List.getElem?_eq_some_iff.1 ey).2;simpa using this
 have u:i<eS.length:=by omega
 have K:e.key=oi.ih (eS[i]).1/\e.val=ti (eS[i]).2:=by
  have:=congrArg (λl=>l[i]?) n.1;simp[p,u,t]at this;exact this
 have L:i∉is:=λth=>J.2 (List.mem_map.2 ⟨i,th,by simp[p,t]⟩);have M:(is++[i]).Nodup:=List.nodup_append.2 ⟨V,by simp,λa ep b m=>by simp at m;subst m;intro e;subst e;exact L ep⟩;have N:∀j∈is++[i],j<eS.length:=by
  intro j h;rcases List.mem_append.1 h with h|h
  .exact B j h
  simp at h;subst h;exact u
 have hlen:=Pu _ _ M N;simp at hlen;rw[K.1,K.2]at q;have s:aM.heap=w.heap:=by rcases F with rfl|rfl<;>rfl
 have X:=(Array.getElem?_eq_some_iff.1 C).1;refine iv (v:=.tuple #[.bool true,oi.ih (eS[i]).1,ti (eS[i]).2]) (by simp only[execOp,z,Sem.run_bind,q,Result.andThen_ok,Sem.run_pure];rfl) (Q i _ u L (by omega) λtg Y=>lk ?_ ?_ ?_ E Y)
 .rw[Aa];have e1:aM.os=w.os/\aM.tape=w.tape/\aM.output=w.output:=by rcases F with rfl|rfl<;>exact⟨rfl,rfl,rfl⟩
  refine⟨e1.1,e1.2.1,e1.2.2,by simp[ChangeMaps.setBlock,s],λk _ y=>?_⟩;have:oC≠k:=λe=>y (.inr e.symm);simp[ChangeMaps.setBlock,s,this]
 .rw[Ll];refine⟨A,g,c,?_,n,M,N,?_⟩
  .simp[ChangeMaps.setBlock,s,A,m]
  simp[ChangeMaps.setBlock,s,X,p,t]
 rw[Aa,Aa];exactλk y=>.inl y
theorem jy{oC r:Nat}{x:Operand}{ti:tx->Value}{eS:List (tl×tx)}{is:List Nat}(E:U w0 S w)(e:tX (lm oC r ti eS is) S)(g:eC f x= .pointer (some ⟨oC,0,none⟩))
 (h:∀(b:Bool)(vs:Array Value)(a:List Nat) w',vs[0]? =some (.bool b) ->(b=false->a=is/\∀i,i<eS.length->i∈is) ->(b=true->∃i,i<eS.length/\i∉is/\is.length<eS.length/\a=is++[i]) ->
  (∀tg,iD (lm oC r ti eS is) (lm oC r ti eS a) S tg->U w0 tg w') ->R (.tuple vs) w'):Z P f ⟨d,.next x false,T,pos,eO,eV⟩ w R:=by
 refine JS E e g (λj=>h false _ is w rfl (λ_=>⟨rfl,j⟩) (λh=>by cases h) λtg c=>?_) (λi w' ey l eM c=>h true _ (is++[i]) w' rfl (λh=>by cases h) (λ_=>⟨i,ey,l,eM,rfl⟩) c);exact lk ⟨rfl,rfl,rfl,Nat.le_refl _,λ_ _ _=>rfl⟩ (E.get e) (λk m=>.inl m) E c
theorem jb{oC r i:Nat}{x:Operand}{ti:tx->Value}{eS:List (tl×tx)}{is:List Nat}(k:jw w oC r ti eS (is++[i]))(ey:i<eS.length)(m:eC f x= .pointer (some ⟨oC,0,none⟩))
 (h:R (.tuple #[oi.ih (eS[i]'ey).1,ti (eS[i]'ey).2]) w):Z P f ⟨d,.entry x,T,pos,eO,eV⟩ w R:=by
 obtain⟨q,a,c,n,b,s,t,o⟩:=k;have e:i<a.size:=by rw[k4 b];exact ey
 have g:(a[i]).key=oi.ih (eS[i]).1/\(a[i]).val=ti (eS[i]).2:=by
  have:=congrArg (λl=>l[i]?) b.1;simp[e,ey]at this;exact this
 have p:w.heap[oC]? =some (.mapIter (some r) c (((is.map λi=>(a[i]?.map (·.born)).getD 0).toArray).push (a[i]).born) c):=by
  rw[o];simp[e]
 have j:=run_entry_at (P:=P) w oC r c _ a c (a[i]) p n (by simp) b.2.1.2;rw[g.1,g.2]at j;exact iv (v:=.tuple #[oi.ih (eS[i]).1,ti (eS[i]).2]) (w':=w) (by simp[execOp,m,j]) h
end
end
end
section
variable{e:eL}{S tg l:List eL}{w0 w:World}{P:Program}{T:TypeId}{b o ek:Nat}{cs:Array Value}{tl:Type}{f:tr}{R:Value->World->Prop}{d:Option Tmp}{pos:String}{eO:Array Edge}{eV:Option (Nat×Bool)}{x:Operand}
inductive hg(e:eL):List eL->List eL->Prop
 |nU {S:List eL}:hg e (e::S) S
 |ee {x:eL} {S tg:List eL} (h:hg e S tg):hg e (x::S) (x::tg)
section
variable{e:eL}{S:List eL}{eE te tO af aT oP iN nB sb rF ld dw cu cN:eL}
theorem hg.em:hg e (e::S) (S):=.nU
theorem hg.G:hg e (eE::e::S) (eE::S):=.ee .em
theorem hg.Y:hg e (eE::te::e::S) (eE::te::S):=.ee .G
theorem hg.ez:hg e (eE::te::tO::e::S) (eE::te::tO::S):=.ee .Y
theorem hg.e6:hg e (eE::te::tO::af::e::S) (eE::te::tO::af::S):=.ee .ez
theorem hg.ac:hg e (eE::te::tO::af::aT::e::S) (eE::te::tO::af::aT::S):=.ee .e6
theorem hg.aW:hg e (eE::te::tO::af::aT::oP::e::S) (eE::te::tO::af::aT::oP::S):=.ee .ac
theorem hg.nf:hg e (eE::te::tO::af::aT::oP::iN::e::S) (eE::te::tO::af::aT::oP::iN::S):=.ee .aW
theorem hg.nE:hg e (eE::te::tO::af::aT::oP::iN::nB::e::S) (eE::te::tO::af::aT::oP::iN::nB::S):=.ee .nf
theorem hg.n9:hg e (eE::te::tO::af::aT::oP::iN::nB::sb::e::S) (eE::te::tO::af::aT::oP::iN::nB::sb::S):=.ee .nE
theorem hg.hR:hg e (eE::te::tO::af::aT::oP::iN::nB::sb::rF::e::S) (eE::te::tO::af::aT::oP::iN::nB::sb::rF::S):=.ee .n9
theorem hg.dN:hg e (eE::te::tO::af::aT::oP::iN::nB::sb::rF::ld::e::S) (eE::te::tO::af::aT::oP::iN::nB::sb::rF::ld::S):=.ee .hR
theorem hg.u1:hg e (eE::te::tO::af::aT::oP::iN::nB::sb::rF::ld::dw::e::S) (eE::te::tO::af::aT::oP::iN::nB::sb::rF::ld::dw::S):=.ee .dN
theorem hg.mz:hg e (eE::te::tO::af::aT::oP::iN::nB::sb::rF::ld::dw::cu::e::S) (eE::te::tO::af::aT::oP::iN::nB::sb::rF::ld::dw::cu::S):=.ee .u1
theorem hg.ak:hg e (eE::te::tO::af::aT::oP::iN::nB::sb::rF::ld::dw::cu::cN::e::S) (eE::te::tO::af::aT::oP::iN::nB::sb::rF::ld::dw::cu::cN::S):=.ee .mz
end
theorem hg.hK(h:hg e S tg):S.Perm (e::tg):=by
 induction h with
 |nU=>exact List.Perm.refl _
 |ee _ a=>exact(List.Perm.cons _ a).trans (List.Perm.swap _ _ _)
theorem U.hK(h:U w0 S w)(c:S.Perm tg):U w0 tg w:=
 ⟨h.J,c.pairwise h.yn (λ{a b} d k f ep=>d k ep f),λe g=>h.all e (c.mem_iff.2 g)⟩
theorem U.pick(h:U w0 S w)(a:hg e S tg):U w0 (e::tg) w:=h.hK a.hK
def Pp(l:List eL):Prop:=l.Pairwise (λa b:eL=>∀k,a.F k->¬b.F k)
@[irreducible] def hD (l:List eL):eL:=
 ⟨λk=>∃e∈l,e.F k,λw=>Pp l/\∀e∈l,e.A w,λw w' h⟨G,Y⟩=>⟨G,λe eR=>e.eQ w w' (λb er=>h b ⟨e,eR,er⟩) (Y e eR)⟩⟩
theorem Nl(l:List eL):(hD l).F=λk=>∃e∈l,e.F k:=by unfold hD;rfl
theorem pK(l:List eL):(hD l).A=λw=>Pp l/\∀e∈l,e.A w:=by unfold hD;rfl
theorem U.dr(h:U w0 (hD l::S) w):U w0 (l++S) w:=by
 obtain⟨G,Y,ez⟩:=h;have e6:=ez _ List.mem_cons_self;rw[pK,Nl]at e6;obtain⟨ac,aW⟩:=List.pairwise_cons.1 Y;refine⟨G,List.pairwise_append.2 ⟨e6.1.1,aW,λa ep b d k f g=>?_⟩,λe c=>?_⟩
 .have:=ac b d k;rw[Nl]at this;exact this ⟨a,ep,f⟩ g
 rcases List.mem_append.1 c with c|c
 .exact⟨e6.1.2 e c,λk i=>e6.2 k ⟨e,c,i⟩⟩
 exact ez e (List.mem_cons_of_mem _ c)
theorem U.closed(h:U w0 (l++S) w):U w0 (hD l::S) w:=by
 obtain⟨G,Y,ez⟩:=h;obtain⟨e6,ac,aW⟩:=List.pairwise_append.1 Y;refine⟨G,List.pairwise_cons.2 ⟨λb g k f i=>?_,ac⟩,λe c=>?_⟩
 .rw[Nl]at f;obtain⟨a,ep,d⟩:=f;exact aW a ep b g k d i
 rcases List.mem_cons.1 c with rfl|c
 .rw[pK,Nl];refine⟨⟨e6,λe c=>(ez e (List.mem_append_left _ c)).1⟩,λk⟨e,c,d⟩=>(ez e (List.mem_append_left _ c)).2 k d⟩
 exact ez e (List.mem_append_right _ c)
def jv(w w':World)(e:eL):Prop:=e.A w'/\∀k,e.F k->w.heap.size<=k/\k<w'.heap.size
theorem U.An{w':World}(E:U w0 S w)(a:eB w w')(h:jv w w' e):U w0 (e::S) w':=E.new a h.1 h.2
theorem U.zn(E:U w0 S w)(a:tX e S):jv w0 w e:=E.all e a.mem
section
variable{tl tx α:Type}[DecidableEq tl][O α]
theorem Lc{k:tl}{x:tx}:∀{l:List (tl×tx)},tR k l=some x->l.Perm ((k,x)::rc k l)
 |(y,u)::r,h=>by
  by_cases a:k=y
  .subst a;simp[tR]at h;subst h;simp[rc]
  simp[tR,a]at h;have b:=Lc (l:=r) h;simp only[rc,a,if_false];exact(List.Perm.cons _ b).trans (List.Perm.swap _ _ _)
theorem Pg{k:tl}{x:tx}:∀{l:List (tl×tx)},(l.map Prod.fst).Nodup->(oH k x l).Perm ((k,x)::rc k l)
 |[],_=>by simp[oH,rc]
 |(y,u)::r,h=>by
  simp only[List.map_cons,List.nodup_cons]at h;by_cases a:k=y
  .subst a;simp[oH,rc]
  simp only[oH,rc,a,if_false];exact(List.Perm.cons _ (Pg (l:=r) h.2)).trans (List.Perm.swap _ _ _)
def pl(T:TypeId)(eS:List (tl×(Value×List α))):List eL:=eS.map λp=>B p.2.1 T p.2.2
variable{w0 w:World}{T:TypeId}{eS:List (tl×(Value×List α))}{k:tl}
theorem Pw{l uo:List (tl×(Value×List α))}(h:l.Perm uo):(pl T l).Perm (pl T uo):=h.map _
theorem U.JL(L:List eL){S:List eL}{x:Value×List α}(E:U w0 (L++(pl T eS++S)) w)(h:tR k eS=some x):U w0 (B x.1 T x.2::(L++(pl T (rc k eS)++S))) w:=by
 refine E.hK ?_;refine((((Pw (Lc h)).append_right S)).append_left L).trans ?_;exact List.perm_middle
theorem U.JD(L:List eL){S:List eL}{v:Value}{xs:List α}(a:(eS.map Prod.fst).Nodup)(E:U w0 (B v T xs::(L++(pl T (rc k eS)++S))) w):U w0 (L++(pl T (oH k (v,xs) eS)++S)) w:=by
 refine E.hK (List.Perm.symm ?_);refine((((Pw (Pg a)).append_right S)).append_left L).trans ?_;exact List.perm_middle
end
section
variable{P:Program}{f:tr}{w:World}{R:Value->World->Prop}{d:Option Tmp}{T:TypeId}{pos:String}{eO:Array Edge}{eV:Option (Nat×Bool)}
theorem Py{s ek:Nat}(b:fA P s ek)(a:Option Addr)(w:World):(Op.equal s (.pointer a) (.pointer none)).run P w= .ok a.isNone w:=by
 unfold Op.equal;show(Op.equalIn (9999+1) s (.pointer a) (.pointer none)).run P w= .ok a.isNone w;generalize 9999=k;cases a<;>simp[Op.equalIn,run_underlying b.out]
theorem Pb{s K ek:Nat}(b:rP P s K ek)(a:Option Nat)(w:World):(Op.equal s (.map a) (.map none)).run P w= .ok a.isNone w:=by
 unfold Op.equal;show(Op.equalIn (9999+1) s (.map a) (.map none)).run P w= .ok a.isNone w;generalize 9999=k;cases a<;>simp[Op.equalIn,run_underlying b.out]
theorem Nd{s t ek:Nat}{x y:Operand}{a:Option Addr}[b:fA P s ek](c:eC f x= .pointer a)(e:eC f y= .pointer none)(h:R (.bool a.isNone) w):Z P f ⟨d,.binOp .eql s x y t,T,pos,eO,eV⟩ w R:=by
 refine iv (v:=.bool a.isNone) (w':=w) ?_ h;have g:eqGuard .eql s x y (.pointer a) (.pointer none)=pure ():=rfl;have i:binOp .eql s (.pointer a) (.pointer none)=(do pure (.bool (<-Op.equal s (.pointer a) (.pointer none)))):=rfl;simp only[execOp,c,e,g,i,Sem.run_bind,Sem.run_pure,Result.andThen_ok,Py b]
theorem Lu{s t ek:Nat}{x y:Operand}{a:Option Addr}[b:fA P s ek](c:eC f x= .pointer a)(e:eC f y= .pointer none)(h:R (.bool (!a.isNone)) w):Z P f ⟨d,.binOp .neq s x y t,T,pos,eO,eV⟩ w R:=by
 refine iv (v:=.bool (!a.isNone)) (w':=w) ?_ h;have g:eqGuard .neq s x y (.pointer a) (.pointer none)=pure ():=rfl;have i:binOp .neq s (.pointer a) (.pointer none)=(do pure (.bool (!(<-Op.equal s (.pointer a) (.pointer none))))):=rfl;simp only[execOp,c,e,g,i,Sem.run_bind,Sem.run_pure,Result.andThen_ok,Py b]
theorem JC{s t K ek:Nat}{x y:Operand}{a:Option Nat}[b:rP P s K ek](c:eC f x= .map a)(e:eC f y= .map none)(h:R (.bool a.isNone) w):Z P f ⟨d,.binOp .eql s x y t,T,pos,eO,eV⟩ w R:=by
 refine iv (v:=.bool a.isNone) (w':=w) ?_ h;have g:eqGuard .eql s x y (.map a) (.map none)=pure ():=rfl;have i:binOp .eql s (.map a) (.map none)=(do pure (.bool (<-Op.equal s (.map a) (.map none)))):=rfl;simp only[execOp,c,e,g,i,Sem.run_bind,Sem.run_pure,Result.andThen_ok,Pb b]
theorem JU{s t K ek:Nat}{x y:Operand}{a:Option Nat}[b:rP P s K ek](c:eC f x= .map a)(e:eC f y= .map none)(h:R (.bool (!a.isNone)) w):Z P f ⟨d,.binOp .neq s x y t,T,pos,eO,eV⟩ w R:=by
 refine iv (v:=.bool (!a.isNone)) (w':=w) ?_ h;have g:eqGuard .neq s x y (.map a) (.map none)=pure ():=rfl;have i:binOp .neq s (.map a) (.map none)=(do pure (.bool (!(<-Op.equal s (.map a) (.map none))))):=rfl;simp only[execOp,c,e,g,i,Sem.run_bind,Sem.run_pure,Result.andThen_ok,Pb b]
end
theorem ar.vS{T:Nat}[u2 P T]{v:Value}(a:ar w (.pointer (some ⟨b,0,none⟩)) cs)(c:cs[o]? =some v):s0 P T w (.pointer (some ⟨b,o,none⟩)) v:=by
 have:=dK (P:=P) (T:=T) a o c;simpa[rd]using this
theorem U.nF(h:U w0 (e::S) w):U w0 S w:=h.sub (.cons _ (List.Sublist.refl _))
theorem zr{tx:Type}[DecidableEq tl][oi tl]{t K r:Nat}{z0 u:tx}{ix:Operand}{k:tl}{ti:tx->Value}{eS:List (tl×tx)}[th:rP P t K ek][g:u6 P K tl](i:oG P ek (ti z0))(a:hV w r ti eS)(b:eC f x= .map (some r))(ey:eC f ix=oi.ih k)
 (c:(tR k eS).getD z0=u) (h:R (.tuple #[ti u,.bool (tR k eS).isSome]) w):Z P f ⟨d,.lookup t x ix true,T,pos,eO,eV⟩ w R:=by
 refine JT (z:=ti z0) a b ey ?_;subst c;have e:((tR k eS).map ti).getD (ti z0)=ti ((tR k eS).getD z0):=by cases tR k eS<;>rfl
 rw[e];exact h
theorem U.JM{α:Type}[DecidableEq tl][O α]{eS:List (tl×(Value×List α))}(L:List eL)(k:tl)(E:U w0 (L++(pl T eS++S)) w):
 U w0 (B ((tR k eS).getD (.slice none 0 0,[])).1 T ((tR k eS).getD (.slice none 0 0,[])).2::(L++(pl T (rc k eS)++S))) w:=by
 cases h:tR k eS with
 |none=>
  rw[Na h];exact E.lD T
 |some x=>exact E.JL L h
structure il where
 p:Option Nat
def il.v(x:il):Value:=.pointer (x.p.map λb=>⟨b,0,none⟩)
instance:O il where
 enc s:=#[s.v]
 eo:=1
 pos:=by omega
 eT _:=rfl
 one s u a:=by simp at a;subst a;rfl
theorem iU{a eo:Nat}[j:nh P ek eo]{y:Operand}{v:Value}{iR:Array Value}(E:U w0 S w)(c:eC f x= .pointer (some ⟨b,o,none⟩))(e:eC f y=v)(g:tX (V b cs a) S)
 (tC:v.cells.size=eo) (e1:o+eo<=cs.size) (G:∀u∈v.cells.toList,u.oneCell'=true) (i:iH cs o v.cells=iR)
 (h:∀w',(∀tg,iD (V b cs a) (V b iR a) S tg->U w0 tg w') ->R undef w'):Z P f ⟨d,.store ek x y,T,pos,eO,eV⟩ w R:=by
 subst i;exact Z.store E c e g tC e1 G h
end
section
section
variable{P:Program}{f:tr}{w:World}{R:Value->World->Prop}{d:Option Tmp}{T:TypeId}{pos:String}{eO:Array Edge}{eV:Option (Nat×Bool)}
theorem As{g:FuncId}{args:Array Operand}{nN:Array TypeId}{vs:List Value}{v:Value}(a:(callFunc g vs.toArray).run P w= .ok (.value v) w)(b:args.toList.map (eC f)=vs)(h:R v w):
 Z P f ⟨d,.call {callee:=.value (.func g),args:=args,argTypes:=nN},T,pos,eO,eV⟩ w R:=by
 have ep:args.map (eC f)=vs.toArray:=by subst b;apply Array.ext';simp
 refine iv (v:=v) (w':=w) ?_ h;simp[execOp,resolve,eC,Deferred.ofValue,invoke,ep,a]
theorem Pv{fn:Func}{g:FuncId}(a:P.funcs[g]? =some fn)(b:(fn.name== "runtime.NumGoroutine")=false)
 (c:fn.body.isNone=true) (d:Extern.findNext fn=none) (e:Extern.find fn=some Go.add64Entry) (x y:Nat) (w:World):
 (callFunc g #[.int .u64 (x:Int),.int .u64 (y:Int),.int .u64 0]).run P w= .ok (.value (.tuple #[.int .u64 (((x+y)%18446744073709551616:Nat):Int),.int .u64 (((x+y)/18446744073709551616:Nat):Int)])) w:=by
 rw[Go.run_callFunc_extern a b c d e,Go.run_add64 x y 0 (by omega) (by omega) (by omega) (by omega)];simp only[Result.andThen];congr 5<;>omega
end
structure t7 where
 n:Nat
 deriving DecidableEq
instance:O t7 where
 enc s:=#[.int .u64 (s.n:Int)]
 eo:=1
 pos:=by omega
 eT _:=rfl
 one s u a:=by simp at a;subst a;rfl
theorem zh(s:t7):O.enc s=#[.int .u64 (s.n:Int)]:=rfl
theorem JP(a:Nat):IntKind.u64.wrap (a:Int)=((a%18446744073709551616:Nat):Int):=by rw[IntKind.wrap_u64];omega
theorem bu(a b:Nat):IntKind.u64.wrap ((a:Int)+(b:Int))=(((a+b)%18446744073709551616:Nat):Int):=by rw[<-Int.natCast_add];exact JP _
def nO(a b:Nat):Nat:=if a+b<18446744073709551616 then a+b else 18446744073709551615
theorem Nc(a b:Nat):nO a b<18446744073709551616:=by unfold nO;split<;>omega
end
section
section
variable{α:Type}[O α]
theorem Pk(z:α):∀(n j:Nat),(iE (List.replicate n z))[j]? =if j<n*O.eo α then(O.enc z)[j%O.eo α]? else none
 |0,j=>by simp[iE]
 |n+1,j=>by
  have a:=O.pos (α:=α);have eM:(O.enc z).toList.length=O.eo α:=by simp[O.eT]
  rw[List.replicate_succ,yr,List.getElem?_append,eM,Nat.succ_mul];by_cases h:j<O.eo α
  .rw[if_pos h,if_pos (by omega),Nat.mod_eq_of_lt h];simp
  rw[if_neg h,Pk z n (j-O.eo α)];have e:(j-O.eo α)%O.eo α=j%O.eo α:=(Nat.mod_eq_sub_mod (by omega)).symm;rw[e];by_cases Y:j-O.eo α<n*O.eo α
  .rw[if_pos Y,if_pos (by omega)]
  rw[if_neg Y,if_neg (by omega)]
theorem Lm(z:α)(n:Nat):(madeCells (O.enc z) (n*O.eo α)).toList=iE (List.replicate n z):=by
 have a:=O.pos (α:=α);apply List.ext_getElem?;intro j;rw[Pk];simp only[madeCells,Array.toList_map,Array.toList_range,List.getElem?_map,O.eT];by_cases h:j<n*O.eo α
 .rw[if_pos h,List.getElem?_range h];have Y:j%O.eo α<(O.enc z).size:=by rw[O.eT];exact Nat.mod_lt _ a
  simp[Y]
 rw[if_neg h,List.getElem?_eq_none (by simp;omega)];rfl
variable{P:Program}{f:tr}{w w0:World}{S:List eL}{R:Value->World->Prop}{d:Option Tmp}{T:TypeId}{pos:String}{eO:Array Edge}{eV:Option (Nat×Bool)}
theorem lj{t ek r8 n:Nat}{x y:Operand}(z:α)[g:hc P t ek][j:nh P ek (O.eo α)][k:ba P ek r8]{lf:Value}[l:oG P ek lf](m:lf.cells=O.enc z)(E:U w0 S w)
 (o:eC f x= .int .i64 (n:Int)) (p:eC f y= .int .i64 (n:Int)) (A:r8*n<=281474976710656) (a:n<=maxLen)
 (h:∀b w',eB w w'->U w0 (B (.slice (some ⟨b,0,none⟩) n n) ek (List.replicate n z)::S) w'->R (.slice (some ⟨b,0,none⟩) n n) w'):Z P f ⟨d,.makeSlice t x y,T,pos,eO,eV⟩ w R:=by
 obtain⟨i,ey,q,r,s⟩:∃i,P.info? ek=some i/\i.size=O.eo α/\i.bytes=r8/\i.zero=some lf:=by
  have G:=j.out;have Y:=k.out;have ez:=l.out;cases ey:P.info? ek with
  |none=>simp[ey]at G
  |some i=>simp[ey]at G Y ez;exact⟨i,rfl,G,Y,ez⟩
 have u:(i.bytes:Int)*(n:Int)<=281474976710656:=by
  rw[r,<-Int.natCast_mul];omega
 have c:=run_make (P:=P) w t ek i lf g.out ey s .i64 .i64 n n (by omega) (Int.le_refl _) u (by simp only[maxLen]at a;omega);simp only[Int.toNat_natCast,m,q]at c;have e:=E.Fe (cs:=madeCells (O.enc z) (n*O.eo α)) (ek:=ek) (List.replicate n z) (Lm z n) (by simpa using a);simp only[List.length_replicate]at e;refine iv (v:=.slice (some ⟨w.heap.size,0,none⟩) n n) (w':=w.alloc (.cells (madeCells (O.enc z) (n*O.eo α)) ek)) ?_ (h _ _ (eB.alloc w _) e);simp[execOp,o,p,c]
theorem jk{t K ek:Nat}{x y:Operand}{v:Value}{xs ys:List α}[p:hc P t ek][L:nh P ek (O.eo α)](E:U w0 S w)(q:tX (B v ek xs) S)(r:eC f x=v)(M:ev w (eC f y) ys)(eM:xs.length=ys.length)
 (h:∀w',(∀tg,iD (B v ek xs) (B v ek ys) S tg->U w0 tg w') ->R (.int .i64 (ys.length:Int)) w'):Z P f ⟨d,.call {callee:=.builtin .copy,args:=#[x,y],argTypes:=#[t,K]},T,pos,eO,eV⟩ w R:=by
 have pU:=O.pos (α:=α);obtain⟨i,ey,N⟩:∃i,P.info? ek=some i/\i.size=O.eo α:=by
  have G:=L.out;cases ey:P.info? ek with
  |none=>simp[ey]at G
  |some i=>simp[ey]at G;exact⟨i,rfl,G⟩
 have Q:=E.ue q;obtain⟨a,c,z,al,aJ,V,W⟩:=M;rcases Q with⟨rfl,rfl⟩|⟨g,cap,i9,rfl,D,sj,X,ss,mO⟩
 .have A:ys=[]:=List.eq_nil_of_length_eq_zero (by simpa using eM.symm);subst A;refine iv (v:=.int .i64 0) (w':=w) ?_ (h w λtg n=>lk ⟨rfl,rfl,rfl,Nat.le_refl _,λ_ _ _=>rfl⟩ (E.get q) (λk m=>.inl m) E n);have C:∀(x:Addr),(loadCells x 0).run P w= .ok #[] w:=λx=>by simpa using run_loadCells_list (P:=P) w x [] (by simp)
  cases a<;>simp[execOp,resolve,invoke,builtin,r,z,Builtin.copy_,run_underlying p.out,Builtin.lenOf,Builtin.firstCells,sizeOf,typeInfo,ey,goInt,C]
 by_cases tp:ys.length=0
 .have A:ys=[]:=List.eq_nil_of_length_eq_zero tp;subst A;have wE:xs=[]:=List.eq_nil_of_length_eq_zero (by simpa using eM);subst wE;refine iv (v:=.int .i64 0) (w':=w) ?_ (h w λtg n=>lk ⟨rfl,rfl,rfl,Nat.le_refl _,λ_ _ _=>rfl⟩ (E.get q) (λk m=>.inl m) E n);have C:∀(x:Addr),(loadCells x 0).run P w= .ok #[] w:=λx=>by simpa using run_loadCells_list (P:=P) w x [] (by simp)
  cases a<;>simp[execOp,resolve,invoke,builtin,r,z,Builtin.copy_,run_underlying p.out,Builtin.lenOf,Builtin.firstCells,sizeOf,typeInfo,ey,goInt,C,storeCells]
 have JG:∃l,a=some l:=by
  cases a with
  |none=>have:=V rfl;omega
  |some l=>exact⟨l,rfl⟩
 obtain⟨l,rfl⟩:=JG;have F:=W l rfl (by omega);have Lf:∀(j:Nat)(u:Value),(iE ys)[j]? =some u->w.cell? (l.add j)=some u:=by
  intro j u tM;have Y:=F.2 j u tM;have e:l.add j=⟨l.block,l.off+j,none⟩:=by
   have G:=F.1;obtain⟨b,o,s⟩:=l;simp only at G;subst G;exact wd b o j
  rw[e];exact Y
 have H:(iE ys).length=ys.length*O.eo α:=uj ys;have hmul:ys.length*O.eo α<=cap*O.eo α:=Nat.mul_le_mul_right _ (by omega);have I:=run_loadCells_list (P:=P) w l (iE ys) Lf;have J:=run_storeCells_at P g 0 ek (iE ys) 0 i9 w D (by omega) (IN ys);simp only[Nat.zero_add,Nat.add_zero]at J;have Lp:Nat.min ys.length xs.length=ys.length:=by rw[eM];exact Nat.min_self _
 refine iv (v:=.int .i64 (ys.length:Int)) (w':=w.setRow g (i9.toList.take 0++iE ys++i9.toList.drop (iE ys).length).toArray) ?_ (h _ λtg n=>lk ?_ ?_ ?_ E n)
 .rw[H]at I;have aA:(Builtin.firstCells (O.eo α) ys.length (.slice (some l) ys.length c)).run P w= .ok (iE ys).toArray w:=by simp[Builtin.firstCells,I]
  simp[execOp,resolve,invoke,builtin,r,z,Builtin.copy_,run_underlying p.out,Builtin.lenOf,sizeOf,typeInfo,ey,N,Lp,goInt,aA,J]
 .rw[db];exact⟨rfl,rfl,rfl,by simp[World.setRow],λk _ m=>setRow_other w g k _ (λe=>m (by simp[Value.ownBlock,e]))⟩
 .rw[dv];refine .inr ⟨g,cap,_,by rw[eM],setRow_heap w g i9 _ ek _ D,by omega,X,?_,?_⟩
  .simp only[List.size_toArray,List.length_append,List.length_take,List.length_drop,Array.length_toList];omega
  simp only[List.take_zero,List.nil_append,<-H];exact List.take_left
 rw[db,db];exactλk m=>.inl m
end
end
section
open Go.ChangeShapes Go.WideShapes Go.ChangeAt

end
section
variable{v:Value}{n:Nat}
section
variable{P:Program}{f:tr}{w:World}{R:Value->World->Prop}{d:Option Tmp}{T:TypeId}{pos:String}{eO:Array Edge}{eV:Option (Nat×Bool)}
theorem JW{t:TypeId}(ep:mE P t):P.concrete t=true:=by
 have Y:=ep.out;unfold vg at Y;unfold Program.concrete;cases a:P.underlying t with
 |none=>simp[a]at Y
 |some d=>cases d<;>simp[a]at Y<;>rfl
theorem Z.iface{s:TypeId}{x:Operand}{v:Value}[ep:mE P s](a:eC f x=v)(h:R (.iface s v) w):Z P f ⟨d,.makeInterface s x,T,pos,eO,eV⟩ w R:=by
 refine iv (v:=.iface s v) (w':=w) ?_ h;simp[execOp,a,run_makeInterface,JW ep]
end
def zd(v:Value)(n:Nat):Prop:=(v= .slice none 0 0/\n=0)∨∃g cap,v= .slice (some ⟨g,0,none⟩) n cap/\n<=cap/\cap<=maxLen
theorem zd.JY(h:zd v n):∃a n c,v= .slice a n c:=by
 rcases h with⟨rfl,_⟩|⟨g,c,rfl,_⟩<;>exact⟨_,_,_,rfl⟩
theorem zd.JB(h:zd v n)(eo:Nat):nT v 0 n (s1 v) eo=v:=by
 rcases h with⟨rfl,rfl⟩|⟨g,c,rfl,G,Y⟩
 .simp[nT,s1]
 by_cases a:c=0<;>simp[nT,s1,a]
section
variable{α:Type}[O α]{w w0:World}{S:List eL}
theorem dt.shape{v:Value}{e:TypeId}{xs:List α}(h:dt w v e xs):zd v xs.length:=by
 rcases h with⟨rfl,rfl⟩|⟨g,cap,i9,rfl,_,G,Y,_⟩
 .exact .inl ⟨rfl,rfl⟩
 exact .inr ⟨g,cap,rfl,G,Y⟩
theorem U.Px{v:Value}{ek:TypeId}{xs:List α}{k m:Nat}{tg:List eL}(E:U w0 S w)(e:k<=xs.length)(th:k<=m)(a:m<=s1 v)(d:iD (B v ek xs) (B (nT v 0 k m (O.eo α)) ek (xs.take k)) S tg):U w0 tg w:=by
 have e1:=E.ue d.kR;refine lk ⟨rfl,rfl,rfl,Nat.le_refl _,λ_ _ _=>rfl⟩ ?_ ?_ E d
 .rw[dv];have eM:(xs.take k).length=k:=by simp;omega
  rcases e1 with⟨rfl,rfl⟩|⟨g,cap,i9,rfl,f,G,Y,ez,e6⟩
  .simp only[s1]at a;obtain rfl:m=0:=by omega
   obtain rfl:k=0:=by omega
   exact .inl ⟨by simp[nT],by simp⟩
  simp only[s1]at a;refine .inr ⟨g,m,i9,?_,f,by omega,by omega,Nat.le_trans (Nat.mul_le_mul_right _ a) ez,?_⟩
  .by_cases b:m=0<;>simp[nT,b,eM]
  rw[eM,IR,<-e6,List.take_take,Nat.min_eq_left (Nat.mul_le_mul_right _ e)]
 rw[db,db];intro uI c;refine .inl ?_;rcases e1 with⟨rfl,rfl⟩|⟨g,cap,i9,rfl,_⟩
 .simp[nT,Value.ownBlock]at c
 by_cases b:m=0<;>simp[nT,b,Value.ownBlock]at c⊢<;>exact c
theorem ev.u9{v:Value}{xs:List α}(h:ev w v xs):∃s:eu,v=s.v:=by
 obtain⟨a,c,h⟩:=h.eq;exact⟨⟨a,xs.length,c⟩,h⟩
end
end
section
variable{n l sr b:Nat}{D:List Deferred}{a:Act}{f:tr}{P:Program}{w A tS w0 W:World}{R:Value->World->Prop}{T:TypeId}{c:Array Value}
structure sK(n:Nat)(D:List Deferred)(a:Act)(f:tr):Prop where
 defers:a.defers=D
 size:a.tmps.size=n
 aQ:∀i,a.tmps.getD i undef=f i
theorem sK.Nm(h:sK n D a f):sa n {a with defers:=[]} f:=⟨rfl,h.size,h.aQ⟩
theorem sK.eval(h:sK n D a f):a.eval=eC f:=by
 have Y:=h.Nm.eval;exact Y
theorem sK.put(h:sK n D a f){dst:Option Tmp}(hd:∀d,dst=some d->d<n)(v:Value):sK n D (a.put dst v) (dB f dst v):=by
 have Y:=h.Nm.put hd v;cases dst with
 |none=>exact⟨h.defers,Y.size,Y.aQ⟩
 |some d=>exact⟨h.defers,Y.size,Y.aQ⟩
theorem sa.Pj(h:sa n a f):sK n [] a f:=⟨h.defers,h.size,h.aQ⟩
theorem sK.nil(h:sK n [] a f):sa n a f:=⟨h.defers,h.size,h.aQ⟩
@[irreducible] def opI (P:Program) (f:tr) (o:Oper) (w:World) (R:Value->World->Prop):Prop:=
 match(execOp (eC f) o).run P w with
 | .ok (.value v) w'=>R v w'
 | .ok .skip w'=>R undef w'
 | .ok (.enter g args) w'=>Calls P g args w' λe hl=>∃v,e= .returned v/\R v hl
 | .ok (.round l fn tmps assign body) w'=>RoundIn Fence.wide 0 P l fn tmps assign body w' λe hl=>∃v,e= .returned v/\R v hl
 |_=>False
theorem Z.opI{o:Oper}(h:Z P f o w R):opI P f o w R:=by
 unfold Z at h;unfold Fer.opI;generalize(execOp (eC f) o).run P w=r at*;cases r with
 |ok x w'=>cases x<;>first|exact h|exact(h:False).elim
 |halt x w'=>exact(h:False).elim
theorem opI.yield{d:Option Tmp}{pos:String}{eO:Array Edge}{eV:Option (Nat×Bool)}{x y:Operand}{nN:Array TypeId}{u:Value}{R':World->Prop}
 (a:eC f x= .func (.yield l) #[] #[]) (b:eC f y=u) (c:YieldAt Fence.wide 0 P l #[u] w λe w'=>e= .returned (.bool true)/\R' w') (h:∀w',R' w'->R (.bool true) w'):
 opI P f ⟨d,.call {callee:=.value x,args:=#[y],argTypes:=nN},T,pos,eO,eV⟩ w R:=by
 obtain⟨fn,tmps,assign,body,g,i⟩:=c;have j:(execOp (eC f) ⟨d,.call {callee:=.value x,args:=#[y],argTypes:=nN},T,pos,eO,eV⟩).run P w= .ok (.round l fn tmps assign body) w:=by
  have k:(#[y].map (eC f))=#[u]:=by simp[b]
  simp only[execOp,resolve,a,Deferred.ofValue,Sem.run_bind,Sem.run_pure,Result.andThen_ok,Go.invoke,k];exact g
 unfold opI;rw[j];exact i.mono λe w'⟨m,n⟩=>⟨_,m,h _ n⟩
abbrev pX(r:Option Nat):Fence:={Fence.wide with round:=r}
@[irreducible] def oN (r:Option Nat) (m:Nat) (P:Program) (n:Nat) (ops:Array Oper) (D:List Deferred) (Q:Exit->tr->World->Prop) (is:List Nat) (f:tr) (w:World):Prop:=
 ∀a,sK n D a f->wpOpsIn (pX r) m P ops (λe tm w'=>∃an,sK n D tm an/\Q e an w') is a w
section
variable{r:Option Nat}{m:Nat}{P:Program}{n:Nat}{ops:Array Oper}{D:List Deferred}{Q:Exit->tr->World->Prop}{is:List Nat}{f:tr}{w:World}
theorem oN.nil(h:Q .normal f w):oN r m P n ops D Q [] f w:=by
 unfold oN;exactλa ep=>⟨f,ep,h⟩
theorem oN.cons{i:Nat}{o:Oper}(e1:ops[i]? =some o)(j:o.guard=none)(hd:∀x,o.dst=some x->x<n)(k:∀c,o.op≠ .defer c)(h:opI P f o w (λv w'=>oN r m P n ops D Q is (dB f o.dst v) w')):
 oN r m P n ops D Q (i::is) f w:=by
 unfold oN;intro a ep;unfold wpOpsIn;simp only[e1];have p:Region.wanted o (yielded ops a.tmps)=true:=by unfold Region.wanted;rw[j]
 rw[if_pos p];refine⟨λ_ _=>trivial,?_⟩;rw[Oper.semAt_eq _ _ _ k,ep.eval];unfold opI at h;generalize(execOp (eC f) o).run P w=q at*;have go:∀v w',oN r m P n ops D Q is (dB f o.dst v) w'->wpOpsIn (pX r) m P ops (λe tm w'=>∃an,sK n D tm an/\Q e an w') is (a.put o.dst v) w':=by
  intro v w' tC;unfold oN at tC;exact tC _ (ep.put hd v)
 cases q with
 |halt x w'=>exact(h:False).elim
 |ok x w'=>
  cases x with
  |value v=>exact go _ _ h
  |skip=>exact go _ _ h
  |enter g args=>
   refine⟨λb=>by simp[pX,Fence.wide]at b,?_⟩;have Y:CallsIn Fence.wide (m-1) P g args w' _:=callsIn_wide.2 h;exact CallsIn.mono (F:=pX r) Y λe s⟨v,d,tC⟩=>by subst d;exact go _ _ tC
  |round l fn tmps assign body=>
   refine⟨λb=>by simp[pX,Fence.wide]at b,?_⟩;have Y:RoundIn (pX r) (m-1) P l fn tmps assign body w' _:=⟨trivial,λc cs _=>h.2 c cs (room_wide _)⟩;exact Y.mono λe s⟨v,d,tC⟩=>by subst d;exact go _ _ tC
  |_=>exact(h:False).elim
theorem oN.op{i d:Nat}{op:Op}{T:TypeId}{pos:String}{eO:Array Edge}(e1:ops[i]? =some ⟨some d,op,T,pos,eO,none⟩)(hd:Nat.blt d n=true)(a:∀c,op≠ .defer c)
 (h:opI P f ⟨some d,op,T,pos,eO,none⟩ w (λv w'=>oN r m P n ops D Q is (o2 f d v) w')):oN r m P n ops D Q (i::is) f w:=
 oN.cons e1 rfl (by intro x b;cases b;simpa using hd) a h
theorem jx{i:Nat}{op:Op}{T:TypeId}{pos:String}{eO:Array Edge}(e1:ops[i]? =some ⟨none,op,T,pos,eO,none⟩)(a:∀c,op≠ .defer c)
 (h:opI P f ⟨none,op,T,pos,eO,none⟩ w (λ_ w'=>oN r m P n ops D Q is f w')):oN r m P n ops D Q (i::is) f w:=
 oN.cons e1 rfl (by intro x b;cases b) a h
theorem zc{id:Nat}(h:oN none 0 P n ops [] Q (List.range ops.size) f w):ex P n (.region id ops false) Q f w:=by
 unfold ex;unfold oN at h;intro a ep;refine(wpIn_wide (n:=0)).1 (wpIn_mono (wpIn_region (h a ep.Pj)) ?_);rintro e tm w' ⟨an,b,c⟩;exact⟨an,b.nil,c⟩
end
structure cU(sr b:Nat)(A tS:World):Prop where
 os:tS.os=A.os
 tape:tS.tape=A.tape
 output:tS.output=A.output
 size:A.heap.size<=tS.heap.size
 block:∀k,k<sr->k≠b->tS.heap[k]? =A.heap[k]?
theorem cU.trans{C:World}(h:cU sr b A tS)(k:cU sr b tS C):cU sr b A C:=
 ⟨k.os.trans h.os,k.tape.trans h.tape,k.output.trans h.output,Nat.le_trans h.size k.size,λi ey a=>(k.block i ey a).trans (h.block i ey a)⟩
theorem JV(h:eB A tS)(a:sr<=A.heap.size):cU sr b A tS:=⟨h.os,h.tape,h.output,h.size,λk c _=>h.block k (Nat.lt_of_lt_of_le c a)⟩
theorem cU.putObj(A:World)(o:Obj)(eM:sr<=l):cU sr b A (A.putObj l o):=⟨rfl,rfl,rfl,by simp,λk a _=>World.putObj_heap_other (by omega)⟩
theorem Pq(h:eB A tS):A.grownBy tS none:=⟨h.os,h.tape,h.output,h.size,λk a _=>h.block k a⟩
theorem cU.ei(h:eB w0 A)(a:cU sr b A tS)(d:w0.heap.size<=sr)(e:w0.heap.size<=b):eB w0 tS:=
 ⟨a.os.trans h.os,a.tape.trans h.tape,a.output.trans h.output,Nat.le_trans h.size a.size,λk c=>(a.block k (by omega) (by omega)).trans (h.block k c)⟩
theorem JK{en W0 W1 f:World}{ht:List eL}(d:U en (V b c T::ht) W0)(E:U en ht W1)(g:cU W0.heap.size b W1 f):U en ht f:=by
 have i:=((d.all _ (List.mem_cons_self)).2 b (by unfold V;rfl));refine⟨cU.ei E.J g d.J.size i.1,E.yn,λe h=>?_⟩;have G:=d.all e (List.mem_cons_of_mem _ h);have Y:=E.all e h;have j:∀k,e.F k->k≠b:=by
  intro k a l;subst l;exact(List.pairwise_cons.1 d.yn).1 e h k (by unfold V;rfl) a
 refine⟨e.eQ W1 f (λk a=>g.block k (G.2 k a).2 (j k a)) Y.1,λk a=>⟨(G.2 k a).1,?_⟩⟩;exact Nat.lt_of_lt_of_le (Y.2 k a).2 g.size
def Pz{α:Type}(P:Program)(rn:Nat)(oS:List Value)(enc:α->Value)(xs:List α)(sr b:Nat)(w:World):Prop:=
 ∀(l:Nat)(rK:Nat->World->Prop)(W:World),eB w W->(∀k A tS,rK k A->eB A tS->rK k tS) ->
  (∀k(eh:k<xs.length) W1,rK k W1->YieldAt Fence.wide 0 P l #[enc (xs[k]'eh)] W1 λe np=>e= .returned (.bool true)/\rK (k+1) np/\cU sr b W1 np) ->
  rK 0 W->nk P rn (.func (.yield l) #[] #[]::oS).toArray W λ_ np=>rK xs.length np
@[irreducible] def lq (P:Program) (n:Nat) (c:Code) (D:List Deferred) (Q:Exit->Act->World->Prop) (f:tr) (w:World):Prop:=
 ∀a,sK n D a f->c.wpIn Fence.wide 2 P Q a w
section
variable{P:Program}{n:Nat}{D:List Deferred}{Q:Exit->Act->World->Prop}{f:tr}{w:World}
theorem Nf{id:Nat}{ops:Array Oper}{nr:Code}(h:oN none 2 P n ops D (λe an w'=>e= .normal/\lq P n nr D Q an w') (List.range ops.size) f w):lq P n (.seq (.region id ops false) nr) D Q f w:=by
 unfold lq;unfold oN at h;intro a ep;refine wpIn_seq (wpIn_mono (wpIn_region (h a ep)) ?_);rintro e tm w' ⟨an,c,rfl,b⟩;unfold lq at b;exact b tm c
theorem lq.run{c:Code}{a:Act}(h:lq P n c D Q f w)(ep:sK n D a f):c.wpIn Fence.wide 2 P Q a w:=by
 unfold lq at h;exact h a ep
theorem lq.seq{n3 nr:Code}(h:lq P n n3 D (Exit.then (nr.wpIn Fence.wide 2 P Q) Q) f w):lq P n (.seq n3 nr) D Q f w:=by
 unfold lq;exactλa ep=>wpIn_seq (h.run ep)
theorem lq.ret(h:∀a,sK n D a f->Q .ret a w):lq P n .ret D Q f w:=by
 unfold lq;exactλa ep=>wpIn_ret (h a ep)
theorem lq.range{α:Type}{xs:List α}{enc:α->Value}{g:Operand}{p rR u y z:Nat}{i j:Array Oper}{rn:Nat}[T:dy P rn]{oS:List Value}{b:Nat}
 (U:eC f g= .func (.func rn) #[] oS.toArray) (V:Nat.blt p n=true) (X:Pz P rn oS enc xs w.heap.size b w)
 (I:Nat->World->Prop) (q:Nat)
 (m:∀k A tS row,I k A->A.grownBy tS row->(∀r,row=some r->w.heap.size<=r/\∃o:Obj,A.heap[r]? =some o/\o.isCells=false) ->I k tS)
 (em:I 0 w)
 (Z:∀(l:Nat)(x:α)(W:World),oN (some l) 0 P n i [] (λe an s=>e= .normal/\an=o2 (o2 f p (enc x)) q (enc x)/\s=W) (List.range i.size) (o2 f p (enc x)) W)
 (jj:∀(l k:Nat)(c:k<xs.length)(W:World),I k W->oN (some l) 0 P n j [] (λe _ s=>e= .normal/\KeepsOthers W s/\cU w.heap.size b W s/\I (k+1) s) (List.range j.size) (o2 (o2 f p (enc (xs[k]'c))) q (enc (xs[k]'c))) W)
 (pd:∀(d:Nat)(W:World),I xs.length W->W.heap[d]? =some (.deferred (some [])) ->w.heap.size<=d->∀a,sK n ({target:=.collected d,args:=#[]}::D) a f->Q .normal a W):
 lq P n (.block rR (.rangeFunc g #[p] (.region z i false) (.block u (.region y j false)))) D Q f w:=by
 unfold lq;intro a ep;refine wpIn_block (wpIn_rangeFunc ?_);intro fn zm;obtain⟨rec,h⟩:∃rec:LoopState->Loop,rec=λeQ=>{state:=eQ,pending:=none,fn,tmps:=a.tmps,params:=#[p],assign:=(.region z i false),body:=(.block u (.region y j false)),defers:=w.heap.size}:=⟨_,rfl⟩;obtain⟨L,H⟩:∃L,L=w.heap.size+1:=⟨_,rfl⟩;obtain⟨W1,t⟩:∃W1,(w.alloc (.deferred (some []))).alloc (.loop (rec .ready))=W1:=⟨_,rfl⟩;have J:eB w W1:=by rw[<-t];exact(eB.alloc w _).trans (eB.alloc _ _)
 have JJ:W1.heap[L]? =some (.loop (rec .ready)):=by
  rw[<-t,H];have:=World.alloc_heap_new (w.alloc (.deferred (some []))) (.loop (rec .ready));rwa[World.size_alloc]at this
 have JQ:W1.heap[w.heap.size]? =some (.deferred (some [])):=by
  rw[<-t];exact(Below.heap_alloc _ _ _ (by simp)).trans (World.alloc_heap_new w _)
 refine⟨L,[{target:=.collected w.heap.size,args:=#[]}],W1,{target:=.fn (.func rn) oS.toArray,args:=#[.func (.yield L) #[] #[]]},W1,rn,#[.func (.yield L) #[] #[]]++oS.toArray,W1,?_,?_,λ_ _=>trivial,?_,λ_=>by omega,?_⟩
 .rw[<-t,h,H];exact run_enterLoop_outer _ _ _ _ _
 .have eR:=ep.eval;simp only[resolve,rangeCall,eR,U];simp[go_sem];rfl
 .simp[invoke,go_sem,gI T]
 have K:=X L (λk W=>I k W/\W.heap[L]? =some (.loop (rec .ready))/\W.heap[w.heap.size]? =some (.deferred (some []))) W1 J
  (λk A tS⟨G,Y,ez⟩ B=>⟨m k A tS none G (Pq B) (λr e=>by cases e),B.get Y,B.get ez⟩)
  (by
   rintro k c W ⟨ey,eM,hd⟩;have M:L<W.heap.size:=(Array.getElem?_eq_some_iff.1 eM).1;have td:(Instr.yield L #[enc (xs[k]'c)]).run P W= .ok (.round L fn (a.tmps.setIfInBounds p (enc (xs[k]'c))) (.region z i false) (.block u (.region y j false))) W:=by
    have G:=run_yield (P:=P) (args:=#[enc (xs[k]'c)]) eM (by rw[h];rfl);rw[h]at G;simpa using G
   refine⟨fn,_,_,_,td,roundIn_of_wpIn (F:=Fence.wide) trivial ?_⟩;have bm:sK n [] {tmps:=a.tmps.setIfInBounds p (enc (xs[k]'c)),defers:=[]} (o2 f p (enc (xs[k]'c))):=by
    have G:sK n [] {a with defers:=[]} f:=⟨rfl,ep.size,ep.aQ⟩;exact G.put (dst:=some p) (by intro d hd;cases hd;simpa using V) _
   have N:=Z L (xs[k]'c) W;unfold oN at N;refine wpIn_mono (wpIn_region (N _ bm)) ?_;rintro e dD aM ⟨f1,a8,rfl,rfl,iS⟩;have uN:=iS.symm;subst uN;have lx:(W.putObj L (.loop {rec .ready with state:=.busy})).heap[L]? =some (.loop {rec .ready with state:=.busy}):=World.putObj_heap_same M;have bf:(W.putObj L (.loop {rec .ready with state:=.busy})).heap[w.heap.size]? =some (.deferred (some [])):=(World.putObj_heap_other (by omega)).trans hd;have Np:I k (W.putObj L (.loop {rec .ready with state:=.busy})):=m k W _ (some L) ey (grownBy_putObj' W L _) (λr e=>by cases e;exact⟨by omega,_,eM,rfl⟩);refine⟨_,run_beginRound eM (by rw[h]),?_⟩;have O:=jj L k c _ Np;unfold oN at O;refine wpIn_block (wpIn_mono (wpIn_region (O _ a8)) ?_);rintro e dh C ⟨f2,nv,rfl,R,bp,JZ⟩;have E:=R.same _ _ lx rfl;have wA:=R.same _ _ bf rfl;have J0:=(Array.getElem?_eq_some_iff.1 E).1;have dX:=run_endRound (P:=P) none E;refine⟨_,_,dX,rfl,⟨m _ C _ (some L) JZ (grownBy_putObj' C L _) (λr e=>by cases e;exact⟨by omega,_,E,rfl⟩),?_,(World.putObj_heap_other (by omega)).trans wA⟩,?_⟩
   .rw[World.putObj_heap_same J0,h];rfl
   exact((cU.putObj W _ (by omega)).trans bp).trans (cU.putObj C _ (by omega)))
  ⟨m 0 w W1 none em (Pq J) (λr e=>by cases e),JJ,JQ⟩
 unfold nk at K;have Ad:CallsIn Fence.wide 1 P rn (#[.func (.yield L) #[] #[]]++oS.toArray) W1 _:=callsIn_wide.2 (by
  have aA:(#[.func (.yield L) #[] #[]]++oS.toArray:Array Value)=(.func (.yield L) #[] #[]::oS).toArray:=by apply Array.ext';simp
  rw[aA];exact K)
 refine CallsIn.mono Ad ?_;rintro e W2 ⟨v,rfl,ey,eM,hd⟩;have M:=(Array.getElem?_eq_some_iff.1 eM).1;have dX:=run_endLoop (P:=P) eM (by rw[h];simp);rw[h]at dX;refine⟨none,_,dX,?_⟩;have S:=pd w.heap.size _ (m _ W2 (W2.putObj L (.loop {rec .ready with state:=.exhausted})) (some L) ey (grownBy_putObj' W2 L _) (λr e=>by cases e;exact⟨by omega,_,eM,rfl⟩)) ((World.putObj_heap_other (by omega)).trans hd) (Nat.le_refl _);rw[h]at S;exact S _ ⟨by rw[<-ep.defers];rfl,ep.size,ep.aQ⟩
theorem PO{g:FuncId}{fn:Func}{c:Code}{args:List Value}{R:Value->World->Prop}
 (a:P.funcs[g]? =some fn) (b:fn.body=some c) (d:fn.ntmps=n) (f:Nat.ble args.length n=true)
 (h:lq P n c [] (bodyPostM Fence.wide 2 P fn (λe w'=>∃v,e= .returned v/\R v w')) (mq args) w):nk P g args.toArray w R:=by
 unfold nk;refine(callsIn_wide (n:=2)).1 (callsIn_of_wp_marks a b trivial ?_ rfl);unfold lq at h;have j:args.length<=n:=by simpa using f
 refine h _ ⟨rfl,by simp[d];omega,λi=>?_⟩;simp only[mq,Array.getD_eq_getD_getElem?,Array.getElem?_append,List.size_toArray];split
 .simp
 rename_i ey;have:args[i]? =none:=List.getElem?_eq_none (by omega);simp only[this,Option.getD_none,Array.getElem?_replicate];split<;>rfl
theorem J1{fn:Func}{R:Value->World->Prop}{a:Act}{d:Nat}{aw:List ResultVar}{vs:List Value}(ep:sK n [{target:=.collected d,args:=#[]}] a f)(hd:w.heap[d]? =some (.deferred (some [])))(b:fn.results=aw.toArray)
 (tC:hY P f (w.putObj d (.deferred none)) aw vs) (c:R (u0 vs) (w.putObj d (.deferred none))):bodyPostM Fence.wide 2 P fn (λe w'=>∃v,e= .returned v/\R v w') .ret a w:=by
 have g:fn.results.toList=aw:=by rw[b]
 subst g;show LeavesInM _ _ _ _ _ _ a.defers _ _;rw[ep.defers];exact⟨by simp,.inl ⟨_,_,rfl,run_takeDeferred hd,_,hY.run (a:={a with defers:=[]}) ep.Nm tC,_,rfl,c⟩⟩
end
theorem J2(h:eB A tS):KeepsOthers A tS:=⟨h.size,λk o a _=>h.get a⟩
theorem eB.putObj{d:Nat}{o:Obj}(h:eB w0 W)(hd:w0.heap.size<=d):eB w0 (W.putObj d o):=
 ⟨h.os,h.tape,h.output,Nat.le_trans h.size (by simp),λk a=>(World.putObj_heap_other (by omega)).trans (h.block k a)⟩
theorem J3{k:Nat}(d:(V b c T).A W)(a:(V b c T).F k):∃o:Obj,W.heap[k]? =some o/\o.isCells=true:=by
 unfold V at d a;have a:k=b:=a;subst a;exact⟨_,d,rfl⟩
theorem U.J4{S:List eL}{row:Option Nat}(h:U w0 S A)(a:A.grownBy tS row)(l:∀r,row=some r->w.heap.size<=r/\∃o:Obj,A.heap[r]? =some o/\o.isCells=false)(q:w0.heap.size<=w.heap.size)
 (m:∀e∈S,∃b c T,e=V b c T):U w0 S tS:=by
 have key:∀k o,A.heap[k]? =some o->(k<w0.heap.size∨o.isCells=true) ->tS.heap[k]? =A.heap[k]? :=by
  intro k o d Y;refine a.block k (Array.getElem?_eq_some_iff.1 d).1 ?_;intro e;obtain⟨ez,s,g,i⟩:=l k e.symm;rcases Y with Y|Y
  .omega
  rw[d]at g;cases g;rw[Y]at i;cases i
 refine⟨⟨a.os.trans h.J.os,a.tape.trans h.J.tape,a.output.trans h.J.output,Nat.le_trans h.J.size a.size,λk d=>?_⟩,h.yn,λe j=>?_⟩
 .have n:k<A.heap.size:=Nat.lt_of_lt_of_le d h.J.size;exact(key k _ (Array.getElem?_eq_getElem n) (.inl d)).trans (h.J.block k d)
 have G:=h.all e j;refine⟨e.eQ A tS (λk f=>?_) G.1,λk f=>⟨(G.2 k f).1,Nat.lt_of_lt_of_le (G.2 k f).2 a.size⟩⟩;obtain⟨b,c,T,rfl⟩:=m e j;obtain⟨o,e1,p⟩:=J3 G.1 f;exact key k o e1 (.inr p)
section
variable{P:Program}{f:tr}{w:World}{R:Value->World->Prop}{d:Option Tmp}{T:TypeId}{pos:String}{eO:Array Edge}{eV:Option (Nat×Bool)}
theorem J5{ek c b:Nat}[m:nh P ek 1]{x y:Operand}{u v:Value}{w0:World}{S:List eL}(E:U w0 S w)(n:eC f x= .pointer (some ⟨b,0,none⟩))(p:eC f y=v)(g:v.cells=#[v])(G:v.oneCell'=true)(q:tX (V b #[u] c) S)
 (h:∀w',(∀tg,iD (V b #[u] c) (V b #[v] c) S tg->U w0 tg w') ->(∀sr,cU sr b w w') ->KeepsOthers w w'->R undef w'):Z P f ⟨d,.store ek x y,T,pos,eO,eV⟩ w R:=by
 have i:=E.dV q;have j:=IP (P:=P) m i 0 v (by rw[g];rfl) (by simp) (by rw[g];intro u l;simp at l;subst l;exact G);have r:((#[u]:Array Value).toList.take 0++v.cells.toList++(#[u]:Array Value).toList.drop (0+v.cells.toList.length)).toArray=#[v]:=by rw[g];rfl
 rw[r]at j;refine qX (w':=w.setRow b #[v]) ?_ (h _ (λtg s=>lk ?_ ?_ ?_ E s) (λsr=>⟨rfl,rfl,rfl,by simp[World.setRow],λk _ a=>setRow_other w b k _ a⟩) ⟨by simp[World.setRow],λk o a e1=>?_⟩)
 .simp[execOp,Instr.storeAt,n,p,Instr.sureAddr,j]
 .unfold V;exact⟨rfl,rfl,rfl,by simp[World.setRow],λk _ a=>setRow_other w b k _ a⟩
 .unfold V;exact setRow_heap w b _ _ c _ i
 .unfold V;intro k a;exact .inl a
 by_cases e:k=b
 .subst e;rw[i]at a;cases a;cases e1
 exact(setRow_other w b k _ e).trans a
end
end
section
variable{o:Oper}
@[irreducible] def lp (l:Nat) (o:Obj):eL:=⟨λk=>k=l,λw=>w.heap[l]? =some o,λw w' h ra=>(h l rfl).trans ra⟩
theorem Ng(l:Nat)(o:Obj):(lp l o).F=λk=>k=l:=by unfold lp;rfl
theorem Lx(l:Nat)(o:Obj):(lp l o).A=λw=>w.heap[l]? =some o:=by unfold lp;rfl
section
variable{w0 w:World}{S tg:List eL}
theorem U.Nw{l:Nat}{o:Obj}(h:U w0 S w)(a:tX (lp l o) S):w.heap[l]? =some o:=by have:=h.get a;rw[Lx]at this;exact this
theorem U.Ny(h:U w0 S w)(o:Obj):U w0 (lp w.heap.size o::S) (w.alloc o):=
 h.new (eB.alloc w _) (by rw[Lx];exact heap_alloc_new w _) (by rw[Ng];intro k a;have a:k=w.heap.size:=a;subst a;exact⟨Nat.le_refl _,by simp⟩)
theorem U.Lj{l:Nat}{o:Obj}(a:Obj)(h:U w0 S w)(c:iD (lp l o) (lp l a) S tg):U w0 tg (w.putObj l a):=by
 have eM:=h.Nw c.kR;have f:=(Array.getElem?_eq_some_iff.1 eM).1;have g:qK (lp l o).F w (w.putObj l a):=⟨rfl,rfl,rfl,by simp,λk d b=>by
  rw[Ng]at b;have b:k≠l:=b;exact World.putObj_heap_other (by omega)⟩
 refine lk (w:=w) (w':=w.putObj l a) (e:=lp l o) (oZ:=lp l a) g ?_ ?_ h c
 .rw[Lx];exact World.putObj_heap_same f
 rw[Ng,Ng];exactλk d=>.inl d
end
@[irreducible] def ng (l:Nat) (P:Program) (n:Nat) (c:Code) (Q:Exit->tr->World->Prop) (f:tr) (w:World):Prop:=
 ∀a,sK n [] a f->c.wpIn (pX (some l)) 0 P (λe tm w'=>∃an,sK n [] tm an/\Q e an w') a w
section
variable{l:Nat}{P:Program}{n:Nat}{Q:Exit->tr->World->Prop}{f:tr}{w:World}
theorem ng.run{c:Code}{a:Act}(h:ng l P n c Q f w)(ep:sK n [] a f):c.wpIn (pX (some l)) 0 P (λe tm w'=>∃an,sK n [] tm an/\Q e an w') a w:=by
 unfold ng at h;exact h a ep
theorem ng.region{id:Nat}{ops:Array Oper}(h:oN (some l) 0 P n ops [] Q (List.range ops.size) f w):ng l P n (.region id ops false) Q f w:=by
 unfold ng;unfold oN at h;exactλa ep=>wpIn_region (h a ep)
theorem ng.seq{n3 nr:Code}(h:ng l P n n3 (λe an w'=>match e with| .normal=>ng l P n nr Q an w'|e=>Q e an w') f w):ng l P n (.seq n3 nr) Q f w:=by
 unfold ng;intro a ep;refine wpIn_seq (wpIn_mono (h.run ep) ?_);rintro e tm w' ⟨an,b,c⟩;cases e<;>first|exact ng.run c b|exact⟨an,b,c⟩
theorem ng.cond{c:Operand}{x y:Code}(b:Bool)(d:eC f c= .bool b)(e:b=true->ng l P n x Q f w)(g:b=false->ng l P n y Q f w):ng l P n (.cond c x y) Q f w:=by
 unfold ng;intro a ep;refine wpIn_cond (t:=b) (by rw[ep.eval];exact d) ?_;cases b
 .exact(g rfl).run ep
 exact(e rfl).run ep
theorem ng.skip(h:Q .normal f w):ng l P n .skip Q f w:=by unfold ng;exactλa ep=>wpIn_skip ⟨f,ep,h⟩
theorem ng.block{id:Nat}{c:Code}(h:ng l P n c (λe an w'=>match e with| .exit i=>if i=id then Q .normal an w' else Q (.exit i) an w'|e=>Q e an w') f w):ng l P n (.block id c) Q f w:=by
 unfold ng;intro a ep;refine wpIn_block (wpIn_mono (h.run ep) ?_);rintro e tm w' ⟨an,d,b⟩;cases e with
 |exit i=>
  show Exit.inBlock id _ (.exit i) tm w';have b:if i=id then Q .normal an w' else Q (.exit i) an w':=b
  simp only[Exit.inBlock];by_cases ey:i=id
  .rw[if_pos ey]at b;simp only[ey,if_true];exact⟨an,d,b⟩
  rw[if_neg ey]at b;simp only[ey,if_false];exact⟨an,d,b⟩
 |_=>exact⟨an,d,b⟩
end
section
variable{P:Program}{n:Nat}{D:List Deferred}{Q:Exit->Act->World->Prop}{f:tr}{w:World}
theorem J6{oh σ ρ:Type}{g:Operand}{p q rR:Nat}{cM cb:Code}{rn:Nat}[ig:dy P rn]{oS:List Value}{en:World}{ht:List eL}
 (wO:oh->Prop) (ek:oh->List eL) (u v:oh->Value) (K:oh->σ->Prop) (eH:σ->List eL) (M:oh->ρ->Prop) (k:ρ->List eL) (Fin:σ->Prop) (Stop:ρ->Prop)
 (tP:eC f g= .func (.func rn) #[] oS.toArray) (e0:Nat.blt p n=true) (oo:Nat.blt q n=true) (E:U en ht w)
 (rS:∀(l:Nat)(X N:List eL)(W:World),U en (X++ht) W->
  (∀t W1,wO t->U en (X++ek t) W1->YieldAt Fence.wide 0 P l #[u t,v t] W1 λe i=>(e= .returned (.bool true)/\∃s,K t s/\U en (X++eH s) i)∨(e= .returned (.bool false)/\∃r,M t r/\U en (N++k r) i)) ->
  nk P rn (.func (.yield l) #[] #[]::oS).toArray W λ_ i=>(∃s,Fin s/\U en (X++eH s) i)∨(∃r,Stop r/\U en (N++k r) i))
 (jj:∀(l:Nat)(X:List eL)(t:oh)(W:World),wO t->U en (X++ek t) W->
  ng l P n cM (λe an i=>e= .normal/\∃A,U en (X++A) i/\∀C W2,U en (C++A) W2->
   ng l P n cb (λe _ O=>(e= .normal/\∃s,K t s/\U en (C++eH s) O)∨(e= .exit rR/\∃r,M t r/\U en (C++k r) O)) an W2) (o2 (o2 f p (u t)) q (v t)) W)
 (pd:∀(d:Nat)(W:World)(s:σ),Fin s->U en (lp d (.deferred (some []))::eH s) W->∀a,sK n ({target:=.collected d,args:=#[]}::D) a f->Q .normal a W)
 (Lq:∀(d:Nat)(W:World)(r:ρ),Stop r->U en (lp d (.deferred (some []))::k r) W->∀a,sK n ({target:=.collected d,args:=#[]}::D) a f->Q .normal a W):
 lq P n (.block rR (.rangeFunc g #[p,q] cM cb)) D Q f w:=by
 unfold lq;intro a ep;refine wpIn_block (wpIn_rangeFunc ?_);intro fn zm;obtain⟨rec,b⟩:∃rec:LoopState->Option Code->Loop,rec=λeQ s3=>{state:=eQ,pending:=s3,fn,tmps:=a.tmps,params:=#[p,q],assign:=cM,body:=cb,defers:=w.heap.size}:=⟨_,rfl⟩;obtain⟨L,R⟩:∃L,L=w.heap.size+1:=⟨_,rfl⟩;obtain⟨d,hd⟩:∃d,d=w.heap.size:=⟨_,rfl⟩;obtain⟨X,B⟩:∃X:LoopState->Option Code->List eL,X=λeQ s3=>[lp L (.loop (rec eQ s3)),lp d (.deferred (some []))]:=⟨_,rfl⟩;have j:∀{eQ s3 S W},U en (X eQ s3++S) W->W.heap[L]? =some (.loop (rec eQ s3)):=by
  intro eQ s3 S W h;rw[B]at h;exact h.Nw (S:=lp L (.loop (rec eQ s3))::_) .nU
 have m:∀{eQ s3 S W}(H I),U en (X eQ s3++S) W->U en (X H I++S) (W.putObj L (.loop (rec H I))):=by
  intro eQ s3 S W H I h;rw[B]at h⊢;exact U.Lj (o:=.loop (rec eQ s3)) _ h .nU
 have T:∀{eQ s3 S W},U en (X eQ s3++S) W->U en (lp d (.deferred (some []))::S) W:=by
  intro eQ s3 S W h;rw[B]at h;exact h.sub (List.sublist_cons_self _ _)
 obtain⟨W1,V⟩:∃W1,(w.alloc (.deferred (some []))).alloc (.loop (rec .ready none))=W1:=⟨_,rfl⟩;have tI:U en (X .ready none++ht) W1:=by
  rw[<-V,B,R,hd];have h:=(E.Ny (.deferred (some []))).Ny (.loop (rec .ready none));rw[World.size_alloc]at h;exact h
 refine⟨L,[{target:=.collected w.heap.size,args:=#[]}],W1,{target:=.fn (.func rn) oS.toArray,args:=#[.func (.yield L) #[] #[]]},W1,rn,#[.func (.yield L) #[] #[]]++oS.toArray,W1,?_,?_,λ_ _=>trivial,?_,λ_=>by omega,?_⟩
 .rw[<-V,b,R];exact run_enterLoop_outer _ _ _ _ _
 .have eR:=ep.eval;simp only[resolve,rangeCall,eR,tP];simp[go_sem];rfl
 .simp[invoke,go_sem,gI ig]
 have Z:=rS L (X .ready none) (X .done (some (.exit rR))) W1 tI (λt W td c=>by
  have eM:=j c;have Lz:(Instr.yield L #[u t,v t]).run P W= .ok (.round L fn ((a.tmps.setIfInBounds p (u t)).setIfInBounds q (v t)) cM cb) W:=by
   have G:=run_yield (P:=P) (args:=#[u t,v t]) eM (by rw[b];rfl);rw[b]at G;simpa using G
  refine⟨fn,_,_,_,Lz,roundIn_of_wpIn (F:=Fence.wide) trivial ?_⟩;have bm:sK n [] {tmps:=(a.tmps.setIfInBounds p (u t)).setIfInBounds q (v t),defers:=[]} (o2 (o2 f p (u t)) q (v t)):=by
   have G:sK n [] {a with defers:=[]} f:=⟨rfl,ep.size,ep.aQ⟩;exact(G.put (dst:=some p) (by intro d hd;cases hd;simpa using e0) _).put (dst:=some q) (by intro d hd;cases hd;simpa using oo) _
  refine wpIn_mono ((jj L (X .ready none) t W td c).run bm) ?_;rintro e dD aM ⟨f1,a8,rfl,A,vD,eh⟩;have h8:=j vD;refine⟨_,run_beginRound h8 (by rw[b]),?_⟩;have x:U en (X .busy none++A) (aM.putObj L (.loop {rec .ready none with state:=.busy})):=by
   have Y:=m .busy none vD;rw[b]at Y⊢;exact Y
  refine wpIn_mono ((eh (X .busy none) _ x).run a8) ?_;rintro e dh la ⟨f2,nv,wI⟩;rcases wI with⟨rfl,s,tp,y⟩|⟨rfl,r,er,y⟩
  .refine⟨_,_,run_endRound (P:=P) none (j y),.inl ⟨rfl,s,tp,?_⟩⟩;have Y:=m .ready none y;rw[b]at Y⊢;exact Y
  refine⟨_,_,run_endRound (P:=P) (some (.exit rR)) (j y),.inr ⟨rfl,r,er,?_⟩⟩;have Y:=m .done (some (.exit rR)) y;rw[b]at Y⊢;exact Y)
 unfold nk at Z;have Ad:CallsIn Fence.wide 1 P rn (#[.func (.yield L) #[] #[]]++oS.toArray) W1 _:=callsIn_wide.2 (by
  have aA:(#[.func (.yield L) #[] #[]]++oS.toArray:Array Value)=(.func (.yield L) #[] #[]::oS).toArray:=by apply Array.ext';simp
  rw[aA];exact Z)
 refine CallsIn.mono Ad ?_;rintro e W2 ⟨v,rfl,jc⟩;rcases jc with⟨s,J,c⟩|⟨r,J,c⟩
 .have dX:=run_endLoop (P:=P) (j c) (by rw[b];simp);refine⟨none,_,(by rw[dX,b]),?_⟩;have x:U en (X .exhausted none++eH s) (W2.putObj L (.loop {rec .ready none with state:=.exhausted})):=by
   have Y:=m .exhausted none c;rw[b]at Y⊢;exact Y
  have z:=pd d _ s J (T x) {a with defers:={target:=.collected w.heap.size,args:=#[]}::a.defers} ⟨by rw[<-ep.defers,hd],ep.size,ep.aQ⟩;rw[b]at z;exact z
 have dX:=run_endLoop (P:=P) (j c) (by rw[b];simp);refine⟨some (.exit rR),_,(by rw[dX,b]),?_⟩;refine wpIn_exit ?_;have x:U en (X .exhausted (some (.exit rR))++k r) (W2.putObj L (.loop {rec .done (some (.exit rR))with state:=.exhausted})):=by
  have Y:=m .exhausted (some (.exit rR)) c;rw[b]at Y⊢;exact Y
 have z:=Lq d _ r J (T x) {a with defers:={target:=.collected w.heap.size,args:=#[]}::a.defers} ⟨by rw[<-ep.defers,hd],ep.size,ep.aQ⟩;show Exit.inBlock rR Q (.exit rR) _ _;simp only[Exit.inBlock,if_true];rw[b]at z;exact z
end
theorem J7{P:Program}{r:Option Nat}{m:Nat}{a:Act}{w:World}{K:Act->World->Prop}{Q:Exit->Act->World->Prop}(f:∀c,o.op≠ .defer c)(h:o.wp P a w K Q):o.wpIn (pX r) m P a w K Q:=by
 refine⟨λ_ _=>trivial,?_⟩;rw[Oper.semAt_eq _ _ _ f];unfold Oper.wp at h;generalize(execOp a.eval o).run P w=i at*;cases i with
 |ok x w'=>
  cases x with
  |enter g args=>
   refine⟨λb=>by simp[pX,Fence.wide]at b,?_⟩;have Y:CallsIn Fence.wide (m-1) P g args w' _:=callsIn_wide.2 h;exact CallsIn.mono (F:=pX r) Y λe k j=>j
  |row row args=>exact⟨λb=>by simp[pX,Fence.wide]at b,λc cs _=>(by obtain⟨v,pn,t6,s⟩:=h c cs;exact⟨v,pn,t6,stepsIn_wide.2 s⟩)⟩
  |value v=>exact h
  |skip=>exact h
  |defer d=>exact h
  |_=>exact(h:False).elim
 |halt x w'=>cases x<;>exact h
def LE(ops:List Oper):Bool:=ops.all λo=>match o.op with| .defer _=>false|_=>true
theorem J8{l:List Oper}(h:LE l=true){i:Nat}(e1:l.toArray[i]? =some o):∀c,o.op≠ .defer c:=by
 intro c a;have th:o∈l:=by simpa using Array.mem_of_getElem? e1
 have:=List.all_eq_true.1 h o th;rw[a]at this;cases this
theorem Nb{P:Program}{r:Option Nat}{m:Nat}{so:Region.Mode}{ops:Array Oper}{Q:Exit->Act->World->Prop}(b:¬LetsOut Q)(d:∀(i:Nat)(o:Oper),ops[i]? =some o->∀c,o.op≠ .defer c):
 ∀(n:Nat)(listed:Array Bool)(a:Act)(w:World),wpAny P so ops Q n listed a w->wpAnyIn (pX r) m P so ops Q n listed a w
 |0,_,_,_,h=>h
 |n+1,listed,a,w,h=>⟨h.1,λi ey=>by
  have Y:=h.2 i ey;unfold wpOp at Y;unfold wpOpIn;cases e1:ops[i]? with
  |none=>simp only[e1]at Y⊢;exact Nb b d n _ _ _ Y
  |some o=>
   simp only[e1]at Y⊢;split at Y
   .rename_i e;rw[if_pos e];rcases Y with Y|Y
    .exact Oper.wpIn_mono (λa w f=>Nb b d n _ _ _ f) (J7 (d i o e1) Y)
    exact absurd Y.2 b
   rename_i e;rw[if_neg e];exact⟨λ_ _=>trivial,Nb b d n _ _ _ Y⟩⟩
section
variable{P:Program}{n:Nat}{Q:Exit->tr->World->Prop}{f:tr}{w:World}
theorem J9[th:vq P][D:lH]{id:Nat}{l:List Oper}{uO:Option Nat}{m:Nat}(tt:Nat)(r:sU)(b:(Region.noSelect l.toArray&&bd l.toArray tt&&dk l.toArray tt (Array.replicate l.toArray.size false) r&&decide (lX r=l.length)&&LE l)=true)
 (d:∀(c:List PanicEntry) f w,¬Q (.panic c) f w) (g:∀f w,¬Q .outgrown f w) (h:∀aM,eB w aM->∃I:World->Prop,I aM/\e3 P n l.toArray tt I Q r f aM) (a:Act) (ep:sa n a f):(Code.region id l.toArray true).wpIn (pX uO) m P (λe tm w'=>∃an,sa n tm an/\Q e an w') a w:=by
 simp only[Bool.and_eq_true,decide_eq_true_eq]at b;obtain⟨⟨⟨⟨j,k⟩,b⟩,hlen⟩,p⟩:=b;obtain⟨I,q,h⟩:=h _ (eB.drawn w (w.drawn+1));unfold e3 at h;refine wpIn_region_any th.out ?_;have:=IY _ _ _ _ (h _ a j b (.inl ⟨H1 k,q⟩) ep (λc f f1 w h=>absurd h (d c f w)));rw[hlen]at this;exact Nb (by rintro⟨a,w,an,_,s⟩;exact g _ _ s) (λi o e1=>J8 p e1) _ _ _ _ (by simpa using this)
theorem LT[th:vq P]{uo id:Nat}{l:List Oper}(tt:Nat)(r:sU)(b:(Region.noSelect l.toArray&&bd l.toArray tt&&dk l.toArray tt (Array.replicate l.toArray.size false) r&&decide (lX r=l.length)&&LE l)=true)
 (d:∀(c:List PanicEntry) f w,¬Q (.panic c) f w) (g:∀f w,¬Q .outgrown f w) (h:∀aM,eB w aM->∃I:World->Prop,I aM/\e3 P n l.toArray tt I Q r f aM):ng uo P n (.region id l.toArray true) Q f w:=by
 unfold ng;exactλa ep=>wpIn_mono (J9 tt r b d g h a ep.nil) λe tm w'⟨an,i,j⟩=>⟨an,i.Pj,j⟩
end
end
section
open Go.Proofs Tryz
@[reducible] noncomputable def bg{α:Type}(l:List (Nat×α))(k:Nat):Option α:=List.rec (motive:=λ_=>Option α) none (λp _ r=>Prod.rec (motive:=λ_=>Option α) (λa b=>match Nat.beq k a with|true=>some b|false=>r) p) l
class vC{α:Type}(a:Option α)(b:outParam α):Prop where t:a=some b
instance{α:Type}{b:α}:vC (some b) b:=⟨rfl⟩
theorem PI{α:Type}{l:List (Nat×α)}{k:Nat}{b:α}(h:bg l k=some b):(k,b)∈l:=by
 induction l with
 |nil=>cases h
 |cons p l d=>
  obtain⟨a,c⟩:=p;change(match Nat.beq k a with|true=>some c|false=>bg l k)=some b at h;split at h
  .rename_i e;cases h;rw[Nat.eq_of_beq_eq_true e];exact List.mem_cons_self
  exact List.mem_cons_of_mem _ (d h)
theorem zf{l:List (Nat×Nat)}{f:Nat->Option Nat}{k b:Nat}(h:(l.all λp=>f p.1==some p.2)=true)[Y:vC (bg l k) b]:f k=some b:=by
 have:=List.all_eq_true.1 h _ (PI Y.t);simpa using this
@[reducible] noncomputable def PN:List (Nat×Nat):=[(3,1),(4,1),(5,1),(22,1),(23,1),(25,3),(26,1),(28,11),(29,1),(30,1),(34,1),(37,1),(39,3),(40,1),(42,32),(43,1),(44,1),(46,39),(48,40),(49,1),(51,3),(53,48),(60,32),(62,34),(64,66),(66,34),(69,1),(70,1),(71,1),(73,3),(77,1),(80,1),(81,1),(83,1),(84,1),(86,7),(92,1),(101,1),(102,1),(103,1),(129,1),(130,1),(131,1),(134,1),(141,1),(143,51),(154,1),(156,3),(160,2),(163,2),(165,2),(169,1),(170,1),(172,4),(180,1),(189,6),(221,34),(227,2),(230,3),(235,4),(251,64),(252,1),(274,2),(295,2),(346,2),(356,1),(358,1),(365,1),(366,2),(405,1),(407,2),(410,1),(411,1),(415,54),(417,58),(438,41),(470,1),(472,1),(478,6),(493,3),(520,1),(574,2),(577,33),(621,35),(627,2)]
theorem Qe:(PN.all λp=>((prog.info? p.1).map (·.size))==some p.2)=true:=by kernel_rfl
instance{T s:Nat}[h:vC (bg PN T) s]:nh prog T s:=⟨zf (f:=λT=>(prog.info? T).map (·.size)) Qe⟩
@[reducible] noncomputable def PS:List (Nat×Nat):=[(3,8),(4,1),(5,1),(23,8),(30,24),(34,8),(60,32),(62,48),(64,80),(66,34),(77,1),(86,120),(92,8),(134,24),(143,248),(160,32),(163,32),(189,64),(221,80),(230,56),(251,64),(295,16),(358,8),(407,32),(410,8),(415,296),(417,344),(472,8),(493,40)]
theorem Qt:(PS.all λp=>((prog.info? p.1).map (·.bytes))==some p.2)=true:=by kernel_rfl
instance{T s:Nat}[h:vC (bg PS T) s]:ba prog T s:=⟨zf (f:=λT=>(prog.info? T).map (·.bytes)) Qt⟩
@[reducible] noncomputable def LO:List (Nat×Nat):=[(3,0),(4,0),(5,0),(22,0),(23,0),(25,1),(26,0),(28,1),(29,0),(30,0),(34,0),(37,0),(39,1),(40,0),(42,1),(43,0),(44,0),(46,1),(48,1),(49,0),(51,1),(53,1),(56,0),(60,1),(62,1),(64,1),(66,1),(69,0),(70,0),(71,0),(73,1),(77,0),(80,0),(81,0),(83,0),(84,0),(86,1),(92,0),(96,0),(99,0),(101,0),(102,0),(103,0),(125,0),(129,0),(130,0),(131,0),(132,0),(133,0),(134,0),(141,0),(143,1),(154,0),(156,1),(160,1),(169,0),(170,0),(172,1),(180,0),(185,0),(189,1),(203,0),(206,0),(221,1),(224,0),(227,1),(230,1),(235,1),(246,0),(247,0),(251,1),(252,0),(254,0),(255,0),(274,1),(282,0),(283,0),(285,0),(287,0),(295,1),(300,0),(323,0),(324,0),(327,0),(344,0),(346,1),(356,0),(358,0),(365,0),(366,1),(367,0),(374,0),(391,0),(392,0),(395,0),(405,0),(407,1),(410,0),(411,0),(415,1),(417,1),(432,0),(470,0),(472,0),(480,0),(520,1),(574,1),(577,1),(621,1),(625,0),(627,1)]
theorem PR:(LO.all λp=>((vg prog p.1).map λb=>bif b then 1 else 0)==some p.2)=true:=by kernel_rfl
theorem PH{b:Bool}{o:Option Bool}(h:(o.map λb=>bif b then 1 else 0)=some (bif b then 1 else 0)):o=some b:=by cases o with
 |none=>cases h
 |some c=>cases c<;>cases b<;>first|rfl|cases h
instance{T:Nat}[h:vC (bg LO T) 0]:u2 prog T:=⟨PH (b:=false) (zf (f:=λT=>(vg prog T).map λb=>bif b then 1 else 0) PR)⟩
instance{T:Nat}[h:vC (bg LO T) 1]:mE prog T:=⟨PH (b:=true) (zf (f:=λT=>(vg prog T).map λb=>bif b then 1 else 0) PR)⟩
@[reducible] noncomputable def PL:List (Nat×Nat):=[(22,92),(26,4),(29,64),(30,5),(37,251),(40,60),(43,230),(44,221),(49,66),(69,163),(70,165),(71,23),(81,86),(83,30),(84,189),(89,91),(103,77),(134,3),(154,160),(170,295),(180,185),(185,53),(206,407),(252,134),(327,493),(347,346),(356,358),(374,143),(405,417),(408,410),(411,62),(470,472),(506,415),(507,34),(608,80)]
theorem Qa:(PL.all λp=>(match prog.underlying p.1 with|some (.slice ek)=>some ek|_=>none)==some p.2)=true:=by kernel_rfl
instance{T ek:Nat}[h:vC (bg PL T) ek]:hc prog T ek:=⟨by
 have G:=zf (f:=λT=>match prog.underlying T with|some (.slice ek)=>some ek|_=>none) (k:=T) (b:=ek) Qa;split at G
 .rename_i Y;cases G;exact Y
 cases G⟩
@[reducible] noncomputable def PD:List (Nat×Nat):=[(33,105),(56,127),(96,136),(99,205),(101,208),(102,302),(129,259),(130,326),(131,329),(132,245),(133,249),(254,376),(255,369),(283,394),(285,397),(300,434),(358,372),(365,364),(472,478),(480,482),(505,34),(625,62)]
theorem wc:(PD.all λp=>(match prog.underlying p.1 with|some (.pointer ek)=>some ek|_=>none)==some p.2)=true:=by kernel_rfl
instance{T ek:Nat}[h:vC (bg PD T) ek]:fA prog T ek:=⟨by
 have G:=zf (f:=λT=>match prog.underlying T with|some (.pointer ek)=>some ek|_=>none) (k:=T) (b:=ek) wc;split at G
 .rename_i Y;cases G;exact Y
 cases G⟩
@[reducible] noncomputable def PC:List (Nat×List Nat):=[(25,[0,1,2]),(28,[0,1,2,3,4,5,8,9,10]),(39,[0,1,2]),(46,[0,1,4,5,37,38]),(48,[0,1]),(51,[0,1,2]),(53,[0,1,41,42,45,46,47]),(62,[0,1,33]),(64,[0,32]),(66,[0,32,33]),(73,[0,1,2]),(86,[0,1,2,3,4,5]),(105,[0,1,2,3,4,5,6,7,8,9]),(127,[0]),(136,[0,11,12,13,14,15,16,17]),(143,[0,1,49]),(156,[0,1,2]),(160,[0,1]),(172,[0,1]),(189,[0,1,2,3,4,5]),(205,[0]),(208,[0,1]),(221,[0,32,33]),(230,[0,1,2]),(235,[0,1]),(245,[0,4800,4801,4802]),(249,[0,1]),(257,[0,1]),(259,[0]),(289,[0,1,2,3,4,5]),(295,[0,1]),(299,[0,1,2]),(302,[0,3,4,5,6,7]),(326,[0,1,2]),(329,[0,1]),(346,[0,1]),(364,[0,1,2]),(369,[0,2]),(372,[0,2,3]),(376,[0,1,2]),(394,[0,1,2]),(397,[0]),(407,[0,1]),(415,[0,48]),(417,[0,1,2,3,57]),(434,[0,3,4,5]),(438,[0,40]),(478,[0,1,2,3,4,5]),(482,[0,1]),(493,[0,1,2]),(502,[0,48,49,50]),(520,[0]),(524,[0,1]),(621,[0,1,2,3]),(627,[0,1]),(636,[0])]
noncomputable def PU(S i off:Nat):Bool:=match prog.underlying S with
 |some (.struct nx)=>match nx[i]? with
  |some f=>f.offset==off&&(match(prog.info? f.type).map (·.size)with
   |some (_+1)=>true
   |_=>false)
  |none=>false
 |_=>false
theorem Qo:(PC.all λp=>(List.range p.2.length).all λi=>PU p.1 i (p.2.getD i 0))=true:=by kernel_rfl
class Nv(l:List Nat)(i:Nat)(v:outParam Nat):Prop where t:l[i]? =some v
instance{v:Nat}{l:List Nat}:Nv (v::l) 0 v:=⟨rfl⟩
instance{u v i:Nat}{l:List Nat}[h:Nv l i v]:Nv (u::l) (i+1) v:=⟨by simpa using h.t⟩
instance{S i off:Nat}{l:List Nat}[h:vC (bg PC S) l][Y:Nv l i off]:je prog S i off:=⟨by
 have G:=List.all_eq_true.1 Qo _ (PI h.t);obtain⟨ez,e6⟩:=List.getElem?_eq_some_iff.1 Y.t;have ac:=List.all_eq_true.1 G i (List.mem_range.2 ez);simp only[List.getD_eq_getElem?_getD,Y.t,Option.getD_some]at ac;unfold PU at ac;split at ac
 .rename_i nx a;split at ac
  .rename_i f b;rw[Bool.and_eq_true]at ac;obtain⟨aW,nf⟩:=ac;split at nf
   .rename_i k c;exact⟨nx,f,a,b,by simpa using aW,k,c⟩
   cases nf
  cases ac
 cases ac⟩
end
section
open Go.Proofs Tryz
namespace Qi
instance:nh prog 3 1:={}
instance:ba prog 3 8:={}
instance:u2 prog 3:={}
instance:oG prog 3 (.int .i64 0):={}
instance:lc prog 3 .i64:=⟨underlying3⟩
instance:oG prog 4 (.bool false):={}
instance:TL prog 4:=⟨underlying4⟩
instance:oG prog 5 (.int .u8 0):={}
instance:lc prog 5 .u8:=⟨underlying5⟩
instance:hc prog 22 92:=⟨underlying22⟩
instance:oG prog 23 (.int .u64 0):={}
instance:lc prog 23 .u64:=⟨underlying23⟩
instance:mE prog 25:={}
instance:je prog 25 0 0:=Xk 0 underlying25
instance:nM prog 25 [#[.int .u64 0],#[.int .u64 0],#[.int .u64 0]]:=sm underlying25 (by kernel_rfl)
instance:nM prog 28 [#[.slice none 0 0],#[.int .i64 0],#[.int .i64 0],#[.int .i64 0],#[.int .i64 0],eK [#[.int .u64 0],#[.int .u64 0],#[.int .u64 0]],#[.int .u64 0],#[.int .i64 0],#[.slice none 0 0]]:=sm underlying28 (by kernel_rfl)
instance:oG prog 30 (.slice none 0 0):={}
instance:fA prog 33 105:=⟨underlying33⟩
instance:oG prog 34 (.int .i64 0):={}
instance:lc prog 34 .i64:=⟨underlying34⟩
instance:oG prog 37 (.slice none 0 0):={}
instance:oG prog 39 (.agg (eK [#[.int .u8 0],#[.int .u8 0],#[.int .u8 0]])):={}
instance:oG prog 40 (.slice none 0 0):={}
instance:oG prog 42 (.agg ((Array.replicate 32 (.int .u8 0)))):={}
instance:de prog 42 32 5:=⟨underlying42⟩
instance:k0 prog 42:={}
instance:oG prog 46 (.agg (eK [#[.bool false],eK [#[.int .u8 0],#[.int .u8 0],#[.int .u8 0]],#[.slice none 0 0],(Array.replicate 32 (.int .u8 0)),#[.slice none 0 0],#[.slice none 0 0]])):={}
instance:nM prog 46 [#[.bool false],eK [#[.int .u8 0],#[.int .u8 0],#[.int .u8 0]],#[.slice none 0 0],(Array.replicate 32 (.int .u8 0)),#[.slice none 0 0],#[.slice none 0 0]]:=sm underlying46 (by kernel_rfl)
instance:oG prog 48 (.agg (eK [#[.slice none 0 0],eK [#[.bool false],eK [#[.int .u8 0],#[.int .u8 0],#[.int .u8 0]],#[.slice none 0 0],(Array.replicate 32 (.int .u8 0)),#[.slice none 0 0],#[.slice none 0 0]]])):={}
instance:nM prog 48 [#[.slice none 0 0],eK [#[.bool false],eK [#[.int .u8 0],#[.int .u8 0],#[.int .u8 0]],#[.slice none 0 0],(Array.replicate 32 (.int .u8 0)),#[.slice none 0 0],#[.slice none 0 0]]]:=sm underlying48 (by kernel_rfl)
instance:oG prog 51 (.agg (eK [#[.int .u64 0],#[.int .u64 0],#[.int .i64 0]])):={}
instance:nM prog 51 [#[.int .u64 0],#[.int .u64 0],#[.int .i64 0]]:=sm underlying51 (by kernel_rfl)
instance:oG prog 53 (.agg (eK [#[.slice none 0 0],eK [#[.slice none 0 0],eK [#[.bool false],eK [#[.int .u8 0],#[.int .u8 0],#[.int .u8 0]],#[.slice none 0 0],(Array.replicate 32 (.int .u8 0)),#[.slice none 0 0],#[.slice none 0 0]]],#[.slice none 0 0],eK [#[.int .u64 0],#[.int .u64 0],#[.int .i64 0]],#[.int .u64 0],#[.int .u64 0],#[.int .u64 0]])):={}
instance:nM prog 53 [#[.slice none 0 0],eK [#[.slice none 0 0],eK [#[.bool false],eK [#[.int .u8 0],#[.int .u8 0],#[.int .u8 0]],#[.slice none 0 0],(Array.replicate 32 (.int .u8 0)),#[.slice none 0 0],#[.slice none 0 0]]],#[.slice none 0 0],eK [#[.int .u64 0],#[.int .u64 0],#[.int .i64 0]],#[.int .u64 0],#[.int .u64 0],#[.int .u64 0]]:=sm underlying53 (by kernel_rfl)
instance:oG prog 60 (.agg ((Array.replicate 32 (.int .u8 0)))):={}
instance:de prog 60 32 5:=⟨underlying60⟩
instance:k0 prog 60:={}
instance:oG prog 62 (.agg (eK [#[.int .u64 0],(Array.replicate 32 (.int .u8 0)),#[.int .u64 0]])):={}
instance:k0 prog 62:={}
instance:nM prog 62 [#[.int .u64 0],(Array.replicate 32 (.int .u8 0)),#[.int .u64 0]]:=sm underlying62 (by kernel_rfl)
instance:oG prog 64 (.agg (eK [(Array.replicate 32 (.int .u8 0)),eK [#[.int .u64 0],(Array.replicate 32 (.int .u8 0)),#[.int .u64 0]]])):={}
instance:nM prog 64 [(Array.replicate 32 (.int .u8 0)),eK [#[.int .u64 0],(Array.replicate 32 (.int .u8 0)),#[.int .u64 0]]]:=sm underlying64 (by kernel_rfl)
instance:oG prog 66 (.agg (eK [(Array.replicate 32 (.int .u8 0)),#[.bool false],#[.bool false]])):={}
instance:nM prog 66 [(Array.replicate 32 (.int .u8 0)),#[.bool false],#[.bool false]]:=sm underlying66 (by kernel_rfl)
instance:oG prog 73 (.agg (eK [#[.slice none 0 0],#[.slice none 0 0],#[.slice none 0 0]])):={}
instance:oG prog 77 (.int .u8 0):={}
instance:oG prog 80 (.nilFunc):={}
instance:oG prog 84 (.slice none 0 0):={}
instance:oG prog 86 (.agg (eK [#[.int .u64 0],#[.slice none 0 0],#[.slice none 0 0],#[.slice none 0 0],#[.slice none 0 0],#[.int .u64 0],#[.int .u64 0]])):={}
instance:nM prog 86 [#[.int .u64 0],#[.slice none 0 0],#[.slice none 0 0],#[.slice none 0 0],#[.slice none 0 0],#[.int .u64 0],#[.int .u64 0]]:=sm underlying86 (by kernel_rfl)
instance:oG prog 92 (.float .f64 0):={}
instance:nM prog 105 [#[.pointer none],#[.pointer none],#[.pointer none],#[.pointer none],#[.pointer none],#[.slice none 0 0],#[.int .u64 0],#[.int .u64 0],#[.slice none 0 0],#[.slice none 0 0]]:=sm underlying105 (by kernel_rfl)
instance:rP prog 125 60 40:=⟨underlying125⟩
instance:nM prog 127 [#[.map none]]:=sm underlying127 (by kernel_rfl)
instance:oG prog 134 (.slice none 0 0):={}
instance:nM prog 136 [eK [#[.slice none 0 0],#[.int .i64 0],#[.int .i64 0],#[.int .i64 0],#[.int .i64 0],eK [#[.int .u64 0],#[.int .u64 0],#[.int .u64 0]],#[.int .u64 0],#[.int .i64 0],#[.slice none 0 0]],#[.pointer none],#[.pointer none],#[.pointer none],#[.pointer none],#[.pointer none],#[.slice none 0 0],#[.slice none 0 0]]:=sm underlying136 (by kernel_rfl)
instance:oG prog 143 (.agg (eK [#[.int .u64 0],eK [#[.slice none 0 0],eK [#[.slice none 0 0],eK [#[.bool false],eK [#[.int .u8 0],#[.int .u8 0],#[.int .u8 0]],#[.slice none 0 0],(Array.replicate 32 (.int .u8 0)),#[.slice none 0 0],#[.slice none 0 0]]],#[.slice none 0 0],eK [#[.int .u64 0],#[.int .u64 0],#[.int .i64 0]],#[.int .u64 0],#[.int .u64 0],#[.int .u64 0]],#[.int .u8 0],#[.bool false]])):={}
instance:nM prog 143 [#[.int .u64 0],eK [#[.slice none 0 0],eK [#[.slice none 0 0],eK [#[.bool false],eK [#[.int .u8 0],#[.int .u8 0],#[.int .u8 0]],#[.slice none 0 0],(Array.replicate 32 (.int .u8 0)),#[.slice none 0 0],#[.slice none 0 0]]],#[.slice none 0 0],eK [#[.int .u64 0],#[.int .u64 0],#[.int .i64 0]],#[.int .u64 0],#[.int .u64 0],#[.int .u64 0]],#[.int .u8 0],#[.bool false]]:=sm underlying143 (by kernel_rfl)
instance:oG prog 156 (.agg (eK [#[.slice none 0 0],#[.slice none 0 0],#[.slice none 0 0]])):={}
instance:nM prog 156 [#[.slice none 0 0],#[.slice none 0 0],#[.slice none 0 0]]:=sm underlying156 (by kernel_rfl)
instance:oG prog 160 (.agg (eK [#[.int .i64 0],#[.slice none 0 0]])):={}
instance:nM prog 160 [#[.int .i64 0],#[.slice none 0 0]]:=sm underlying160 (by kernel_rfl)
instance:oG prog 163 (.agg (eK [#[.int .i64 0],#[.slice none 0 0]])):={}
instance:nM prog 163 [#[.int .i64 0],#[.slice none 0 0]]:=sm underlying163 (by kernel_rfl)
end Qi
end
section
open Go.Proofs Tryz
namespace Qn
instance:oG prog 172 (.agg (eK [#[.int .u8 0],#[.slice none 0 0],#[.slice none 0 0],#[.slice none 0 0]])):={}
instance:oG prog 180 (.slice none 0 0):={}
instance:oG prog 189 (.agg (eK [#[.int .i64 0],#[.int .i64 0],#[.int .u64 0],#[.int .u64 0],#[.int .u64 0],#[.slice none 0 0]])):={}
instance:nM prog 189 [#[.int .i64 0],#[.int .i64 0],#[.int .u64 0],#[.int .u64 0],#[.int .u64 0],#[.slice none 0 0]]:=sm underlying189 (by kernel_rfl)
instance:rP prog 203 60 62:=⟨underlying203⟩
instance:nM prog 205 [#[.map none]]:=sm underlying205 (by kernel_rfl)
instance:nM prog 208 [#[.pointer none],#[.slice none 0 0]]:=sm underlying208 (by kernel_rfl)
instance:oG prog 221 (.agg (eK [(Array.replicate 32 (.int .u8 0)),#[.slice none 0 0],#[.slice none 0 0]])):={}
instance:rP prog 224 60 3:=⟨underlying224⟩
instance:oG prog 227 (.agg ((Array.replicate 2 (.int .u64 0)))):={}
instance:de prog 227 2 23:=⟨underlying227⟩
instance:k0 prog 227:={}
instance:oG prog 228 (.agg ((Array.replicate 2 (.bool false)))):={}
instance:de prog 228 2 4:=⟨underlying228⟩
instance:oG prog 230 (.agg (eK [#[.int .u8 0],#[.slice none 0 0],#[.slice none 0 0]])):={}
instance:oG prog 235 (.agg (eK [#[.int .i64 0],eK [#[.int .u64 0],#[.int .u64 0],#[.int .i64 0]]])):={}
instance:nM prog 235 [#[.int .i64 0],eK [#[.int .u64 0],#[.int .u64 0],#[.int .i64 0]]]:=sm underlying235 (by kernel_rfl)
instance:de prog 243 150 42:=⟨underlying243⟩
instance:rP prog 246 251 42:=⟨underlying246⟩
instance:rP prog 247 42 37:=⟨underlying247⟩
instance:nM prog 249 [#[.map none],#[.map none]]:=sm underlying249 (by kernel_rfl)
instance:de prog 250 64 5:=⟨underlying250⟩
instance:oG prog 251 (.agg ((Array.replicate 64 (.int .u8 0)))):={}
instance:de prog 251 64 5:=⟨underlying251⟩
instance:nM prog 257 [#[.pointer none],#[.pointer none]]:=sm underlying257 (by kernel_rfl)
instance:nM prog 259 [eK [#[.pointer none],#[.pointer none]]]:=sm underlying259 (by kernel_rfl)
instance:oG prog 274 (.agg (eK [#[.int .u64 0],#[.int .u64 0]])):={}
instance:nM prog 274 [#[.int .u64 0],#[.int .u64 0]]:=sm underlying274 (by kernel_rfl)
instance:rP prog 287 3 3:=⟨underlying287⟩
instance:nM prog 289 [#[.pointer none],#[.pointer none],#[.pointer none],#[.map none],#[.slice none 0 0],eK [#[.slice none 0 0],#[.slice none 0 0],#[.slice none 0 0]]]:=sm underlying289 (by kernel_rfl)
instance:oG prog 295 (.agg (eK [#[.int .u64 0],#[.int .u8 0]])):={}
instance:nM prog 295 [#[.int .u64 0],#[.int .u8 0]]:=sm underlying295 (by kernel_rfl)
instance:nM prog 299 [#[.pointer none],#[.pointer none],#[.pointer none]]:=sm underlying299 (by kernel_rfl)
instance:nM prog 302 [eK [#[.pointer none],#[.pointer none],#[.pointer none]],#[.pointer none],#[.bool false],#[.slice none 0 0],#[.slice none 0 0],#[.int .u64 0]]:=sm underlying302 (by kernel_rfl)
instance:rP prog 323 577 574:=⟨underlying323⟩
instance:rP prog 324 60 227:=⟨underlying324⟩
instance:nM prog 326 [#[.int .i64 0],#[.map none],#[.map none]]:=sm underlying326 (by kernel_rfl)
instance:nM prog 329 [#[.slice none 0 0],#[.slice none 0 0]]:=sm underlying329 (by kernel_rfl)
instance:oG prog 334 (.nilIface):={}
instance:oG prog 337 (.nilIface):={}
instance:oG prog 339 (.nilIface):={}
instance:oG prog 346 (.agg (eK [#[.nilFunc],#[.int .i64 0]])):={}
instance:nM prog 346 [#[.nilFunc],#[.int .i64 0]]:=sm underlying346 (by kernel_rfl)
instance:de prog 349 2 3:=⟨underlying349⟩
instance:de prog 350 2 5:=⟨underlying350⟩
instance:oG prog 358 (.pointer none):={}
instance:nM prog 364 [#[.int .i64 0],#[.nilFunc],#[.slice none 0 0]]:=sm underlying364 (by kernel_rfl)
instance:de prog 366 2 365:=⟨underlying366⟩
instance:rP prog 367 3 358:=⟨underlying367⟩
end Qn
end
section
open Go.Proofs Tryz
namespace nD
instance:nM prog 369 [(Array.replicate 2 (.pointer none)),#[.map none]]:=sm underlying369 (by kernel_rfl)
instance:nM prog 372 [eK [#[.int .u64 0],#[.int .u64 0]],#[.int .i64 0],(Array.replicate 2 (.int .i64 0))]:=sm underlying372 (by kernel_rfl)
instance:nM prog 376 [#[.slice none 0 0],#[.slice none 0 0],#[.int .i64 0]]:=sm underlying376 (by kernel_rfl)
instance:lc prog 385 .u64:=⟨underlying385⟩
instance:rP prog 391 3 472:=⟨underlying391⟩
instance:rP prog 392 60 480:=⟨underlying392⟩
instance:nM prog 394 [#[.map none],#[.map none],#[.int .i64 0]]:=sm underlying394 (by kernel_rfl)
instance:rP prog 395 60 4:=⟨underlying395⟩
instance:nM prog 397 [#[.map none]]:=sm underlying397 (by kernel_rfl)
instance:oG prog 407 (.agg (eK [#[.int .u8 0],#[.slice none 0 0]])):={}
instance:oG prog 410 (.pointer none):={}
instance:oG prog 415 (.agg (eK [eK [#[.slice none 0 0],eK [#[.slice none 0 0],eK [#[.bool false],eK [#[.int .u8 0],#[.int .u8 0],#[.int .u8 0]],#[.slice none 0 0],(Array.replicate 32 (.int .u8 0)),#[.slice none 0 0],#[.slice none 0 0]]],#[.slice none 0 0],eK [#[.int .u64 0],#[.int .u64 0],#[.int .i64 0]],#[.int .u64 0],#[.int .u64 0],#[.int .u64 0]],eK [#[.int .i64 0],#[.int .i64 0],#[.int .u64 0],#[.int .u64 0],#[.int .u64 0],#[.slice none 0 0]]])):={}
instance:nM prog 415 [eK [#[.slice none 0 0],eK [#[.slice none 0 0],eK [#[.bool false],eK [#[.int .u8 0],#[.int .u8 0],#[.int .u8 0]],#[.slice none 0 0],(Array.replicate 32 (.int .u8 0)),#[.slice none 0 0],#[.slice none 0 0]]],#[.slice none 0 0],eK [#[.int .u64 0],#[.int .u64 0],#[.int .i64 0]],#[.int .u64 0],#[.int .u64 0],#[.int .u64 0]],eK [#[.int .i64 0],#[.int .i64 0],#[.int .u64 0],#[.int .u64 0],#[.int .u64 0],#[.slice none 0 0]]]:=sm underlying415 (by kernel_rfl)
instance:oG prog 417 (.agg (eK [#[.int .i64 0],#[.int .u64 0],#[.slice none 0 0],eK [eK [#[.slice none 0 0],eK [#[.slice none 0 0],eK [#[.bool false],eK [#[.int .u8 0],#[.int .u8 0],#[.int .u8 0]],#[.slice none 0 0],(Array.replicate 32 (.int .u8 0)),#[.slice none 0 0],#[.slice none 0 0]]],#[.slice none 0 0],eK [#[.int .u64 0],#[.int .u64 0],#[.int .i64 0]],#[.int .u64 0],#[.int .u64 0],#[.int .u64 0]],eK [#[.int .i64 0],#[.int .i64 0],#[.int .u64 0],#[.int .u64 0],#[.int .u64 0],#[.slice none 0 0]]],#[.int .i64 0]])):={}
instance:nM prog 417 [#[.int .i64 0],#[.int .u64 0],#[.slice none 0 0],eK [eK [#[.slice none 0 0],eK [#[.slice none 0 0],eK [#[.bool false],eK [#[.int .u8 0],#[.int .u8 0],#[.int .u8 0]],#[.slice none 0 0],(Array.replicate 32 (.int .u8 0)),#[.slice none 0 0],#[.slice none 0 0]]],#[.slice none 0 0],eK [#[.int .u64 0],#[.int .u64 0],#[.int .i64 0]],#[.int .u64 0],#[.int .u64 0],#[.int .u64 0]],eK [#[.int .i64 0],#[.int .i64 0],#[.int .u64 0],#[.int .u64 0],#[.int .u64 0],#[.slice none 0 0]]],#[.int .i64 0]]:=sm underlying417 (by kernel_rfl)
instance:rP prog 432 60 23:=⟨underlying432⟩
instance:nM prog 434 [eK [#[.int .u64 0],#[.int .u64 0],#[.int .u64 0]],#[.int .u64 0],#[.int .u64 0],#[.map none]]:=sm underlying434 (by kernel_rfl)
instance:oG prog 438 (.agg (eK [eK [#[.slice none 0 0],eK [#[.bool false],eK [#[.int .u8 0],#[.int .u8 0],#[.int .u8 0]],#[.slice none 0 0],(Array.replicate 32 (.int .u8 0)),#[.slice none 0 0],#[.slice none 0 0]]],#[.slice none 0 0]])):={}
instance:nM prog 438 [eK [#[.slice none 0 0],eK [#[.bool false],eK [#[.int .u8 0],#[.int .u8 0],#[.int .u8 0]],#[.slice none 0 0],(Array.replicate 32 (.int .u8 0)),#[.slice none 0 0],#[.slice none 0 0]]],#[.slice none 0 0]]:=sm underlying438 (by kernel_rfl)
instance:oG prog 472 (.pointer none):={}
instance:nM prog 478 [#[.int .i64 0],#[.int .i64 0],#[.int .i64 0],#[.int .i64 0],#[.slice none 0 0],#[.map none]]:=sm underlying478 (by kernel_rfl)
instance:oG prog 480 (.pointer none):={}
instance:nM prog 482 [#[.pointer none],#[.slice none 0 0]]:=sm underlying482 (by kernel_rfl)
instance:oG prog 493 (.agg (eK [#[.slice none 0 0],#[.int .i64 0],#[.int .i64 0]])):={}
instance:nM prog 502 [eK [#[.slice none 0 0],eK [#[.slice none 0 0],eK [#[.bool false],eK [#[.int .u8 0],#[.int .u8 0],#[.int .u8 0]],#[.slice none 0 0],(Array.replicate 32 (.int .u8 0)),#[.slice none 0 0],#[.slice none 0 0]]],#[.slice none 0 0],eK [#[.int .u64 0],#[.int .u64 0],#[.int .i64 0]],#[.int .u64 0],#[.int .u64 0],#[.int .u64 0]],#[.slice none 0 0],#[.int .u64 0],#[.int .u64 0]]:=sm underlying502 (by kernel_rfl)
instance:oG prog 520 (.agg (eK [#[.int .i64 0]])):={}
instance:nM prog 520 [#[.int .i64 0]]:=sm underlying520 (by kernel_rfl)
instance:nM prog 524 [#[.slice none 0 0],#[.int .i64 0]]:=sm underlying524 (by kernel_rfl)
instance:oG prog 555 (.nilFunc):={}
instance:rP prog 557 60 555:=⟨underlying557⟩
end nD
end
section
open Go.Proofs Tryz
namespace Qs
instance:rP prog 573 60 574:=⟨underlying573⟩
instance:oG prog 574 (.agg ((Array.replicate 2 (.int .i64 0)))):={}
instance:de prog 574 2 3:=⟨underlying574⟩
instance:k0 prog 574:={}
instance:oG prog 577 (.agg (eK [(Array.replicate 32 (.int .u8 0)),#[.int .i64 0]])):={}
instance:nM prog 577 [(Array.replicate 32 (.int .u8 0)),#[.int .i64 0]]:=sm underlying577 (by kernel_rfl)
instance:rP prog 610 34 77:=⟨underlying610⟩
instance:oG prog 621 (.agg (eK [#[.int .u64 0],#[.int .u64 0],#[.int .u64 0],(Array.replicate 32 (.int .u8 0))])):={}
instance:oG prog 627 (.agg (eK [#[.pointer none],#[.pointer none]])):={}
instance:nM prog 627 [#[.pointer none],#[.pointer none]]:=sm underlying627 (by kernel_rfl)
instance:oG prog 628 (.nilFunc):={}
instance:rP prog 629 23 628:=⟨underlying629⟩
instance:nM prog 636 [#[.slice none 0 0]]:=sm underlying636 (by kernel_rfl)
instance:rP prog 638 23 3:=⟨underlying638⟩
instance:dy prog 5:={}
instance:vq prog:=⟨by kernel_rfl⟩
end Qs
end
end Go.Fer

namespace Go.Fer
open Go Go.RowKit
section
variable{a b k:Nat}
section
variable{P:Program}{f:tr}{w:World}{R:Value->World->Prop}{d:Option Tmp}{T:TypeId}{pos:String}{eO:Array Edge}{eV:Option (Nat×Bool)}
theorem Qr{fn:Fn}{first captured:Array Operand}{vs cs:List Value}(G:first.toList.map (eC f)=vs)(Y:captured.toList.map (eC f)=cs)(h:R (.func fn vs.toArray cs.toArray) w):Z P f ⟨d,.makeFunc fn first captured,T,pos,eO,eV⟩ w R:=by
 refine iv (v:=.func fn vs.toArray cs.toArray) (w':=w) ?_ h;have a:first.map (eC f)=vs.toArray:=by subst G;apply Array.ext';simp
 have b:captured.map (eC f)=cs.toArray:=by subst Y;apply Array.ext';simp
 simp[execOp,Instr.makeFunc,a,b]
theorem PM{g:FuncId}[b:dy P g]{x:Operand}{args:Array Operand}{nN:Array TypeId}{vs cs:List Value}{R':Value->World->Prop}(c:eC f x= .func (.func g) #[] cs.toArray)(a:nk P g (vs++cs).toArray w R')(i:args.toList.map (eC f)=vs)(h:∀v w',R' v w'->R v w'):
 Z P f ⟨d,.call {callee:=.value x,args:=args,argTypes:=nN},T,pos,eO,eV⟩ w R:=by
 unfold nk at a;have ep:(vs++cs).toArray=args.map (eC f)++cs.toArray:=by subst i;apply Array.ext';simp
 rw[ep]at a;have j:(execOp (eC f) ⟨d,.call {callee:=.value x,args:=args,argTypes:=nN},T,pos,eO,eV⟩).run P w= .ok (.enter g (args.map (eC f)++cs.toArray)) w:=by
  simp[execOp,resolve,c,Deferred.ofValue,Go.invoke,gI b]
 unfold Z;rw[j];exact Calls.mono a λe w'⟨v,k,tC⟩=>⟨v,k,h _ _ tC⟩
def mH(P:Program)(v:Value)(vs:List Value)(w:World)(R:Value->World->Prop):Prop:=
 ∃(g:FuncId)(nx cs:List Value),v= .func (.func g) nx.toArray cs.toArray/\dy P g/\nk P g (nx++vs++cs).toArray w R
theorem bw{x:Operand}{args:Array Operand}{nN:Array TypeId}{v:Value}{vs:List Value}{R':Value->World->Prop}(b:eC f x=v)(ey:mH P v vs w R')(c:args.toList.map (eC f)=vs)(h:∀v w',R' v w'->R v w'):
 Z P f ⟨d,.call {callee:=.value x,args:=args,argTypes:=nN},T,pos,eO,eV⟩ w R:=by
 obtain⟨g,nx,cs,rfl,i,a⟩:=ey;unfold nk at a;have ep:(nx++vs++cs).toArray=nx.toArray++args.map (eC f)++cs.toArray:=by subst c;apply Array.ext';simp
 rw[ep]at a;have j:(execOp (eC f) ⟨d,.call {callee:=.value x,args:=args,argTypes:=nN},T,pos,eO,eV⟩).run P w= .ok (.enter g (nx.toArray++args.map (eC f)++cs.toArray)) w:=by
  simp only[execOp,resolve,b,Deferred.ofValue,Sem.run_bind,Sem.run_pure,Result.andThen_ok,Go.invoke,gI i]
 unfold Z;rw[j];exact Calls.mono a λe w'⟨v,k,tC⟩=>⟨v,k,h _ _ tC⟩
theorem Z.neg{s:TypeId}{x:Operand}{k:IntKind}{a c:Int}(b:eC f x= .int k a)(e:k.wrap (0-a)=c)(h:R (.int k c) w):Z P f ⟨d,.unOp .neg s x,T,pos,eO,eV⟩ w R:=by
 subst e;refine iv (v:=.int k (k.wrap (0-a))) (w':=w) ?_ h;simp[execOp,b,Op.unary,Op.intArith]
class PF(P:Program)(T:TypeId):Prop where out:P.underlying T=some .string
theorem Qh{t:TypeId}{x ix:Operand}{k:IntKind}{i:Nat}{s:ByteArray}{b:UInt8}[a:PF P t](c:eC f x= .string s)(ey:eC f ix= .int k (i:Int))(e:s[i]? =some b)(h:R (.int .u8 (b.toNat:Int)) w):Z P f ⟨d,.index t x ix,T,pos,eO,eV⟩ w R:=by
 refine iv (v:=.int .u8 (b.toNat:Int)) (w':=w) ?_ h;simp[execOp,Instr.index,ey,c,asIntOf,run_underlying a.out,e]
end
theorem zp(h:a+b<18446744073709551616):IntKind.u64.wrap ((a:Int)+(b:Int))=((a+b:Nat):Int):=by rw[IntKind.wrap_u64];omega
theorem yk(h:b<=a)(ep:a<18446744073709551616):IntKind.u64.wrap ((a:Int) -(b:Int))=((a-b:Nat):Int):=by rw[IntKind.wrap_u64];omega
theorem PP(a b:Nat)(c:b<=18446744073709551616):IntKind.u64.wrap ((a:Int) -(b:Int))=(((a+18446744073709551616-b)%18446744073709551616:Nat):Int):=by rw[IntKind.wrap_u64];omega
theorem yx(a b:Nat):IntKind.u64.wrap ((a:Int)*(b:Int))=((a*b%18446744073709551616:Nat):Int):=by rw[IntKind.wrap_u64,<-Int.natCast_mul];omega
theorem zg(h:a*b<18446744073709551616):IntKind.u64.wrap ((a:Int)*(b:Int))=((a*b:Nat):Int):=by rw[yx,Nat.mod_eq_of_lt h]
theorem Am(h:a<18446744073709551616):IntKind.u64.wrap ((a:Int).tdiv (b:Int))=((a/b:Nat):Int):=by
 rw[Int.tdiv_eq_ediv_of_nonneg (by omega),<-Int.natCast_ediv,IntKind.wrap_u64];have:=Nat.div_le_self a b;generalize a/b=z at*;omega
theorem Af(h:a<18446744073709551616):hH .and .u64 (a:Int) 4294967295=((a%4294967296:Nat):Int):=by
 have G:=H4 a 4294967295 h (by omega);rw[show a&&&4294967295=a%4294967296 from Nat.and_two_pow_sub_one_eq_mod a 32]at G;exact G
theorem zw(b:k<=64):Int.fdiv (a:Int) (2^(min (Int.toNat (k:Int)) IntKind.u64.bits))=((a/2^k:Nat):Int):=Jc b
theorem PG(b:k<64)(h:a*2^k<18446744073709551616):IntKind.u64.wrap ((a:Int)*2^(min (Int.toNat (k:Int)) IntKind.u64.bits))=((a*2^k:Nat):Int):=FG b (by simp) (by omega)
theorem Ql(b:k<64):IntKind.u64.wrap ((a:Int)*2^(min (Int.toNat (k:Int)) IntKind.u64.bits))=((a*2^k%18446744073709551616:Nat):Int):=by
 have:min (Int.toNat (k:Int)) IntKind.u64.bits=k:=by simp[IntKind.bits];omega
 rw[this,IntKind.wrap_u64];have e:(a:Int)*2^k=((a*2^k:Nat):Int):=by simp
 rw[e];omega
theorem Qd{m:Nat}(h:a<2^k)(th:m*2^k+a<18446744073709551616):hH .or .u64 ((m*2^k:Nat):Int) (a:Int)=((m*2^k+a:Nat):Int):=by
 rw[I1 _ _ (by omega) (by omega),Nat.or_comm,H5 _ _ _ h,Nat.add_comm]
theorem Qc(te eE o3 oL:Nat):(te*4294967296+eE)*(o3*4294967296+oL)=te*o3*18446744073709551616+(te*oL+eE*o3)*4294967296+eE*oL:=by grind
theorem Qu{x y:Nat}(k:x<18446744073709551616)(l:y<18446744073709551616):
 (x%4294967296)*(y%4294967296)<18446744073709551616/\(x/4294967296)*(y%4294967296)<18446744073709551616/\(x%4294967296)*(y/4294967296)<18446744073709551616/\(x/4294967296)*(y/4294967296)<18446744073709551616/\
 (x/4294967296)*(y%4294967296)+(x%4294967296)*(y%4294967296)/4294967296<18446744073709551616/\
 ((x/4294967296)*(y%4294967296)+(x%4294967296)*(y%4294967296)/4294967296)%4294967296+(x%4294967296)*(y/4294967296)<18446744073709551616/\
 (x/4294967296)*(y/4294967296)+((x/4294967296)*(y%4294967296)+(x%4294967296)*(y%4294967296)/4294967296)/4294967296<18446744073709551616/\
 (x/4294967296)*(y/4294967296)+((x/4294967296)*(y%4294967296)+(x%4294967296)*(y%4294967296)/4294967296)/4294967296+
  (((x/4294967296)*(y%4294967296)+(x%4294967296)*(y%4294967296)/4294967296)%4294967296+(x%4294967296)*(y/4294967296))/4294967296<18446744073709551616/\
 (x/4294967296)*(y/4294967296)+((x/4294967296)*(y%4294967296)+(x%4294967296)*(y%4294967296)/4294967296)/4294967296+
  (((x/4294967296)*(y%4294967296)+(x%4294967296)*(y%4294967296)/4294967296)%4294967296+(x%4294967296)*(y/4294967296))/4294967296=x*y/18446744073709551616:=by
 obtain⟨te,d⟩:∃z,z=x/4294967296:=⟨_,rfl⟩;obtain⟨eE,f⟩:∃z,z=x%4294967296:=⟨_,rfl⟩;obtain⟨o3,g⟩:∃z,z=y/4294967296:=⟨_,rfl⟩;obtain⟨oL,h⟩:∃z,z=y%4294967296:=⟨_,rfl⟩;rw[<-d,<-f,<-g,<-h];have b {a c:Nat} (G:a<=4294967295) (Y:c<=4294967295):a*c<=4294967295*4294967295:=Nat.mul_le_mul G Y;have yj:=b (a:=te) (c:=o3) (by omega) (by omega);have m:=b (a:=te) (c:=oL) (by omega) (by omega);have i:=b (a:=eE) (c:=o3) (by omega) (by omega);have j:=b (a:=eE) (c:=oL) (by omega) (by omega);have e:x*y=te*o3*18446744073709551616+(te*oL+eE*o3)*4294967296+eE*oL:=by
  rw[show x=te*4294967296+eE by omega,show y=o3*4294967296+oL by omega];exact Qc te eE o3 oL
 rw[e];generalize te*o3=A at*;generalize te*oL=tS at*;generalize eE*o3=C at*;generalize eE*oL=D at*;refine⟨by omega,by omega,by omega,by omega,by omega,by omega,by omega,by omega,by omega⟩
theorem Qm{ey r9 d s:Nat}(b:s<64)(a:ey<d)(eM:r9<18446744073709551616):ey*2^s+r9/2^(64-s)<d*2^s/\r9/2^(64-s)<2^s:=by
 have G:r9/2^(64-s)<2^s:=by
  rw[Nat.div_lt_iff_lt_mul (Nat.two_pow_pos _),<-Nat.pow_add,show s+(64-s)=64 by omega];exact eM
 have Y:(ey+1)*2^s<=d*2^s:=Nat.mul_le_mul_right _ a;rw[Nat.add_mul,Nat.one_mul]at Y;omega
theorem Qf(a n:Nat)(ep:a<18446744073709551616)(b:n<18446744073709551616):hH .or .u64 (((a+n)%18446744073709551616:Nat):Int) (IntKind.u64.wrap (0-(((a+n)/18446744073709551616:Nat):Int)))=((nO a n:Nat):Int):=by
 unfold nO;by_cases h:a+n<18446744073709551616
 .rw[if_pos h,Nat.mod_eq_of_lt h,Nat.div_eq_of_lt h];have:=I1 (a+n) 0 h (by omega);rw[show IntKind.u64.wrap (0-((0:Nat):Int))=((0:Nat):Int)from by decide,this,Nat.or_zero]
 rw[if_neg h,show(a+n)/18446744073709551616=1 by omega];have Y:=I1 ((a+n)%18446744073709551616) 18446744073709551615 (by omega) (by omega);rw[show IntKind.u64.wrap (0-((1:Nat):Int))=((18446744073709551615:Nat):Int)from by decide,Y];congr 1;have ez:(a+n)%18446744073709551616|||18446744073709551615=18446744073709551615:=by
  have e6:=Nat.or_lt_two_pow (n:=64) (x:=(a+n)%18446744073709551616) (y:=18446744073709551615) (by omega) (by omega);have ac:18446744073709551615<=(a+n)%18446744073709551616|||18446744073709551615:=Nat.right_le_or;omega
 exact ez
end
section
def PW(Q:Exit->tr->World->Prop):Exit->tr->World->Prop
 | .goto _,_,_=>False
 |e,f,w=>Q e f w
section
variable{P:Program}{n:Nat}{Q:Exit->tr->World->Prop}{f:tr}{w:World}
theorem ex.scope{c:Code}(h:ex P n c (PW Q) f w):ex P n (.scope c) Q f w:=by
 unfold ex at*;intro a ep;refine wp_scope_straight (wp_mono (h a ep) λe tm w'⟨an,d,b⟩=>?_);cases e with
 |goto l=>exact b.elim
 |_=>exact⟨an,d,b⟩
theorem ex.label{l:Nat}(h:Q .normal f w):ex P n (.label l) Q f w:=by unfold ex;exactλa ep=>wp_label ⟨f,ep,h⟩
theorem Nx(h:Q .ret f w):PW Q .ret f w:=h
end
end
section
theorem LI(r:Option Addr):∀u∈(#[Value.pointer r]:Array Value).toList,u.oneCell'=true:=by intro u a;simp at a;subst a;rfl
instance:oi t7 where
 ih x:=.int .u64 (x.n:Int)
 same x:=by simp[Instr.sameBits]
theorem PY(x:t7):oi.ih x= .int .u64 (x.n:Int):=rfl
theorem PB{tx:Type}(ti:tx->Value)(k:t7):∀(l:List MapEntry)(eS:List (t7×tx))(i:Nat),l.map (λe=>(e.key,e.val))=eS.map (λp=>(oi.ih p.1,ti p.2)) ->Instr.findNow (.int .u64) (oi.ih k) l i=some (dL ti k eS i)
 |[],[],i,_=>rfl
 |e::l,(x,v)::eS,i,h=>by
  simp only[List.map_cons,List.cons.injEq,Prod.mk.injEq]at h;obtain⟨⟨G,Y⟩,ez⟩:=h;have d:=PB ti k l eS (i+1) ez;have f:Instr.sameNow (.int .u64) (oi.ih k) e.key=some (decide (k=x)):=by
   rw[G,PY,PY];simp only[Instr.sameNow,if_true,Option.some.injEq];rw[Bool.eq_iff_iff,decide_eq_true_eq,beq_iff_eq];constructor
   .intro h;obtain⟨a⟩:=k;obtain⟨b⟩:=x;have h:(a:Int)=(b:Int):=h;have:a=b:=by omega
    rw[this]
   intro h;rw[h]
  simp only[Instr.findNow,f,dL];by_cases c:k=x
  .rw[if_pos c,decide_eq_true c];simp[Y]
  rw[if_neg c,decide_eq_false c];exact d
 |[],_::_,_,h=>by simp at h
 |_::_,[],_,h=>by simp at h
instance{P:Program}{K:Nat}[ey:lc P K .u64]:u6 P K t7 where
 wq u7 w k:=by
  show(Instr.checkKey u7 (9999+1) K (.int .u64 (k.n:Int))).run P w= .ok () w;generalize 9999=d;rw[Instr.checkKey];simp[run_underlying ey.out]
 vA ti w k l eS h:=MapKept.run_findKey ey.out (PB ti k l eS 0 h)
section
variable{tl tx:Type}[DecidableEq tl][oi tl]{P:Program}{f:tr}{w w0:World}{S:List eL}{R:Value->World->Prop}{d:Option Tmp}{T:TypeId}{pos:String}{eO:Array Edge}{eV:Option (Nat×Bool)}
theorem Z.insert{t K ek r:Nat}{x ix y:Operand}{k:tl}{v:tx}{ti:tx->Value}{eS:List (tl×tx)}[th:rP P t K ek][e:u6 P K tl](E:U w0 S w)(a:tX (tW r ti eS) S)(b:eC f x= .map (some r))(ey:eC f ix=oi.ih k)(c:eC f y=ti v)
 (h:∀w',(∀tg,iD (tW r ti eS) (tW r ti (oH k v eS)) S tg->U w0 tg w') ->R undef w'):Z P f ⟨d,.insert t x ix y,T,pos,eO,eV⟩ w R:=by
 have em:=Z.mapUpdate (P:=P) (f:=f) (d:=d) (t:=t) (T:=T) (pos:=pos) (eO:=eO) (eV:=eV) E a b ey c h;unfold Z at em⊢;exact em
theorem LN{a n e:Nat}{x:Operand}{v:Value}{xs:List UInt8}[ep:de P a n e](b:eC f x=v)(c:ev w v xs)(g:xs.length=n)(em:0<n)(h:R (oK v 0 1) w):Z P f ⟨d,.sliceToArrayPointer a x,T,pos,eO,eV⟩ w R:=by
 subst g;obtain⟨i,cap,rfl,m,j⟩:=c.jt em;obtain⟨oY,k,e7⟩:=i;have l:e7=none:=j.1;subst l;refine iv (v:=oK (.slice (some ⟨oY,k,none⟩) xs.length cap) 0 1) (w':=w) ?_ h;simp[execOp,Instr.arrayAt,b,run_underlying ep.out,oK]
def mL(n:Nat)(xs:List UInt8):Vector UInt8 n:=if h:xs.length=n then⟨xs.toArray,by simp[h]⟩else oc n
theorem Qg{n:Nat}{xs:List UInt8}(h:xs.length=n):(mL n xs).toList=xs:=by unfold mL;rw[dif_pos h];simp[Vector.toList]
theorem ev.key{w:World}{v:Value}{xs:List UInt8}{n:Nat}(h:ev w v xs)(c:xs.length=n+1):ar w (oK v 0 1) (O.enc (mL (n+1) xs)):=by
 obtain⟨a,cap,rfl,_,d⟩:=h.jt (by omega);refine⟨a.block,a.off+0*1,rfl,λj u b=>?_⟩;rw[Nat.zero_mul,Nat.add_zero];refine d.2 j u ?_;rw[<-Array.getElem?_toList,I6,Qg c]at b;exact b
theorem Qw{s ek n:Nat}(a:fA P s ek)(c:nh P ek (n+1))(b o dl:Nat)(w:World):(Op.equal s (.pointer (some ⟨b,o,none⟩)) (.pointer (some ⟨b,dl,none⟩))).run P w= .ok (decide (o=dl)) w:=by
 unfold Op.equal;show(Op.equalIn (9999+1) s (.pointer (some ⟨b,o,none⟩)) (.pointer (some ⟨b,dl,none⟩))).run P w=_;generalize 9999=k;have d:((⟨b,o,none⟩:Addr)==⟨b,dl,none⟩)=decide (o=dl):=by
  rw[Bool.eq_iff_iff,beq_iff_eq,decide_eq_true_eq];constructor
  .intro h;injection h
  intro h;rw[h]
 simp[Op.equalIn,run_underlying a.out,m3 c,samePointer,sameAddr,d]
theorem LS{s t ek n:Nat}{x y:Operand}{b o dl:Nat}[a:fA P s ek][c:nh P ek (n+1)](e:eC f x= .pointer (some ⟨b,o,none⟩))(g:eC f y= .pointer (some ⟨b,dl,none⟩))(h:R (.bool (decide (o=dl))) w):Z P f ⟨d,.binOp .eql s x y t,T,pos,eO,eV⟩ w R:=by
 refine iv (v:=.bool (decide (o=dl))) (w':=w) ?_ h;have i:eqGuard .eql s x y (.pointer (some ⟨b,o,none⟩)) (.pointer (some ⟨b,dl,none⟩))=pure ():=rfl;have j:binOp .eql s (.pointer (some ⟨b,o,none⟩)) (.pointer (some ⟨b,dl,none⟩))=(do pure (.bool (<-Op.equal s (.pointer (some ⟨b,o,none⟩)) (.pointer (some ⟨b,dl,none⟩))))):=rfl;simp only[execOp,e,g,i,j,Sem.run_bind,Sem.run_pure,Result.andThen_ok,Qw a c]
theorem PK{x:Operand}{t n ek eo b o:Nat}[a:de P t n ek][c:nh P ek eo](e:eC f x= .pointer (some ⟨b,o,none⟩))(h:R (.slice (some ⟨b,o,none⟩) n n) w):Z P f ⟨d,.slice t x none none none,T,pos,eO,eV⟩ w R:=by
 refine iv (v:=.slice (some ⟨b,o,none⟩) n n) (w':=w) ?_ h;have g:(Instr.sliceBounds false n n none none none).run P w= .ok (0,n,n) w:=by
  unfold Instr.sliceBounds;simp
 simp only[execOp,Instr.sliceAt,Sem.run_bind,run_underlying a.out,Result.andThen_ok,e,Instr.sureAddr,Sem.run_pure,Option.map_none,g,m3 c];simp[wd]
end
end
section
open Go.ChangeShapes Go.WideShapes Go.ChangeAt
structure eU where
 n:Int
 deriving DecidableEq
instance:O eU where
 enc s:=#[.int .i64 s.n]
 eo:=1
 pos:=by omega
 eT _:=rfl
 one s u a:=by simp at a;subst a;rfl
section
variable{α:Type}[O α]{P:Program}{f:tr}{w w0:World}{S:List eL}{R:Value->World->Prop}{d:Option Tmp}{T:TypeId}{pos:String}{eO:Array Edge}{eV:Option (Nat×Bool)}
theorem PX{t N ek n m:Nat}{x y:Operand}{v:Value}{xs ys:List α}[A:hc P t ek][Q:nh P ek (O.eo α)](E:U w0 S w)(C:tX (B v ek xs) S)(q:eC f x=nT v n xs.length m (O.eo α))(V:ev w (eC f y) ys)(eM:n+ys.length<=xs.length)(th:xs.length<=m)(W:m<=s1 v)
 (h:∀w',(∀tg,iD (B v ek xs) (B v ek (xs.take n++ys++xs.drop (n+ys.length))) S tg->U w0 tg w') ->R (.int .i64 (ys.length:Int)) w'):Z P f ⟨d,.call {callee:=.builtin .copy,args:=#[x,y],argTypes:=#[t,N]},T,pos,eO,eV⟩ w R:=by
 have pU:=O.pos (α:=α);obtain⟨i,ey,X⟩:∃i,P.info? ek=some i/\i.size=O.eo α:=by
  have G:=Q.out;cases ey:P.info? ek with
  |none=>simp[ey]at G
  |some i=>simp[ey]at G;exact⟨i,rfl,G⟩
 have D:=E.ue C;obtain⟨a,c,F,al,aJ,nl,qJ⟩:=V;by_cases tp:ys.length=0
 .have vb:ys=[]:=List.eq_nil_of_length_eq_zero tp;subst vb;have vp:xs.take n++[]++xs.drop (n+([]:List α).length)=xs:=by simp
  rw[vp]at h;refine iv (v:=.int .i64 0) (w':=w) ?_ (h w λtg r=>lk ⟨rfl,rfl,rfl,Nat.le_refl _,λ_ _ _=>rfl⟩ (E.get C) (λk p=>.inl p) E r);have h9:∀(x:Addr),(loadCells x 0).run P w= .ok #[] w:=λx=>by simpa using run_loadCells_list (P:=P) w x [] (by simp)
  obtain⟨b,yq,Qy,tC⟩:=D.shape.JY;subst tC;generalize tB:nT (.slice b yq Qy) n xs.length m (O.eo α)=ur at q;obtain⟨aa,sd,nr,rfl⟩:∃aa sd nr,ur= .slice aa sd nr:=by subst tB;exact⟨_,_,_,rfl⟩
  cases a<;>cases aa<;>simp[execOp,resolve,Go.invoke,builtin,q,F,Builtin.copy_,run_underlying A.out,Builtin.lenOf,Builtin.firstCells,sizeOf,typeInfo,ey,goInt,h9,storeCells]
 rcases D with⟨rfl,rfl⟩|⟨g,cap,i9,rfl,H,I,ro,ss,mO⟩
 .exfalso;simp only[List.length_nil]at eM;omega
 obtain⟨l,rfl⟩:∃l,a=some l:=by
  cases a with
  |none=>have:=nl rfl;omega
  |some l=>exact⟨l,rfl⟩
 have J:=qJ l rfl (by omega);have Lf:∀(j:Nat)(u:Value),(iE ys)[j]? =some u->w.cell? (l.add j)=some u:=by
  intro j u tM;have Y:=J.2 j u tM;have e:l.add j=⟨l.block,l.off+j,none⟩:=by
   have G:=J.1;obtain⟨b,o,s⟩:=l;simp only at G;subst G;exact wd b o j
  rw[e];exact Y
 have z:(iE ys).length=ys.length*O.eo α:=uj ys;have hmul:xs.length*O.eo α<=cap*O.eo α:=Nat.mul_le_mul_right _ I;have Pr:(n+ys.length)*O.eo α<=xs.length*O.eo α:=Nat.mul_le_mul_right _ eM;have ra:(n+ys.length)*O.eo α=n*O.eo α+ys.length*O.eo α:=Nat.add_mul _ _ _;have K:=run_loadCells_list (P:=P) w l (iE ys) Lf;have L:=run_storeCells_at P g (n*O.eo α) ek (iE ys) 0 i9 w H (by omega) (IN ys);simp only[Nat.add_zero]at L;have Lp:Nat.min ys.length (xs.length-n)=ys.length:=Nat.min_eq_left (by omega);have Ap:¬m=n:=by omega
 have pB:eC f x= .slice (some ⟨g,n*O.eo α,none⟩) (xs.length-n) (m-n):=by rw[q];simp[nT,Ap]
 refine iv (v:=.int .i64 (ys.length:Int)) (w':=w.setRow g (i9.toList.take (n*O.eo α)++iE ys++i9.toList.drop (n*O.eo α+(iE ys).length)).toArray) ?_ (h _ λtg r=>lk ?_ ?_ ?_ E r)
 .rw[z]at K;have aA:(Builtin.firstCells (O.eo α) ys.length (.slice (some l) ys.length c)).run P w= .ok (iE ys).toArray w:=by simp[Builtin.firstCells,K]
  simp[execOp,resolve,Go.invoke,builtin,pB,F,Builtin.copy_,run_underlying A.out,Builtin.lenOf,sizeOf,typeInfo,ey,X,Lp,goInt,aA,L]
 .rw[db];exact⟨rfl,rfl,rfl,by simp[World.setRow],λk _ p=>setRow_other w g k _ (λe=>p (by simp[Value.ownBlock,e]))⟩
 .rw[dv];have hlen:(xs.take n++ys++xs.drop (n+ys.length)).length=xs.length:=by simp;omega
  refine .inr ⟨g,cap,_,by rw[hlen],setRow_heap w g i9 _ ek _ H,by rw[hlen];exact I,ro,?_,?_⟩
  .simp only[List.size_toArray,List.length_append,List.length_take,List.length_drop,Array.length_toList];omega
  rw[hlen,vy,vy,IR,IH,<-mO,z];simp only;rw[List.take_take,Nat.min_eq_left (by omega),<-ra];have M:(List.take (n*O.eo α) i9.toList++iE ys).length=(n+ys.length)*O.eo α:=by
   rw[List.length_append,List.length_take,z,Array.length_toList,Nat.min_eq_left (by omega)];omega
  rw[List.take_append,List.take_of_length_le (by rw[M];exact Pr),M];congr 1;rw[List.drop_take]
 rw[db,db];exactλk p=>.inl p
end
end
section
variable{P:Program}{g:FuncId}{args vs:List Value}{w:World}{R ek:Value->World->Prop}{n id:Nat}{a:Act}{f:tr}{o:Oper}{aw:List ResultVar}{fn:Func}{v:Value}{bb bv:TypeId}{bk bx:String}{bj bq:Array Edge}{nN:Array TypeId}
def s3(v:Value):PanicEntry:={v:=v,recovered:=false}
@[irreducible] def hC (P:Program) (g:FuncId) (args:Array Value) (w:World) (R ek:Value->World->Prop):Prop:=
 Calls P g args w λe w'=>(∃v,e= .returned v/\R v w')∨(∃v,e= .panicked [s3 v]/\ek v w')
theorem hC.mono{args:Array Value}{R' b:Value->World->Prop}(h:hC P g args w R ek)(c:∀v w',R v w'->R' v w')(a:∀v w',ek v w'->b v w'):hC P g args w R' b:=by
 unfold hC at*;exact Calls.mono h λe w' h=>h.imp (λ⟨v,a,tC⟩=>⟨v,a,c _ _ tC⟩) (λ⟨v,G,tC⟩=>⟨v,G,a _ _ tC⟩)
@[irreducible] def rX (P:Program) (f:tr) (o:Oper) (w:World) (R ek:Value->World->Prop):Prop:=
 match(execOp (eC f) o).run P w with
 | .ok (.value v) w'=>R v w'
 | .ok .skip w'=>R undef w'
 | .ok (.enter g args) w'=>Calls P g args w' λe hl=>(∃v,e= .returned v/\R v hl)∨(∃v,e= .panicked [s3 v]/\ek v hl)
 | .halt (.panic v) w'=>ek v w'
 |_=>False
theorem PJ[D:lH]{K:Act->World->Prop}{Q:Exit->Act->World->Prop}
 (g:sa n a f) (h:rX P f o w R ek) (c:∀v w',R v w'->K (a.put o.dst v) w') (d:∀v w',ek v w'->Q (.panic [s3 v]) a w'):o.wp P a w K Q:=by
 unfold rX at h;unfold Oper.wp;rw[g.eval];generalize(execOp (eC f) o).run P w=r at*;cases r with
 |ok x w'=>
  cases x<;>simp only[Oper.upon]at* <;>try exact c _ _ h
  all_goals first
   |exact(h:False).elim
   |(refine Calls.mono h λe i b=>?_
     rcases b with⟨v,b,tC⟩|⟨v,b,tC⟩
     .subst b;exact c _ _ tC
     subst b;exact d _ _ tC)
 |halt x w'=>
  cases x<;>simp only[Oper.upon]at* <;>first
   |exact d _ _ h
   |exact(h:False).elim
section
variable[D:lH]{P:Program}{n tt:Nat}{I:World->Prop}{ops:Array Oper}{Q:Exit->tr->World->Prop}{r:sU}{f:tr}{w:World}
theorem PQ{d:Option Tmp}{op:Op}{T:TypeId}{pos:String}{eO:Array Edge}{rest:List Oper}
 (h:rX P f ⟨d,op,T,pos,eO,none⟩ w (λv w'=>tn P n ops Q rest (dB f d v) w') (λv w'=>Q (.panic [s3 v]) f w'))
 (hd:∀x,d=some x->x<n):tn P n ops Q (⟨d,op,T,pos,eO,none⟩::rest) f w:=by
 unfold tn at h⊢;intro a ep;refine wpList_plain rfl λK b=>PJ ep h (λv w' tC=>b _ _ ?_) (λv w' tC=>⟨f,ep,tC⟩);exact tC _ (ep.put hd v)
theorem dd{d:Nat}{op:Op}{T:TypeId}{pos:String}{eO:Array Edge}{rest:List Oper}(hd:Nat.blt d n=true)
 (h:rX P f ⟨some d,op,T,pos,eO,none⟩ w (λv w'=>tn P n ops Q rest (o2 f d v) w') (λv w'=>Q (.panic [s3 v]) f w')):
 tn P n ops Q (⟨some d,op,T,pos,eO,none⟩::rest) f w:=
 PQ (d:=some d) h (by intro x a;cases a;simpa using hd)
theorem Qb{op:Op}{T:TypeId}{pos:String}{eO:Array Edge}{rest:List Oper}
 (h:rX P f ⟨none,op,T,pos,eO,none⟩ w (λ_ w'=>tn P n ops Q rest f w') (λv w'=>Q (.panic [s3 v]) f w')):
 tn P n ops Q (⟨none,op,T,pos,eO,none⟩::rest) f w:=
 PQ (d:=none) h (by intro x a;cases a)
theorem Qv{i d:Nat}{op:Op}{T:TypeId}{pos:String}{eO:Array Edge}(ey:ops[i]? =some ⟨some d,op,T,pos,eO,none⟩)(hd:Nat.blt d n=true)
 (b:Nat.blt i tt=true) (h:rX P f ⟨some d,op,T,pos,eO,none⟩ w (λv w'=>I w'/\e3 P n ops tt I Q r (o2 f d v) w') (λv w'=>Q (.panic [s3 v]) f w')):e3 P n ops tt I Q (.one i r) f w:=by
 have b:i<tt:=by simpa using b
 refine kM ey λa ep=>?_;unfold wpOp;simp only[ey,Region.wanted,if_true];exact .inl (PJ ep h (λv w'⟨c,th⟩=>⟨⟨λ_=>c,.inl b⟩,_,ep.put (dst:=some d) (by intro x e;cases e;simpa using hd) v,th⟩) (λv w' tC=>⟨f,ep,tC⟩))
end
section
variable{P:Program}{f:tr}{w:World}{R ek:Value->World->Prop}{d:Option Tmp}{T:TypeId}{pos:String}{eO:Array Edge}{eV:Option (Nat×Bool)}
theorem rX.call{g:FuncId}[i:dy P g]{args:Array Operand}{nN:Array TypeId}{vs:List Value}{R' c:Value->World->Prop}(a:hC P g vs.toArray w R' c)(j:args.toList.map (eC f)=vs)(Y:∀v w',c v w'->ek v w')(h:∀v w',R' v w'->R v w'):
 rX P f ⟨d,.call {callee:=.value (.func g),args:=args,argTypes:=nN},T,pos,eO,eV⟩ w R ek:=by
 unfold hC at a;have ep:args.map (eC f)=vs.toArray:=by subst j;apply Array.ext';simp
 rw[<-ep]at a;have k:(execOp (eC f) ⟨d,.call {callee:=.value (.func g),args:=args,argTypes:=nN},T,pos,eO,eV⟩).run P w= .ok (.enter g (args.map (eC f))) w:=by
  simp[execOp,resolve,eC,Deferred.ofValue,Go.invoke,gI i]
 unfold rX;rw[k];exact Calls.mono a λe w' h'=>h'.imp (λ⟨v,b,tC⟩=>⟨v,b,h _ _ tC⟩) (λ⟨v,b,tC⟩=>⟨v,b,Y _ _ tC⟩)
theorem LR{g:FuncId}[i:dy P g]{x:Operand}{args:Array Operand}{nN:Array TypeId}{vs nx:List Value}{R' c:Value->World->Prop}(j:eC f x= .func (.func g) nx.toArray #[])(a:hC P g (nx++vs).toArray w R' c)(k:args.toList.map (eC f)=vs)(Y:∀v w',c v w'->ek v w')(h:∀v w',R' v w'->R v w'):
 rX P f ⟨d,.call {callee:=.value x,args:=args,argTypes:=nN},T,pos,eO,eV⟩ w R ek:=by
 unfold hC at a;have ep:(nx++vs).toArray=nx.toArray++args.map (eC f)++#[]:=by subst k;apply Array.ext';simp
 rw[ep]at a;have l:(execOp (eC f) ⟨d,.call {callee:=.value x,args:=args,argTypes:=nN},T,pos,eO,eV⟩).run P w= .ok (.enter g (nx.toArray++args.map (eC f)++#[])) w:=by
  simp only[execOp,resolve,j,Deferred.ofValue,Sem.run_bind,Sem.run_pure,Result.andThen_ok,Go.invoke,gI i]
 unfold rX;rw[l];exact Calls.mono a λe w' h'=>h'.imp (λ⟨v,b,tC⟩=>⟨v,b,h _ _ tC⟩) (λ⟨v,b,tC⟩=>⟨v,b,Y _ _ tC⟩)
theorem rX.panic{x:Operand}{t:TypeId}{v:Value}(a:eC f x= .iface t v)(h:ek (.iface t v) w):rX P f ⟨d,.panic x,T,pos,eO,eV⟩ w R ek:=by
 have b:(execOp (eC f) ⟨d,.panic x,T,pos,eO,eV⟩).run P w= .halt (.panic (.iface t v)) w:=by
  simp[execOp,a,Instr.panic]
 unfold rX;rw[b];exact h
end
def LH(P:Program)(aw:List ResultVar)(R ek:Value->World->Prop):Exit->tr->World->Prop
 | .normal,f,w| .ret,f,w=>∃vs,hY P f w aw vs/\R (u0 vs) w
 | .panic c,_,w=>∃v,c=[s3 v]/\ek v w
 |_,_,_=>False
theorem wS(h:hY P f w aw vs)(a:R (u0 vs) w):LH P aw R ek .ret f w:=⟨vs,h,a⟩
theorem Qk(h:hY P f w aw vs)(a:R (u0 vs) w):LH P aw R ek .normal f w:=⟨vs,h,a⟩
theorem zy{m:Nat}(a:m=n)(b:args.length<=n):sa n {tmps:=args.toArray++Array.replicate (m-args.toArray.size) undef,defers:=[]} (mq args):=by
 refine⟨rfl,by simp[a];omega,λi=>?_⟩;simp only[mq,Array.getD_eq_getD_getElem?,Array.getElem?_append,List.size_toArray];split
 .simp
 rename_i ey;have:args[i]? =none:=List.getElem?_eq_none (by omega);simp only[this,Option.getD_none,Array.getElem?_replicate];split<;>rfl
theorem hC.enter{c:Code}
 (f:P.funcs[g]? =some fn) (i:fn.body=some c) (j:fn.ntmps=n) (b:fn.results=aw.toArray) (k:Nat.ble args.length n=true)
 (h:ex P n c (LH P aw R ek) (mq args) w):hC P g args.toArray w R ek:=by
 unfold hC;refine calls_of_wp f i ?_;unfold ex at h;have l:=zy j (by simpa using k:args.length<=n);have m:fn.results.toList=aw:=by rw[b]
 subst m;refine wp_mono (h _ l) λe a w⟨an,b,q⟩=>?_;cases e with
 |normal=>
  obtain⟨vs,tC,d⟩:=q;exact⟨b.defers,_,tC.run b,.inl ⟨_,rfl,d⟩⟩
 |ret=>
  obtain⟨vs,tC,d⟩:=q;exact⟨b.defers,_,tC.run b,.inl ⟨_,rfl,d⟩⟩
 |panic c=>
  obtain⟨v,rfl,d⟩:=q;exact⟨b.defers,.inr ⟨_,rfl,d⟩⟩
 |_=>exact(q:False).elim
theorem sa.out{D:lH}(h: @sa D n a f):a.defers=D.uZ/\a.tmps.size=n/\∀i,a.tmps.getD i undef=f i:=⟨h.defers,h.size,h.aQ⟩
theorem Qx{ops:Array Oper}{Q:Exit->Act->List Frame->World->Prop}{i:Nat}{rest:List Nat}{cs:List Frame}{w':World}(ey:ops[i]? =some o)(b:o.guard=none)
 (c:(execOp a.eval o).run P w= .ok (.value v) w') (h:wpOpsS P ops Q rest (a.put o.dst v) cs w'):wpOpsS P ops Q (i::rest) a cs w:=by
 simp only[wpOpsS,ey,Region.wanted,b,if_true,c];simpa only[Oper.upon]using h
def Qj(R:World->Prop):Exit->tr->World->Prop
 | .normal,_,w| .ret,_,w=>R w
 |_,_,_=>False
class PZ(P:Program)(T:TypeId):Prop where out:∃lz,P.underlying T=some (.interface lz)
section
variable{P:Program}{f:tr}{w:World}{R:Value->World->Prop}{d:Option Tmp}{T:TypeId}{pos:String}{eO:Array Edge}{eV:Option (Nat×Bool)}
theorem P0{s t:TypeId}{x:Operand}{v:Value}{b:Bool}[a:PZ P s](c:eC f x=v)(tC:(v= .nilIface/\b=false)∨(∃u y,v= .iface u y)/\b=true)(h:R (.bool b) w):Z P f ⟨d,.binOp .neq s x (.const .nilIface) t,T,pos,eO,eV⟩ w R:=by
 obtain⟨lz,e⟩:=a.out;refine iv (v:=.bool b) (w':=w) ?_ h;have g:(Op.equal s v .nilIface).run P w= .ok (!b) w:=by
  unfold Op.equal;show(Op.equalIn (9999+1) s v .nilIface).run P w= .ok (!b) w;generalize 9999=k;rcases tC with⟨rfl,rfl⟩|⟨⟨u,y,rfl⟩,rfl⟩<;>simp[Op.equalIn,run_underlying e]
 have i:(eqGuard .neq s x (.const .nilIface) v .nilIface).run P w= .ok () w:=by
  rcases tC with⟨rfl,rfl⟩|⟨⟨u,y,rfl⟩,rfl⟩<;>simp[eqGuard]
 have j:binOp .neq s v .nilIface=(do pure (.bool (!(<-Op.equal s v .nilIface)))):=by
  rcases tC with⟨rfl,rfl⟩|⟨⟨u,y,rfl⟩,rfl⟩<;>rfl
 have l:eC f (.const .nilIface)= .nilIface:=rfl;simp only[execOp,c,l,j,Sem.run_bind,i,Result.andThen_ok,g,Sem.run_pure,Bool.not_not]
theorem Qq{s a:TypeId}{x:Operand}{v:Value}{zs:List (Array Value)}[th:nM P s zs](b:eC f x= .iface s v)(h:R (.tuple #[v,.bool true]) w):Z P f ⟨d,.typeAssert x a s true,T,pos,eO,eV⟩ w R:=by
 refine iv (v:=.tuple #[v,.bool true]) (w':=w) ?_ h;obtain⟨nx,c,_⟩:=th.out;simp[execOp,b,Instr.typeAssert,run_underlying c]
end
theorem P1{nr:Code}{d1 d2:Nat}{R:World->Prop}{u b:FrameMode}
 (p:P.funcs[g]? =some fn) (q:fn.body=some (.seq (.region id [⟨some d1,.call {callee:=.builtin .recover,args:=#[],argTypes:=nN},bb,bk,bj,none⟩,⟨some d2,.assign (.tmp d1),bv,bx,bq,none⟩].toArray false) nr))
 (r:fn.ntmps=n) (s:fn.results=#[]) (t:Nat.ble args.length n=true) (y:Nat.blt d1 n=true) (z:Nat.blt d2 n=true)
 (A:(u= .returning/\b= .returning/\v= .nilIface)∨(u= .panicking [s3 v]/\b= .panicking [{v:=v,recovered:=true}]))
 (h:ex P n nr (Qj R) (o2 (o2 (mq args) d1 v) d2 v) w):
 CallsD P g args.toArray u w (λe m w'=>m=b/\∃x,e= .returned x/\R w'):=by
 refine callsD_of_wpS p q λc cs th=>?_;have B:=zy r (by simpa using t:args.length<=n);refine wpS_seq (wpS_region ?_);unfold ex at h;have C:d1<n:=by simpa using y
 have D:d2<n:=by simpa using z
 generalize I:({tmps:=args.toArray++Array.replicate (fn.ntmps-args.toArray.size) undef,defers:=[]}:Act)=a at*;have i:=B.put (dst:=some d1) (by intro x d;cases d;exact C) v;have E:=i.put (dst:=some d2) (by intro x d;cases d;exact D) v;have F:(a.put (some d1) v).eval (.tmp d1)=v:=by
  rw[i.eval];simp[eC,dB,y9]
 have H:∀w,(execOp a.eval ⟨some d1,.call {callee:=.builtin .recover,args:=#[],argTypes:=nN},bb,bk,bj,none⟩).run P w= .ok .recover w:=by
  intro w;simp[execOp,resolve,Go.invoke,builtin]
 have key:∀iR,iR={c with mode:=b}::cs->wpOpsS P [⟨some d1,.call {callee:=.builtin .recover,args:=#[],argTypes:=nN},bb,bk,bj,none⟩,⟨some d2,.assign (.tmp d1),bv,bx,bq,none⟩].toArray (Exit.thenS (nr.wpS P (bodyPostS P fn c cs λe m w'=>m=b/\∃x,e= .returned x/\R w')) (bodyPostS P fn c cs λe m w'=>m=b/\∃x,e= .returned x/\R w')) [1] (a.put (some d1) v) iR w:=by
  intro iR j;refine Qx (o:=⟨some d2,.assign (.tmp d1),bv,bx,bq,none⟩) (v:=v) (w':=w) rfl rfl (by simp[execOp,F]) ?_;show Code.wpS _ _ _ _ _ _;refine wpS_of_wp (wp_mono (h _ E) ?_);rintro e tm w' ⟨an,k,f⟩;have l:(results fn tm.tmps).run P w'= .ok (.tuple #[]) w':=by unfold results;simp[s]
  cases e with
  |normal=>exact⟨k.defers,b,j,_,l,rfl,_,rfl,f⟩
  |ret=>exact⟨k.defers,b,j,_,l,rfl,_,rfl,f⟩
  |_=>exact(f:False).elim
 show wpOpsS P _ _ [0,1] a (c::cs) w;unfold wpOpsS;simp only[List.getElem?_toArray,List.getElem?_cons_zero,Region.wanted,if_true,H];rcases A with⟨G,Y,ez⟩|⟨G,Y⟩
 .have e:recoverD (c::cs)=none:=by simp[recoverD,th,G]
  simp only[e];subst ez;refine key _ ?_;rw[Y,<-G,<-th]
 have e:recoverD (c::cs)=some (v,{c with mode:=b}::cs):=by simp[recoverD,th,G,Y,s3]
 simp only[e];exact key _ rfl
theorem QO{tmps:Array Value}{R:Ending->World->Prop}{cap:Array Value}{u:FrameMode}[b:dy P g]{lo:World->Prop}{m:FrameMode}(c:u≠ .run)(th:settle m= .returning)
 (h:CallsD P g cap u w (λe a w'=>a=m/\∃x,e= .returned x/\lo w')) (d:∀w',lo w'->∃v,(results fn tmps).run P w'= .ok v w'/\R (.returned v) w'):
 Leaves P fn tmps R [{target:=.fn (.func g) cap,args:=#[]}] u w:=by
 refine leaves_cons (f:=g) (args:=cap) c (by simp[Go.invoke,gI b]) (h.mono ?_);rintro e a w' ⟨rfl,x,rfl,i⟩;obtain⟨v,G,Y⟩:=d _ i;simp only[th];exact⟨v,G,Y⟩
theorem QI{gc:FuncId}[W:dy P gc]{jA jO:Code}{d:Nat}{h:Array Operand}{cs:tr->List Value}
 {rK:tr->World->Prop}
 (t:P.funcs[g]? =some fn) (u:fn.body=some (.seq jA (.seq (.region id [⟨some d,.makeFunc (.func gc) #[] h,bb,bk,bj,none⟩,⟨none,.defer {callee:=.value (.tmp d),args:=#[],argTypes:=nN},bv,bx,bq,none⟩].toArray false) jO)))
 (y:fn.ntmps=n) (z:fn.results=aw.toArray) (A:Nat.ble args.length n=true) (hd:Nat.blt d n=true)
 (q:ex P n jA (λe f w'=>e= .normal/\rK f w') (mq args) w)
 (B:∀f,h.toList.map (eC f)=cs f)
 (i:∀f w'(l:List Value)(D:lH),rK f w'->cs f=l->D=⟨[{target:=.fn (.func gc) l.toArray,args:=#[]}]⟩ -> @ex D P n jO (λe an C=>∃m j:FrameMode,(e= .normal/\m= .returning∨e= .ret/\m= .returning∨∃c,e= .panic c/\m= .panicking c)/\m≠ .run/\settle j= .returning/\
  ∃lo:World->Prop,CallsD P gc l.toArray m C (λe E b=>E=j/\∃x,e= .returned x/\lo b)/\∀b,lo b->∃vs,hY P an b aw vs/\R (u0 vs) b) (o2 f d (.func (.func gc) #[] l.toArray)) w'):nk P g args.toArray w R:=by
 unfold nk;refine calls_of_wp_defers t u ?_;have F:=zy y (by simpa using A:args.length<=n);have G:d<n:=by simpa using hd
 have H:fn.results.toList=aw:=by rw[z]
 subst H;unfold ex at q;refine wp_seq (wp_mono (q _ F) ?_);rintro e a aM ⟨f,ep,rfl,I⟩;have i:=i f aM _ _ I rfl rfl;show Code.wp _ _ _ _ _;refine wp_seq (wp_region_lit ?_);have J:(execOp a.eval ⟨some d,.makeFunc (.func gc) #[] h,bb,bk,bj,none⟩).run P aM= .ok (.value (.func (.func gc) #[] (cs f).toArray)) aM:=by
  have:h.map (eC f)=(cs f).toArray:=by rw[<-B f];apply Array.ext';simp
  rw[ep.eval];simp[execOp,Instr.makeFunc,this]
 have k:=ep.put (dst:=some d) (by intro x L;cases L;exact G) (.func (.func gc) #[] (cs f).toArray);have M:(execOp (a.put (some d) (.func (.func gc) #[] (cs f).toArray)).eval ⟨none,.defer {callee:=.value (.tmp d),args:=#[],argTypes:=nN},bv,bx,bq,none⟩).run P aM= .ok (.defer {target:=.fn (.func gc) (cs f).toArray,args:=#[]}) aM:=by
  rw[k.eval];simp[execOp,resolve,eC,dB,y9,Deferred.ofValue]
 refine wpList_plain rfl λK o=>?_;unfold Oper.wp;rw[J];refine o _ _ ?_;refine wpList_plain rfl λK o=>?_;unfold Oper.wp;rw[M];refine o _ _ (wpList_nil ?_);show Code.wp _ _ _ _ _;have r: @sa ⟨[{target:=.fn (.func gc) (cs f).toArray,args:=#[]}]⟩ n {(a.put (some d) (.func (.func gc) #[] (cs f).toArray))with defers:=[{target:=.fn (.func gc) (cs f).toArray,args:=#[]}]} (o2 f d (.func (.func gc) #[] (cs f).toArray)):=
  @sa.mk ⟨_⟩ _ _ _ rfl k.size k.aQ
 have N:a.defers=[]:=ep.defers;unfold ex at i;simp only[Act.put,N]at r⊢;refine wp_mono (i _ r) ?_;rintro e tm w' ⟨an,p,m,j,th,O,Q,lo,S,T⟩;have U:Leaves P fn tm.tmps (λe w'=>∃v,e= .returned v/\R v w') [{target:=.fn (.func gc) (cs f).toArray,args:=#[]}] m w':=by
  refine QO O Q S λb ez=>?_;obtain⟨vs,tC,V⟩:=T b ez;exact⟨_,tC.run (a:={tm with defers:=[]}) (n:=n) (sa.mk rfl p.out.2.1 p.out.2.2),_,rfl,V⟩
 have s:=p.out.1;simp only at s;rcases th with⟨rfl,rfl⟩|⟨rfl,rfl⟩|⟨c,rfl,rfl⟩<;>(show Leaves _ _ _ _ _ _ _;rw[s];exact U)
end
end Go.Fer
