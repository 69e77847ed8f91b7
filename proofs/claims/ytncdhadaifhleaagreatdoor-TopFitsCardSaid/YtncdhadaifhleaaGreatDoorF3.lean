import Derived.Test.YtncdhadaifhleaaGreatDoorF2
import Derived.Lib.AppendZeros
set_option linter.all false
set_option synthInstance.maxSize 100000
set_option synthInstance.maxHeartbeats 400000
set_option maxHeartbeats 8000000
set_option maxRecDepth 100000
namespace Go.Fer
open Go Go.RowKit
section
variable{P:Program}{n i d g e eo o id:Nat}{f:tr}{w:World}{op:Op}{T bb bv:TypeId}{pos bk bx:String}{eO bj bq:Array Edge}{α:Type}{v:eu}{S:List eL}{c p q:Array Value}{cs args:List Value}{R:Value->World->Prop}{fn:Func}{aw:List ResultVar}{rK:tr->World->Prop}{gc:FuncId}{jA jO:Code}{nN:Array TypeId}
section
variable[D:lH]{P:Program}{n:Nat}{Q:Exit->tr->World->Prop}{f:tr}{w:World}
theorem zb{c:Operand}{x y:Code}(a:eC f c= .bool true)(h:ex P n x Q f w):ex P n (.cond c x y) Q f w:=ex.cond true a (λ_=>h) (λe=>by cases e)
theorem xo{c:Operand}{x y:Code}(a:eC f c= .bool false)(h:ex P n y Q f w):ex P n (.cond c x y) Q f w:=ex.cond false a (λe=>by cases e) (λ_=>h)
def og(P:Program)(n:Nat)(c:Code)(Q:Exit->tr->World->Prop):Nat->tr->World->Prop
 |0,_,_=>False
 |m+1,f,w=>ex P n c (fE (og P n c Q m) Q) f w
theorem oU{c:Code}(m:Nat)(h:og P n c Q m f w):ex P n (.loop c) Q f w:=by
 refine ex.loop (λm f w=>og P n c Q m f w) m h λm f w a=>?_;cases m with
 |zero=>exact a.elim
 |succ m=>
  refine ex.mono (a:ex P n c (fE (og P n c Q m) Q) f w) λe f w q=>?_;cases e with
  |normal=>exact⟨m,Nat.lt_succ_self m,q⟩
  |_=>exact q
theorem og.step{c:Code}{m:Nat}(h:ex P n c (fE (og P n c Q m) Q) f w):og P n c Q (m+1) f w:=h
end
section
variable[D:lH]{P:Program}{n tt:Nat}{ops:Array Oper}{Q:Exit->tr->World->Prop}{f:tr}{w:World}{I:World->Prop}{r:sU}
theorem wH{i d:Nat}{op:Op}{T:TypeId}{pos:String}{eO:Array Edge}{g:Nat}{a1:Bool}(t:Nat)(ey:ops[i]? =some ⟨some d,op,T,pos,eO,some (g,a1)⟩)(eM:Op.looks op=true)(hd:Nat.blt d n=true)
 (a:(ops[g]?).bind (·.dst)=some t) (b:Nat.blt t n=true) (c:f t= .bool (!a1)) (e:e3 P n ops tt I Q r (o2 f d undef) w):e3 P n ops tt I Q (.look i r) f w:=
 TB (ek:=undef) (!a1) t ey eM hd a b c (λh=>by cases a1<;>simp at h) (by rw[bi (by cases a1<;>rfl)];exact e)
theorem xi{i d:Nat}{op:Op}{T:TypeId}{pos:String}{eO:Array Edge}{g:Nat}{a1:Bool}(t:Nat)(ey:ops[i]? =some ⟨some d,op,T,pos,eO,some (g,a1)⟩)(eM:Op.looks op=true)(hd:Nat.blt d n=true)
 (a:(ops[g]?).bind (·.dst)=some t) (b:Nat.blt t n=true) (c:f t=undef) (e:e3 P n ops tt I Q r (o2 f d undef) w):e3 P n ops tt I Q (.look i r) f w:=
 Fq (ek:=undef) false true t ey eM hd a b (by rw[c,bi rfl]) (λh=>by simp at h) (by rw[bi (Bool.false_and _)];exact e)
end
theorem QS{D:lH}{tt:Nat}{ops:Array Oper}{Q:Exit->tr->World->Prop}{I:World->Prop}{r:sU}{a1:Bool}(t:Nat)(c:I w)(ey:ops[i]? =some ⟨some d,op,T,pos,eO,some (g,a1)⟩)(hd:Nat.blt d n=true)
 (e:(ops[g]?).bind (·.dst)=some t) (h:Nat.blt t n=true) (j:f t= .bool (!a1)) (b:Nat.blt i tt=true)
 (k:e3 P n ops tt I Q r (o2 f d undef) w):e3 P n ops tt I Q (.one i r) f w:=by
 have b:i<tt:=by simpa using b
 refine kM ey λa ep=>?_;have l:Region.wanted ⟨some d,op,T,pos,eO,some (g,a1)⟩ (yielded ops a.tmps)=false:=by
  simp only[Region.wanted];have:yielded ops a.tmps g=some (!a1):=by
   unfold yielded;simp only[e,Option.bind_some,vf ep (t:=t) (by simpa using h),j]
  rw[this];cases a1<;>simp
 unfold wpOp;simp only[ey,l,Bool.false_eq_true,if_false];exact⟨⟨λ_=>c,.inl b⟩,_,ep.put (dst:=some d) (by intro x m;cases m;simpa using hd) undef,k⟩
def eu.cut(v:eu)(l h m eo:Nat):eu:=⟨if m=l then v.a else v.a.map λoI=>⟨oI.block,oI.off+l*eo,none⟩,h-l,m-l⟩
theorem sf[O α]{xs ys:List α}(a:ev w v.v xs){l h m:Nat}(G:l<=h)(Y:h<=xs.length)(ez:h<=m)(e6:m<=s1 v.v)(b:(xs.take h).drop l=ys):ev w (v.cut l h m (O.eo α)).v ys:=by
 subst b;exact ev.cut a G Y ez e6
section
variable{α:Type}[O α]{P:Program}{f:tr}{w:World}{R:Value->World->Prop}{d:Option Tmp}{T:TypeId}{pos:String}{eO:Array Edge}{eV:Option (Nat×Bool)}{t ek:Nat}{x y:Operand}{v:eu}{xs:List α}{l h':Nat}{k:IntKind}
theorem zv[hc P t ek][nh P ek (O.eo α)](a:eC f x=v.v)(b:ev w v.v xs)(e:eC f y= .int k (h':Int))(eM:h'<=xs.length)(h:R (v.cut 0 h' v.c (O.eo α)).v w):Z P f ⟨d,.slice t x none (some y) none,T,pos,eO,eV⟩ w R:=
 hq (xs:=xs) (l:=0) (h':=h') (m:=v.c) (by rw[a];exact b) ⟨by rw[a];rfl,by rw[a];exact Nat.le_refl _⟩ ⟨⟨k,e⟩,Nat.le_trans eM b.cap⟩ ⟨rfl,Nat.zero_le _⟩ (by rw[a];exact h)
theorem P3[hc P t ek][nh P ek (O.eo α)](a:eC f x=v.v)(b:ev w v.v xs)(e:eC f y= .int k (l:Int))(eM:l<=xs.length)(h:R (v.cut l xs.length v.c (O.eo α)).v w):Z P f ⟨d,.slice t x (some y) none none,T,pos,eO,eV⟩ w R:=
 hq (xs:=xs) (l:=l) (h':=xs.length) (m:=v.c) (by rw[a];exact b) ⟨by rw[a];rfl,by rw[a];exact Nat.le_refl _⟩ ⟨⟨rfl,rfl⟩,b.cap⟩ ⟨⟨k,e⟩,eM⟩ (by rw[a];exact h)
end
theorem iD.QR{e oZ:eL}{tg:List eL}(h:iD e oZ S tg):tX oZ tg:=by
 induction h with
 |nU=>exact .nU
 |ee _ a=>exact .ee a
theorem h3(h:c.toList.all (λu=>u.oneCell')=true):∀u∈c.toList,u.oneCell'=true:=λu a=>List.all_eq_true.1 h u a
theorem ewy{T b:Nat}[mE P T][nh P T eo]{cs:Array Value}(a:ar w (.pointer (some ⟨b,0,none⟩)) cs)(o:Nat)(d:cs.extract o (o+eo)=c)(e:o+eo<=cs.size):s0 P T w (.pointer (some ⟨b,o,none⟩)) (.agg c):=by
 have:=s0.wc (P:=P) (T:=T) a o d e;simpa[rd]using this
theorem QH{xs:Array Value}{j:Nat}(h:xs.extract o e=p)(a:p.extract i j=q)(b:o+j<=e):xs.extract (o+i) (o+j)=q:=by
 subst h;subst a;rw[Array.extract_extract];congr 1;omega
def Nq(zs:List (Array Value)):List (Nat×Value) ->Prop
 |[]=>True
 |(i,v)::r=>i<zs.length/\v.cells.size=(zs.getD i #[]).size/\Nq zs r
theorem P4{zs:List (Array Value)}{i:Nat}{v:Array Value}(h:v.size=(zs.getD i #[]).size):∀{r:List (Nat×Value)},Nq zs r->Nq (zs.set i v) r
 |[],_=>trivial
 |(j,u)::r,⟨G,Y,ez⟩=>by
  refine⟨by rw[List.length_set];exact G,?_,P4 h ez⟩;rw[Y];simp only[List.getD_eq_getElem?_getD,List.getElem?_set];by_cases a:i=j
  .subst a;rw[if_pos rfl,if_pos G];simp only[List.getD_eq_getElem?_getD]at h;exact h.symm
  rw[if_neg a]
theorem lE:∀{parts:List (Nat×Value)}{zs:List (Array Value)},Nq zs parts->po zs parts
 |[],_,_=>trivial
 |(_,_)::_,_,⟨G,Y,ez⟩=>⟨G,Y,lE (P4 Y ez)⟩
theorem vU{A X v:Array Value}(a:A.extract o e=p)(b:iH p i v=q)(E:iH A o q=X)(c:A.size=n)(tC:v.size+i<=e-o)(h:e<=n)(d:o<=e):iH A (o+i) v=X:=by
 subst a;subst b;subst E;subst c;have f:(A.extract o e).size=e-o:=by rw[Array.size_extract];omega
 have g:(iH (A.extract o e) i v).size=e-o:=by
  have:=f;unfold iH;simp only[Array.size_append,Array.size_extract];omega
 apply Array.ext_getElem?;intro k;rw[wg A v (o+i) (by omega) k,wg A _ o (by omega) k,g];by_cases G:o<=k/\k<o+(e-o)
 .rw[if_pos G,wg _ v i (by omega) (k-o)];by_cases Y:o+i<=k/\k<o+i+v.size
  .rw[if_pos Y,if_pos (by omega)];congr 1;omega
  rw[if_neg Y,if_neg (by omega),Array.getElem?_extract,if_pos (by omega)];congr 1;omega
 rw[if_neg G,if_neg (by omega)]
section
variable{P:Program}{f:tr}{w w0:World}{S:List eL}{R:Value->World->Prop}{d:Option Tmp}{T:TypeId}{pos:String}{eO:Array Edge}{eV:Option (Nat×Bool)}
theorem xn{α:Type}[O α]{a ek eo:Nat}{x y:Operand}{v u:Value}{xs zs:List α}{i off:Nat}{ds:α}[n:nh P a eo](E:U w0 S w)(b:tX (B v ek xs) S)(ey:i<xs.length)(e:eC f x=rd (oK v i (O.eo α)) off)(g:eC f y=u)
 (j:u.cells.size=eo) (k:off+eo<=O.eo α) (G:∀c∈u.cells.toList,c.oneCell'=true) (l:iH (O.enc (xs[i]'ey)) off u.cells=O.enc ds) (m:xs.set i ds=zs)
 (h:∀w',(∀tg,iD (B v ek xs) (B v ek zs) S tg->U w0 tg w') ->R undef w'):Z P f ⟨d,.store a x y,T,pos,eO,eV⟩ w R:=by
 subst m;exact pr E b ey e g j k G l h
theorem jI{s:TypeId}{parts:Array (Nat×Operand)}{zs:List (Array Value)}{c:Array Value}[e:nM P s zs](a:po zs (parts.toList.map λ(i,x)=>(i,eC f x)))
 (b:eK (u3 zs (parts.toList.map λ(i,x)=>(i,eC f x)))=c) (h:R (.agg c) w):Z P f ⟨d,.build s parts,T,pos,eO,eV⟩ w R:=
 Z.build a (by rw[b];exact h)
class zk(P:Program)(t:TypeId)(name:String)(g:outParam FuncId):Prop where
 out:(∃sig,(P.info? t).bind (λi=>i.methods.find? (λm=>m.name==name))=some ⟨name,sig,#[],some (g,true)⟩)/\∃e,P.underlying t=some (.pointer e)
theorem QL{P:Program}{t g:Nat}{name:String}(th:zk P t name g)(v:Value)(n:Nat)(w:World):(Go.method (n+1) t v name).run P w= .ok (g,v) w:=by
 obtain⟨⟨sig,h⟩,e,a⟩:=th.out;cases ey:P.info? t with
 |none=>simp[ey]at h
 |some i=>
  simp only[ey,Option.bind_some]at h;simp[Go.method,typeInfo,ey,h,follow,receiverAt,run_underlying a,Place.get]
theorem QD{recv:Operand}{name:String}{args:Array Operand}{nN:Array TypeId}{t g:Nat}{x:Value}{vs:List Value}{R':Value->World->Prop}[th:zk P t name g][c:dy P g](i:eC f recv= .iface t x)(a:nk P g (x::vs).toArray w R')(j:args.toList.map (eC f)=vs)(h:∀v w',R' v w'->R v w'):
 Z P f ⟨d,.call {callee:=.invoke recv name,args:=args,argTypes:=nN},T,pos,eO,eV⟩ w R:=by
 unfold nk at a;have b:(x::vs).toArray=#[x]++args.map (eC f):=by subst j;apply Array.ext';simp
 rw[b]at a;have k:(#[Value.iface t x]++args.map (eC f)).extract 1 (#[Value.iface t x]++args.map (eC f)).size=args.map (eC f):=by
  apply Array.ext';simp;rw[List.take_of_length_le (by simp)]
 have em:(#[Value.iface t x]++args.map (eC f))[0]? =some (Value.iface t x):=by rw[Array.getElem?_append_left (by simp)];rfl
 obtain⟨n,l⟩:∃n,P.types.size+Made.depth=n+1:=⟨_,rfl⟩;have m:(callMethod (.iface t x) name (args.map (eC f))).run P w= .ok (.enter g (#[x]++args.map (eC f))) w:=by
  simp only[callMethod,Sem.run_bind,run_program,Result.andThen_ok,l,QL th,gI c]
 have o:(execOp (eC f) ⟨d,.call {callee:=.invoke recv name,args:=args,argTypes:=nN},T,pos,eO,eV⟩).run P w= .ok (.enter g (#[x]++args.map (eC f))) w:=by
  simp only[execOp,resolve,i,Sem.run_bind,Sem.run_pure,Result.andThen_ok,Go.invoke,em,k,m]
 unfold Z;rw[o];exact Calls.mono a λe w'⟨v,b,tC⟩=>⟨v,b,h _ _ tC⟩
theorem QU{t e:TypeId}(ep:fA P t e):P.concrete t=true:=by
 have Y:=ep.out;unfold Program.concrete;simp[Y]
theorem QM{s e:TypeId}{x:Operand}{v:Value}[ep:fA P s e](a:eC f x=v)(h:R (.iface s v) w):Z P f ⟨d,.makeInterface s x,T,pos,eO,eV⟩ w R:=by
 refine iv (v:=.iface s v) (w':=w) ?_ h;simp[execOp,a,run_makeInterface,QU ep]
theorem P5{s a e:TypeId}{x:Operand}{v:Value}[th:fA P s e](b:eC f x= .iface s v)(h:R (.tuple #[v,.bool true]) w):Z P f ⟨d,.typeAssert x a s true,T,pos,eO,eV⟩ w R:=by
 refine iv (v:=.tuple #[v,.bool true]) (w':=w) ?_ h;have c:=th.out;simp[execOp,b,Instr.typeAssert,run_underlying c]
theorem QF{g:FuncId}[a:dy P g]{x:Operand}{args:Array Operand}{nN:Array TypeId}{vs nx:List Value}{R':Value->World->Prop}(b:eC f x= .func (.func g) nx.toArray #[])(c:nk P g (nx++vs).toArray w R')(e:args.toList.map (eC f)=vs)(h:∀v w',R' v w'->R v w'):
 Z P f ⟨d,.call {callee:=.value x,args:=args,argTypes:=nN},T,pos,eO,eV⟩ w R:=
 bw (v:=.func (.func g) nx.toArray #[]) b ⟨g,nx,[],rfl,a,by rw[List.append_nil];exact c⟩ e h
theorem Nz{t n ek:Nat}{x ix:Operand}{k:IntKind}{i:Int}{cs:Array Value}{v:Value}[b:de P t n ek][g:u2 P ek][c:nh P ek 1](e:eC f x= .agg cs)(ey:eC f ix= .int k i)(a:0<=i/\i<(n:Int))(tC:cs[i.toNat]? =some v)(h:R v w):Z P f ⟨d,.index t x ix,T,pos,eO,eV⟩ w R:=by
 refine iv (v:=v) (w':=w) ?_ h;simp[execOp,e,ey,Instr.index,asIntOf,run_underlying b.out,a.1,a.2,m3 c,bc (P:=P) (T:=ek) w tC]
theorem cw{α:Type}[O α]{x:Operand}{v:Value}{t ek:Nat}{xs:List α}(n:Nat)[hc P t ek](a:eC f x=v)(b:ev w v xs)(c:xs.length=n)(h:R (.int .i64 n) w):
 Z P f ⟨d,.call {callee:=.builtin .len,args:=#[x],argTypes:=#[t]},T,pos,eO,eV⟩ w R:=Z.hL a b (by rw[c];exact h)
theorem NE{tl tx:Type}[DecidableEq tl][oi tl]{t K ek r:Nat}{x:Operand}{ti:tx->Value}{eS:List (tl×tx)}(n:Nat)[th:rP P t K ek](a:hV w r ti eS)(b:eC f x= .map (some r))(c:eS.length=n)(h:R (.int .i64 n) w):
 Z P f ⟨d,.call {callee:=.builtin .len,args:=#[x],argTypes:=#[t]},T,pos,eO,eV⟩ w R:=Ps a b (by rw[c];exact h)
class Ax(P:Program)(T:TypeId):Prop where out:∃lz,P.underlying T=some (.interface lz)
class LD(P:Program)(T:TypeId):Prop where out:(P.info? T).map (·.comparable)=some true:=by kernel_rfl
theorem QP{P:Program}{s t:TypeId}{k:IntKind}{a b:Int}(d:Ax P s)(e:lc P t k)(c:LD P t)(w:World):(Op.equal s (.iface t (.int k a)) (.iface t (.int k b))).run P w= .ok (decide (a=b)) w:=by
 obtain⟨lz,f⟩:=d.out;unfold Op.equal;show(Op.equalIn (9998+1+1) s (.iface t (.int k a)) (.iface t (.int k b))).run P w= .ok (decide (a=b)) w;generalize 9998=m;have c:=c.out;cases ey:P.info? t with
 |none=>simp[ey]at c
 |some i=>
  simp[ey]at c;simp[Op.equalIn,run_underlying f,run_underlying e.out,typeInfo,ey,c];rfl
theorem QG{s t c:TypeId}{k:IntKind}{a b:Int}{x y:Operand}[e:Ax P s][g:lc P t k][i:LD P t](j:eC f x= .iface t (.int k a))(l:eC f y= .iface t (.int k b))(h:R (.bool (decide (a=b))) w):Z P f ⟨d,.binOp .eql s x y c,T,pos,eO,eV⟩ w R:=by
 refine iv (v:=.bool (decide (a=b))) (w':=w) ?_ h;have m:eqGuard .eql s x y (.iface t (.int k a)) (.iface t (.int k b))=pure ():=rfl;have n:binOp .eql s (.iface t (.int k a)) (.iface t (.int k b))=(do pure (.bool (<-Op.equal s (.iface t (.int k a)) (.iface t (.int k b))))):=rfl;simp only[execOp,j,l,m,n,Sem.run_bind,Sem.run_pure,Result.andThen_ok,QP e g i]
theorem QW{P:Program}{s:TypeId}{t:TypeId}{u:Value}(a:Ax P s)(w:World):(Op.equal s (.iface t u) .nilIface).run P w= .ok false w:=by
 obtain⟨lz,b⟩:=a.out;unfold Op.equal;show(Op.equalIn (9999+1) s (.iface t u) .nilIface).run P w= .ok false w;generalize 9999=m;simp[Op.equalIn,run_underlying b]
theorem P6{s a:TypeId}{x:Operand}{v:Value}[b:Ax P s](c:eC f x=v)(tC:∃t u,v= .iface t u)(h:R (.bool false) w):Z P f ⟨d,.binOp .eql s x (.const .nilIface) a,T,pos,eO,eV⟩ w R:=by
 obtain⟨t,u,rfl⟩:=tC;refine iv (v:=.bool false) (w':=w) ?_ h;have e:eqGuard .eql s x (.const .nilIface) (.iface t u) .nilIface=pure ():=rfl;have g:binOp .eql s (.iface t u) .nilIface=(do pure (.bool (<-Op.equal s (.iface t u) .nilIface))):=rfl;have i:eC f (.const .nilIface)= .nilIface:=rfl;simp only[execOp,c,i,e,g,Sem.run_bind,Sem.run_pure,Result.andThen_ok,QW b]
def LC(a1:Array (String×TypeId))(NT:Array Method):List (String×TypeId):=a1.toList.filter λ(name,sig)=> !NT.any λm=>m.name==name&&m.sig==sig
theorem QY{a1:Array (String×TypeId)}{a:Array Method}{y:String×TypeId}(h:LC a1 a=[y]):∃m,Instr.missingMethod a1 a=some m:=by
 unfold LC at h;unfold Instr.missingMethod;simp only[h,List.map_cons,List.map_nil];by_cases b:y.1.contains (Char.ofNat 46)<;>simp[List.partition,List.partition.loop,b,Instr.least]
class NA(P:Program)(s t:TypeId):Prop where out:∃lz,P.underlying s=some (.interface lz)/\(P.info? t).map (λi=>(LC lz i.methods).length)=some 1
theorem LU{s a t:TypeId}{x:Operand}{u z:Value}[eM:NA P s t][b:oG P s z](c:eC f x= .iface t u)(h:R (.tuple #[z,.bool false]) w):Z P f ⟨d,.typeAssert x a s true,T,pos,eO,eV⟩ w R:=by
 obtain⟨lz,G,e⟩:=eM.out;obtain⟨i,Y,g⟩:=Option.map_eq_some_iff.1 e;obtain⟨y,ez⟩:=List.length_eq_one_iff.1 g;obtain⟨m,th⟩:=QY ez;refine iv (v:=.tuple #[z,.bool false]) (w':=w) ?_ h;simp[execOp,c,Instr.typeAssert,run_underlying G,typeInfo,Y,th,vw b]
theorem QK{recv:Operand}{name:String}{args:Array Operand}{nN:Array TypeId}{r v:Value}{vs:List Value}(a:eC f recv=r)(b:args.toList.map (eC f)=vs)(c:(callMethod r name vs.toArray).run P w= .ok (.value v) w)(h:R v w):
 Z P f ⟨d,.call {callee:=.invoke recv name,args:=args,argTypes:=nN},T,pos,eO,eV⟩ w R:=by
 refine iv (v:=v) (w':=w) ?_ h;have ep:args.map (eC f)=vs.toArray:=by subst b;apply Array.ext';simp
 have e:(#[r]++vs.toArray).extract 1 (#[r]++vs.toArray).size=vs.toArray:=by
  apply Array.ext';simp
 have em:(#[r]++vs.toArray)[0]? =some r:=by rw[Array.getElem?_append_left (by simp)];rfl
 simp only[execOp,resolve,a,ep,Sem.run_bind,Sem.run_pure,Result.andThen_ok,Go.invoke,em,e,c]
theorem pJ{tl tx:Type}[DecidableEq tl][oi tl]{t K ek r:Nat}{z0:tx}{o:Option tx}{x ix:Operand}{k:tl}{ti:tx->Value}{eS:List (tl×tx)}[th:rP P t K ek][g:u6 P K tl](a:oG P ek (ti z0))(b:hV w r ti eS)(c:eC f x= .map (some r))(ey:eC f ix=oi.ih k)
 (e:tR k eS=o) (h:R (ti (o.getD z0)) w):Z P f ⟨d,.lookup t x ix false,T,pos,eO,eV⟩ w R:=vI a b c ey (by rw[e]) h
theorem zx{tl tx:Type}[DecidableEq tl][oi tl]{t K ek r:Nat}{z0:tx}{o:Option tx}{x ix:Operand}{k:tl}{ti:tx->Value}{eS:List (tl×tx)}[th:rP P t K ek][g:u6 P K tl](b:oG P ek (ti z0))(c:hV w r ti eS)(e:eC f x= .map (some r))(ey:eC f ix=oi.ih k)
 (a:tR k eS=o) (h:R (.tuple #[ti (o.getD z0),.bool o.isSome]) w):Z P f ⟨d,.lookup t x ix true,T,pos,eO,eV⟩ w R:=zr b c e ey (by rw[a]) (by rw[a];exact h)
theorem xr{tl tx:Type}[DecidableEq tl][oi tl]{t K ek r:Nat}{x ix y:Operand}{k:tl}{v:tx}{ti:tx->Value}{eS hw:List (tl×tx)}[th:rP P t K ek][e:u6 P K tl](E:U w0 S w)(a:tX (tW r ti eS) S)(b:eC f x= .map (some r))(ey:eC f ix=oi.ih k)(c:eC f y=ti v)
 (tC:oH k v eS=hw) (h:∀w',(∀tg,iD (tW r ti eS) (tW r ti hw) S tg->U w0 tg w') ->R undef w'):Z P f ⟨d,.insert t x ix y,T,pos,eO,eV⟩ w R:=Z.insert E a b ey c (by rw[tC];exact h)
theorem gG{tl tx:Type}[DecidableEq tl][oi tl]{t K ek r:Nat}{x ix y:Operand}{k:tl}{v:tx}{ti:tx->Value}{eS hw:List (tl×tx)}[th:rP P t K ek][e:u6 P K tl](E:U w0 S w)(a:tX (tW r ti eS) S)(b:eC f x= .map (some r))(ey:eC f ix=oi.ih k)(c:eC f y=ti v)
 (tC:oH k v eS=hw) (h:∀w',(∀tg,iD (tW r ti eS) (tW r ti hw) S tg->U w0 tg w') ->R undef w'):Z P f ⟨d,.mapUpdate t x ix y,T,pos,eO,eV⟩ w R:=Z.mapUpdate E a b ey c (by rw[tC];exact h)
theorem xh{tl tx:Type}[DecidableEq tl][oi tl]{t K ek r:Nat}{x ix:Operand}{k:tl}{ti:tx->Value}{eS hw:List (tl×tx)}[th:rP P t K ek][e:u6 P K tl]{nN:Array TypeId}(a:nN[0]? =some t)(E:U w0 S w)(b:tX (tW r ti eS) S)(c:eC f x= .map (some r))(ey:eC f ix=oi.ih k)
 (tC:rc k eS=hw) (h:∀w',(∀tg,iD (tW r ti eS) (tW r ti hw) S tg->U w0 tg w') ->R (.tuple #[]) w'):Z P f ⟨d,.call {callee:=.builtin .delete,args:=#[x,ix],argTypes:=nN},T,pos,eO,eV⟩ w R:=Z.delete a E b c ey (by rw[tC];exact h)
def ic(o:Option Nat):Value:=.pointer (o.map λb=>⟨b,0,none⟩)
theorem ev.xl{α:Type}[O α]{v:Value}{xs:List α}(h:ev w v xs):∃s:eu,v=s.v:=by
 obtain⟨a,c,rfl⟩:=h.eq;exact⟨⟨a,_,c⟩,rfl⟩
theorem hX{α:Type}[O α]{x y:Operand}{t ek r8:Nat}{z:Value}{ys:List α}[k:hc P t ek][l:nh P ek (O.eo α)][m:ba P ek r8][n:oG P ek z](b:z.cells.size=O.eo α)
 (E:U w0 S w) (c:eC f x= .slice none 0 0) (e:ev w (eC f y) ys) (g:ys.length*r8<=140737488355328) (i:ys.length<=maxLen)
 (h:∀(s:eu) w',eB w w'->U w0 (B s.v ek ys::S) w'->R s.v w'):
 Z P f ⟨d,.call {callee:=.builtin .append,args:=#[x,y],argTypes:=#[t,t]},T,pos,eO,eV⟩ w R:=
 Jx b E c e g i λo w' j a=>by
  obtain⟨s,rfl⟩:=(a.ef .nU).xl;exact h s w' j a
theorem pQ{α:Type}[O α]{x y:Operand}{t ek r8:Nat}{z v:Value}{xs ys zs:List α}[m:hc P t ek][n:nh P ek (O.eo α)][o:ba P ek r8][p:oG P ek z](c:z.cells.size=O.eo α)
 (E:U w0 S w) (e:eC f x=v) (e1:tX (B v ek xs) S) (g:ev w (eC f y) ys) (i:xs++ys=zs) (j:(xs.length+ys.length)*r8<=140737488355328) (k:xs.length+ys.length<=maxLen)
 (h:∀(s:eu) w',(∀tg,iD (B v ek xs) (B s.v ek zs) S tg->U w0 tg w') ->R s.v w'):
 Z P f ⟨d,.call {callee:=.builtin .append,args:=#[x,y],argTypes:=#[t,t]},T,pos,eO,eV⟩ w R:=by
 subst i;refine dS c E e e1 g j k λb w' h'=>?_;obtain⟨tg,a⟩:∃tg,iD (B v ek xs) (B b ek (xs++ys)) S tg:=by
  clear h h' E;induction e1 with
  |nU=>exact⟨_,.nU⟩
  |ee _ l=>obtain⟨tg,a⟩:=l;exact⟨_,.ee a⟩
 have th:tX (B b ek (xs++ys)) tg:=a.QR;obtain⟨s,rfl⟩:=((h' tg a).ef th).xl;exact h s w' h'
end
theorem QX{k:Nat}(h:(v.cut 0 n n eo).v.ownBlock=some k):v.v.ownBlock=some k:=by
 obtain⟨a,m,c⟩:=v;by_cases eM:n=0<;>cases a<;>simp[eu.cut,eu.v,Value.ownBlock,eM]at h⊢<;>exact h
theorem U.xd[O α]{en:World}{xs:List α}(h:U en (B v.v T xs::S) w):U en (B (v.cut 0 xs.length xs.length (O.eo α)).v T xs::S) w:=by
 have a:sN en w v.v T xs:=h.ut .nU;refine lk (e:=B v.v T xs) (w:=w) ⟨rfl,rfl,rfl,Nat.le_refl _,λ_ _ _=>rfl⟩ ?_ ?_ h .nU
 .rw[dv];exact a.cut.1
 rw[db,db];intro k b;exact .inl (QX b)
theorem sN.eQ[O α]{w':World}{v:Value}{xs:List α}(h:sN w w' v T xs)(a:eB w w'):∃s:eu,v=s.v/\U w [B s.v T xs] w':=by
 obtain⟨s,rfl⟩:=h.1.ef.xl;exact⟨s,rfl,(eG w).pD a h.1 h.2⟩
instance:oi eU where
 ih x:=.int .i64 x.n
 same x:=by simp[Instr.sameBits]
theorem P7(x:eU):oi.ih x= .int .i64 x.n:=rfl
theorem P8{tx:Type}(ti:tx->Value)(k:eU):∀(l:List MapEntry)(eS:List (eU×tx))(i:Nat),l.map (λe=>(e.key,e.val))=eS.map (λp=>(oi.ih p.1,ti p.2)) ->Instr.findNow (.int .i64) (oi.ih k) l i=some (dL ti k eS i)
 |[],[],i,_=>rfl
 |e::l,(x,v)::eS,i,h=>by
  simp only[List.map_cons,List.cons.injEq,Prod.mk.injEq]at h;obtain⟨⟨G,Y⟩,ez⟩:=h;have d:=P8 ti k l eS (i+1) ez;have f:Instr.sameNow (.int .i64) (oi.ih k) e.key=some (decide (k=x)):=by
   rw[G,P7,P7];simp only[Instr.sameNow,if_true,Option.some.injEq];rw[Bool.eq_iff_iff,decide_eq_true_eq,beq_iff_eq];constructor
   .intro h;obtain⟨a⟩:=k;obtain⟨b⟩:=x;have h:a=b:=h;rw[h]
   intro h;rw[h]
  simp only[Instr.findNow,f,dL];by_cases c:k=x
  .rw[if_pos c,decide_eq_true c];simp[Y]
  rw[if_neg c,decide_eq_false c];exact d
 |[],_::_,_,h=>by simp at h
 |_::_,[],_,h=>by simp at h
instance{K:Nat}[ey:lc P K .i64]:u6 P K eU where
 wq u7 w k:=by
  show(Instr.checkKey u7 (9999+1) K (.int .i64 k.n)).run P w= .ok () w;generalize 9999=d;rw[Instr.checkKey];simp[run_underlying ey.out]
 vA ti w k l eS h:=MapKept.run_findKey ey.out (P8 ti k l eS 0 h)
def mt(P:Program)(g:FuncId)(args:Array Value)(w:World)(R:Value->World->Prop):Prop:=
 ∀u:FrameMode,CallsD P g args u w λe uh w'=>uh=u/\∃v,e= .returned v/\R v w'
theorem mt.mono{g:FuncId}{args:Array Value}{R':Value->World->Prop}(h:mt P g args w R)(a:∀v w',R v w'->R' v w'):mt P g args w R':=
 λu=>(h u).mono λ_ _ _⟨G,v,Y,ez⟩=>⟨G,v,Y,a v _ ez⟩
theorem mt.enter{g:FuncId}{c:Code}
 (f:P.funcs[g]? =some fn) (i:fn.body=some c) (j:fn.ntmps=n) (b:fn.results=aw.toArray) (k:Nat.ble args.length n=true)
 (h: @ex vu P n c (x9 P aw R) (mq args) w):mt P g args.toArray w R:=by
 intro u;have l:=zy j (by simpa using k:args.length<=n);have m:fn.results.toList=aw:=by rw[b]
 subst m;unfold ex at h;refine(callsD_of_wp (R:=λe w'=>∃v,e= .returned v/\R v w') f i ?_).mono λe o w' h=>h;refine wp_mono (h _ l) λe a w⟨an,b,q⟩=>?_;cases e with
 |normal=>
  obtain⟨vs,tC,d⟩:=q;exact⟨b.defers,_,tC.run b,_,rfl,d⟩
 |ret=>
  obtain⟨vs,tC,d⟩:=q;exact⟨b.defers,_,tC.run b,_,rfl,d⟩
 |_=>exact(q:False).elim
def LM(rK:tr->World->Prop):Exit->tr->World->Prop
 | .normal,f,w| .ret,f,w=>rK f w
 |_,_,_=>False
theorem zj(h:rK f w):LM rK .ret f w:=h
theorem LF{g:FuncId}[y:dy P gc]{p:Call}
 (z:P.funcs[g]? =some fn) (A:fn.body=some (.seq jA (.seq (.region id [⟨some d,op,bb,bk,bj,none⟩,⟨none,.defer p,bv,bx,bq,none⟩].toArray false) jO)))
 (B:fn.ntmps=n) (C:fn.results=aw.toArray) (E:Nat.ble args.length n=true) (hd:Nat.blt d n=true)
 (r: @ex vu P n jA (λe f w'=>e= .normal/\rK f w') (mq args) w)
 (c:∀f w',rK f w'->∃(v:Value)(cap b l:List Value),(execOp (eC f) ⟨some d,op,bb,bk,bj,none⟩).run P w'= .ok (.value v) w'/\(execOp (eC (o2 f d v)) ⟨none,.defer p,bv,bx,bq,none⟩).run P w'= .ok (.defer {target:=.fn (.func gc) cap.toArray,args:=b.toArray}) w'/\b++cap=l/\
  ∀D:lH,D=⟨[{target:=.fn (.func gc) cap.toArray,args:=b.toArray}]⟩ -> @ex D P n jO (LM λan F=>mt P gc l.toArray F λ_ h=>∃vs,hY P an h aw vs/\R (u0 vs) h) (o2 f d v) w'):nk P g args.toArray w R:=by
 unfold nk;refine calls_of_wp_defers z A ?_;have G:=zy B (by simpa using E:args.length<=n);have H:d<n:=by simpa using hd
 have I:fn.results.toList=aw:=by rw[C]
 subst I;unfold ex at r;refine wp_seq (wp_mono (r _ G) ?_);rintro e a aM ⟨f,ep,rfl,i⟩;obtain⟨v,cap,b,l,s,t,eM,c⟩:=c f aM i;have c:=c _ rfl;show Code.wp _ _ _ _ _;refine wp_seq (wp_region_lit ?_);rw[<-ep.eval]at s;have J:=ep.put (dst:=some d) (by intro x L;cases L;exact H) v;have j:sa n (a.put (some d) v) (o2 f d v):=J;rw[<-j.eval]at t;refine wpList_plain rfl λK k=>?_;unfold Oper.wp;rw[s];refine k _ _ ?_;refine wpList_plain rfl λK k=>?_;unfold Oper.wp;rw[t];refine k _ _ (wpList_nil ?_);show Code.wp _ _ _ _ _;have u: @sa ⟨[{target:=.fn (.func gc) cap.toArray,args:=b.toArray}]⟩ n {(a.put (some d) v)with defers:=[{target:=.fn (.func gc) cap.toArray,args:=b.toArray}]} (o2 f d v):=
  @sa.mk ⟨_⟩ _ _ _ rfl j.size j.aQ
 have M:a.defers=[]:=ep.defers;unfold ex at c;simp only[Act.put,M]at u⊢;refine wp_mono (c _ u) ?_;rintro e tm w' ⟨an,m,q⟩;have key:∀(i:mt P gc l.toArray w' λ_ h=>∃vs,hY P an h fn.results.toList vs/\R (u0 vs) h),Leaves P fn tm.tmps (λe w'=>∃v,e= .returned v/\R v w') [{target:=.fn (.func gc) cap.toArray,args:=b.toArray}] .returning w':=by
  intro i;subst eM;refine leaves_cons (f:=gc) (args:=(b++cap).toArray) (by simp) (by simp[Go.invoke,gI y]) ((i .returning).mono ?_);rintro e O h ⟨rfl,x,rfl,vs,tC,N⟩;exact⟨_,tC.run (a:={tm with defers:=[]}) (n:=n) (sa.mk rfl m.out.2.1 m.out.2.2),_,rfl,N⟩
 have o:=m.out.1;simp only at o;cases e with
 |normal=>show Leaves _ _ _ _ _ _ _;rw[o];exact key q
 |ret=>show Leaves _ _ _ _ _ _ _;rw[o];exact key q
 |_=>exact(q:False).elim
theorem LP{g:FuncId}[z:dy P gc]{p:Code}{r:Call}
 (A:P.funcs[g]? =some fn) (B:fn.body=some (.seq jA (.seq p (.seq (.region id [⟨some d,op,bb,bk,bj,none⟩,⟨none,.defer r,bv,bx,bq,none⟩].toArray false) jO))))
 (C:fn.ntmps=n) (E:fn.results=aw.toArray) (F:Nat.ble args.length n=true) (hd:Nat.blt d n=true)
 (s: @ex vu P n jA (λe f w'=>e= .normal/\@ex vu P n p (λe f w'=>e= .normal/\rK f w') f w') (mq args) w)
 (c:∀f w',rK f w'->∃(v:Value)(cap b l:List Value),(execOp (eC f) ⟨some d,op,bb,bk,bj,none⟩).run P w'= .ok (.value v) w'/\(execOp (eC (o2 f d v)) ⟨none,.defer r,bv,bx,bq,none⟩).run P w'= .ok (.defer {target:=.fn (.func gc) cap.toArray,args:=b.toArray}) w'/\b++cap=l/\
  ∀D:lH,D=⟨[{target:=.fn (.func gc) cap.toArray,args:=b.toArray}]⟩ -> @ex D P n jO (LM λan G=>mt P gc l.toArray G λ_ h=>∃vs,hY P an h aw vs/\R (u0 vs) h) (o2 f d v) w'):nk P g args.toArray w R:=by
 unfold nk;refine calls_of_wp_defers A B ?_;have H:=zy C (by simpa using F:args.length<=n);have I:d<n:=by simpa using hd
 have J:fn.results.toList=aw:=by rw[E]
 subst J;unfold ex at s;refine wp_seq (wp_mono (s _ H) ?_);rintro e a aM ⟨f,ep,rfl,L⟩;show Code.wp _ _ _ _ _;refine wp_seq (wp_mono (L _ ep) ?_);rintro e a aM ⟨f,ep,rfl,i⟩;obtain⟨v,cap,b,l,t,u,eM,c⟩:=c f aM i;have c:=c _ rfl;show Code.wp _ _ _ _ _;refine wp_seq (wp_region_lit ?_);rw[<-ep.eval]at t;have M:=ep.put (dst:=some d) (by intro x N;cases N;exact I) v;have j:sa n (a.put (some d) v) (o2 f d v):=M;rw[<-j.eval]at u;refine wpList_plain rfl λK k=>?_;unfold Oper.wp;rw[t];refine k _ _ ?_;refine wpList_plain rfl λK k=>?_;unfold Oper.wp;rw[u];refine k _ _ (wpList_nil ?_);show Code.wp _ _ _ _ _;have y: @sa ⟨[{target:=.fn (.func gc) cap.toArray,args:=b.toArray}]⟩ n {(a.put (some d) v)with defers:=[{target:=.fn (.func gc) cap.toArray,args:=b.toArray}]} (o2 f d v):=
  @sa.mk ⟨_⟩ _ _ _ rfl j.size j.aQ
 have O:a.defers=[]:=ep.defers;unfold ex at c;simp only[Act.put,O]at y⊢;refine wp_mono (c _ y) ?_;rintro e tm w' ⟨an,m,q⟩;have key:∀(i:mt P gc l.toArray w' λ_ h=>∃vs,hY P an h fn.results.toList vs/\R (u0 vs) h),Leaves P fn tm.tmps (λe w'=>∃v,e= .returned v/\R v w') [{target:=.fn (.func gc) cap.toArray,args:=b.toArray}] .returning w':=by
  intro i;subst eM;refine leaves_cons (f:=gc) (args:=(b++cap).toArray) (by simp) (by simp[Go.invoke,gI z]) ((i .returning).mono ?_);rintro e S h ⟨rfl,x,rfl,vs,tC,Q⟩;exact⟨_,tC.run (a:={tm with defers:=[]}) (n:=n) (sa.mk rfl m.out.2.1 m.out.2.2),_,rfl,Q⟩
 have o:=m.out.1;simp only at o;cases e with
 |normal=>show Leaves _ _ _ _ _ _ _;rw[o];exact key q
 |ret=>show Leaves _ _ _ _ _ _ _;rw[o];exact key q
 |_=>exact(q:False).elim
theorem LG{d:Tmp}{a:Array Operand}(h:a.toList.map (eC f)=cs):(execOp (eC f) ⟨some d,.makeFunc (.func g) #[] a,T,pos,eO,none⟩).run P w= .ok (.value (.func (.func g) #[] cs.toArray)) w:=by
 have:a.map (eC f)=cs.toArray:=by rw[<-h];apply Array.ext';simp
 simp[execOp,Instr.makeFunc,this]
theorem LW{d:Tmp}:(execOp (eC (o2 f d (.func (.func g) #[] cs.toArray))) ⟨none,.defer {callee:=.value (.tmp d),args:=#[],argTypes:=nN},T,pos,eO,none⟩).run P w= .ok (.defer {target:=.fn (.func g) cs.toArray,args:=([]:List Value).toArray}) w:=by
 simp[execOp,resolve,eC,y9,Deferred.ofValue]
theorem LY{args:Array Operand}{vs:List Value}(h:args.toList.map (eC f)=vs):(execOp (eC f) ⟨none,.defer {callee:=.value (.func g),args:=args,argTypes:=nN},T,pos,eO,none⟩).run P w= .ok (.defer {target:=.fn (.func g) ([]:List Value).toArray,args:=vs.toArray}) w:=by
 have:args.map (eC f)=vs.toArray:=by rw[<-h];apply Array.ext';simp
 simp[execOp,resolve,eC,Deferred.ofValue,this]
end
section
variable{w0 w:World}{S:List eL}{d t ek:Nat}{L:List Nat}{α:Type}{P:Program}{f:tr}{R:Value->World->Prop}{T e:TypeId}{pos:String}{eO:Array Edge}{eV:Option (Nat×Bool)}{x y:Operand}{lf:Value}{k:IntKind}
section
variable{P:Program}{n:Nat}{D:List Deferred}{Q:Exit->Act->World->Prop}{f:tr}{w:World}
theorem Ge{oh σ ρ:Type}{g:Operand}{p rR:Nat}{cM cb:Code}{rn:Nat}[ig:dy P rn]{oS:List Value}{en:World}{ht:List eL}
 (wO:oh->Prop) (ek:oh->List eL) (u:oh->Value) (J:oh->σ->Prop) (eH:σ->List eL) (K:oh->ρ->Prop) (k:ρ->List eL) (Fin:σ->Prop) (Stop:ρ->Prop)
 (tP:eC f g= .func (.func rn) #[] oS.toArray) (e0:Nat.blt p n=true) (E:U en ht w)
 (rS:∀(l:Nat)(X M:List eL)(W:World),U en (X++ht) W->
  (∀t W1,wO t->U en (X++ek t) W1->YieldAt Fence.wide 0 P l #[u t] W1 λe i=>(e= .returned (.bool true)/\∃s,J t s/\U en (X++eH s) i)∨(e= .returned (.bool false)/\∃r,K t r/\U en (M++k r) i)) ->
  nk P rn (.func (.yield l) #[] #[]::oS).toArray W λ_ i=>(∃s,Fin s/\U en (X++eH s) i)∨(∃r,Stop r/\U en (M++k r) i))
 (jj:∀(l:Nat)(X:List eL)(t:oh)(W:World),wO t->U en (X++ek t) W->
  ng l P n cM (λe an i=>e= .normal/\∃z,U en (X++z) i/\∀B W2,U en (B++z) W2->
   ng l P n cb (λe _ N=>(e= .normal/\∃s,J t s/\U en (B++eH s) N)∨(e= .exit rR/\∃r,K t r/\U en (B++k r) N)) an W2) (o2 f p (u t)) W)
 (pd:∀(d:Nat)(W:World)(s:σ),Fin s->U en (lp d (.deferred (some []))::eH s) W->∀a,sK n ({target:=.collected d,args:=#[]}::D) a f->Q .normal a W)
 (Lq:∀(d:Nat)(W:World)(r:ρ),Stop r->U en (lp d (.deferred (some []))::k r) W->∀a,sK n ({target:=.collected d,args:=#[]}::D) a f->Q .normal a W):
 lq P n (.block rR (.rangeFunc g #[p] cM cb)) D Q f w:=by
 unfold lq;intro a ep;refine wpIn_block (wpIn_rangeFunc ?_);intro fn zm;obtain⟨rec,b⟩:∃rec:LoopState->Option Code->Loop,rec=λeQ s3=>{state:=eQ,pending:=s3,fn,tmps:=a.tmps,params:=#[p],assign:=cM,body:=cb,defers:=w.heap.size}:=⟨_,rfl⟩;obtain⟨L,O⟩:∃L,L=w.heap.size+1:=⟨_,rfl⟩;obtain⟨d,hd⟩:∃d,d=w.heap.size:=⟨_,rfl⟩;obtain⟨X,A⟩:∃X:LoopState->Option Code->List eL,X=λeQ s3=>[lp L (.loop (rec eQ s3)),lp d (.deferred (some []))]:=⟨_,rfl⟩;have j:∀{eQ s3 S W},U en (X eQ s3++S) W->W.heap[L]? =some (.loop (rec eQ s3)):=by
  intro eQ s3 S W h;rw[A]at h;exact h.Nw (S:=lp L (.loop (rec eQ s3))::_) .nU
 have m:∀{eQ s3 S W}(C H),U en (X eQ s3++S) W->U en (X C H++S) (W.putObj L (.loop (rec C H))):=by
  intro eQ s3 S W C H h;rw[A]at h⊢;exact U.Lj (o:=.loop (rec eQ s3)) _ h .nU
 have R:∀{eQ s3 S W},U en (X eQ s3++S) W->U en (lp d (.deferred (some []))::S) W:=by
  intro eQ s3 S W h;rw[A]at h;exact h.sub (List.sublist_cons_self _ _)
 obtain⟨W1,T⟩:∃W1,(w.alloc (.deferred (some []))).alloc (.loop (rec .ready none))=W1:=⟨_,rfl⟩;have tI:U en (X .ready none++ht) W1:=by
  rw[<-T,A,O,hd];have h:=(E.Ny (.deferred (some []))).Ny (.loop (rec .ready none));rw[World.size_alloc]at h;exact h
 refine⟨L,[{target:=.collected w.heap.size,args:=#[]}],W1,{target:=.fn (.func rn) oS.toArray,args:=#[.func (.yield L) #[] #[]]},W1,rn,#[.func (.yield L) #[] #[]]++oS.toArray,W1,?_,?_,λ_ _=>trivial,?_,λ_=>by omega,?_⟩
 .rw[<-T,b,O];exact run_enterLoop_outer _ _ _ _ _
 .have eR:=ep.eval;simp only[resolve,rangeCall,eR,tP];simp[go_sem];rfl
 .simp[invoke,go_sem,gI ig]
 have V:=rS L (X .ready none) (X .done (some (.exit rR))) W1 tI (λt W td c=>by
  have eM:=j c;have Lz:(Instr.yield L #[u t]).run P W= .ok (.round L fn (a.tmps.setIfInBounds p (u t)) cM cb) W:=by
   have G:=run_yield (P:=P) (args:=#[u t]) eM (by rw[b];rfl);rw[b]at G;simpa using G
  refine⟨fn,_,_,_,Lz,roundIn_of_wpIn (F:=Fence.wide) trivial ?_⟩;have bm:sK n [] {tmps:=a.tmps.setIfInBounds p (u t),defers:=[]} (o2 f p (u t)):=by
   have G:sK n [] {a with defers:=[]} f:=⟨rfl,ep.size,ep.aQ⟩;exact G.put (dst:=some p) (by intro d hd;cases hd;simpa using e0) _
  refine wpIn_mono ((jj L (X .ready none) t W td c).run bm) ?_;rintro e dD aM ⟨f1,a8,rfl,z,Z,eh⟩;have h8:=j Z;refine⟨_,run_beginRound h8 (by rw[b]),?_⟩;have q:U en (X .busy none++z) (aM.putObj L (.loop {rec .ready none with state:=.busy})):=by
   have Y:=m .busy none Z;rw[b]at Y⊢;exact Y
  refine wpIn_mono ((eh (X .busy none) _ q).run a8) ?_;rintro e dh la ⟨f2,nv,wI⟩;rcases wI with⟨rfl,s,tp,x⟩|⟨rfl,r,er,x⟩
  .refine⟨_,_,run_endRound (P:=P) none (j x),.inl ⟨rfl,s,tp,?_⟩⟩;have Y:=m .ready none x;rw[b]at Y⊢;exact Y
  refine⟨_,_,run_endRound (P:=P) (some (.exit rR)) (j x),.inr ⟨rfl,r,er,?_⟩⟩;have Y:=m .done (some (.exit rR)) x;rw[b]at Y⊢;exact Y)
 unfold nk at V;have Ad:CallsIn Fence.wide 1 P rn (#[.func (.yield L) #[] #[]]++oS.toArray) W1 _:=callsIn_wide.2 (by
  have aA:(#[.func (.yield L) #[] #[]]++oS.toArray:Array Value)=(.func (.yield L) #[] #[]::oS).toArray:=by apply Array.ext';simp
  rw[aA];exact V)
 refine CallsIn.mono Ad ?_;rintro e W2 ⟨v,rfl,jc⟩;rcases jc with⟨s,I,c⟩|⟨r,I,c⟩
 .have dX:=run_endLoop (P:=P) (j c) (by rw[b];simp);refine⟨none,_,(by rw[dX,b]),?_⟩;have q:U en (X .exhausted none++eH s) (W2.putObj L (.loop {rec .ready none with state:=.exhausted})):=by
   have Y:=m .exhausted none c;rw[b]at Y⊢;exact Y
  have y:=pd d _ s I (R q) {a with defers:={target:=.collected w.heap.size,args:=#[]}::a.defers} ⟨by rw[<-ep.defers,hd],ep.size,ep.aQ⟩;rw[b]at y;exact y
 have dX:=run_endLoop (P:=P) (j c) (by rw[b];simp);refine⟨some (.exit rR),_,(by rw[dX,b]),?_⟩;refine wpIn_exit ?_;have q:U en (X .exhausted (some (.exit rR))++k r) (W2.putObj L (.loop {rec .done (some (.exit rR))with state:=.exhausted})):=by
  have Y:=m .exhausted (some (.exit rR)) c;rw[b]at Y⊢;exact Y
 have y:=Lq d _ r I (R q) {a with defers:={target:=.collected w.heap.size,args:=#[]}::a.defers} ⟨by rw[<-ep.defers,hd],ep.size,ep.aQ⟩;show Exit.inBlock rR Q (.exit rR) _ _;simp only[Exit.inBlock,if_true];rw[b]at y;exact y
end
section
variable{P:Program}{n:Nat}{D:List Deferred}{Q:Exit->Act->World->Prop}{f:tr}{w:World}
theorem QJ{g:Operand}{p rR:Nat}{cM cb:Code}{rn:Nat}[o:dy P rn]{oS:List Value}{en:World}{ht:List eL}
 (c:eC f g= .func (.func rn) #[] oS.toArray) (e:Nat.blt p n=true) (E:U en ht w)
 (i:∀(x:Value)(X:List eL)(W:World),U en (X++ht) W->nk P rn (x::oS).toArray W λ_ j=>eB W j)
 (k:∀(d:Nat)(W:World),U en (lp d (.deferred (some []))::ht) W->∀a,sK n ({target:=.collected d,args:=#[]}::D) a f->Q .normal a W):
 lq P n (.block rR (.rangeFunc g #[p] cM cb)) D Q f w:=by
 refine Ge (oh:=Unit) (σ:=Unit) (ρ:=Unit) (λ_=>False) (λ_=>[]) (λ_=>.nilIface) (λ_ _=>False) (λ_=>ht) (λ_ _=>False) (λ_=>[]) (λ_=>True) (λ_=>False) c e E ?_ ?_ ?_ ?_
 .intro l X q W b _;exact(i _ X W b).mono λ_ _ m=>.inl ⟨(),trivial,b.ei m⟩
 .intro l X t W h;exact h.elim
 .intro d W _ _ b;exact k d W b
 intro d W _ h;exact h.elim
end
def ma(L:List Nat):List Deferred:=L.map λd=>{target:=.collected d,args:=#[]}
@[irreducible] def hU (L:List Nat):eL:=hD (L.map λd=>lp d (.deferred (some [])))
theorem U.jS(h:U w0 S w):U w0 (hU []::S) w:=by unfold hU;exact U.closed (l:=[]) h
theorem U.LV(h:U w0 (lp d (.deferred (some []))::hU L::S) w):U w0 (hU (d::L)::S) w:=by
 unfold hU at h⊢;have G:=(h.pick (.ee .nU)).dr;exact U.closed (l:=(d::L).map λd=>lp d (.deferred (some []))) (G.hK (by simpa using List.perm_middle))
theorem U.QQ(h:U w0 (hU (d::L)::S) w):U w0 (lp d (.deferred (some []))::hU L::S) w:=by
 unfold hU at h⊢;have G:=h.dr;simp only[List.map_cons,List.cons_append]at G;have Y:U w0 ((L.map λd=>lp d (.deferred (some [])))++(lp d (.deferred (some []))::S)) w:=G.hK (by simpa using List.perm_middle.symm);exact(U.closed Y).hK (List.Perm.swap _ _ _)
@[irreducible] def oz (P:Program) (n:Nat) (c:Code) (Q:Exit->List Nat->tr->World->Prop) (L:List Nat) (f:tr) (w:World):Prop:=
 ∀a,sK n (ma L) a f->c.wp P (λe tm w'=>∃an L',sK n (ma L') tm an/\Q e L' an w') a w
def NO(K:List Nat->tr->World->Prop)(Q:Exit->List Nat->tr->World->Prop):Exit->List Nat->tr->World->Prop
 | .normal,L,f,w=>K L f w
 |e,L,f,w=>Q e L f w
def zq(id:Nat)(Q:Exit->List Nat->tr->World->Prop):Exit->List Nat->tr->World->Prop
 | .exit vm,L,f,w=>cond (Nat.beq vm id) (Q .normal L f w) (Q (.exit vm) L f w)
 |e,L,f,w=>Q e L f w
section
variable{P:Program}{n:Nat}{Q:Exit->List Nat->tr->World->Prop}{K:List Nat->tr->World->Prop}{L:List Nat}{f:tr}{w:World}
theorem rH(h:K L f w):NO K Q .normal L f w:=h
theorem Gt{i:Nat}(h:Q (.exit i) L f w):NO K Q (.exit i) L f w:=h
theorem Ga{id:Nat}(h:Q .normal L f w):zq id Q .normal L f w:=h
theorem QZ{id:Nat}(h:Q .normal L f w):zq id Q (.exit id) L f w:=by
 have:Nat.beq id id=true:=by simp
 simp only[zq,this,cond_true];exact h
theorem oz.of{c:Code}(h:∀D:lH,D=⟨ma L⟩ -> @ex D P n c (λe an w'=>Q e L an w') f w):oz P n c Q L f w:=by
 have h:=h _ rfl;unfold oz;unfold ex at h;intro a ep;refine wp_mono (h a (@sa.mk ⟨ma L⟩ _ _ _ ep.defers ep.size ep.aQ)) ?_;rintro e tm w' ⟨an,b,d⟩;have b:=b.out;exact⟨an,L,⟨b.1,b.2.1,b.2.2⟩,d⟩
theorem oz.mono{c:Code}{b:Exit->List Nat->tr->World->Prop}(h:oz P n c Q L f w)(d:∀e L f w,Q e L f w->b e L f w):oz P n c b L f w:=by
 unfold oz at*;exactλa ep=>wp_mono (h a ep) λe a w⟨an,L',g,q⟩=>⟨an,L',g,d _ _ _ _ q⟩
theorem oz.seq{n3 nr:Code}(h:∀K:List Nat->tr->World->Prop,(∀L f w,oz P n nr Q L f w->K L f w) ->oz P n n3 (NO K Q) L f w):oz P n (.seq n3 nr) Q L f w:=by
 have h:=h (λL f w=>∀(a:Act),sK n (ma L) a f->nr.wp P (λe tm w'=>∃an L',sK n (ma L') tm an/\Q e L' an w') a w) (λ_ _ _ h=>by unfold oz at h;exact h);unfold oz at h⊢;intro a ep;refine wp_seq (wp_mono (h a ep) λe tm w'⟨an,L',b,q⟩=>?_);cases e with
 |normal=>exact q tm b
 |_=>exact⟨an,L',b,q⟩
theorem oz.block{id:Nat}{c:Code}(h:oz P n c (zq id Q) L f w):oz P n (.block id c) Q L f w:=by
 unfold oz at*;intro a ep;refine wp_block (wp_mono (h a ep) λe tm w'⟨an,L',b,q⟩=>?_);cases e with
 |exit g=>
  simp only[Exit.inBlock];split
  .rename_i d;subst d;exact⟨an,L',b,by simpa[zq]using q⟩
  rename_i d;have:Nat.beq g id=false:=by rw[<-Bool.not_eq_true,Nat.beq_eq];exact d
  exact⟨an,L',b,by simpa[zq,this]using q⟩
 |_=>exact⟨an,L',b,q⟩
theorem oz.loop{c:Code}(I:Nat->List Nat->tr->World->Prop)(m:Nat)(em:I m L f w)
 (round:∀m L f w,I m L f w->oz P n c (NO (λL' an w'=>∃o,o<m/\I o L' an w') Q) L f w):oz P n (.loop c) Q L f w:=by
 unfold oz at*;intro a ep;have key:∀(m:Nat)(a:Act)(L:List Nat)(f:tr)(w:World),sK n (ma L) a f->I m L f w->(Code.loop c).wp P (λe tm w'=>∃an L',sK n (ma L') tm an/\Q e L' an w') a w:=by
  intro m a L f w ep p b k cs;have q:∀(m:Nat)(a:Act)(L:List Nat)(f:tr)(w:World),sK n (ma L) a f->I m L f w->
   ∃e tm w',(∃an L',sK n (ma L') tm an/\Q e L' an w')/\Arrives P (lone (b.at a (.code c:: .inLoop c::k)) cs w) b k cs e tm w':=by
   intro m;induction m using Nat.strongRecOn with
   |_ m r=>
    intro a L f w ep p;obtain⟨e,h,i,⟨an,L',j,d⟩,g⟩:=round m L f w p a ep b (.inLoop c::k) cs;cases e with
    |normal=>
     obtain⟨o,th,s⟩:=d;obtain⟨t,u,v,y,z⟩:=r o th h L' an i j s;exact⟨t,u,v,y,.of_steps (Steps.trans g (.one step_inLoop)) z⟩
    |exit id=>exact⟨_,h,i,⟨an,L',j,d⟩,.pass (x:=.inLoop c) rfl (λ_ _=>.inl (by simp)) g⟩
    |goto l=>exact⟨_,h,i,⟨an,L',j,d⟩,.pass (x:=.inLoop c) rfl (λ_ _=>.inl (by simp)) g⟩
    |ret=>exact⟨_,h,i,⟨an,L',j,d⟩,.pass (x:=.inLoop c) rfl (λ_ _=>.inl (by simp)) g⟩
    |panic ch=>exact⟨_,h,i,⟨an,L',j,d⟩,.pass (x:=.inLoop c) rfl (λ_ _=>.inl (by simp)) g⟩
    |outgrown=>exact⟨_,h,i,⟨an,L',j,d⟩,.pass (x:=.inLoop c) rfl (λ_ _=>.inl (by simp)) g⟩
  obtain⟨e,tm,w',d,g⟩:=q m a L f w ep p;exact⟨e,tm,w',d,.of_steps (.one step_loop) g⟩
 exact key m a L f w ep em
theorem Q0{c:Code}(l:List (Nat×Value))(a:oW l f)(h:∀g:tr,oz P n c Q L (oR l g) w):oz P n c Q L f w:=by
 rw[a.eq];exact h f
theorem Gi{g:Operand}{p rR:Nat}{cM cb:Code}{rn:Nat}[m:dy P rn]{oS:List Value}{en:World}{ht:List eL}
 (c:eC f g= .func (.func rn) #[] oS.toArray) (i:Nat.blt p n=true) (E:U en (hU L::ht) w)
 (j:∀(x:Value)(S:List eL)(W:World),U en (ht++S) W->nk P rn (x::oS).toArray W λ_ k=>eB W k)
 (l:∀(d:Nat)(W:World),U en (hU (d::L)::ht) W->Q .normal (d::L) f W):
 oz P n (.block rR (.rangeFunc g #[p] cM cb)) Q L f w:=by
 unfold oz;intro a ep;have h:=QJ (n:=n) (D:=ma L) (Q:=λe tm w'=>∃an L',sK n (ma L') tm an/\Q e L' an w') (f:=f) (w:=w) (g:=g) (p:=p) (rR:=rR) (cM:=cM) (cb:=cb) c i E
  (λx X W b=>j x (X++[hU L]) W (b.hK (by rw[<-List.append_assoc];exact(List.perm_middle (l₁:=X)).trans ((List.perm_append_comm (l₁:=hU L::X) (l₂:=ht)).trans (by
   refine(List.Perm.append_left ht ?_).trans (by rw[List.append_assoc]);exact List.perm_append_comm (l₁:=[hU L]) (l₂:=X))))))
  (λd W b a ep=>⟨f,d::L,ep,l d W b.LV⟩)
 exact wpIn_wide.1 (h.run ep)
def Gn(P:Program)(n:Nat)(fn:Func)(R:Value->World->Prop):Exit->List Nat->tr->World->Prop:=
 λe L f w=>∀a,sK n (ma L) a f->bodyPostM Fence.wide 2 P fn (λe w'=>∃v,e= .returned v/\R v w') e a w
theorem jR{fn:Func}{R:Value->World->Prop}{aw:List ResultVar}{w0:World}{S:List eL}(b:fn.results=aw.toArray)(E:U w0 (hU L::S) w)
 (tC:∀w',U w0 S w'->∃vs,hY P f w' aw vs/\R (u0 vs) w'):Gn P n fn R .ret L f w:=by
 intro a ep;have c:fn.results.toList=aw:=by rw[b]
 subst c;show LeavesInM _ _ _ _ _ _ a.defers _ _;rw[ep.defers];have key:∀(L:List Nat)(w:World),U w0 (hU L::S) w->LeavesInM Fence.wide 2 P fn a.tmps (λe w'=>∃v,e= .returned v/\R v w') (ma L) .returning w:=by
  intro L;induction L with
  |nil=>
   intro w E;obtain⟨vs,G,Y⟩:=tC w (E.sub (List.sublist_cons_self _ _));exact⟨_,hY.run (a:={a with defers:=[]}) ep.Nm G,_,rfl,Y⟩
  |cons d L g=>
   intro w E;have h:=E.QQ;have hd:=h.Nw (l:=d) (o:=.deferred (some [])) .nU;exact⟨by simp,.inl ⟨_,_,rfl,run_takeDeferred hd,g _ ((h.Lj (.deferred none) .nU).sub (List.sublist_cons_self _ _))⟩⟩
 exact key L w E
theorem jH{g:FuncId}{fn:Func}{c:Code}{args:List Value}{R:Value->World->Prop}
 (b:P.funcs[g]? =some fn) (d:fn.body=some c) (f:fn.ntmps=n) (i:Nat.ble args.length n=true)
 (h:oz P n c (Gn P n fn R) [] (mq args) w):nk P g args.toArray w R:=by
 refine PO b d f i ?_;unfold lq;unfold oz at h;intro a ep;refine wpIn_wide.2 (wp_mono (h a ep) ?_);rintro e tm w' ⟨an,L',j,q⟩;exact q tm j
end
theorem Q1[O α]{d:Option Tmp}{r8 c:Nat}(z:α)[j:hc P t ek][l:nh P ek (O.eo α)][m:ba P ek r8][n:oG P ek lf](o:lf.cells=O.enc z)(E:U w0 S w)
 (p:eC f x= .int .i64 0) (q:eC f y= .int .i64 (c:Int)) (F:r8*c<=281474976710656) (e:c<=maxLen)
 (h:∀b w',eB w w'->U w0 (B (.slice (some ⟨b,0,none⟩) 0 c) ek ([]:List α)::S) w'->R (.slice (some ⟨b,0,none⟩) 0 c) w'):Z P f ⟨d,.makeSlice t x y,T,pos,eO,eV⟩ w R:=by
 obtain⟨i,ey,r,s,u⟩:∃i,P.info? ek=some i/\i.size=O.eo α/\i.bytes=r8/\i.zero=some lf:=by
  have G:=l.out;have Y:=m.out;have ez:=n.out;cases ey:P.info? ek with
  |none=>simp[ey]at G
  |some i=>simp[ey]at G Y ez;exact⟨i,rfl,G,Y,ez⟩
 have A:(i.bytes:Int)*(c:Int)<=281474976710656:=by
  rw[s,<-Int.natCast_mul];omega
 have a:=run_make (P:=P) w t ek i lf j.out ey u .i64 .i64 0 c (by omega) (by omega) A (by simp only[maxLen]at e;omega);simp only[Int.toNat_natCast,o,r]at a;have C:(madeCells (O.enc z) (c*O.eo α)).size=c*O.eo α:=by
  rw[<-Array.length_toList,Lm,uj,List.length_replicate]
 have e1:dt (w.alloc (.cells (madeCells (O.enc z) (c*O.eo α)) ek)) (.slice (some ⟨w.heap.size,0,none⟩) 0 c) ek ([]:List α):=.inr ⟨w.heap.size,c,_,rfl,heap_alloc_new w _,Nat.zero_le _,e,Nat.le_of_eq C.symm,by simp[iE]⟩;have D:=E.pD (eB.alloc w _) e1 (by intro k g;simp only[Value.ownBlock,Option.some.injEq]at g;subst g;exact Nat.le_refl _);refine iv (v:=.slice (some ⟨w.heap.size,0,none⟩) 0 c) (w':=w.alloc (.cells (madeCells (O.enc z) (c*O.eo α)) ek)) ?_ (h _ _ (eB.alloc w _) D);simp at a;simp[execOp,p,q,a]
theorem Gs[O α]{d:Option Tmp}{v:eu}{xs zs:List α}[l:hc P t ek][C:oG P ek lf](z:α)(D:lf.cells=#[lf])(q:O.enc z=#[lf])(F:lf.oneCell'=true)
 (E:U w0 S w) (o:tX (B v.v ek xs) S) (r:eC f x=(v.cut 0 xs.length v.c (O.eo α)).v) (G:List.replicate xs.length z=zs)
 (h:∀w',(∀tg,iD (B v.v ek xs) (B v.v ek zs) S tg->U w0 tg w') ->R (.tuple #[]) w'):Z P f ⟨d,.call {callee:=.builtin .clear,args:=#[x],argTypes:=#[t]},T,pos,eO,eV⟩ w R:=by
 subst G;have s:O.eo α=1:=by rw[<-O.eT z,q];rfl
 have H:=E.ue o;rcases H with⟨tC,rfl⟩|⟨g,cap,i9,tC,y,I,J,K,Y⟩
 .have i:eC f x= .slice none 0 0:=by
   obtain⟨a,n,c⟩:=v;simp only[eu.v,Value.slice.injEq]at tC;obtain⟨rfl,rfl,rfl⟩:=tC;rw[r];rfl
  refine iv (v:=.tuple #[]) (w':=w) ?_ (h w λtg j=>lk ⟨rfl,rfl,rfl,Nat.le_refl _,λ_ _ _=>rfl⟩ (E.get o) (λk b=>.inl b) E j);simp[execOp,resolve,Go.invoke,builtin,i,Builtin.clear_,run_underlying l.out]
 obtain⟨a,n,c⟩:=v;simp only[eu.v,Value.slice.injEq]at tC;obtain⟨rfl,rfl,rfl⟩:=tC;have i:eC f x= .slice (some ⟨g,0,none⟩) xs.length c:=by
  rw[r];by_cases L:c=0<;>simp[eu.cut,eu.v,L]
 by_cases M:xs.length=0
 .have N:xs=[]:=List.eq_nil_of_length_eq_zero M;subst N;refine iv (v:=.tuple #[]) (w':=w) ?_ (h w λtg j=>lk ⟨rfl,rfl,rfl,Nat.le_refl _,λ_ _ _=>rfl⟩ (E.get o) (λk b=>.inl b) E j);simp[execOp,resolve,Go.invoke,builtin,i,Builtin.clear_,run_underlying l.out]
 have hmul:xs.length<=i9.size:=by rw[s,Nat.mul_one]at K;omega
 have A:(Builtin.zeroCells lf.cells xs.length).toList=List.replicate xs.length lf:=by
  rw[D];simp[Builtin.zeroCells];apply List.ext_getElem<;>simp[Nat.mod_one]
 have p:=run_storeCells_at P g 0 ek (List.replicate xs.length lf) 0 i9 w y (by simpa using hmul) (by intro u Q;rw[List.eq_of_mem_replicate Q];exact F);simp only[Nat.add_zero,List.take_zero,List.nil_append,List.length_replicate,Nat.zero_add]at p;have V:∀k:Nat,iE (List.replicate k z)=List.replicate k lf:=by
  intro k;induction k with
  |zero=>rfl
  |succ k W=>rw[List.replicate_succ,yr,W,q,List.replicate_succ];rfl
 refine iv (v:=.tuple #[]) (w':=w.setRow g (List.replicate xs.length lf++i9.toList.drop xs.length).toArray) ?_ (h _ λtg j=>lk ?_ ?_ ?_ E j)
 .obtain⟨m,th⟩:∃m,xs.length=m+1:=⟨xs.length-1,by omega⟩;have X:(zeroValue ek).run P w= .ok lf w:=vw C w;rw[th]at i A p⊢;simp[execOp,resolve,Go.invoke,builtin,i,Builtin.clear_,run_underlying l.out,X,A,p]
 .rw[db];exact⟨rfl,rfl,rfl,by simp[World.setRow],λk _ b=>setRow_other w g k _ (λe=>b (by simp[eu.v,Value.ownBlock,e]))⟩
 .rw[dv];refine .inr ⟨g,c,_,by rw[List.length_replicate];rfl,setRow_heap w g i9 _ ek _ y,by rw[List.length_replicate];exact I,J,?_,?_⟩
  .simp only[List.size_toArray,List.length_append,List.length_replicate,List.length_drop,Array.length_toList];omega
  rw[List.length_replicate,V,s,Nat.mul_one];simp
 rw[db,db];exactλk b=>.inl b
theorem Q3[ep:de P T 2 e][ey:lc P e k][g:nh P e 1][h:u2 P e](w:World)(a b c d:Int):(Op.equal T (.agg #[.int k a,.int k b]) (.agg #[.int k c,.int k d])).run P w= .ok (decide (a=c)&&decide (b=d)) w:=by
 show(Op.equalIn (9998+1+1) T _ _).run P w=_;generalize 9998=q;have f:∀x y:Int,(Op.equalIn (q+1) e (.int k x) (.int k y)).run P w= .ok (x==y) w:=by
  intro x y;rw[Op.equalIn];simp[run_underlying ey.out]
 have xc:∀x y:Int,(part e #[.int k x,.int k y] 0).run P w= .ok (.int k x) w:=λx y=>bc w rfl;have jL:∀x y:Int,(part e #[.int k x,.int k y] 1).run P w= .ok (.int k y) w:=λx y=>bc w rfl;rw[Op.equalIn];simp only[Sem.run_bind,run_underlying ep.out,Result.andThen_ok,m3 g,Std.Legacy.Range.forIn_eq_forIn_range',Std.Legacy.Range.size,Nat.sub_zero,Nat.add_sub_cancel,Nat.div_one,List.range',List.forIn_cons,List.forIn_nil,Nat.mul_one,xc,f,Nat.zero_add,jL];by_cases G:a=c<;>by_cases Y:b=d<;>simp[G,Y,xc,jL,f]
theorem zz{g:Option Tmp}{s t:TypeId}{a b c d:Int}[ep:de P s 2 e][ey:lc P e k][p:nh P e 1][q:u2 P e][i:k0 P s]
 (j:eC f x= .agg #[.int k a,.int k b]) (l:eC f y= .agg #[.int k c,.int k d]) (h:R (.bool (decide (a=c)&&decide (b=d))) w):Z P f ⟨g,.binOp .eql s x y t,T,pos,eO,eV⟩ w R:=by
 refine iv (v:=.bool (decide (a=c)&&decide (b=d))) (w':=w) ?_ h;have m:(eqGuard .eql s x y (.agg #[.int k a,.int k b]) (.agg #[.int k c,.int k d])).run P w= .ok () w:=by simp[eqGuard,run_program,i.out]
 have n:(binOp .eql s (.agg #[.int k a,.int k b]) (.agg #[.int k c,.int k d])).run P w= .ok (.bool (decide (a=c)&&decide (b=d))) w:=by
  have o:(Op.equalIn 10000 s (.agg #[.int k a,.int k b]) (.agg #[.int k c,.int k d])).run P w= .ok (decide (a=c)&&decide (b=d)) w:=Q3 w a b c d;rw[run_eql_struct,o];rfl
 simp only[execOp,j,l,m,n,Sem.run_bind,Sem.run_pure,Result.andThen_ok]
end
section
variable{P:Program}{n i s ek:Nat}{Q:Exit->List Nat->tr->World->Prop}{f:tr}{w:World}{d:Option Tmp}{T:TypeId}{pos:String}{eO:Array Edge}{R:Value->World->Prop}{eV:Option (Nat×Bool)}{x:Operand}{L:List Nat}
theorem Q5{D:lH}{tt:Nat}{ops:Array Oper}{Q:Exit->tr->World->Prop}{I:World->Prop}{r:sU}{d:Nat}{op:Op}{g:Nat}{a1:Bool}(t:Nat)(c:I w)(ey:ops[i]? =some ⟨some d,op,T,pos,eO,some (g,a1)⟩)(hd:Nat.blt d n=true)
 (e:(ops[g]?).bind (·.dst)=some t) (h:Nat.blt t n=true) (j:f t=undef) (b:Nat.blt i tt=true)
 (k:e3 P n ops tt I Q r (o2 f d undef) w):e3 P n ops tt I Q (.one i r) f w:=by
 have b:i<tt:=by simpa using b
 refine kM ey λa ep=>?_;have l:Region.wanted ⟨some d,op,T,pos,eO,some (g,a1)⟩ (yielded ops a.tmps)=false:=by
  simp only[Region.wanted];have:yielded ops a.tmps g=none:=by
   unfold yielded;simp only[e,Option.bind_some,vf ep (t:=t) (by simpa using h),j];rfl
  rw[this];cases a1<;>simp
 unfold wpOp;simp only[ey,l,Bool.false_eq_true,if_false];exact⟨⟨λ_=>c,.inl b⟩,_,ep.put (dst:=some d) (by intro x m;cases m;simpa using hd) undef,k⟩
class LK(P:Program)(T:TypeId):Prop where out:P.underlying T=some (.float .f64)
structure dC where
 n:Nat
instance:O dC where
 enc s:=#[.float .f64 s.n]
 eo:=1
 pos:=by omega
 eT _:=rfl
 one s u a:=by simp at a;subst a;rfl
@[irreducible] def Aq (a b:Nat):Bool:=FloatKind.f64.format.order a b==some .lt
@[irreducible] def NN (a b:Nat):Bool:=FloatKind.f64.format.order a b==some .gt
@[irreducible] def zE (a b:Nat):Bool:=FloatKind.f64.format.order a b !=some .eq
@[irreducible] def NS (n:Int):Nat:=FloatKind.f64.nearest n
section
variable{P:Program}{f:tr}{w:World}{R:Value->World->Prop}{d:Option Tmp}{T:TypeId}{pos:String}{eO:Array Edge}{eV:Option (Nat×Bool)}{s t:TypeId}{x y:Operand}{a b:Nat}
theorem Q6(c:eC f x= .float .f64 a)(e:eC f y= .float .f64 b)(h:R (.bool (NN a b)) w):Z P f ⟨d,.binOp .gtr s x y t,T,pos,eO,eV⟩ w R:=by
 refine iv (v:=.bool (NN a b)) (w':=w) ?_ h;have g:eqGuard .gtr s x y (.float .f64 a) (.float .f64 b)=pure ():=rfl;have i:binOp .gtr s (.float .f64 a) (.float .f64 b)=pure (.bool (NN a b)):=by unfold NN;rfl
 simp only[execOp,c,e,g,i,Sem.run_bind,Sem.run_pure,Result.andThen_ok]
theorem Q7(c:eC f x= .float .f64 a)(e:eC f y= .float .f64 b)(h:R (.bool (Aq a b)) w):Z P f ⟨d,.binOp .lss s x y t,T,pos,eO,eV⟩ w R:=by
 refine iv (v:=.bool (Aq a b)) (w':=w) ?_ h;have g:eqGuard .lss s x y (.float .f64 a) (.float .f64 b)=pure ():=rfl;have i:binOp .lss s (.float .f64 a) (.float .f64 b)=pure (.bool (Aq a b)):=by unfold Aq;rfl
 simp only[execOp,c,e,g,i,Sem.run_bind,Sem.run_pure,Result.andThen_ok]
theorem Q8(c:eC f x= .float .f64 a)(e:eC f y= .float .f64 b)(h:R (.bool (zE a b)) w):Z P f ⟨d,.binOp .neq s x y t,T,pos,eO,eV⟩ w R:=by
 refine iv (v:=.bool (zE a b)) (w':=w) ?_ h;have g:eqGuard .neq s x y (.float .f64 a) (.float .f64 b)=pure ():=rfl;have i:binOp .neq s (.float .f64 a) (.float .f64 b)=pure (.bool (zE a b)):=by unfold zE;rfl
 simp only[execOp,c,e,g,i,Sem.run_bind,Sem.run_pure,Result.andThen_ok]
theorem Q9(c:eC f x= .float .f64 a)(e:eC f y= .float .f64 b)(h:∀q w',eB w w'->R (.float .f64 q) w'):Z P f ⟨d,.binOp .quo s x y t,T,pos,eO,eV⟩ w R:=by
 have g:eqGuard .quo s x y (.float .f64 a) (.float .f64 b)=pure ():=rfl;have i:binOp .quo s (.float .f64 a) (.float .f64 b)=Op.floatArith .quo .f64 a b:=rfl;cases j:FloatKind.f64.format.div a b with
 |some r=>
  refine iv (v:=.float .f64 r) (w':=w) ?_ (h _ _ (eB.refl w));simp only[execOp,c,e,g,i,Op.floatArith,j,Sem.run_bind,Sem.run_pure,Result.andThen_ok]
 |none=>
  obtain⟨q,k⟩:∃q,(choose (.nanBits .f64 a b)).run P w= .ok q {w with drawn:=w.drawn+1}:=⟨_,rfl⟩;refine iv (v:=.float .f64 q) (w':={w with drawn:=w.drawn+1}) ?_ (h _ _ (eB.drawn w _));simp only[execOp,c,e,g,i,Op.floatArith,j,k,Sem.run_bind,Sem.run_pure,Result.andThen_ok]
theorem Ze{k:IntKind}{m:Int}[a:lc P s k][b:LK P t](c:eC f x= .int k m)(h:R (.float .f64 (NS m)) w):Z P f ⟨d,.convert s t x,T,pos,eO,eV⟩ w R:=by
 refine iv (v:=.float .f64 (NS m)) (w':=w) ?_ h;unfold NS;simp[execOp,convert,run_underlying a.out,run_underlying b.out,c,Conv.intToFloat]
end
theorem zT{s:TypeId}{parts:Array (Nat×Operand)}{zs:List (Array Value)}{c:List Value}[k:nM P s zs](ps:List (Nat×Value))(b:(parts.toList.map λ(i,x)=>(i,eC f x))=ps)(e:po zs ps)
 (g:(u3 zs ps).flatMap Array.toList=c) (h:R (.agg c.toArray) w):Z P f ⟨d,.build s parts,T,pos,eO,eV⟩ w R:=by
 subst b;refine jI e ?_ h;subst g;generalize u3 zs _=l;apply Array.ext';induction l with
 |nil=>rfl
 |cons a l j=>rw[cR,Array.toList_append,j];simp
theorem ewv{off:Nat}[g:je P s i off]{ov:Value}{dl a:Nat}(c:eC f x=rd ov dl)(e:m4 ov)(e1:dl+off=a)(h:R (rd ov a) w):Z P f ⟨d,.fieldAddr s x i,T,pos,eO,eV⟩ w R:=by
 obtain⟨b,o,rfl⟩:=e;subst e1;refine o9 (b:=b) (o:=o+dl) c ?_;rw[Nat.add_assoc];exact h
theorem Zt(b:fA P s ek)(a:Addr)(w:World):(Op.equal s (.pointer none) (.pointer (some a))).run P w= .ok false w:=by
 unfold Op.equal;show(Op.equalIn (9999+1) s (.pointer none) (.pointer (some a))).run P w= .ok false w;generalize 9999=k;simp[Op.equalIn,run_underlying b.out]
theorem Za{t:Nat}{y:Operand}{a:Addr}[b:fA P s ek](c:eC f x= .pointer none)(e:eC f y= .pointer (some a))(h:R (.bool false) w):Z P f ⟨d,.binOp .eql s x y t,T,pos,eO,eV⟩ w R:=by
 refine iv (v:=.bool false) (w':=w) ?_ h;have g:eqGuard .eql s x y (.pointer none) (.pointer (some a))=pure ():=rfl;have i:binOp .eql s (.pointer none) (.pointer (some a))=(do pure (.bool (<-Op.equal s (.pointer none) (.pointer (some a))))):=rfl;simp only[execOp,c,e,g,i,Sem.run_bind,Sem.run_pure,Result.andThen_ok,Zt b]
theorem U.NR{tl tx:Type}[DecidableEq tl][oi tl]{w0:World}{S tg:List eL}{oC r:Nat}{ti:tx->Value}{eS:List (tl×tx)}{is:List Nat}(h:U w0 S w)(a:iD (lm oC r ti eS is) (tW r ti eS) S tg):U w0 tg w:=
 lk (w:=w) (w':=w) (e:=lm oC r ti eS is) (oZ:=tW r ti eS) ⟨rfl,rfl,rfl,Nat.le_refl _,λ_ _ _=>rfl⟩ (by rw[mN];exact(h.wz a.kR).map) (by rw[cC,Aa];exactλk b=>.inl (.inl b)) h a
def NH(Q:Exit->List Nat->tr->World->Prop):Exit->List Nat->tr->World->Prop
 | .panic _,_,_,_=>False
 | .outgrown,_,_,_=>False
 |e,L,f,w=>Q e L f w
theorem zA(h:Q .normal L f w):NH Q .normal L f w:=h
theorem LX(h:Q .ret L f w):NH Q .ret L f w:=h
theorem xu{c:Code}(h:∀D:lH,D=⟨ma L⟩ -> @ex D P n c (λe an w'=>NH Q e L an w') f w):oz P n c Q L f w:=
 oz.mono (oz.of (Q:=NH Q) h) λe L f w q=>by cases e<;>first|exact q|exact(q:False).elim
section
variable{l:Nat}{P:Program}{n:Nat}{Q:Exit->tr->World->Prop}{f:tr}{w:World}
theorem ng.xm{n3 nr:Code}(h:∀K:tr->World->Prop,(∀f w,ng l P n nr Q f w->K f w) ->ng l P n n3 (fE K Q) f w):ng l P n (.seq n3 nr) Q f w:=by
 have h:=h (λf w=>ng l P n nr Q f w) (λ_ _ h=>h);refine ng.seq ?_;unfold ng at h⊢;intro a ep;refine wpIn_mono (h a ep) ?_;rintro e tm w' ⟨an,b,c⟩;refine⟨an,b,?_⟩;cases e<;>exact c
theorem ng.blockQ{id:Nat}{c:Code}(h:ng l P n c (blockQ id Q) f w):ng l P n (.block id c) Q f w:=by
 refine ng.block ?_;unfold ng at h⊢;intro a ep;refine wpIn_mono (h a ep) ?_;rintro e tm w' ⟨an,d,b⟩;refine⟨an,d,?_⟩;cases e with
 |exit i=>
  by_cases ey:i=id
  .subst ey;have:Nat.beq i i=true:=by simp
   simp only[Fer.blockQ,this,cond_true]at b;simp[b]
  have:Nat.beq i id=false:=by rw[<-Bool.not_eq_true,Nat.beq_eq];exact ey
  simp only[Fer.blockQ,this,cond_false]at b;simp[ey,b]
 |_=>exact b
theorem Zo{c:Operand}{x y:Code}(a:eC f c= .bool true)(h:ng l P n x Q f w):ng l P n (.cond c x y) Q f w:=ng.cond true a (λ_=>h) (λe=>by cases e)
theorem Zi{c:Operand}{x y:Code}(a:eC f c= .bool false)(h:ng l P n y Q f w):ng l P n (.cond c x y) Q f w:=ng.cond false a (λe=>by cases e) (λ_=>h)
def Zn(A:World->Prop):Exit->tr->World->Prop
 | .normal,_,w=>A w
 |_,_,_=>False
theorem ng.first{id t:Nat}{x:Operand}{T:TypeId}{pos:String}{eO:Array Edge}{A:tr->World->Prop}{v:Value}(a:eC f x=v)(b:Nat.blt t n=true)(h:A (o2 f t v) w):
 ng l P n (.region id #[⟨some t,.assign x,T,pos,eO,none⟩] false) (λe an w'=>e= .normal/\A an w') f w:=by
 refine ng.region ?_;show oN (some _) 0 _ _ _ [] _ [0] _ _;refine oN.op rfl b (by simp) (Z.opI ?_);refine iv (v:=v) (w':=w) (by simp[execOp,a]) ?_;exact oN.nil ⟨rfl,h⟩
end
section
variable{P:Program}{n:Nat}{Q:Exit->List Nat->tr->World->Prop}{L:List Nat}{f:tr}{w:World}
theorem LJ{oh σ:Type}{g:Operand}{p q rR C:Nat}{T:TypeId}{pos:String}{eO:Array Edge}{cb:Code}{rn:Nat}[Y:dy P rn]{oS:List Value}{en:World}{ht:List eL}
 (wO:oh->Prop) (ek:oh->List eL) (u:oh->Value) (m:oh->σ->Prop) (eH:σ->List eL) (Fin:σ->Prop)
 (G:eC f g= .func (.func rn) #[] oS.toArray) (H:Nat.blt p n=true) (k:Nat.blt q n=true) (E:U en (hU L::ht) w)
 (I:∀(l:Nat)(S:List eL)(W:World),U en (ht++S) W->
  (∀t W1,wO t->U en (ek t++S) W1->YieldAt Fence.wide 0 P l #[u t] W1 λe c=>e= .returned (.bool true)/\∃s,m t s/\U en (eH s++S) c) ->
  nk P rn (.func (.yield l) #[] #[]::oS).toArray W λ_ c=>∃s,Fin s/\U en (eH s++S) c)
 (J:∀(l:Nat)(S:List eL)(t:oh)(W:World),wO t->U en (ek t++S) W->ng l P n cb (Zn λK=>∃s,m t s/\U en (eH s++S) K) (o2 (o2 f p (u t)) q (u t)) W)
 (M:∀(d:Nat)(W:World)(s:σ),Fin s->U en (hU (d::L)::eH s) W->Q .normal (d::L) f W):
 oz P n (.block rR (.rangeFunc g #[p] (.region C #[⟨some q,.assign (.tmp p),T,pos,eO,none⟩] false) cb)) Q L f w:=by
 have b:∀(A X:List eL),(X++(hU L::A)).Perm (A++(X++[hU L])):=by
  intro A X;rw[<-List.append_assoc];refine(List.perm_middle (l₁:=X)).trans ?_;refine(List.perm_append_comm (l₁:=hU L::X) (l₂:=A)).trans ?_;rw[List.append_assoc];exact List.Perm.append_left A (List.perm_append_comm (l₁:=[hU L]) (l₂:=X))
 unfold oz;intro a ep;have h:=Ge (n:=n) (D:=ma L) (Q:=λe tm w'=>∃an L',sK n (ma L') tm an/\Q e L' an w') (f:=f) (w:=w) (g:=g) (p:=p) (rR:=rR) (rn:=rn) (oS:=oS) (en:=en) (ht:=hU L::ht)
  (cM:=.region C #[⟨some q,.assign (.tmp p),T,pos,eO,none⟩] false) (cb:=cb) (ρ:=Unit)
  wO (λt=>hU L::ek t) u m (λs=>hU L::eH s) (λ_ _=>False) (λ_=>[]) Fin (λ_=>False) G H E
  (λl X Z W i o=>by
   refine(I l (X++[hU L]) W (i.hK (b _ _)) λt W1 N O=>?_).mono λ_ c⟨s,y,j⟩=>.inl ⟨s,y,j.hK (b _ _).symm⟩;refine(o t W1 N (O.hK (b _ _).symm)).mono ?_;rintro e c (⟨rfl,s,z,j⟩|⟨_,r,B,_⟩)
   .exact⟨rfl,s,z,j.hK (b _ _)⟩
   exact B.elim)
  (λl X t W o i=>by
   refine ng.first (x:=.tmp p) (v:=u t) ?_ k ?_
   .simp[eC,o2]
   refine⟨_,i,λR W2 V=>?_⟩;have F:=J l (R++[hU L]) t W2 o (V.hK (b _ _));unfold ng at F⊢;intro a ep;refine wpIn_mono (F a ep) ?_;rintro e tm w' ⟨an,B,k⟩;refine⟨an,B,?_⟩;cases e with
   |normal=>
    obtain⟨s,z,j⟩:=k;exact .inl ⟨rfl,s,z,j.hK (b _ _).symm⟩
   |_=>exact(k:False).elim)
  (λd W s y i a ep=>⟨f,d::L,ep,M d W s y i.LV⟩)
  (λ_ _ _ h=>h.elim)
 exact wpIn_wide.1 (h.run ep)
end
end
section
theorem Zh{α:Type}[O α](z0:α)(n:Nat):(Builtin.zeroCells (O.enc z0) n).toList=iE (List.replicate n z0):=by
 rw[<-Lm z0 n];unfold Builtin.zeroCells madeCells;rw[O.eT]
theorem Zl{α:Type}[O α]{P:Program}{f:tr}{w w0:World}{S:List eL}{R:Value->World->Prop}{d:Option Tmp}{T:TypeId}{pos:String}{eO:Array Edge}{eV:Option (Nat×Bool)}{x y:Operand}{t b ek r8 n:Nat}{m:Int}(z0:α){z:Value}[j:hc P t ek][ey:lc P b .i64][l:nh P ek (O.eo α)][o:ba P ek r8][p:oG P ek z](c:z.cells=O.enc z0)
 (E:U w0 S w) (q:eC f x= .slice none 0 0) (r:eC f y= .int .i64 m) (th:m=(n:Int)) (u:0<n) (J:n*r8<=140737488355328) (e:n<=maxLen)
 (h:∀(s:eu) w',eB w w'->U w0 (B s.v ek (List.replicate n z0)::S) w'->R s.v w'):
 Z P f ⟨d,.call {callee:=.builtin .append,args:=#[x,y],argTypes:=#[t,b]},T,pos,eO,eV⟩ w R:=by
 subst th;obtain⟨i,A,K,C,D⟩:∃i,P.info? ek=some i/\i.size=O.eo α/\i.bytes=r8/\i.zero=some z:=by
  have G:=l.out;have Y:=o.out;have ez:=p.out;cases ey:P.info? ek with
  |none=>simp[ey]at G
  |some i=>simp[ey]at G Y ez;exact⟨i,rfl,G,Y,ez⟩
 have L:=O.pos (α:=α);have F:=Go.Lib.run_append_nil_zeros (P:=P) w t b T ek i z .i64 .i64 j.out ey.out A D n u (by omega) (by simp only[maxLen]at e;omega) (by rw[C];omega);have H:=grownCap_ge w n 0 ek;have I:=grownCap_le_maxLen w n 0 ek e;have g:eB w (w.drew.alloc (.cells (Builtin.zeroCells z.cells n++Builtin.zeroCells z.cells (grownCap w n 0 ek-n)) ek)):=⟨rfl,rfl,rfl,by simp,λk a=>heap_alloc_old w.drew _ a⟩;refine iv (v:=.slice (some ⟨w.heap.size,0,none⟩) n (grownCap w n 0 ek)) (w':=_) ?_ (h ⟨some ⟨w.heap.size,0,none⟩,n,grownCap w n 0 ek⟩ _ g (E.pD g (.inr ⟨w.heap.size,_,_,by simp[eu.v],heap_alloc_new w.drew _,by simpa using H,I,?_,?_⟩) ?_))
 .simp[Go.execOp,Go.resolve,Go.invoke,Go.builtin,q,r,F]
 .simp only[Array.size_append,size_zeroCells,c,O.eT,<-Nat.add_mul];exact Nat.mul_le_mul_right _ (by omega)
 .rw[Array.toList_append,c,Zh,List.length_replicate];have eM:(iE (List.replicate n z0)).length=n*O.eo α:=by rw[uj,List.length_replicate]
  rw[<-eM];exact List.take_left
 intro k a;simp[eu.v,Value.ownBlock]at a;subst a;exact Nat.le_refl _
theorem NL{α:Type}[O α]{P:Program}{f:tr}{w:World}{R:Value->World->Prop}{d:Option Tmp}{T:TypeId}{pos:String}{eO:Array Edge}{eV:Option (Nat×Bool)}{x:Operand}{v:Value}{t ek:Nat}{n:Int}{xs:List α}[c:hc P t ek](a:eC f x=v)(tC:ev w v xs)(b:((s1 v:Nat):Int)=n)(h:R (.int .i64 n) w):
 Z P f ⟨d,.call {callee:=.builtin .cap,args:=#[x],argTypes:=#[t]},T,pos,eO,eV⟩ w R:=by
 subst b;exact Z.cap a tC h
theorem Zd{α:Type}[O α]{P:Program}{f:tr}{w:World}{R:Value->World->Prop}{d:Option Tmp}{T:TypeId}{pos:String}{eO:Array Edge}{eV:Option (Nat×Bool)}{s t ek:Nat}{x y:Operand}{v:Value}{xs:List α}[k:hc P s ek](b:eC f x=v)(e:eC f y= .slice none 0 0)(tC:ev w v xs)(g:0<xs.length)(h:R (.bool false) w):Z P f ⟨d,.binOp .eql s x y t,T,pos,eO,eV⟩ w R:=by
 obtain⟨i,c,j,_⟩:=tC.jt g;exact fS (a:=some i) (b.trans j) e h
end
section
variable{F wL ws:List (Nat×Value)}{f g:tr}{d k n b s m o j:Nat}{v u ov:Value}{l vs uo:List Value}{α:Type}{a:Option Addr}{c cs q:Array Value}{r:Option Nat}{x e oZ:eL}{nS:Bool}{w0 w:World}{S tg K:List eL}{T ek:TypeId}{p:Prop}{ps zs da:List (Array Value)}{P:Program}{z:eu}{parts:List (Nat×Operand)}
abbrev N(b:Nat):Value:=.pointer (some ⟨b,0,none⟩)
abbrev ec:eu:=⟨none,0,0⟩
abbrev e4(b n c:Nat):Value:=.slice (some ⟨b,0,none⟩) n c
abbrev ts(b n c:Nat):eu:=⟨some ⟨b,0,none⟩,n,c⟩
abbrev eb(n:Nat):Value:=.int .u64 n
abbrev i6(n:Int):Value:=.int .i64 n
abbrev tz(r:Nat):Value:=.map (some r)
abbrev eF:Value:=.slice none 0 0
@[reducible] noncomputable def tJ(F:List (Nat×Value))(f:tr)(i:Nat):Value:=
 List.rec (motive:=λ_=>Value) (f i) (λp _ r=>Prod.rec (motive:=λ_=>Value) (λj u=>match Nat.beq i j with|true=>u|false=>r) p) F
theorem Gl(F:List (Nat×Value))(f:tr)(i:Nat):oR F f i=tJ F f i:=by
 induction F with
 |nil=>rfl
 |cons p F a=>
  obtain⟨d,v⟩:=p;show o2 (oR F f) d v i=_;simp only[o2,a];show(bif Nat.beq i d then v else tJ F f i)=(match Nat.beq i d with|true=>v|false=>tJ F f i);cases Nat.beq i d<;>rfl
class fs{α:Sort _}(a b:α):Prop where t:a=b
instance{α:Sort _}{a:α}:fs a a:=⟨rfl⟩
class ha(f:tr)(F:outParam (List (Nat×Value)))(g:outParam tr):Prop where t:f=oR F g
instance:ha (oR F f) F f:=⟨rfl⟩
instance[h:ha f F g]:ha (o2 f d v) ((d,v)::F) g:=⟨by rw[h.t];rfl⟩
class ND(l:List Value)(k:Nat)(F:outParam (List (Nat×Value))):Prop where t:∀p∈F,k<=p.1/\l[p.1-k]? =some p.2
instance:ND [] k []:=⟨by intro p a;cases a⟩
instance[h:ND l (k+1) F]:ND (v::l) k ((k,v)::F):=⟨by
 intro p a;rcases List.mem_cons.1 a with rfl|a
 .simp
 obtain⟨G,Y⟩:=h.t p a;refine⟨by omega,?_⟩;rw[show p.1-k=(p.1-(k+1))+1 by omega,List.getElem?_cons_succ];exact Y⟩
theorem Zc(h:∀p∈F,f p.1=p.2):oR F f=f:=by
 induction F with
 |nil=>rfl
 |cons p F a=>
  obtain⟨d,v⟩:=p;show o2 (oR F f) d v=f;rw[a λp b=>h p (List.mem_cons_of_mem _ b)];funext i;by_cases ey:i=d
  .subst ey;rw[y9];exact(h (i,v) List.mem_cons_self).symm
  rw[kN _ _ ey]
instance[h:ND l 0 F]:ha (mq l) F (mq l):=⟨by
 refine(Zc λp a=>?_).symm;have:=(h.t p a).2;simp only[Nat.sub_zero]at this;simp[mq,this]⟩
class fr{α:Type}(l:List α)(i:Nat)(v:outParam α):Prop where t:l[i]? =some v
instance{v:α}{l:List α}:fr (v::l) 0 v:=⟨rfl⟩
instance{v u:α}{l:List α}{i:Nat}[h:fr l i v]:fr (u::l) (i+1) v:=⟨by simpa using h.t⟩
class jD(i n:Nat):Prop where t:i<n
instance(priority:=100){l:List α}{i:Nat}[h:jD i l.length]:fr l i (l[i]'h.t):=⟨List.getElem?_eq_getElem h.t⟩
theorem lC{i:Nat}(h:i<n):jD i n:=⟨h⟩
class xf{α:Type}(l:List α)(n:outParam Nat):Prop where t:l.length=n
instance(priority:=100){l:List α}:xf l l.length:=⟨rfl⟩
instance{l:List α}{i:Nat}{u:α}[h:xf l n]:xf (l.set i u) n:=⟨by rw[List.length_set];exact h.t⟩
instance{u:α}:xf (List.replicate n u) n:=⟨List.length_replicate⟩
instance{i:Nat}{u:α}[h:jD i n]:fr (List.replicate n u) i u:=⟨by rw[List.getElem?_replicate,if_pos h.t]⟩
class pu(a:Value)(v:outParam Value):Prop where t:a=v
instance{k:IntKind}{n:Int}:pu (.int k n) (.int k n):=⟨rfl⟩
instance{b:Bool}:pu (.bool b) (.bool b):=⟨rfl⟩
instance:pu (.pointer a) (.pointer a):=⟨rfl⟩
instance{c:Nat}:pu (.slice a n c) (.slice a n c):=⟨rfl⟩
instance:pu (.agg c) (.agg c):=⟨rfl⟩
instance:pu (.tuple c) (.tuple c):=⟨rfl⟩
instance:pu (.map r) (.map r):=⟨rfl⟩
instance{g:Fn}{a b:Array Value}:pu (.func g a b) (.func g a b):=⟨rfl⟩
instance{t:TypeId}:pu (.iface t v) (.iface t v):=⟨rfl⟩
instance:pu .nilIface .nilIface:=⟨rfl⟩
instance{s:eu}:pu s.v s.v:=⟨rfl⟩
instance{s:il}:pu s.v s.v:=⟨rfl⟩
instance{i:Nat}:pu (oK v i s) (oK v i s):=⟨rfl⟩
instance:pu (rd v n) (rd v n):=⟨rfl⟩
class NC(F:List (Nat×Value))(f:tr)(i:Nat)(v:outParam Value):Prop where t:True
instance(priority:=2000){i:Nat}:NC ((i,v)::F) f i v:=⟨trivial⟩
instance{i:Nat}[NC F f i v]:NC ((d,u)::F) f i v:=⟨trivial⟩
class oB(F:List (Nat×Value))(f:tr)(x:Operand)(v:outParam Value):Prop where t:eC (oR F f) x=v
instance(priority:=2000){i:Nat}[h:pu (tJ F f i) v]:oB F f (.tmp i) v:=⟨(Gl F f i).trans h.t⟩
instance{i:Nat}[NC F f i v][h:fs (tJ F f i) v]:oB F f (.tmp i) v:=⟨(Gl F f i).trans h.t⟩
instance:oB F f (.const v) v:=⟨rfl⟩
instance{g:Nat}:oB F f (.func g) (.func (.func g) #[] #[]):=⟨rfl⟩
class vM(F:List (Nat×Value))(f:tr)(xs:List Operand)(vs:outParam (List Value)):Prop where t:xs.map (eC (oR F f))=vs
instance:vM F f [] []:=⟨rfl⟩
instance{x:Operand}{xs:List Operand}[h:oB F f x v][a:vM F f xs vs]:vM F f (x::xs) (v::vs):=⟨by rw[List.map_cons,h.t,a.t]⟩
class zI(nS:Bool)(F:List (Nat×Value))(wL:outParam (List (Nat×Value))):Prop where t:nS=true->∀f:tr,oR F f=oR wL f
instance:zI nS [] []:=⟨λ_ _=>rfl⟩
theorem Gd{i:Nat}(h:oR F f=oR wL f)(Y:u=v):oR ((i,u)::F) f=oR ((i,v)::wL) f:=by
 show o2 (oR F f) i u=o2 (oR wL f) i v;rw[h,Y]
instance(priority:=2000){i:Nat}[h:zI nS F wL]:zI nS ((i,rI nS v)::F) ((i,v)::wL):=⟨λe f=>Gd (h.t e f) (gN e v)⟩
instance{i:Nat}[h:zI nS F wL]:zI nS ((i,v)::F) ((i,v)::wL):=⟨λe f=>Gd (h.t e f) rfl⟩
class mo(b:Bool)(t:outParam Bool):Prop where t:b=t
instance{b:Bool}[h:fs b true]:mo b true:=⟨h.t⟩
instance{b:Bool}[h:fs b false]:mo b false:=⟨h.t⟩
class sh(a b:Nat):Prop where t:Nat.blt a b=true
instance{a:Nat}[h:fs (Nat.ble (Nat.succ a) b) true]:sh a b:=⟨h.t⟩
class gW(a b:Nat):Prop where t:Nat.ble a b=true
instance{a:Nat}[h:fs (Nat.ble a b) true]:gW a b:=⟨h.t⟩
@[reducible] def jC(a b:Int):Bool:=match a,b with| .ofNat m,.ofNat n=>Nat.beq m n| .negSucc m,.negSucc n=>Nat.beq m n| .ofNat _,.negSucc _=>false| .negSucc _,.ofNat _=>false
@[reducible] def LZ(m n:Nat):Bool:=match n with|0=>false|n+1=>Nat.ble m n
@[reducible] def xp(a b:Int):Bool:=match a,b with| .ofNat m,.ofNat n=>LZ m n| .negSucc m,.negSucc n=>Nat.ble (Nat.succ n) m| .ofNat _,.negSucc _=>false| .negSucc _,.ofNat _=>true
theorem L0(a b:Int):jC a b=decide (a=b):=by
 cases a<;>cases b<;>simp only[jC]<;>rw[Bool.eq_iff_iff]<;>simp<;>omega
theorem L3(a b:Int):xp a b=decide (a<b):=by
 have h:∀m n,LZ m n=decide (m<n):=by
  intro m n;cases n with
  |zero=>simp[LZ]
  |succ n=>
   show Nat.ble m n=_;rw[Bool.eq_iff_iff];simp;omega
 cases a<;>cases b<;>simp only[xp,h]<;>rw[Bool.eq_iff_iff]<;>simp<;>omega
class mi(a:Int)(m:outParam Nat):Prop where t:a=(m:Int)
class L4{α:Sort _}(a:α)(b:outParam α):Prop where t:a=b
instance{α:Sort _}{a:α}:L4 a a:=⟨rfl⟩
instance{a:Int}[h:L4 a (Int.ofNat m)]:mi a m:=⟨h.t⟩
class Az(w0:World)(ov:Value)(cs:outParam (Array Value)):Prop where t:ar w0 ov cs
theorem iu(h:ar w0 ov cs):Az w0 ov cs:=⟨h⟩
class zN(w0:World)(S:List eL)(b:Nat)(cs:outParam (Array Value)):Prop where t:∀{w:World},U w0 S w->ar w (.pointer (some ⟨b,0,none⟩)) cs
theorem U.tail(h:U w0 (e::S) w):U w0 S w:=h.sub (List.sublist_cons_self _ _)
instance(priority:=2000):zN w0 (V b cs T::S) b cs:=⟨λh=>h.tU .nU⟩
instance[h:zN w0 S b cs]:zN w0 (e::S) b cs:=⟨λh'=>h.t h'.tail⟩
instance(priority:=100)[h:Az w0 (.pointer (some ⟨b,0,none⟩)) cs]:zN w0 S b cs:=⟨λh'=>h.t.ei h'.J⟩
class L5(w0:World)(v:Value)(α:outParam Type)[i:outParam (O α)](xs:outParam (List α)):Prop where t:ev w0 v xs
theorem aS[O α]{xs:List α}(h:ev w0 v xs):L5 w0 v α xs:=⟨h⟩
class gY(w0:World)(S:List eL)(v:Value)(α:outParam Type)[i:outParam (O α)](xs:outParam (List α)):Prop where t:∀{w:World},U w0 S w->ev w v xs
instance(priority:=2000)[O α]{xs:List α}:gY w0 (B v ek xs::S) v α xs:=⟨λh=>h.ef .nU⟩
instance[O α]{xs:List α}[h:gY w0 S v α xs]:gY w0 (e::S) v α xs:=⟨λh'=>h.t h'.tail⟩
instance(priority:=100)[O α]{xs:List α}[h:L5 w0 v α xs]:gY w0 S v α xs:=⟨λh'=>h.t.ei h'.J⟩
class zS(w0:World)(S:List eL)(ov:Value)(cs:outParam (Array Value))(o:outParam Nat):Prop where t:∀{w:World},U w0 S w->∃p,ar w p cs/\ov=rd p o
instance[h:zN w0 S b cs]:zS w0 S (.pointer (some ⟨b,o,none⟩)) cs o:=⟨λh'=>⟨_,h.t h',by simp[rd]⟩⟩
theorem L6{p:Value}(h:m4 p):p=rd p 0:=by obtain⟨b,o,rfl⟩:=h;rfl
theorem ev.Gc[O α]{xs:List α}{i:Nat}{x:α}(h:ev w v xs)(a:xs[i]? =some x):ar w (oK v i (O.eo α)) (O.enc x):=h.tU a
instance[O α]{xs:List α}{x:α}{i:Nat}[h:gY w0 S v α xs][b:fr xs i x][c:fs s (O.eo α)]:zS w0 S (oK v i s) (O.enc x) 0:=⟨λh'=>by
 have a:=(h.t h').Gc b.t;rw[<-c.t]at a;exact⟨_,a,L6 a.sv⟩⟩
instance[O α]{xs:List α}{x:α}{i:Nat}[h:gY w0 S v α xs][b:fr xs i x][c:fs s (O.eo α)]:zS w0 S (rd (oK v i s) o) (O.enc x) o:=⟨λh'=>by
 have a:=(h.t h').Gc b.t;rw[<-c.t]at a;exact⟨_,a,rfl⟩⟩
instance(priority:=100)[h:Az w0 ov cs]:zS w0 S ov cs 0:=⟨λh'=>⟨_,h.t.ei h'.J,L6 h.t.sv⟩⟩
class jU(a b:Nat)(c:outParam Nat):Prop where t:a=c+b
instance{c:Nat}:jU (c+b) b c:=⟨rfl⟩
instance(priority:=90){a:Nat}:jU a 0 a:=⟨rfl⟩
instance(priority:=90){a c:Nat}[h:jU a b c]:jU (a+1) (b+1) c:=⟨by have:=h.t;omega⟩
class nt{α:Type}[O α](x:α)(ps:outParam (List (Array Value))):Prop where t:O.enc x=eK ps
theorem yz(c:Array Value):eK [c]=c:=by simp[eK]
instance(priority:=100){x:UInt8}:nt x [#[.int .u8 x.toNat]]:=⟨(yz _).symm⟩
instance(priority:=100){x:t7}:nt x [#[.int .u64 (x.n:Int)]]:=⟨(yz _).symm⟩
instance(priority:=100){x:dC}:nt x [#[.float .f64 x.n]]:=⟨(yz _).symm⟩
instance(priority:=100){x:eu}:nt x [#[x.v]]:=⟨(yz _).symm⟩
instance(priority:=100){x:il}:nt x [#[x.v]]:=⟨(yz _).symm⟩
instance:nt (⟨n⟩:t7) [#[.int .u64 (n:Int)]]:=⟨(yz _).symm⟩
instance{n:Int}:nt (⟨n⟩:eU) [#[.int .i64 n]]:=⟨(yz _).symm⟩
instance{c:Nat}:nt (⟨a,n,c⟩:eu) [#[.slice a n c]]:=⟨(yz _).symm⟩
instance:nt (⟨some n⟩:il) [#[.pointer (some ⟨n,0,none⟩)]]:=⟨(yz _).symm⟩
class AE(cs:Array Value)(j:Nat)(v:outParam Value):Prop where t:cs[j]? =some v
class xg(ps:List (Array Value))(j:Nat)(v:outParam Value):Prop where t:(eK ps)[j]? =some v
instance[h:fr l j v]:AE l.toArray j v:=⟨by simpa using h.t⟩
instance[O α]{x:α}[h:nt x ps][Y:xg ps j v]:AE (O.enc x) j v:=⟨by rw[h.t];exact Y.t⟩
instance:xg (#[u]::ps) 0 u:=⟨by rw[cR,Array.getElem?_append_left (by simp)];rfl⟩
instance(priority:=2000){y:UInt8}[em:L4 y (UInt8.ofNat n)][h:sh n 256]:xg (#[.int .u8 (y.toNat:Int)]::ps) 0 (.int .u8 (n:Int)):=⟨by
 have G:=h.t;have Y:n<256:=by simpa using G
 rw[cR,Array.getElem?_append_left (by simp)];have ez:y.toNat=n:=by rw[em.t];simp;omega
 rw[ez];rfl⟩
instance[h:xg ps j v]:xg (#[u]::ps) (j+1) v:=⟨by rw[cR,Array.getElem?_append_right (by simp)];simpa using h.t⟩
instance[O α]{x:α}[h:AE (O.enc x) j v]:xg (O.enc x::ps) j v:=⟨by
 rw[cR,Array.getElem?_append_left (Array.getElem?_eq_some_iff.1 h.t).1];exact h.t⟩
instance[O α]{x:α}{i:Nat}[a:jU j (O.eo α) i][h:xg ps i v]:xg (O.enc x::ps) j v:=⟨by
 have:=a.t;rw[cR,Array.getElem?_append_right (by rw[O.eT];omega),O.eT,show j-O.eo α=i by omega];exact h.t⟩
class AT(cs:Array Value)(o s:Nat)(c:outParam (Array Value)):Prop where t:cs.extract o (o+s)=c/\o+s<=cs.size
class zR(ps:List (Array Value))(o s:Nat)(c:outParam (Array Value)):Prop where t:(eK ps).extract o (o+s)=c/\o+s<=(eK ps).size
instance(priority:=2000)[O α]{x:α}[h:fs (O.eo α) s]:AT (O.enc x) 0 s (O.enc x):=⟨by
 rw[<-h.t,Nat.zero_add,<-O.eT x];simp⟩
instance[O α]{x:α}[h:nt x ps][Y:zR ps o s c]:AT (O.enc x) o s c:=⟨by rw[h.t];exact Y.t⟩
theorem Gu{p:Array Value}{i:Nat}(h:o=i+p.size):(p++q).extract o (o+s)=q.extract i (i+s):=by
 subst h;rw[Array.extract_append,Array.extract_eq_empty_of_le (by omega)];simp only[Array.empty_append];congr 1<;>omega
theorem Zu{p:Array Value}(h:o+s<=p.size):(p++q).extract o (o+s)=p.extract o (o+s):=by
 rw[Array.extract_append,show o+s-p.size=0 by omega];simp
instance[O α]{x:α}[h:AT (O.enc x) o s c]:zR (O.enc x::ps) o s c:=⟨by
 have:=h.t;rw[cR];exact⟨by rw[Zu this.2];exact this.1,by rw[Array.size_append];omega⟩⟩
instance[O α]{x:α}{i:Nat}[a:jU o (O.eo α) i][h:zR ps i s c]:zR (O.enc x::ps) o s c:=⟨by
 have G:=h.t;have Y:=a.t;have ez:=O.eT x;rw[cR];exact⟨by rw[Gu (by omega:o=i+(O.enc x).size)];exact G.1,by rw[Array.size_append];omega⟩⟩
instance[h:zR ps o s c]:zR (#[u]::ps) (o+1) s c:=⟨by
 have G:=h.t;rw[cR];exact⟨by rw[Gu (by simp:o+1=o+(#[u]:Array Value).size)];exact G.1,by rw[Array.size_append];simp;omega⟩⟩
class NU(l:List Value)(s:Nat)(c:outParam (List Value)):Prop where t:l.take s=c/\s<=l.length
instance:NU l 0 []:=⟨by simp⟩
instance{c:List Value}[h:NU l s c]:NU (u::l) (s+1) (u::c):=⟨by have:=h.t;simp;exact this⟩
class Gm(l:List Value)(o:Nat)(c:outParam (List Value)):Prop where t:l.drop o=c/\o<=l.length
instance:Gm l 0 l:=⟨by simp⟩
instance{m c:List Value}[h:Gm l o m][Y:NU m s c]:AT l.toArray o s c.toArray:=⟨by
 obtain⟨G,ez⟩:=h.t;obtain⟨e6,ac⟩:=Y.t;subst G;subst e6;simp only[List.length_drop]at ac;refine⟨?_,by simp;omega⟩;simp[List.extract_eq_take_drop]⟩
class NM(P:Program)(w0:World)(S:List eL)(ek:TypeId)(ov:Value)(v:outParam Value):Prop where t:∀{w:World},U w0 S w->s0 P ek w ov v
instance[u2 P ek][h:zS w0 S ov cs o][Y:AE cs o v]:NM P w0 S ek ov v:=⟨λh'=>by
 obtain⟨p,a,rfl⟩:=h.t h';exact dK a o Y.t⟩
instance{ek:Nat}[mE P ek][nh P ek s][h:zS w0 S ov cs o][Y:AT cs o s c]:NM P w0 S ek ov (.agg c):=⟨λh'=>by
 obtain⟨p,a,rfl⟩:=h.t h';exact s0.wc a o Y.t.1 Y.t.2⟩
class nu(P:Program)(F:List (Nat×Value))(f:tr)(w0:World)(S:List eL)(op:Op)(T:TypeId)(v:outParam Value):Prop where
 t:∀{w:World},U w0 S w->∀{R:Value->World->Prop}{d:Option Tmp}{pos:String}{eO:Array Edge}{eV:Option (Nat×Bool)},R v w->Z P (oR F f) ⟨d,op,T,pos,eO,eV⟩ w R
section
variable{P:Program}{F:List (Nat×Value)}{f:tr}{w0:World}{S:List eL}{T s:TypeId}{x y a b c:Operand}{v ov:Value}
instance[h:oB F f x v]:nu P F f w0 S (.move x) T v:=⟨λ_ _ _ _ _ _ h'=>oM h.t h'⟩
instance[h:oB F f x v]:nu P F f w0 S (.assign x) T v:=⟨λ_ _ _ _ _ _ h'=>wy h.t h'⟩
instance[h:oB F f c (.bool true)][Y:oB F f a v]:nu P F f w0 S (.pick c a b) T v:=⟨λ_ _ _ _ _ _ h'=>Z.pick h.t (by rw[Y.t];exact h')⟩
instance[h:oB F f c (.bool false)][Y:oB F f b v]:nu P F f w0 S (.pick c a b) T v:=⟨λ_ _ _ _ _ _ h'=>Z.pick h.t (by rw[Y.t];exact h')⟩
instance{ek:TypeId}[h:oB F f x ov][Y:NM P w0 S ek ov v]:nu P F f w0 S (.load ek x) T v:=⟨λE _ _ _ _ _ h'=>ap h.t (Y.t E) h'⟩
class jM(w0:World)(S:List eL)(ov:Value):Prop where t:∀{w:World},U w0 S w->m4 ov
instance{o b:Nat}:jM w0 S (.pointer (some ⟨b,o,none⟩)):=⟨λ_=>m4.mk b o⟩
instance{α:Type}[O α]{xs:List α}{z:α}{i s:Nat}[h:gY w0 S v α xs][a:fr xs i z]:jM w0 S (oK v i s):=⟨λh'=>(h.t h').sv (List.getElem?_eq_some_iff.1 a.t).1⟩
instance{o:Nat}[h:jM w0 S v]:jM w0 S (rd v o):=⟨λh'=>(h.t h').add o⟩
instance(priority:=100){cs:Array Value}[h:Az w0 ov cs]:jM w0 S ov:=⟨λh'=>(h.t.ei h'.J).sv⟩
instance[h:oB F f x ov][Y:jM w0 S ov]:nu P F f w0 S (.nilCheck x) T ov:=⟨λE _ _ _ _ _ h'=>Z.nilCheck h.t (Y.t E) h'⟩
class AA(a b:Nat)(c:outParam Nat):Prop where t:a+b=c
instance(priority:=2000){b:Nat}:AA 0 b b:=⟨Nat.zero_add b⟩
instance{a b:Nat}:AA a b (a+b):=⟨rfl⟩
class L7(a b:Nat)(c:outParam Nat):Prop where t:a*b=c
instance(priority:=2000){b:Nat}:L7 0 b 0:=⟨Nat.zero_mul b⟩
instance(priority:=1900){a:Nat}:L7 a 1 a:=⟨Nat.mul_one a⟩
class AO(ov:Value)(n:Nat)(NF:outParam Value):Prop where t:m4 ov->rd ov n=NF
instance{b o n m:Nat}[h:AA o n m]:AO (.pointer (some ⟨b,o,none⟩)) n (.pointer (some ⟨b,m,none⟩)):=⟨λ_=>by rw[<-h.t];rfl⟩
instance{i s n:Nat}:AO (oK v i s) n (rd (oK v i s) n):=⟨λ_=>rfl⟩
instance(priority:=100){n:Nat}:AO v n (rd v n):=⟨λ_=>rfl⟩
instance{o n m:Nat}[h:AA o n m]:AO (rd v o) n (rd v m):=⟨λh'=>by
 rw[<-h.t];cases v with
 |pointer a=>cases a with
  |none=>rfl
  |some a=>simp[rd,Nat.add_assoc]
 |_=>rfl⟩
instance{s i off:Nat}{NF:Value}[je P s i off][h:oB F f x ov][Y:jM w0 S ov][ez:AO ov off NF]:nu P F f w0 S (.fieldAddr s x i) T NF:=
 ⟨λE _ _ _ _ _ h'=>Z.fieldAddr h.t (Y.t E) (by rw[ez.t (Y.t E)];exact h')⟩
instance{i:Nat}{vs:Array Value}[h:oB F f x (.tuple vs)][Y:AE vs i v]:nu P F f w0 S (.extract x i) T v:=⟨λ_ _ _ _ _ _ h'=>Z.extract h.t Y.t h'⟩
class xw(b:Bool)(c:outParam Bool):Prop where t:(!b)=c
instance:xw true false:=⟨rfl⟩
instance:xw false true:=⟨rfl⟩
instance{s:TypeId}{b c:Bool}[h:oB F f x (.bool b)][Y:xw b c]:nu P F f w0 S (.unOp .not s x) T (.bool c):=⟨λ_ _ _ _ _ _ h'=>Z.not h.t (by rw[Y.t];exact h')⟩
instance(priority:=100){s:TypeId}{b:Bool}[h:oB F f x (.bool b)]:nu P F f w0 S (.unOp .not s x) T (.bool (!b)):=⟨λ_ _ _ _ _ _ h'=>Z.not h.t h'⟩
class NP(k:IntKind)(a b:Int)(c:outParam Int):Prop where t:k.wrap (a+b)=c
theorem Gf{n:Nat}(h:Nat.ble n 9223372036854775807=true):IntKind.i64.wrap (n:Int)=n:=by
 have:n<=9223372036854775807:=by simpa using h
 exact wrap_i64 (by omega)
theorem Gp{n:Nat}(h:Nat.ble n 18446744073709551615=true):IntKind.u64.wrap (n:Int)=n:=by
 have:n<=18446744073709551615:=by simpa using h
 exact wrap_u64 (by omega)
instance{a b:Int}{m n:Nat}[h:mi a m][Y:mi b n][ez:gW (m+n) 9223372036854775807]:NP .i64 a b ((m+n:Nat):Int):=⟨by rw[h.t,Y.t,<-Int.natCast_add];exact Gf ez.t⟩
instance{a b:Int}{m n:Nat}[h:mi a m][Y:mi b n][ez:gW (m+n) 18446744073709551615]:NP .u64 a b ((m+n:Nat):Int):=⟨by rw[h.t,Y.t,<-Int.natCast_add];exact Gp ez.t⟩
section
variable{s t:TypeId}{k:IntKind}{m n:Int}{z yE:Bool}
instance{c:Int}[h:oB F f x (.int k m)][Y:oB F f y (.int k n)][ez:NP k m n c]:nu P F f w0 S (.binOp .add s x y t) T (.int k c):=⟨λ_ _ _ _ _ _ h'=>Z.add h.t Y.t ez.t h'⟩
instance[h:oB F f x (.int k m)][Y:oB F f y (.int k n)][ez:mo (jC m n) z]:nu P F f w0 S (.binOp .eql s x y t) T (.bool z):=⟨λ_ _ _ _ _ _ h'=>Z.eql h.t Y.t (by rw[<-L0,ez.t];exact h')⟩
instance[h:oB F f x (.int k m)][Y:oB F f y (.int k n)][ez:mo (jC m n) z][e6:xw z yE]:nu P F f w0 S (.binOp .neq s x y t) T (.bool yE):=⟨λ_ _ _ _ _ _ h'=>Z.neq h.t Y.t (by rw[<-L0,ez.t,e6.t];exact h')⟩
instance[h:oB F f x (.int k m)][Y:oB F f y (.int k n)][ez:mo (xp m n) z]:nu P F f w0 S (.binOp .lss s x y t) T (.bool z):=⟨λ_ _ _ _ _ _ h'=>Z.lss h.t Y.t (by rw[<-L3,ez.t];exact h')⟩
instance[h:oB F f x (.int k m)][Y:oB F f y (.int k n)][ez:mo (xp n m) z]:nu P F f w0 S (.binOp .gtr s x y t) T (.bool z):=⟨λ_ _ _ _ _ _ h'=>Z.gtr h.t Y.t (by rw[<-L3,ez.t];exact h')⟩
theorem Gg(a b:Int):(!xp b a)=decide (a<=b):=by rw[L3,Bool.eq_iff_iff];simp
instance[h:oB F f x (.int k m)][Y:oB F f y (.int k n)][ez:mo (xp n m) z][e6:xw z yE]:nu P F f w0 S (.binOp .leq s x y t) T (.bool yE):=⟨λ_ _ _ _ _ _ h'=>Z.leq h.t Y.t (by rw[<-Gg,ez.t,e6.t];exact h')⟩
instance[h:oB F f x (.int k m)][Y:oB F f y (.int k n)][ez:mo (xp m n) z][e6:xw z yE]:nu P F f w0 S (.binOp .geq s x y t) T (.bool yE):=⟨λ_ _ _ _ _ _ h'=>Z.geq h.t Y.t (by rw[<-Gg,ez.t,e6.t];exact h')⟩
instance(priority:=100)[h:oB F f x (.int k m)][Y:oB F f y (.int k n)]:nu P F f w0 S (.binOp .eql s x y t) T (.bool (decide (m=n))):=⟨λ_ _ _ _ _ _ h'=>Z.eql h.t Y.t h'⟩
instance(priority:=100)[h:oB F f x (.int k m)][Y:oB F f y (.int k n)]:nu P F f w0 S (.binOp .neq s x y t) T (.bool (!decide (m=n))):=⟨λ_ _ _ _ _ _ h'=>Z.neq h.t Y.t h'⟩
instance(priority:=100)[h:oB F f x (.int k m)][Y:oB F f y (.int k n)]:nu P F f w0 S (.binOp .lss s x y t) T (.bool (decide (m<n))):=⟨λ_ _ _ _ _ _ h'=>Z.lss h.t Y.t h'⟩
instance(priority:=100)[h:oB F f x (.int k m)][Y:oB F f y (.int k n)]:nu P F f w0 S (.binOp .gtr s x y t) T (.bool (decide (n<m))):=⟨λ_ _ _ _ _ _ h'=>Z.gtr h.t Y.t h'⟩
instance(priority:=100)[h:oB F f x (.int k m)][Y:oB F f y (.int k n)]:nu P F f w0 S (.binOp .leq s x y t) T (.bool (decide (m<=n))):=⟨λ_ _ _ _ _ _ h'=>Z.leq h.t Y.t h'⟩
instance(priority:=100)[h:oB F f x (.int k m)][Y:oB F f y (.int k n)]:nu P F f w0 S (.binOp .geq s x y t) T (.bool (decide (n<=m))):=⟨λ_ _ _ _ _ _ h'=>Z.geq h.t Y.t h'⟩
instance{p:Addr}{ek:TypeId}[fA P s ek][h:oB F f x (.pointer (some p))][Y:oB F f y (.pointer none)]:nu P F f w0 S (.binOp .eql s x y t) T (.bool false):=⟨λ_ _ _ _ _ _ h'=>Nd h.t Y.t h'⟩
instance{ek:TypeId}{p:Addr}[fA P s ek][h:oB F f x (.pointer (some p))][Y:oB F f y (.pointer none)]:nu P F f w0 S (.binOp .neq s x y t) T (.bool true):=⟨λ_ _ _ _ _ _ h'=>Lu h.t Y.t h'⟩
instance{ek:TypeId}[fA P s ek][h:oB F f x (.pointer none)][Y:oB F f y (.pointer none)]:nu P F f w0 S (.binOp .neq s x y t) T (.bool false):=⟨λ_ _ _ _ _ _ h'=>Lu h.t Y.t h'⟩
end
instance{ek:TypeId}{v:Value}[fA P s ek][h:oB F f x v]:nu P F f w0 S (.makeInterface s x) T (.iface s v):=⟨λ_ _ _ _ _ _ h'=>QM h.t h'⟩
instance{fn:Fn}{a cs:List Operand}{us vs:List Value}[h:vM F f a us][Y:vM F f cs vs]:nu P F f w0 S (.makeFunc fn a.toArray cs.toArray) T (.func fn us.toArray vs.toArray):=⟨λ_ _ _ _ _ _ h'=>Qr h.t Y.t h'⟩
class bz{α:Type}(l:List α)(n:outParam Nat):Prop where t:l.length=n
instance{α:Type}:bz ([]:List α) 0:=⟨rfl⟩
instance{α:Type}{a:α}{l:List α}{n:Nat}[h:bz l n]:bz (a::l) (n+1):=⟨by rw[List.length_cons,h.t]⟩
instance(priority:=100){α:Type}{l:List α}:bz l l.length:=⟨rfl⟩
instance{α:Type}[O α]{t ek n:Nat}{xs:List α}[hc P t ek][h:oB F f x v][Y:gY w0 S v α xs][ez:bz xs n]:nu P F f w0 S (.call {callee:=.builtin .len,args:=#[x],argTypes:=#[t]}) T (.int .i64 n):=
 ⟨λE _ _ _ _ _ h'=>Z.hL h.t (Y.t E) (by rw[ez.t];exact h')⟩
instance{t ek n c:Nat}[hc P t ek][h:oB F f x (.slice none n c)]:nu P F f w0 S (.call {callee:=.builtin .len,args:=#[x],argTypes:=#[t]}) T (.int .i64 n):=
 ⟨λ_ _ _ _ _ _ h'=>Z.len h.t h'⟩
instance{α:Type}[O α]{t ek:Nat}{xs:List α}{z:α}{k:IntKind}{i:Int}{j s:Nat}[hc P t ek][a:nh P ek s][h:oB F f x v][Y:gY w0 S v α xs][b:fs s (O.eo α)][ez:oB F f y (.int k i)][e6:mi i j][ac:fr xs j z]:nu P F f w0 S (.indexAddr t x y) T (oK v j (O.eo α)):=
 ⟨λE _ _ _ _ _ h'=>have:nh P ek (O.eo α):=by rw[<-b.t];exact a
  nL h.t (Y.t E) ez.t (by have:=(List.getElem?_eq_some_iff.1 ac.t).1;have:=e6.t;omega) (by rw[e6.t];exact h')⟩
instance{t ek n s b o j m q:Nat}{k:IntKind}{i:Int}[de P t n ek][nh P ek s][h:oB F f x (.pointer (some ⟨b,o,none⟩))][ez:oB F f y (.int k i)][e6:mi i j][ac:sh j n][aW:L7 j s m][nf:AA o m q]:nu P F f w0 S (.indexAddr t x y) T (.pointer (some ⟨b,q,none⟩)):=
 ⟨λE _ _ _ _ _ h'=>ph h.t ez.t (by have:=e6.t;have:=ac.t;simp at this;omega) (by rw[e6.t,Int.toNat_natCast,aW.t,nf.t];exact h')⟩
class AI(P:Program)(F:List (Nat×Value))(f:tr)(w0:World)(S:List eL)(op:Op)(T:TypeId)(C:outParam Prop)(v:outParam Value):Prop where
 t:C->∀{w:World},U w0 S w->∀{R:Value->World->Prop}{d:Option Tmp}{pos:String}{eO:Array Edge}{eV:Option (Nat×Bool)},R v w->Z P (oR F f) ⟨d,op,T,pos,eO,eV⟩ w R
instance{α:Type}[O α]{t ek:Nat}{xs:List α}{k:IntKind}{i:Int}{j s:Nat}[hc P t ek][a:nh P ek s][h:oB F f x v][Y:gY w0 S v α xs][b:fs s (O.eo α)][ez:oB F f y (.int k i)][e6:mi i j]{m:Nat}[th:xf xs m]:AI P F f w0 S (.indexAddr t x y) T (jD j m) (oK v j (O.eo α)):=
 ⟨λc _ E _ _ _ _ _ h'=>have:nh P ek (O.eo α):=by rw[<-b.t];exact a
  nL h.t (Y.t E) ez.t (by have:=c.t;have:=th.t;have:=e6.t;omega) (by rw[e6.t];exact h')⟩
end
class gB(v:Value)(u:outParam (Array Value)):Prop where t:v.cells=u/\∀c∈u.toList,c.oneCell'=true
instance{k:IntKind}{n:Int}:gB (.int k n) #[.int k n]:=⟨rfl,o0 _ _⟩
instance{b:Bool}:gB (.bool b) #[.bool b]:=⟨rfl,h3 rfl⟩
instance:gB (.pointer a) #[.pointer a]:=⟨rfl,LI _⟩
instance{c:Nat}:gB (.slice a n c) #[.slice a n c]:=⟨rfl,h3 rfl⟩
instance:gB (.map r) #[.map r]:=⟨rfl,q9 _⟩
instance{s:eu}:gB s.v #[s.v]:=⟨rfl,O.one (α:=eu) s⟩
instance[O α]{x:α}:gB (.agg (O.enc x)) (O.enc x):=⟨rfl,O.one x⟩
class NG(l:List Value):Prop where t:∀c∈l,c.oneCell'=true
instance:NG []:=⟨by intro c a;cases a⟩
instance[h:gB v #[v]][Y:NG l]:NG (v::l):=⟨by
 intro c a;rcases List.mem_cons.1 a with rfl|a
 .exact h.t.2 _ (by simp)
 exact Y.t c a⟩
instance[h:NG l]:gB (.agg l.toArray) l.toArray:=⟨rfl,h.t⟩
class NW(u:Array Value)(n:outParam Nat):Prop where t:u.size=n
instance[h:bz l n]:NW l.toArray n:=⟨by simpa using h.t⟩
instance[O α]{x:α}:NW (O.enc x) (O.eo α):=⟨O.eT x⟩
class st(cs:Array Value)(o:Nat)(u:Array Value)(iR:outParam (Array Value)):Prop where t:o+u.size<=cs.size/\iH cs o u=iR
class NY(l:List Value)(i:Nat)(v:Value)(uo:outParam (List Value)):Prop where t:i<l.length/\l.set i v=uo
instance:NY (u::l) 0 v (v::l):=⟨by simp⟩
instance{i:Nat}[h:NY l i v uo]:NY (u::l) (i+1) v (u::uo):=⟨by have:=h.t;simp;exact this⟩
theorem Zm{i:Nat}(h:i<l.length):iH l.toArray i #[v]=(l.set i v).toArray:=by
 apply Array.ext_getElem?;intro j;rw[wg _ _ _ (by simp;omega)];simp only[List.getElem?_toArray,List.getElem?_set];by_cases a:i=j
 .subst a;rw[if_pos (by simp),if_pos rfl,if_pos h];simp
 rw[if_neg (by simp;omega),if_neg a]
instance{i:Nat}[h:NY l i v uo]:st l.toArray i #[v] uo.toArray:=⟨by
 have:=h.t;refine⟨by simp;omega,?_⟩;rw[Zm this.1,this.2]⟩
instance(priority:=2000)[O α]{x y:α}:st (O.enc x) 0 (O.enc y) (O.enc y):=⟨by rw[O.eT,O.eT];omega,mT (by rw[O.eT,O.eT])⟩
instance[O α]{y:α}[h:bz l n][Y:fs (O.eo α) n]:st l.toArray 0 (O.enc y) (O.enc y):=⟨by
 have:=h.t;have:=Y.t;refine⟨by rw[O.eT];simp;omega,mT (by rw[O.eT];simp;omega)⟩⟩
class zH(l:List Value)(i:Nat)(m:List Value)(uo:outParam (List Value)):Prop where t:i+m.length<=l.length/\l.take i++m++l.drop (i+m.length)=uo
instance:zH l 0 [] l:=⟨by simp⟩
instance{m:List Value}[h:zH l 0 m uo]:zH (u::l) 0 (v::m) (v::uo):=⟨by
 have:=h.t;simp at this⊢;exact this⟩
instance{m:List Value}{i:Nat}[h:zH l i m uo]:zH (u::l) (i+1) m (u::uo):=⟨by
 have:=h.t;rw[show i+1+m.length=(i+m.length)+1 by omega];simp only[List.length_cons,List.take_succ_cons,List.drop_succ_cons,List.cons_append];exact⟨by omega,by rw[this.2]⟩⟩
instance(priority:=100){m:List Value}{i:Nat}[h:zH l i m uo]:st l.toArray i m.toArray uo.toArray:=⟨by
 have:=h.t;refine⟨by simp;omega,?_⟩;rw[<-this.2];unfold iH;simp[List.extract_eq_take_drop];rw[List.take_of_length_le (by simp)]⟩
instance{z:t7}{a:Int}[h:mi a n]:st (O.enc z) 0 #[.int .u64 a] (O.enc (⟨n⟩:t7)):=⟨by rw[O.eT];exact Nat.le_refl _,by rw[h.t];exact mT rfl⟩
instance{z:eU}{a:Int}:st (O.enc z) 0 #[.int .i64 a] (O.enc (⟨a⟩:eU)):=⟨by rw[O.eT];exact Nat.le_refl _,mT rfl⟩
instance{s:eu}:st (O.enc z) 0 #[s.v] (O.enc s):=⟨by rw[O.eT];exact Nat.le_refl _,mT rfl⟩
instance{c:Nat}:st (O.enc z) 0 #[.slice a n c] (O.enc (⟨a,n,c⟩:eu)):=⟨by rw[O.eT];exact Nat.le_refl _,mT rfl⟩
class NB(S:List eL)(b:Nat)(cs:outParam (Array Value))(T:outParam TypeId):Prop where t:tX (V b cs T) S
instance(priority:=2000):NB (V b cs T::S) b cs T:=⟨.nU⟩
instance[h:NB S b cs T]:NB (e::S) b cs T:=⟨.ee h.t⟩
class NV(u:Array Value)(bE:outParam (Array Value)):Prop where t:u=bE
instance(priority:=100){u:Array Value}:NV u u:=⟨rfl⟩
instance{a:Int}[h:mi a n][Y:sh n 256]:NV #[.int .u8 a] #[.int .u8 ((UInt8.ofNat n).toNat:Int)]:=⟨by
 have ez:=Y.t;have e6:n<256:=by simpa using ez
 rw[h.t,show(UInt8.ofNat n).toNat=n by simp;omega]⟩
class AN(S:List eL)(e oZ:eL)(tg:outParam (List eL)):Prop where t:iD e oZ S tg
instance(priority:=2000):AN (e::S) e oZ (oZ::S):=⟨.nU⟩
instance[h:AN S e oZ tg]:AN (x::S) e oZ (x::tg):=⟨.ee h.t⟩
class zL(P:Program)(F:List (Nat×Value))(f:tr)(w0:World)(S:List eL)(op:Op)(T:TypeId)(v:outParam Value)(tg:outParam (List eL)):Prop where
 t:∀{w:World},U w0 S w->∀{R:Value->World->Prop}{d:Option Tmp}{pos:String}{eO:Array Edge}{eV:Option (Nat×Bool)},(∀w',U w0 tg w'->R v w') ->Z P (oR F f) ⟨d,op,T,pos,eO,eV⟩ w R
section
variable{P:Program}{F:List (Nat×Value)}{f:tr}{w0:World}{S tg:List eL}{T:TypeId}{x y:Operand}{v:Value}
instance{ek a s c b o:Nat}{cs iR u:Array Value}[nh P ek s][h:oB F f x (.pointer (some ⟨b,o,none⟩))][Y:oB F f y v][ez:NB S b cs a][e6:gB v u][ac:NW u c][nf:fs c s]{bE:Array Value}[tC:NV u bE][aW:st cs o bE iR][nE:AN S (V b cs a) (V b iR a) tg]:zL P F f w0 S (.store ek x y) T undef tg:=
 ⟨λE _ _ _ _ _ h'=>by
  have d:=tC.t;subst d;obtain⟨e,g⟩:=e6.t;obtain⟨j,i⟩:=aW.t;have k:=ac.t;have l:=nf.t;subst e;exact iU E h.t Y.t ez.t (by omega) (by omega) g i λw' n9=>h' w' (n9 _ nE.t)⟩
end
class L8(ov:Value)(v:outParam Value)(i s o:outParam Nat):Prop where t:m4 (oK v i s) ->ov=rd (oK v i s) o
instance{i:Nat}:L8 (oK v i s) v i s 0:=⟨λh=>L6 h⟩
instance{i:Nat}:L8 (rd (oK v i s) o) v i s o:=⟨λ_=>rfl⟩
class NX(S:List eL)(v:Value)(ek:outParam TypeId)(α:outParam Type)[i:outParam (O α)](xs:outParam (List α)):Prop where t:tX (B v ek xs) S
instance(priority:=2000)[O α]{xs:List α}:NX (B v ek xs::S) v ek α xs:=⟨.nU⟩
instance[O α]{xs:List α}[h:NX S v ek α xs]:NX (e::S) v ek α xs:=⟨.ee h.t⟩
class NJ{α:Type}(l:List α)(i:Nat)(v:α)(uo:outParam (List α)):Prop where t:i<l.length/\l.set i v=uo
instance{u v:α}{l:List α}:NJ (u::l) 0 v (v::l):=⟨by simp⟩
instance(priority:=100){v:α}{l:List α}{i:Nat}[a:xf l n][h:jD i n]:NJ l i v (l.set i v):=⟨by rw[a.t];exact h.t,rfl⟩
instance{u v:α}{l:List α}{i:Nat}[a:xf l n][h:jD i n]:NJ (l.set i u) i v (l.set i v):=⟨by have:=h.t;have:=a.t;simp;omega⟩
instance{u:α}{l:List α}{i:Nat}[a:xf l n][h:jD i n]:fr (l.set i u) i u:=⟨by rw[List.getElem?_set_self (by rw[a.t];exact h.t)]⟩
instance{x y:Operand}{c:Value}[O α]{xs zs:List α}{z d:α}{ek a e g i:Nat}{u:Array Value}[nh P ek s][h:oB F f x ov][Y:oB F f y c][ez:L8 ov v i g o][j:fs g (O.eo α)][e6:NX S v a α xs][ac:fr xs i z]
 [aW:gB c u] [nf:NW u e] [nE:fs e s] {bE:Array Value} [tC:NV u bE] [n9:st (O.enc z) o bE (O.enc d)] [hR:NJ xs i d zs] [dN:AN S (B v a xs) (B v a zs) tg]:zL P F f w0 S (.store ek x y) T undef tg:=
 ⟨λE _ _ _ _ _ h'=>by
  have k:=tC.t;subst k;obtain⟨l,m⟩:=aW.t;obtain⟨n,p⟩:=n9.t;obtain⟨b,q⟩:=hR.t;have A:=nf.t;have C:=nE.t;have r:=j.t;subst l;subst r;have w:xs[i]=z:=by have:=ac.t;rw[List.getElem?_eq_getElem b]at this;exact Option.some.inj this
  rw[O.eT]at n;exact xn E e6.t b (by rw[h.t];exact ez.t ((E.ef e6.t).sv b)) Y.t (by omega) (by omega) m (by rw[w];exact p) q λw' n9=>h' w' (n9 _ dN.t)⟩
class gK(c:Array Value)(yE:outParam (Array Value)):Prop where t:c=yE
instance(priority:=100):gK c c:=⟨rfl⟩
instance:gK (Array.replicate (n+1) (.int .u8 0)) (O.enc (oc (n+1))):=⟨by rw[nn]⟩
class bT(P:Program)(F:List (Nat×Value))(f:tr)(w0:World)(S:List eL)(op:Op)(T:TypeId)(α:outParam Type)(v:outParam (α->Value))(tg:outParam (α->List eL)):Prop where
 t:∀{w:World},U w0 S w->∀{R:Value->World->Prop}{d:Option Tmp}{pos:String}{eO:Array Edge}{eV:Option (Nat×Bool)},(∀a w',U w0 (tg a) w'->R (v a) w') ->Z P (oR F f) ⟨d,op,T,pos,eO,eV⟩ w R
section
variable{P:Program}{F:List (Nat×Value)}{f:tr}{w0:World}{S:List eL}{T:TypeId}{x:Operand}{v:Value}
instance{ek:TypeId}{c yE:Array Value}[oG P ek (.agg yE)][a:gK yE c]:bT P F f w0 S (.alloc ek) T Nat (λb=>.pointer (some ⟨b,0,none⟩)) (λb=>V b c ek::S):=⟨λE _ _ _ _ _ h'=>sV E λb w' _ h=>h' b w' (by rw[<-a.t];exact h)⟩
instance{ek:TypeId}{z:Value}[oG P ek z][h:gB z #[z]]:bT P F f w0 S (.alloc ek) T Nat (λb=>.pointer (some ⟨b,0,none⟩)) (λb=>V b #[z] ek::S):=⟨λE _ _ _ _ _ h'=>jh E h.t.1 λb w' _ h=>h' b w' h⟩
instance{ek:TypeId}{c:Array Value}[h:oB F f x (.agg c)]:bT P F f w0 S (.box ek x) T Nat (λb=>.pointer (some ⟨b,0,none⟩)) (λb=>V b c ek::S):=⟨λE _ _ _ _ _ h'=>br E h.t λb w' _ h=>h' b w' h⟩
instance{ek:TypeId}[h:oB F f x v][Y:gB v #[v]]:bT P F f w0 S (.box ek x) T Nat (λb=>.pointer (some ⟨b,0,none⟩)) (λb=>V b #[v] ek::S):=⟨λE _ _ _ _ _ h'=>Fc E h.t Y.t.1 λb w' _ h=>h' b w' h⟩
end
section
variable[D:lH]
def xm(P:Program)(n:Nat)(c:Code)(Q:Exit->tr->World->Prop):Exit->tr->World->Prop:=fE (λf w=>ex P n c Q f w) Q
class dc(P:Program)(n:Nat)(ops:Array Oper)(Q:Exit->tr->World->Prop)(l:List Oper)(F:List (Nat×Value))(f:tr)(w0:World)(S:List eL)(k:Nat)(tS:outParam Prop):Prop where t:tS->∀w,U w0 S w->tn P n ops Q l (oR F f) w
class lU(P:Program)(n:Nat)(c:Code)(Q:Exit->tr->World->Prop)(F:List (Nat×Value))(f:tr)(w0:World)(S:List eL)(k:Nat)(tS:outParam Prop):Prop where t:tS->∀w,U w0 S w->ex P n c Q (oR F f) w
class lQ(Q:Exit->tr->World->Prop)(e:Exit)(F:List (Nat×Value))(f:tr)(w0:World)(S:List eL)(k:Nat)(tS:outParam Prop):Prop where t:tS->∀w,U w0 S w->Q e (oR F f) w
variable{P:Program}{n:Nat}{ops:Array Oper}{Q:Exit->tr->World->Prop}{l:List Oper}{F:List (Nat×Value)}{f:tr}{w0:World}{S tg:List eL}{k:Nat}{tS:Prop}{d:Nat}{op:Op}{T:TypeId}{pos:String}{eO:Array Edge}{v:Value}
instance(priority:=10):dc P n ops Q l F f w0 S 0 (∀w,U w0 S w->tn P n ops Q l (oR F f) w):=⟨λh=>h⟩
instance(priority:=10){c:Code}:lU P n c Q F f w0 S 0 (∀w,U w0 S w->ex P n c Q (oR F f) w):=⟨λh=>h⟩
instance(priority:=10){e:Exit}:lQ Q e F f w0 S 0 (∀w,U w0 S w->Q e (oR F f) w):=⟨λh=>h⟩
instance[h:lQ Q .normal F f w0 S k tS]:dc P n ops Q [] F f w0 S (k+1) tS:=⟨λa w E=>tn.nil (h.t a w E)⟩
instance(priority:=2000)[hd:sh d n][h:nu P F f w0 S op T v][Y:dc P n ops Q l ((d,v)::F) f w0 S k tS]:dc P n ops Q (⟨some d,op,T,pos,eO,none⟩::l) F f w0 S (k+1) tS:=
 ⟨λa w E=>tn.op hd.t (h.t E (Y.t a w E))⟩
instance(priority:=1950){C:Prop}[hd:sh d n][h:AI P F f w0 S op T C v]:dc P n ops Q (⟨some d,op,T,pos,eO,none⟩::l) F f w0 S 1 (C/\∀_:C,∀w,U w0 S w->tn P n ops Q l (oR ((d,v)::F) f) w):=
 ⟨λ⟨a,b⟩ w E=>tn.op hd.t (h.t a E (b a w E))⟩
instance(priority:=1900)[h:zL P F f w0 S op T v tg][Y:dc P n ops Q l F f w0 tg k tS]:dc P n ops Q (⟨none,op,T,pos,eO,none⟩::l) F f w0 S (k+1) tS:=
 ⟨λa w E=>Hf (h.t E λw' b=>Y.t a w' b)⟩
instance(priority:=1800){α:Type}{v:α->Value}{tg:α->List eL}{tS:α->Prop}[hd:sh d n][h:bT P F f w0 S op T α v tg][Y:∀a,dc P n ops Q l ((d,v a)::F) f w0 (tg a) k (tS a)]:dc P n ops Q (⟨some d,op,T,pos,eO,none⟩::l) F f w0 S (k+1) (∀a,tS a):=
 ⟨λb w E=>tn.op hd.t (h.t E λa w' c=>(Y a).t (b a) w' c)⟩
class jF(ops:Array Oper)(g:Nat)(t:outParam Nat):Prop where t:(ops[g]?).bind (·.dst)=some t
instance{l:List Oper}{g t:Nat}{op:Op}{T:TypeId}{pos:String}{eO:Array Edge}{eV:Option (Nat×Bool)}[h:fr l g ⟨some t,op,T,pos,eO,eV⟩]:jF l.toArray g t:=⟨by simp[h.t]⟩
instance(priority:=2000){g t:Nat}{a1:Bool}[h:jF ops g t][a:sh t n][b:oB F f (.tmp t) (.bool a1)][Y:dc P n ops Q (⟨some d,op,T,pos,eO,none⟩::l) F f w0 S (k+1) tS]:dc P n ops Q (⟨some d,op,T,pos,eO,some (g,a1)⟩::l) F f w0 S (k+1) tS:=
 ⟨λc w E=>sk t h.t a.t b.t (Y.t c w E)⟩
instance(priority:=1900){g t:Nat}{a1 b:Bool}[h:jF ops g t][a:sh t n][hd:sh d n][c:oB F f (.tmp t) (.bool b)][e:xw a1 b][Y:dc P n ops Q l ((d,undef)::F) f w0 S k tS]:dc P n ops Q (⟨some d,op,T,pos,eO,some (g,a1)⟩::l) F f w0 S (k+1) tS:=
 ⟨λi w E=>Fl t h.t a.t hd.t (by have:=c.t;rw[<-e.t]at this;exact this) (Y.t i w E)⟩
instance(priority:=1800){g t:Nat}{a1:Bool}{u:Value}[h:jF ops g t][a:sh t n][hd:sh d n][b:oB F f (.tmp t) u][c:fs u undef][Y:dc P n ops Q l ((d,undef)::F) f w0 S k tS]:dc P n ops Q (⟨some d,op,T,pos,eO,some (g,a1)⟩::l) F f w0 S (k+1) tS:=
 ⟨λe w E=>Fd t h.t a.t hd.t (b.t.trans c.t) (Y.t e w E)⟩
instance(priority:=1700){g t:Nat}{a1 b:Bool}{wL:List (Nat×Value)}[h:jF ops g t][a:sh t n][hd:sh d n][c:oB F f (.tmp t) (.bool b)][e:zI (b==a1) F wL][e1:nu P wL f w0 S op T v][Y:dc P n ops Q l ((d,rI (b==a1) v)::F) f w0 S k tS]:dc P n ops Q (⟨some d,op,T,pos,eO,some (g,a1)⟩::l) F f w0 S (k+1) tS:=
 ⟨λi w E=>tn.eV b t v h.t a.t c.t hd.t (λj=>by rw[e.t j];exact e1.t E ⟨rfl,eB.refl _⟩) λw' m=>Y.t i w' (E.ei m)⟩
instance{l:List Oper}{id:Nat}[h:dc P n l.toArray Q l F f w0 S k tS]:lU P n (.region id l.toArray false) Q F f w0 S (k+1) tS:=⟨λa w E=>ex.region (h.t a w E)⟩
instance{n3 nr:Code}[h:lU P n n3 (xm P n nr Q) F f w0 S k tS]:lU P n (.seq n3 nr) Q F f w0 S (k+1) tS:=⟨λa w E=>lK _ (h.t a w E) λ_ _ h=>h⟩
instance{id:Nat}{c:Code}[h:lU P n c (blockQ id Q) F f w0 S k tS]:lU P n (.block id c) Q F f w0 S (k+1) tS:=⟨λa w E=>ex.block (h.t a w E)⟩
instance[h:lQ Q .normal F f w0 S k tS]:lU P n .skip Q F f w0 S (k+1) tS:=⟨λa w E=>ex.skip (h.t a w E)⟩
instance[h:lQ Q .ret F f w0 S k tS]:lU P n .ret Q F f w0 S (k+1) tS:=⟨λa w E=>ex.ret (h.t a w E)⟩
instance{id:Nat}[h:lQ Q (.exit id) F f w0 S k tS]:lU P n (.exit id) Q F f w0 S (k+1) tS:=⟨λa w E=>ex.exit (h.t a w E)⟩
instance{x:Operand}{n3 nr:Code}[a:oB F f x (.bool true)][h:lU P n n3 Q F f w0 S k tS]:lU P n (.cond x n3 nr) Q F f w0 S (k+1) tS:=⟨λb w E=>zb a.t (h.t b w E)⟩
instance{x:Operand}{n3 nr:Code}[a:oB F f x (.bool false)][h:lU P n nr Q F f w0 S k tS]:lU P n (.cond x n3 nr) Q F f w0 S (k+1) tS:=⟨λb w E=>xo a.t (h.t b w E)⟩
instance{c:Code}[h:lU P n c Q F f w0 S k tS]:lQ (xm P n c Q) .normal F f w0 S (k+1) tS:=⟨λa w E=>h.t a w E⟩
instance{c:Code}[h:lQ Q .ret F f w0 S k tS]:lQ (xm P n c Q) .ret F f w0 S (k+1) tS:=⟨λa w E=>h.t a w E⟩
instance{c:Code}{i:Nat}[h:lQ Q (.exit i) F f w0 S k tS]:lQ (xm P n c Q) (.exit i) F f w0 S (k+1) tS:=⟨λa w E=>h.t a w E⟩
instance{i:Nat}[h:lQ Q .normal F f w0 S k tS]:lQ (blockQ i Q) .normal F f w0 S (k+1) tS:=⟨λa w E=>h.t a w E⟩
instance{i:Nat}[h:lQ Q .ret F f w0 S k tS]:lQ (blockQ i Q) .ret F f w0 S (k+1) tS:=⟨λa w E=>h.t a w E⟩
instance{i:Nat}[h:lQ Q .normal F f w0 S k tS]:lQ (blockQ i Q) (.exit i) F f w0 S (k+1) tS:=⟨λa w E=>yl (h.t a w E)⟩
instance{i j:Nat}[ey:mo (Nat.beq j i) false][h:lQ Q (.exit j) F f w0 S k tS]:lQ (blockQ i Q) (.exit j) F f w0 S (k+1) tS:=⟨λa w E=>HR ey.t (h.t a w E)⟩
instance(priority:=100){K:tr->World->Prop}:lQ (fE K Q) .normal F f w0 S 1 (∀w,U w0 S w->K (oR F f) w):=⟨λa w E=>a w E⟩
instance{c:Code}{m:Nat}{a:Exit->tr->World->Prop}[h:lU P n c (fE (og P n c Q m) Q) F f w0 S k tS]:lQ (fE (og P n c Q (m+1)) a) .normal F f w0 S (k+2) tS:=⟨λb w E=>og.step (h.t b w E)⟩
instance{K:tr->World->Prop}[h:lQ Q .ret F f w0 S k tS]:lQ (fE K Q) .ret F f w0 S (k+1) tS:=⟨λa w E=>h.t a w E⟩
instance{K:tr->World->Prop}{i:Nat}[h:lQ Q (.exit i) F f w0 S k tS]:lQ (fE K Q) (.exit i) F f w0 S (k+1) tS:=⟨λa w E=>h.t a w E⟩
class jP(P:Program)(F:List (Nat×Value))(f:tr)(w0:World)(S:List eL)(aw:List ResultVar)(vs:outParam (List Value)):Prop where t:∀{w:World},U w0 S w->hY P (oR F f) w aw vs
instance:jP P F f w0 S [] []:=⟨λ_=>.nil⟩
instance{t:Nat}{aw:List ResultVar}{vs:List Value}[h:oB F f (.tmp t) v][Y:jP P F f w0 S aw vs]:jP P F f w0 S (.tmp t::aw) (v::vs):=⟨λE=>.yi h.t (Y.t E)⟩
instance{t ek:Nat}{ov:Value}{aw:List ResultVar}{vs:List Value}[h:oB F f (.tmp t) ov][ez:NM P w0 S ek ov v][Y:jP P F f w0 S aw vs]:jP P F f w0 S (.cell t ek::aw) (v::vs):=⟨λE=>.cell (by have:=h.t;rw[show eC (oR F f) (.tmp t)=oR F f t from rfl]at this;rw[this];exact ez.t E) (Y.t E)⟩
class AS(vs:List Value)(v:outParam Value):Prop where t:u0 vs=v
instance:AS [v] v:=⟨rfl⟩
instance:AS [] (.tuple #[]):=⟨rfl⟩
instance{u:Value}{vs:List Value}:AS (u::v::vs) (.tuple (u::v::vs).toArray):=⟨rfl⟩
instance{aw:List ResultVar}{R:Value->World->Prop}{vs:List Value}[h:jP P F f w0 S aw vs][Y:AS vs v]:lQ (x9 P aw R) .ret F f w0 S 1 (∀w,U w0 S w->R v w):=⟨λa w E=>cI (h.t E) (by rw[Y.t];exact a w E)⟩
instance{aw:List ResultVar}{R:Value->World->Prop}{vs:List Value}[h:jP P F f w0 S aw vs][Y:AS vs v]:lQ (x9 P aw R) .normal F f w0 S 1 (∀w,U w0 S w->R v w):=⟨λa w E=>Xg (h.t E) (by rw[Y.t];exact a w E)⟩
theorem ew{w:World}{f g:tr}(k:Nat)(E:U w0 S w)[a:ha f F g][h:dc P n ops Q l F g w0 S k tS](b:tS):tn P n ops Q l f w:=by rw[a.t];exact h.t b w E
theorem eI{w:World}{f g:tr}{c:Code}(k:Nat)(E:U w0 S w)[a:ha f F g][h:lU P n c Q F g w0 S k tS](b:tS):ex P n c Q f w:=by rw[a.t];exact h.t b w E
theorem s4{w:World}{f g:tr}{e:Exit}(k:Nat)(E:U w0 S w)[a:ha f F g][h:lQ Q e F g w0 S k tS](b:tS):Q e f w:=by rw[a.t];exact h.t b w E
end
class vF(K S:List eL):Prop where t:K.Sublist S
instance(priority:=2000):vF S S:=⟨List.Sublist.refl S⟩
instance(priority:=1900):vF [] S:=⟨List.nil_sublist S⟩
instance(priority:=1800)[h:vF K S]:vF (e::K) (e::S):=⟨h.t.cons₂ e⟩
instance[h:vF K S]:vF K (e::S):=⟨h.t.cons e⟩
theorem pm[h:vF K S](E:U w0 S w):U w0 K w:=E.sub h.t
class NQ(e:eL)(S:List eL)(tg:outParam (List eL)):Prop where t:S.Perm (e::tg)
instance(priority:=2000):NQ e (e::S) S:=⟨List.Perm.refl _⟩
instance[h:NQ e S tg]:NQ e (x::S) (x::tg):=⟨(h.t.cons x).trans (List.Perm.swap e x tg)⟩
class NZ(K S:List eL):Prop where t:∃R:List eL,S.Perm (K++R)
instance(priority:=10)[h:vF K S]:NZ K S:=⟨by
 obtain⟨R,a⟩:=h.t.exists_perm_append;exact⟨R,a⟩⟩
instance[h:NQ e S tg][Y:NZ K tg]:NZ (e::K) S:=⟨by
 obtain⟨R,a⟩:=Y.t;exact⟨R,h.t.trans (a.cons e)⟩⟩
theorem iT[h:NZ K S](E:U w0 S w):U w0 K w:=by
 obtain⟨R,a⟩:=h.t;exact(E.hK a).sub (List.sublist_append_left K R)
class xb(K S:List eL):Prop where t:∀{w0 w:World},U w0 S w->U w0 K w
instance(priority:=2000)[h:vF K S]:xb K S:=⟨λE=>E.sub h.t⟩
class cP(ops:Array Oper)(i:Nat)(o:outParam Oper):Prop where t:ops[i]? =some o
instance{l:List Oper}{i:Nat}{o:Oper}[h:fr l i o]:cP l.toArray i o:=⟨by simpa using h.t⟩
class ul(op:Op):Prop where t:Op.looks op=true
section
variable{x y z:Operand}{s t:TypeId}{i:Nat}
instance:ul (.move x):=⟨rfl⟩
instance:ul (.assign x):=⟨rfl⟩
instance:ul (.pick x y z):=⟨rfl⟩
instance:ul (.load t x):=⟨rfl⟩
instance{op:BinOp}:ul (.binOp op s x y t):=⟨rfl⟩
instance{op:UnOp}:ul (.unOp op s x):=⟨rfl⟩
instance:ul (.convert s t x):=⟨rfl⟩
instance:ul (.fieldAddr t x i):=⟨rfl⟩
instance:ul (.indexAddr t x y):=⟨rfl⟩
instance:ul (.extract x i):=⟨rfl⟩
instance:ul (.nilCheck x):=⟨rfl⟩
instance:ul (.makeInterface t x):=⟨rfl⟩
instance{nN:Array TypeId}:ul (.call {callee:=.builtin .len,args:=#[x],argTypes:=nN}):=⟨rfl⟩
end
section
variable[D:lH]
class lM(P:Program)(n:Nat)(ops:Array Oper)(tt:Nat)(ie:List eL)(Q:Exit->tr->World->Prop)(r:sU)(F:List (Nat×Value))(f:tr)(w0:World)(S:List eL)(k:Nat)(tS:outParam Prop):Prop where t:tS->∀w,U w0 S w->e3 P n ops tt (U w0 ie) Q r (oR F f) w
variable{P:Program}{n tt:Nat}{ops:Array Oper}{ie:List eL}{Q:Exit->tr->World->Prop}{r:sU}{F:List (Nat×Value)}{f:tr}{w0:World}{S tg:List eL}{k i:Nat}{tS:Prop}{d:Nat}{op:Op}{T:TypeId}{pos:String}{eO:Array Edge}{v:Value}
instance(priority:=10):lM P n ops tt ie Q r F f w0 S 0 (∀w,U w0 S w->e3 P n ops tt (U w0 ie) Q r (oR F f) w):=⟨λh=>h⟩
instance[h:lQ Q .normal F f w0 S k tS]:lM P n ops tt ie Q .nil F f w0 S (k+1) tS:=⟨λa w E=>e3.nil (h.t a w E)⟩
instance(priority:=2000)[ey:cP ops i ⟨some d,op,T,pos,eO,none⟩][eM:ul op][hd:sh d n][h:nu P F f w0 ie op T v][Y:lM P n ops tt ie Q r ((d,v)::F) f w0 S k tS]:lM P n ops tt ie Q (.look i r) F f w0 S (k+1) tS:=
 ⟨λa w E=>e3.look ey.t eM.t hd.t (λw' b=>h.t b ⟨rfl,rfl⟩) (Y.t a w E)⟩
instance(priority:=2000){g t:Nat}{a1:Bool}[ey:cP ops i ⟨some d,op,T,pos,eO,some (g,a1)⟩][eM:ul op][hd:sh d n][a:jF ops g t][b:sh t n][c:oB F f (.tmp t) (.bool a1)][h:nu P F f w0 ie op T v][Y:lM P n ops tt ie Q r ((d,v)::F) f w0 S k tS]:lM P n ops tt ie Q (.look i r) F f w0 S (k+1) tS:=
 ⟨λe w E=>cL t ey.t eM.t hd.t a.t b.t c.t (λw' j=>h.t j ⟨rfl,rfl⟩) (Y.t e w E)⟩
instance(priority:=2000)[ey:cP ops i ⟨some d,op,T,pos,eO,none⟩][hd:sh d n][a:sh i tt][h:nu P F f w0 S op T v][b:xb ie S][Y:lM P n ops tt ie Q r ((d,v)::F) f w0 S k tS]:lM P n ops tt ie Q (.one i r) F f w0 S (k+1) tS:=
 ⟨λc w E=>e3.one ey.t hd.t a.t (h.t E ⟨b.t E,Y.t c w E⟩)⟩
instance(priority:=1900)[ey:cP ops i ⟨none,op,T,pos,eO,none⟩][b:sh i tt][h:zL P F f w0 S op T v tg][c:xb ie tg][Y:lM P n ops tt ie Q r F f w0 tg k tS]:lM P n ops tt ie Q (.one i r) F f w0 S (k+1) tS:=
 ⟨λd w E=>n5 ey.t b.t (h.t E λw' a=>⟨c.t a,Y.t d w' a⟩)⟩
instance(priority:=1800){α:Type}{v:α->Value}{tg:α->List eL}[ey:cP ops i ⟨some d,op,T,pos,eO,none⟩][hd:sh d n][c:sh i tt][h:bT P F f w0 S op T α v tg][e:∀a,xb ie (tg a)]{tS:α->Prop}[Y:∀a,lM P n ops tt ie Q r ((d,v a)::F) f w0 (tg a) k (tS a)]:lM P n ops tt ie Q (.one i r) F f w0 S (k+1) (∀a,tS a):=
 ⟨λg w E=>e3.one ey.t hd.t c.t (h.t E λa w' b=>⟨(e a).t b,(Y a).t (g a) w' b⟩)⟩
instance(priority:=1950){C:Prop}[ey:cP ops i ⟨some d,op,T,pos,eO,none⟩][eM:ul op][hd:sh d n][h:AI P F f w0 ie op T C v]:lM P n ops tt ie Q (.look i r) F f w0 S 1 (C/\∀_:C,∀w,U w0 S w->e3 P n ops tt (U w0 ie) Q r (oR ((d,v)::F) f) w):=
 ⟨λ⟨a,b⟩ w E=>e3.look ey.t eM.t hd.t (λw' c=>h.t a c ⟨rfl,rfl⟩) (b a w E)⟩
instance(priority:=1950){C:Prop}[ey:cP ops i ⟨some d,op,T,pos,eO,none⟩][hd:sh d n][b:sh i tt][h:AI P F f w0 S op T C v][c:xb ie S]:lM P n ops tt ie Q (.one i r) F f w0 S 1 (C/\∀_:C,∀w,U w0 S w->e3 P n ops tt (U w0 ie) Q r (oR ((d,v)::F) f) w):=
 ⟨λ⟨a,e⟩ w E=>e3.one ey.t hd.t b.t (h.t a E ⟨c.t E,e a w E⟩)⟩
class vP(r:sU):Prop where t:kU r=true
instance:vP .nil:=⟨rfl⟩
instance{i:Nat}[h:vP r]:vP (.one i r):=⟨h.t⟩
instance(priority:=2000)[ey:cP ops i ⟨some d,op,T,pos,eO,none⟩][hd:sh d n][a:gW tt i][e1:vP r][h:nu P F f w0 S op T v][Y:lM P n ops tt ie Q r ((d,v)::F) f w0 S k tS]:lM P n ops tt ie Q (.one i r) F f w0 S (k+1) tS:=
 ⟨λb w E=>TX ey.t hd.t a.t e1.t (h.t E (Y.t b w E))⟩
instance(priority:=1900)[ey:cP ops i ⟨none,op,T,pos,eO,none⟩][a:gW tt i][e1:vP r][h:zL P F f w0 S op T v tg][Y:lM P n ops tt ie Q r F f w0 tg k tS]:lM P n ops tt ie Q (.one i r) F f w0 S (k+1) tS:=
 ⟨λb w E=>FI ey.t a.t e1.t (h.t E λw' c=>Y.t b w' c)⟩
theorem Zg{C:Prop}{w:World}{f g:tr}(E:U w0 S w)[b:ha f F g][ey:cP ops i ⟨some d,op,T,pos,eO,none⟩][hd:sh d n][c:gW tt i][e1:vP r][h:AI P F g w0 S op T C v](a:C)(e:∀a:C,e3 P n ops tt (U w0 ie) Q r (o2 f d v) w):e3 P n ops tt (U w0 ie) Q (.one i r) f w:=by
 have:=b.t;subst this;exact TX ey.t hd.t c.t e1.t (h.t a E (e a))
theorem ao{w:World}{f g:tr}(k:Nat)(E:U w0 S w)[a:ha f F g][h:lM P n ops tt ie Q r F g w0 S k tS](b:tS):e3 P n ops tt (U w0 ie) Q r f w:=by rw[a.t];exact h.t b w E
theorem t1{w:World}{f g:tr}{l:List Oper}(E:U w0 S w)[a:ha f F g][hd:sh d n][h:nu P F g w0 S op T v](b:tn P n ops Q l (o2 f d v) w):tn P n ops Q (⟨some d,op,T,pos,eO,none⟩::l) f w:=by
 have:=a.t;subst this;exact tn.op hd.t (h.t E b)
theorem t2{w:World}{f g:tr}{l:List Oper}(E:U w0 S w)[a:ha f F g][h:zL P F g w0 S op T v tg](b:∀w,U w0 tg w->tn P n ops Q l f w):tn P n ops Q (⟨none,op,T,pos,eO,none⟩::l) f w:=by
 have:=a.t;subst this;exact Hf (h.t E b)
theorem t3{w:World}{f g:tr}{l:List Oper}{α:Type}{v:α->Value}{tg:α->List eL}(E:U w0 S w)[b:ha f F g][hd:sh d n][h:bT P F g w0 S op T α v tg](c:∀a w,U w0 (tg a) w->tn P n ops Q l (o2 f d (v a)) w):tn P n ops Q (⟨some d,op,T,pos,eO,none⟩::l) f w:=by
 have:=b.t;subst this;exact tn.op hd.t (h.t E c)
theorem TU{w:World}{f g:tr}[a:ha f F g][ey:cP ops i ⟨some d,op,T,pos,eO,none⟩][eM:ul op][hd:sh d n][h:nu P F g w0 ie op T v](b:e3 P n ops tt (U w0 ie) Q r (o2 f d v) w):e3 P n ops tt (U w0 ie) Q (.look i r) f w:=by
 have:=a.t;subst this;exact e3.look ey.t eM.t hd.t (λw' c=>h.t c ⟨rfl,rfl⟩) b
theorem AR{w:World}{f g:tr}(E:U w0 S w)[a:ha f F g][ey:cP ops i ⟨some d,op,T,pos,eO,none⟩][hd:sh d n][b:sh i tt][h:nu P F g w0 S op T v][c:xb ie S](e:e3 P n ops tt (U w0 ie) Q r (o2 f d v) w):e3 P n ops tt (U w0 ie) Q (.one i r) f w:=by
 have:=a.t;subst this;exact e3.one ey.t hd.t b.t (h.t E ⟨c.t E,e⟩)
theorem Zw{w:World}{f g:tr}(E:U w0 S w)[a:ha f F g][ey:cP ops i ⟨some d,op,T,pos,eO,none⟩][hd:sh d n][b:gW tt i][e1:vP r][h:nu P F g w0 S op T v](c:e3 P n ops tt (U w0 ie) Q r (o2 f d v) w):e3 P n ops tt (U w0 ie) Q (.one i r) f w:=by
 have:=a.t;subst this;exact TX ey.t hd.t b.t e1.t (h.t E c)
class xv(m:List Nat)(i:Nat)(S:List eL)(K:outParam (List eL)):Prop where t:K.Sublist S
instance{i:Nat}{S:List eL}:xv [] i S S:=⟨List.Sublist.refl S⟩
instance(priority:=2000){i:Nat}{m:List Nat}{e:eL}{S K:List eL}[h:xv m (i+1) S K]:xv (i::m) i (e::S) K:=⟨h.t.cons e⟩
instance{i j:Nat}{m:List Nat}{e:eL}{S K:List eL}[a:mo (Nat.beq j i) false][h:xv (j::m) (i+1) S K]:xv (j::m) i (e::S) (e::K):=⟨h.t.cons₂ e⟩
theorem nV[th:vq P]{id:Nat}{l:List Oper}{w:World}{f g:tr}(k tt:Nat)(r:sU)(m:List Nat)(E:U w0 S w)[hd:xv m 0 S ie][e:ha f F g][h:lM P n l.toArray tt ie Q r F g w0 S k tS](Y:tS)
 (b:(Region.noSelect l.toArray&&bd l.toArray tt&&dk l.toArray tt (Array.replicate l.toArray.size false) r&&decide (lX r=l.length))=true:=by kernel_rfl)
 (d:∀(c:List PanicEntry) f w,¬Q (.panic c) f w:=by exactλ_ _ _ h=>h):ex P n (.region id l.toArray true) Q f w:=
 vz tt r b d λaM a=>⟨U w0 ie,(E.ei a).sub hd.t,ao k (E.ei a) Y⟩
end
class N0(sr S:List eL)(tg:outParam (List eL)):Prop where t:sr++S=tg
instance:N0 [] S S:=⟨rfl⟩
instance{sr:List eL}[h:N0 sr S tg]:N0 (e::sr) S (e::tg):=⟨by rw[List.cons_append,h.t]⟩
class AH(a b:List Value)(c:outParam (List Value)):Prop where t:a++b=c
instance{b:List Value}:AH [] b b:=⟨rfl⟩
instance{a b c:List Value}[h:AH a b c]:AH (v::a) b (v::c):=⟨by rw[List.cons_append,h.t]⟩
section
variable[D:lH]
inductive zD where
 |L9 (P:Program) (n:Nat) (ops:Array Oper) (Q:Exit->tr->World->Prop) (l:List Oper) (d:Nat) (F:List (Nat×Value)) (f:tr) (k:Nat)
 |De (P:Program) (n:Nat) (ops:Array Oper) (tt:Nat) (w0:World) (ie:List eL) (Q:Exit->tr->World->Prop) (r:sU) (d:Nat) (F:List (Nat×Value)) (f:tr) (k:Nat)
 |mp (P:Program) (n:Nat) (ops:Array Oper) (tt:Nat) (w0:World) (ie:List eL) (Q:Exit->tr->World->Prop) (r:sU) (d:Nat) (F:List (Nat×Value)) (f:tr) (k:Nat)
def zD.ok:zD->Value->World->Prop
 | .L9 P n ops Q l d F f _,v,w=>tn P n ops Q l (o2 (oR F f) d v) w
 | .De P n ops tt w0 ie Q r d F f _,v,w=>U w0 ie w/\e3 P n ops tt (U w0 ie) Q r (o2 (oR F f) d v) w
 | .mp P n ops tt w0 ie Q r d F f _,v,w=>e3 P n ops tt (U w0 ie) Q r (o2 (oR F f) d v) w
class zC(c:zD)(v:Value)(w0:World)(S:List eL)(tS:outParam Prop):Prop where t:tS->∀w,U w0 S w->c.ok v w
variable{P:Program}{n tt:Nat}{ops:Array Oper}{ie:List eL}{Q:Exit->tr->World->Prop}{l:List Oper}{r:sU}{F:List (Nat×Value)}{f g:tr}{w w0:World}{S tg sr:List eL}{k i d:Nat}{tS:Prop}{op:Op}{T:TypeId}{pos:String}{eO:Array Edge}{eV:Option (Nat×Bool)}{v:Value}
instance[h:dc P n ops Q l ((d,v)::F) f w0 S k tS]:zC (.L9 P n ops Q l d F f k) v w0 S tS:=⟨λa w E=>h.t a w E⟩
instance[a:xb ie S][h:lM P n ops tt ie Q r ((d,v)::F) f w0 S k tS]:zC (.De P n ops tt w0 ie Q r d F f k) v w0 S tS:=⟨λb w E=>⟨a.t E,h.t b w E⟩⟩
instance[h:lM P n ops tt ie Q r ((d,v)::F) f w0 S k tS]:zC (.mp P n ops tt w0 ie Q r d F f k) v w0 S tS:=⟨λa w E=>h.t a w E⟩
class zU(R:Value->World->Prop)(w w0:World)(S:List eL)(c:zD)(tS:outParam Prop):Prop where t:tS->U w0 S w->∀u w',R u w'->c.ok u w'
class zM(R:World->Prop)(v:Value)(w w0:World)(S:List eL)(c:zD)(tS:outParam Prop):Prop where t:tS->U w0 S w->∀w',R w'->c.ok v w'
variable{c:zD}
instance{α:Sort _}{R:α->Value->World->Prop}{tS:α->Prop}[h:∀a,zU (R a) w w0 S c (tS a)]:zU (λu w'=>∃a,R a u w') w w0 S c (∀a,tS a):=⟨λb E u w'⟨a,h'⟩=>(h a).t (b a) E u w' h'⟩
instance{R:World->Prop}[h:zM R v w w0 S c tS]:zU (λu w'=>u=v/\R w') w w0 S c tS:=⟨λa E u w'⟨G,Y⟩=>by subst G;exact h.t a E w' Y⟩
instance[h:zC c v w0 S tS]:zM (λw'=>eB w w') v w w0 S c tS:=⟨λa E w' h'=>h.t a w' (E.ei h')⟩
instance[ep:N0 sr S tg][h:zC c v w0 tg tS]:zM (λw'=>U w sr w') v w w0 S c tS:=⟨λa E w' h'=>h.t a w' (by rw[<-ep.t];exact E.jd h')⟩
instance(priority:=2000)[h:zC c v w0 tg tS]:zM (λw'=>U w0 tg w') v w w0 S c tS:=⟨λa _ w' h'=>h.t a w' h'⟩
instance{p:Prop}{R:World->Prop}[h:zM R v w w0 S c tS]:zM (λw'=>p/\R w') v w w0 S c (p->tS):=⟨λa E w'⟨G,Y⟩=>h.t (a G) E w' Y⟩
class jG(P:Program)(F:List (Nat×Value))(f:tr)(op:Op)(g:outParam FuncId)(vs:outParam (List Value)):Prop where
 t:∀{w:World}{R R':Value->World->Prop}{d:Option Tmp}{T:TypeId}{pos:String}{eO:Array Edge}{eV:Option (Nat×Bool)},nk P g vs.toArray w R'->(∀v w',R' v w'->R v w') ->Z P (oR F f) ⟨d,op,T,pos,eO,eV⟩ w R
instance{g:FuncId}{args:List Operand}{nN:Array TypeId}{vs:List Value}[dy P g][h:vM F f args vs]:jG P F f (.call {callee:=.value (.func g),args:=args.toArray,argTypes:=nN}) g vs:=⟨λa h'=>Z.call a (by simpa using h.t) h'⟩
instance{g:FuncId}{x:Operand}{args:List Operand}{nN:Array TypeId}{vs cs us:List Value}[dy P g][a:oB F f x (.func (.func g) #[] cs.toArray)][h:vM F f args vs][ep:AH vs cs us]:jG P F f (.call {callee:=.value x,args:=args.toArray,argTypes:=nN}) g us:=⟨λb h'=>PM a.t (by rw[ep.t];exact b) (by simpa using h.t) h'⟩
instance{g:FuncId}{x:Operand}{args:List Operand}{nN:Array TypeId}{vs nx us:List Value}[dy P g][a:oB F f x (.func (.func g) nx.toArray #[])][h:vM F f args vs][ep:AH nx vs us]:jG P F f (.call {callee:=.value x,args:=args.toArray,argTypes:=nN}) g us:=⟨λb h'=>QF a.t (by rw[ep.t];exact b) (by simpa using h.t) h'⟩
instance{g:FuncId}{x:Operand}{t:TypeId}{name:String}{args:List Operand}{nN:Array TypeId}{vs:List Value}{z:Value}[zk P t name g][dy P g][a:oB F f x (.iface t z)][h:vM F f args vs]:jG P F f (.call {callee:=.invoke x name,args:=args.toArray,argTypes:=nN}) g (z::vs):=⟨λb h'=>QD a.t b (by simpa using h.t) h'⟩
class vG(n:Nat)(ops:Array Oper)(F:List (Nat×Value))(f:tr)(eV:Option (Nat×Bool)):Prop where t:eV=none∨∃g t a1,eV=some (g,a1)/\(ops[g]?).bind (·.dst)=some t/\Nat.blt t n=true/\oR F f t= .bool a1
instance:vG n ops F f none:=⟨.inl rfl⟩
instance{g t:Nat}{a1:Bool}[h:jF ops g t][a:sh t n][b:oB F f (.tmp t) (.bool a1)]:vG n ops F f (some (g,a1)):=⟨.inr ⟨g,t,a1,rfl,h.t,a.t,b.t⟩⟩
theorem ej{a:FuncId}{vs:List Value}{R:Value->World->Prop}(k:Nat)(E:U w0 S w)[b:ha f F g][hd:sh d n][e1:vG n ops F g eV][c:jG P F g op a vs](e:nk P a vs.toArray w R)[h:zU R w w0 S (.L9 P n ops Q l d F g k) tS](j:tS):tn P n ops Q (⟨some d,op,T,pos,eO,eV⟩::l) f w:=by
 have:=b.t;subst this;have key:tn P n ops Q (⟨some d,op,T,pos,eO,none⟩::l) (oR F g) w:=tn.op hd.t (c.t e λu w' h'=>h.t j E u w' h');rcases e1.t with rfl|⟨i,t,a1,rfl,G,Y,ez⟩
 .exact key
 exact sk t G Y ez key
theorem iK{a:FuncId}{vs:List Value}{R:Value->World->Prop}(k:Nat)(E:U w0 S w)[c:ha f F g][ey:cP ops i ⟨some d,op,T,pos,eO,eV⟩][hd:sh d n][b:sh i tt][e1:vG n ops F g eV][e:jG P F g op a vs](l:nk P a vs.toArray w R)[h:zU R w w0 S (.De P n ops tt w0 ie Q r d F g k) tS](m:tS):e3 P n ops tt (U w0 ie) Q (.one i r) f w:=by
 have:=c.t;subst this;have key:Z P (oR F g) ⟨some d,op,T,pos,eO,none⟩ w λv w'=>U w0 ie w'/\e3 P n ops tt (U w0 ie) Q r (o2 (oR F g) d v) w':=e.t l λu w' h'=>h.t m E u w' h';have ey:=ey.t;rcases e1.t with rfl|⟨j,t,a1,rfl,G,Y,ez⟩
 .exact e3.one ey hd.t b.t key
 exact FO t ey hd.t G Y ez b.t key
theorem fh{a:FuncId}{vs:List Value}{R:Value->World->Prop}(k:Nat)(E:U w0 S w)[b:ha f F g][ey:cP ops i ⟨some d,op,T,pos,eO,none⟩][hd:sh d n][c:gW tt i][e1:vP r][e:jG P F g op a vs](j:nk P a vs.toArray w R)[h:zU R w w0 S (.mp P n ops tt w0 ie Q r d F g k) tS](l:tS):e3 P n ops tt (U w0 ie) Q (.one i r) f w:=by
 have:=b.t;subst this;exact TX ey.t hd.t c.t e1.t (e.t j λu w' h'=>h.t l E u w' h')
theorem eH{a:FuncId}{fn:Func}{b:Code}{args:List Value}{aw:List ResultVar}{R:Value->World->Prop}(k:Nat)(E:U w0 S w)(c:P.funcs[a]? =some fn)(d:fn.ntmps=n)(e:fn.results=aw.toArray)(f:fn.body=some b)[j:ha (mq args) F g]
 [h:lU (D:=vu) P n b (x9 P aw R) F g w0 S k tS] (i:tS) (ep:Nat.ble args.length n=true:=by rfl):nk P a args.toArray w R:=
 nk.enter c f d e ep (eI (D:=vu) k E i)
class fW(b:Bool)(p q:outParam Prop):Prop where t:(b=true->p)/\(b=false->q)
instance(priority:=10){b:Bool}:fW b (b=true) (b=false):=⟨id,id⟩
instance(priority:=100){p:Prop}[Decidable p]:fW (decide p) p (¬p):=⟨of_decide_eq_true,of_decide_eq_false⟩
instance{a b:Int}:fW (decide (a<b)) (a<b) (b<=a):=⟨of_decide_eq_true,λh=>Int.not_lt.1 (of_decide_eq_false h)⟩
instance{a b:Int}:fW (decide (a<=b)) (a<=b) (b<a):=⟨of_decide_eq_true,λh=>Int.not_le.1 (of_decide_eq_false h)⟩
instance{b:Bool}{p q:Prop}[h:fW b p q]:fW (!b) q p:=⟨λe=>h.t.2 (by simpa using e),λe=>h.t.1 (by simpa using e)⟩
instance{a b:Bool}{p q c d:Prop}[h:fW a p q][Y:fW b c d]:fW (a&&b) (p/\c) (q∨d):=⟨λe=>by simp at e;exact⟨h.t.1 e.1,Y.t.1 e.2⟩,λe=>by
 cases a with
 |true=>exact .inr (Y.t.2 (by simpa using e))
 |false=>exact .inl (h.t.2 rfl)⟩
instance{a b:Bool}{p q c d:Prop}[h:fW a p q][Y:fW b c d]:fW (a||b) (p∨c) (q/\d):=⟨λe=>by
 cases a with
 |true=>exact .inl (h.t.1 rfl)
 |false=>exact .inr (Y.t.1 (by simpa using e)),λe=>by simp at e;exact⟨h.t.2 e.1,Y.t.2 e.2⟩⟩
theorem wD{x:Operand}{n3 nr:Code}{b:Bool}{p q a c:Prop}(h i:Nat)(E:U w0 S w)[j:ha f F g][k:oB F g x (.bool b)][d:fW b p q][tD:lU P n n3 Q F g w0 S h a][t6:lU P n nr Q F g w0 S i c](G:p->a)(Y:q->c):ex P n (.cond x n3 nr) Q f w:=by
 rw[j.t];exact ex.cond b k.t (λe=>tD.t (G (d.t.1 e)) w E) (λe=>t6.t (Y (d.t.2 e)) w E)
theorem N1{x:Operand}{n3 nr:Code}{b:Bool}{p q a c:Prop}(h i:Nat)(E:U w0 S w)[j:ha f F g][k:oB F g x (.bool b)][d:fW b p q][tD:lU P n n3 Q F g w0 S h a][t6:lU P n nr Q F g w0 S i c](G:b=true->p->a)(Y:b=false->q->c):ex P n (.cond x n3 nr) Q f w:=by
 rw[j.t];exact ex.cond b k.t (λe=>tD.t (G e (d.t.1 e)) w E) (λe=>t6.t (Y e (d.t.2 e)) w E)
end
theorem es(h:p:=by first|exact .em|exact .G|exact .Y|exact .ez|exact .e6|exact .ac|exact .aW|exact .nf|exact .nE|exact .n9|exact .hR|exact .dN|exact .u1|exact .mz|exact .ak):p:=h
theorem ay(h:p:=by first|omega|(simp;done)|(simp;omega)):p:=h
theorem pZ(h:p:=by rw[O.eT];exact Nat.le_of_ble_eq_true rfl):p:=h
theorem rs:(∀(p:Prop)[Decidable p],(decide p=true)=p)/\(∀(p:Prop)[Decidable p],(decide p=false)=¬p)/\(∀a b:Bool,((a&&b)=true)=(a=true/\b=true))/\(∀a b:Bool,((a||b)=true)=(a=true∨b=true))/\(∀a b:Bool,((a&&b)=false)=(a=false∨b=false))/\(∀a b:Bool,((a||b)=false)=(a=false/\b=false))/\(∀a:Bool,((!a)=true)=(a=false))/\(∀a:Bool,((!a)=false)=(a=true))/\(∀a b:Int,(¬a<b)=(b<=a))/\(∀a b:Int,(¬a<=b)=(b<a)):=
 ⟨λp _=>decide_eq_true_eq,λp _=>propext decide_eq_false_iff_not,λa b=>Bool.and_eq_true a b,λa b=>Bool.or_eq_true a b,λa b=>propext Bool.and_eq_false_iff,λa b=>propext Bool.or_eq_false_iff,λa=>Bool.not_eq_true' a,λa=>Bool.not_eq_false' a,λa b=>propext Int.not_lt,λa b=>propext Int.not_le⟩
@[reducible] noncomputable def e5(l:List Nat)(r:sU):sU:=List.rec (motive:=λ_=>sU) r (λi _ h=>.look i h) l
@[reducible] noncomputable def oJ(l:List Nat)(r:sU):sU:=List.rec (motive:=λ_=>sU) r (λi _ h=>.one i h) l
theorem tF(m:List Nat)[h:xv m 0 S K](E:U w0 S w):U w0 K w:=E.sub h.t
class N2(n:Nat)(S:List eL)(e:outParam eL):Prop where t:tX e S
instance:N2 0 (e::S) e:=⟨.nU⟩
instance[h:N2 n S e]:N2 (n+1) (x::S) e:=⟨.ee h.t⟩
theorem tX.i(n:Nat)[h:N2 n S e]:tX e S:=h.t
class N3(n:Nat)(e oZ:eL)(S:List eL)(tg:outParam (List eL)):Prop where t:iD e oZ S tg
instance:N3 0 e oZ (e::S) (oZ::S):=⟨.nU⟩
instance[h:N3 n e oZ S tg]:N3 (n+1) e oZ (x::S) (x::tg):=⟨.ee h.t⟩
theorem iD.i(n:Nat)[h:N3 n e oZ S tg]:iD e oZ S tg:=h.t
class N4(n:Nat)(S:List eL)(e:outParam eL)(tg:outParam (List eL)):Prop where t:hg e S tg
instance:N4 0 (e::S) e S:=⟨.nU⟩
instance[h:N4 n S e tg]:N4 (n+1) (x::S) e (x::tg):=⟨.ee h.t⟩
class N5(l:List Nat)(S:List eL)(tg:outParam (List eL)):Prop where t:∀{w0 w:World},U w0 S w->U w0 tg w
instance:N5 [] S S:=⟨id⟩
instance{i:Nat}{l:List Nat}[h:N4 i S e tg][Y:N5 l (e::tg) K]:N5 (i::l) S K:=⟨λE=>Y.t (E.pick h.t)⟩
theorem Pi(l:List Nat)[h:N5 l S K](E:U w0 S w):U w0 K w:=h.t E
theorem aI(h:K.Sublist S:=by repeat(first|with_reducible exact List.nil_sublist _|with_reducible exact List.Sublist.refl _|with_reducible refine List.Sublist.cons₂ _ ?_|with_reducible refine List.Sublist.cons _ ?_)):K.Sublist S:=h
theorem sH(h:p:=by rw[iw];simp only[List.map,O.eT];rfl):p:=h
class AD{α:Type}(a b:List α)(i:Nat)(v:outParam α):Prop where t:(List.append a b)[i]? =some v
instance{b:List α}{i:Nat}{v:α}[h:fr b i v]:AD [] b i v:=⟨h.t⟩
instance{a b:List α}{v:α}:AD (v::a) b 0 v:=⟨rfl⟩
instance{a b:List α}{i:Nat}{u v:α}[h:AD a b i v]:AD (u::a) b (i+1) v:=⟨h.t⟩
instance{a b:List α}{i:Nat}{v:α}[h:AD a b i v]:fr (List.append a b) i v:=⟨h.t⟩
instance{a b:Int}{z:Bool}[h:mo (jC a b) z]:mo (decide (a=b)) z:=⟨by rw[<-L0];exact h.t⟩
instance:mo (xp (-1) 0) true:=⟨rfl⟩
instance:mo (jC 0 (-1)) false:=⟨rfl⟩
section
variable[D:lH]{P:Program}{n:Nat}{Q:Exit->tr->World->Prop}{F:List (Nat×Value)}{f:tr}{w0:World}{S:List eL}{k:Nat}{tS:Prop}
instance(priority:=900){x:Operand}{n3 nr:Code}{b:Bool}[a:oB F f x (.bool b)][c:mo b true][h:lU P n n3 Q F f w0 S k tS]:lU P n (.cond x n3 nr) Q F f w0 S (k+1) tS:=⟨λd w E=>zb (by rw[a.t,c.t]) (h.t d w E)⟩
instance(priority:=900){x:Operand}{n3 nr:Code}{b:Bool}[a:oB F f x (.bool b)][c:mo b false][h:lU P n nr Q F f w0 S k tS]:lU P n (.cond x n3 nr) Q F f w0 S (k+1) tS:=⟨λd w E=>xo (by rw[a.t,c.t]) (h.t d w E)⟩
end
instance{b z a:Bool}[h:mo b z][Y:xw z a]:mo (!b) a:=⟨by rw[h.t];exact Y.t⟩
instance:mo (jC (-1) (-1)) true:=⟨rfl⟩
class jY(k:IntKind)(m:Nat):Prop where t:k.wrap (m:Int)=m
instance[h:gW m 9223372036854775807]:jY .i64 m:=⟨Gf h.t⟩
instance[h:gW m 18446744073709551615]:jY .u64 m:=⟨Gp h.t⟩
instance[h:gW m 255]:jY .u8 m:=⟨M6 (by have:=h.t;simp at this;omega)⟩
section
variable{P:Program}{F:List (Nat×Value)}{f:tr}{w0:World}{S:List eL}{T s t:TypeId}{x y:Operand}{k j:IntKind}{a b:Int}{m n:Nat}
instance[h:oB F f x (.int k a)][Y:oB F f y (.int k b)][ep:mi a m][c:mi b n][eM:gW n m][d:jY k (m-n)]:nu P F f w0 S (.binOp .sub s x y t) T (.int k ((m-n:Nat):Int)):=
 ⟨λ_ _ _ _ _ _ h'=>Z.sub h.t Y.t (by have:=eM.t;simp at this;rw[ep.t,c.t,<-d.t];congr 1;omega) h'⟩
instance[h:oB F f x (.int k a)][Y:oB F f y (.int k b)][ep:mi a m][c:mi b n][d:jY k (m*n)]:nu P F f w0 S (.binOp .mul s x y t) T (.int k ((m*n:Nat):Int)):=
 ⟨λ_ _ _ _ _ _ h'=>Z.mul h.t Y.t (by rw[ep.t,c.t,<-Int.natCast_mul];exact d.t) h'⟩
instance[h:oB F f x (.int k a)][Y:oB F f y (.int k b)][ep:mi a m][c:mi b n][eM:sh 0 n]:nu P F f w0 S (.binOp .rem s x y t) T (.int k ((m%n:Nat):Int)):=
 ⟨λ_ _ _ _ _ _ h'=>Z.rem h.t Y.t (by have:=eM.t;simp at this;rw[c.t];omega) (by rw[ep.t,c.t];exact(Int.ofNat_tmod m n).symm) h'⟩
instance[lc P s j][lc P t k][h:oB F f x (.int j a)][ep:mi a m][b:jY k m]:nu P F f w0 S (.convert s t x) T (.int k (m:Int)):=
 ⟨λ_ _ _ _ _ _ h'=>Z.conv h.t (by rw[ep.t];exact b.t) h'⟩
end
class zF(P:Program)(F:List (Nat×Value))(f:tr)(w0:World)(S:List eL)(op:Op)(T:TypeId)(C:outParam Prop)(v:outParam Value):Prop where
 t:C->∀{w:World},U w0 S w->∀{R:Value->World->Prop}{d:Option Tmp}{pos:String}{eO:Array Edge}{eV:Option (Nat×Bool)},R v w->Z P (oR F f) ⟨d,op,T,pos,eO,eV⟩ w R
section
variable{P:Program}{F:List (Nat×Value)}{f:tr}{w0:World}{S:List eL}{T s t:TypeId}{x y:Operand}{k j:IntKind}{a b:Int}
instance[h:oB F f x (.int k a)][Y:oB F f y (.int k b)]:zF P F f w0 S (.binOp .add s x y t) T (k.wrap (a+b)=a+b) (.int k (a+b)):=⟨λc _ _ _ _ _ _ _ h'=>Z.add h.t Y.t c h'⟩
instance[h:oB F f x (.int k a)][Y:oB F f y (.int k b)]:zF P F f w0 S (.binOp .sub s x y t) T (k.wrap (a-b)=a-b) (.int k (a-b)):=⟨λc _ _ _ _ _ _ _ h'=>Z.sub h.t Y.t c h'⟩
instance[h:oB F f x (.int k a)][Y:oB F f y (.int k b)]:zF P F f w0 S (.binOp .mul s x y t) T (k.wrap (a*b)=a*b) (.int k (a*b)):=⟨λc _ _ _ _ _ _ _ h'=>Z.mul h.t Y.t c h'⟩
instance[lc P s j][lc P t k][h:oB F f x (.int j a)]:zF P F f w0 S (.convert s t x) T (k.wrap a=a) (.int k a):=⟨λb _ _ _ _ _ _ _ h'=>Z.conv h.t b h'⟩
end
theorem iA(h:p:=by first|exact wrap_i64 (by omega)|exact wrap_u64 (by omega)|exact M6 (by omega)):p:=h
section
variable[D:lH]{P:Program}{n tt:Nat}{ops:Array Oper}{Q:Exit->tr->World->Prop}{l:List Oper}{r:sU}{F:List (Nat×Value)}{f g:tr}{w w0:World}{S ie:List eL}{k i d:Nat}{tS C:Prop}{op:Op}{T:TypeId}{pos:String}{eO:Array Edge}{eV:Option (Nat×Bool)}{v:Value}
instance(priority:=500)[hd:sh d n][h:zF P F f w0 S op T C v][Y:dc P n ops Q l ((d,v)::F) f w0 S k tS]:dc P n ops Q (⟨some d,op,T,pos,eO,none⟩::l) F f w0 S (k+1) (C/\tS):=
 ⟨λ⟨a,b⟩ w E=>tn.op hd.t (h.t a E (Y.t b w E))⟩
instance(priority:=500)[ey:cP ops i ⟨some d,op,T,pos,eO,none⟩][eM:ul op][hd:sh d n][h:zF P F f w0 ie op T C v][Y:lM P n ops tt ie Q r ((d,v)::F) f w0 S k tS]:lM P n ops tt ie Q (.look i r) F f w0 S (k+1) (C/\tS):=
 ⟨λ⟨a,b⟩ w E=>e3.look ey.t eM.t hd.t (λw' c=>h.t a c ⟨rfl,rfl⟩) (Y.t b w E)⟩
theorem mn(z:Bool)(k:Nat)(E:U w0 S w)[a:ha f F g][hd:sh d n][e1:vG n ops F g eV]{b:Bool}[h:nu P F g w0 S op T (.bool b)][Y:dc P n ops Q l ((d,.bool z)::F) g w0 S k tS](c:tS)
 (e:b=z:=by first|with_reducible rfl|(simp only[decide_eq_true_eq,decide_eq_false_iff_not,Bool.not_eq_true',Bool.not_eq_false']<;>first|omega|(simp;omega))):tn P n ops Q (⟨some d,op,T,pos,eO,eV⟩::l) f w:=by
 have:=a.t;subst this;subst e;have key:tn P n ops Q (⟨some d,op,T,pos,eO,none⟩::l) (oR F g) w:=tn.op hd.t (h.t E (Y.t c w E));rcases e1.t with rfl|⟨i,t,a1,rfl,G,Y,ez⟩
 .exact key
 exact sk t G Y ez key
theorem bA(z:Bool)(k:Nat)(E:U w0 S w)[e:ha f F g][ey:cP ops i ⟨some d,op,T,pos,eO,eV⟩][eM:ul op][hd:sh d n][e1:vG n ops F g eV]{b:Bool}[h:nu P F g w0 ie op T (.bool b)][Y:lM P n ops tt ie Q r ((d,.bool z)::F) g w0 S k tS](c:tS)
 (l:b=z:=by first|with_reducible rfl|(simp only[decide_eq_true_eq,decide_eq_false_iff_not,Bool.not_eq_true',Bool.not_eq_false']<;>first|omega|(simp;omega))):e3 P n ops tt (U w0 ie) Q (.look i r) f w:=by
 have:=e.t;subst this;subst l;have ey:=ey.t;rcases e1.t with rfl|⟨j,t,a1,rfl,G,ez,e6⟩
 .exact e3.look ey eM.t hd.t (λw' a=>h.t a ⟨rfl,rfl⟩) (Y.t c w E)
 exact cL t ey eM.t hd.t G ez e6 (λw' a=>h.t a ⟨rfl,rfl⟩) (Y.t c w E)
end
instance{l:List α}{i:Nat}{u:α}[h:bz l n]:bz (l.set i u) n:=⟨by rw[List.length_set];exact h.t⟩
instance{u:α}:bz (List.replicate n u) n:=⟨List.length_replicate⟩
instance{k:IntKind}{a b:Int}[h:mi a m][Y:mi b n][ez:jY k (m+n)]:NP k a b ((m+n:Nat):Int):=⟨by rw[h.t,Y.t,<-Int.natCast_add];exact ez.t⟩
class Dt(e:eL)(b:Nat)(cs:outParam (Array Value)):Prop where t:∀{en w:World}{S:List eL},U en S w->tX e S->ar w (.pointer (some ⟨b,0,none⟩)) cs
class AC(e:eL)(v:Value)(α:outParam Type)[i:outParam (O α)](xs:outParam (List α)):Prop where t:∀{en w:World}{S:List eL},U en S w->tX e S->ev w v xs
class Da(w0:World)(e:eL):Prop where t:∃(en:World)(S:List eL),U en S w0/\tX e S
theorem dU{en:World}(h:U en S w0)(a:tX e S):Da w0 e:=⟨⟨en,S,h,a⟩⟩
instance[h:Dt e b cs]:zN w0 (e::S) b cs:=⟨λE=>h.t E .nU⟩
instance[O α]{xs:List α}[h:AC e v α xs]:gY w0 (e::S) v α xs:=⟨λE=>h.t E .nU⟩
set_option synthInstance.checkSynthOrder false in
instance(priority:=90)[h:Da w0 e][Y:Dt e b cs]:Az w0 (.pointer (some ⟨b,0,none⟩)) cs:=⟨by obtain⟨en,S,ez,e6⟩:=h.t;exact Y.t ez e6⟩
set_option synthInstance.checkSynthOrder false in
instance(priority:=90){i:O α}{xs:List α}[h:Da w0 e][Y:AC e v α xs]:L5 w0 v α xs:=⟨by obtain⟨en,S,ez,e6⟩:=h.t;exact Y.t ez e6⟩
section
variable{P:Program}{F:List (Nat×Value)}{f:tr}{w0:World}{S:List eL}{T s t K ek:TypeId}{x y:Operand}{r:Nat}
instance[rP P s K ek][h:oB F f x (.map (some r))][Y:oB F f y (.map none)]:nu P F f w0 S (.binOp .eql s x y t) T (.bool false):=⟨λ_ _ _ _ _ _ h'=>JC h.t Y.t h'⟩
instance[rP P s K ek][h:oB F f x (.map (some r))][Y:oB F f y (.map none)]:nu P F f w0 S (.binOp .neq s x y t) T (.bool true):=⟨λ_ _ _ _ _ _ h'=>JU h.t Y.t h'⟩
end
section
variable[D:lH]{P:Program}{n tt:Nat}{ops:Array Oper}{Q:Exit->tr->World->Prop}{l:List Oper}{r:sU}{F:List (Nat×Value)}{f g:tr}{w w0:World}{S ie:List eL}{k i d:Nat}{tS:Prop}{op:Op}{T:TypeId}{pos:String}{eO:Array Edge}{eV:Option (Nat×Bool)}{v:Value}{α:Type}{fl:α->Value}{AU:α->List eL}{N6:α->Prop}
theorem ag(k:Nat)(E:U w0 S w)[a:ha f F g][hd:sh d n][e1:vG n ops F g eV](h:nu P F g w0 S op T v)[Y:dc P n ops Q l ((d,v)::F) g w0 S k tS](b:tS):tn P n ops Q (⟨some d,op,T,pos,eO,eV⟩::l) f w:=by
 have:=a.t;subst this;have key:tn P n ops Q (⟨some d,op,T,pos,eO,none⟩::l) (oR F g) w:=tn.op hd.t (h.t E (Y.t b w E));rcases e1.t with rfl|⟨i,t,a1,rfl,G,Y,ez⟩
 .exact key
 exact sk t G Y ez key
theorem fY(k:Nat)(E:U w0 S w)[c:ha f F g][ey:cP ops i ⟨some d,op,T,pos,eO,eV⟩][eM:ul op][hd:sh d n][e1:vG n ops F g eV](h:nu P F g w0 ie op T v)[Y:lM P n ops tt ie Q r ((d,v)::F) g w0 S k tS](b:tS):e3 P n ops tt (U w0 ie) Q (.look i r) f w:=by
 have:=c.t;subst this;have ey:=ey.t;rcases e1.t with rfl|⟨j,t,a1,rfl,G,ez,e6⟩
 .exact e3.look ey eM.t hd.t (λw' a=>h.t a ⟨rfl,rfl⟩) (Y.t b w E)
 exact cL t ey eM.t hd.t G ez e6 (λw' a=>h.t a ⟨rfl,rfl⟩) (Y.t b w E)
theorem ho(k:Nat)(E:U w0 S w)[b:ha f F g][hd:sh d n](h:bT P F g w0 S op T α fl AU)[Y:∀a,dc P n ops Q l ((d,fl a)::F) g w0 (AU a) k (N6 a)](c:∀a,N6 a):tn P n ops Q (⟨some d,op,T,pos,eO,none⟩::l) f w:=by
 have:=b.t;subst this;exact tn.op hd.t (h.t E λa w' e=>(Y a).t (c a) w' e)
theorem bO(k:Nat)(E:U w0 S w)[c:ha f F g][ey:cP ops i ⟨some d,op,T,pos,eO,none⟩][hd:sh d n][e:sh i tt](h:bT P F g w0 S op T α fl AU)[j:∀a,xb ie (AU a)][Y:∀a,lM P n ops tt ie Q r ((d,fl a)::F) g w0 (AU a) k (N6 a)](l:∀a,N6 a):e3 P n ops tt (U w0 ie) Q (.one i r) f w:=by
 have:=c.t;subst this;exact e3.one ey.t hd.t e.t (h.t E λa w' b=>⟨(j a).t b,(Y a).t (l a) w' b⟩)
end
class zP(F:List (Nat×Value))(f:tr)(l:List (Nat×Operand))(vs:outParam (List (Nat×Value))):Prop where t:l.map (λp=>(p.1,eC (oR F f) p.2))=vs
instance:zP F f [] []:=⟨rfl⟩
instance{i:Nat}{x:Operand}{l:List (Nat×Operand)}{vs:List (Nat×Value)}[h:oB F f x v][Y:zP F f l vs]:zP F f ((i,x)::l) ((i,v)::vs):=⟨by simp only[List.map_cons,h.t,Y.t]⟩
class N7(ws:List (Nat×Value))(k:Nat)(vs:outParam (List Value)):Prop where t:ws=pF vs k
instance:N7 [] k []:=⟨rfl⟩
instance[h:N7 ws (k+1) vs]:N7 ((k,v)::ws) k (v::vs):=⟨by rw[h.t];simp[pF]⟩
theorem p0[O α](r:α){s:TypeId}{vs:List (Nat×Value)}[c:nM P s zs][a:zP F f parts vs][b:nt r ps]
 (G:u3 zs vs=ps:=by first|rfl|(simp only[sM,nn];rfl)) (ez:po zs vs:=by first|(refine lE ?_;(repeat' (first|exact trivial|refine⟨by decide,rfl,?_⟩));done)|((repeat' (first|exact trivial|refine And.intro ?_ ?_))<;>first|rfl|exact O.eT _|(simp;done))):nu P F f w0 S (.build s parts.toArray) T (.agg (O.enc r)):=
 ⟨λ_ _ _ _ _ _ h'=>rV b.t (by have:=a.t;simp only[]at this⊢;rw[this];exact G) (by have:=a.t;simp only[]at this⊢;rw[this];exact ez) h'⟩
theorem ud(c:Array Value){s:TypeId}{vs:List (Nat×Value)}[b:nM P s zs][a:zP F f parts vs]
 (G:eK (u3 zs vs)=c:=by rfl) (ez:po zs vs:=by first|(refine lE ?_;(repeat' (first|exact trivial|refine⟨by decide,rfl,?_⟩));done)|((repeat' (first|exact trivial|refine And.intro ?_ ?_))<;>first|rfl|exact O.eT _|(simp;done))):nu P F f w0 S (.build s parts.toArray) T (.agg c):=
 ⟨λ_ _ _ _ _ _ h'=>jI (by have:=a.t;simp only[]at this⊢;rw[this];exact ez) (by have:=a.t;simp only[]at this⊢;rw[this];exact G) h'⟩
theorem sL[O α](xs:List α){s:TypeId}{len:Nat}{z:Value}[i:hc P s ek][j:nh P ek (O.eo α)][k:oG P ek z][a:zP F f parts ws][c:N7 ws 0 vs]
 (d:z.cells.size=O.eo α:=by rfl) (e:vs.map Value.cells=xs.map O.enc:=by rfl) (hlen:len=xs.length:=by rfl) (g:len*O.eo α<=16777216:=by first|decide|simp):bT P F f w0 S (.buildSlice s len parts.toArray) T Nat (λb=>.slice (some ⟨b,0,none⟩) xs.length xs.length) (λb=>B (.slice (some ⟨b,0,none⟩) xs.length xs.length) ek xs::S):=
 ⟨λE _ _ _ _ _ h'=>n4 E xs vs d (by have G:=a.t;have Y:=c.t;simp only[]at G⊢;rw[G];exact Y) e hlen g λb w' _ h=>h' b w' h⟩
theorem hT{x:Operand}[h:oB F f x ov](Y:∀w,U w0 S w->s0 P ek w ov v):nu P F f w0 S (.load ek x) T v:=⟨λE _ _ _ _ _ h'=>ap h.t (Y _ E) h'⟩
class jB(ps da:List (Array Value))(o:Nat)(u:Array Value):Prop where t:∃a p b,ps=a++p::b/\da=a++u::b/\(eK a).size=o/\u.size=p.size
instance(priority:=2000):jB (#[u]::ps) (#[v]::ps) 0 #[v]:=⟨[],_,_,rfl,rfl,rfl,rfl⟩
instance(priority:=2000)[O α]{x y:α}:jB (O.enc x::ps) (O.enc y::ps) 0 (O.enc y):=⟨[],_,_,rfl,rfl,rfl,by rw[O.eT,O.eT]⟩
instance{v:Array Value}[h:jB ps da o v]:jB (#[u]::ps) (#[u]::da) (o+1) v:=⟨by
 obtain⟨a,p,b,rfl,rfl,ez,e6⟩:=h.t;exact⟨#[u]::a,p,b,rfl,rfl,by rw[cR,Array.size_append,ez];simp;omega,e6⟩⟩
instance[O α]{x:α}{i:Nat}{v:Array Value}[c:jU o (O.eo α) i][h:jB ps da i v]:jB (O.enc x::ps) (O.enc x::da) o v:=⟨by
 obtain⟨a,p,b,rfl,rfl,ez,e6⟩:=h.t;have:=c.t;exact⟨O.enc x::a,p,b,rfl,rfl,by rw[cR,Array.size_append,ez,O.eT];omega,e6⟩⟩
theorem rq[O α]{x y:α}{u:Array Value}[G:nt x ps][Y:nt y da][ez:jB ps da o u]:st (O.enc x) o u (O.enc y):=⟨by
 obtain⟨a,p,b,rfl,rfl,rfl,e6⟩:=ez.t;rw[G.t,Y.t];exact⟨by rw[qZ,cR,Array.size_append,Array.size_append,e6];omega,rG a b p u e6⟩⟩
section
variable[D:lH]{P:Program}{n tt:Nat}{ops:Array Oper}{ie:List eL}{Q:Exit->tr->World->Prop}{r:sU}{F:List (Nat×Value)}{f g:tr}{w0 aM w:World}{k i d:Nat}{tS:Prop}{op:Op}{T:TypeId}{pos:String}{eO:Array Edge}{v:Value}
class N8(P:Program)(n:Nat)(ops:Array Oper)(tt:Nat)(aM:World)(ie:List eL)(Q:Exit->tr->World->Prop)(r:sU)(F:List (Nat×Value))(f:tr)(w0 w:World)(k:Nat)(tS:outParam Prop):Prop where t:U w0 ie aM->tS->e3 P n ops tt (eB aM) Q r (oR F f) w
instance(priority:=10):N8 P n ops tt aM ie Q r F f w0 w 0 (e3 P n ops tt (eB aM) Q r (oR F f) w):=⟨λ_ h=>h⟩
instance(priority:=2000)[ey:cP ops i ⟨some d,op,T,pos,eO,none⟩][eM:ul op][hd:sh d n][h:nu P F f w0 ie op T v][Y:N8 P n ops tt aM ie Q r ((d,v)::F) f w0 w k tS]:N8 P n ops tt aM ie Q (.look i r) F f w0 w (k+1) tS:=
 ⟨λE a=>e3.look ey.t eM.t hd.t (λw' b=>h.t (E.ei b) ⟨rfl,rfl⟩) (Y.t E a)⟩
theorem hi(k:Nat)(E:U w0 ie aM)[a:ha f F g][h:N8 P n ops tt aM ie Q r F g w0 w k tS](b:tS):e3 P n ops tt (eB aM) Q r f w:=by rw[a.t];exact h.t E b
end
section
variable[D:lH]{P:Program}{n tt:Nat}{ops:Array Oper}{Q:Exit->tr->World->Prop}{l:List Oper}{r:sU}{F:List (Nat×Value)}{f g:tr}{w0:World}{S ie:List eL}{k d:Nat}{tS:Prop}{op:Op}{T:TypeId}{pos:String}{eO:Array Edge}{eV:Option (Nat×Bool)}{α:Type}
theorem rL(k:Nat)[b:ha f F g][h:dc P n ops Q l F g w0 S k tS](a:tS):∀w,U w0 S w->tn P n ops Q l f w:=λ_ E=>ew k E a
theorem xk(k:Nat)[b:ha f F g][h:lM P n ops tt ie Q r F g w0 S k tS](a:tS):∀w,U w0 S w->e3 P n ops tt (U w0 ie) Q r f w:=λ_ E=>ao k E a
theorem om{x:Operand}{n3 nr:Code}{b:Bool}{p q a c:Prop}(d e:Nat)[h:ha f F g][i:oB F g x (.bool b)][j:fW b p q][tD:lU P n n3 Q F g w0 S d a][t6:lU P n nr Q F g w0 S e c](G:p->a)(Y:q->c):∀w,U w0 S w->ex P n (.cond x n3 nr) Q f w:=λ_ E=>wD d e E G Y
theorem na{x:Operand}{n3 nr:Code}{b:Bool}{p q a c:Prop}(d e:Nat)[h:ha f F g][i:oB F g x (.bool b)][j:fW b p q][tD:lU P n n3 Q F g w0 S d a][t6:lU P n nr Q F g w0 S e c](G:b=true->p->a)(Y:b=false->q->c):∀w,U w0 S w->ex P n (.cond x n3 nr) Q f w:=λ_ E=>N1 d e E G Y
theorem ow[th:vq P]{id:Nat}{l:List Oper}(k tt:Nat)(r:sU)(m:List Nat)[hd:xv m 0 S ie][d:ha f F g][h:lM P n l.toArray tt ie Q r F g w0 S k tS](Y:tS)
 (a:(Region.noSelect l.toArray&&bd l.toArray tt&&dk l.toArray tt (Array.replicate l.toArray.size false) r&&decide (lX r=l.length))=true:=by kernel_rfl)
 (b:∀(c:List PanicEntry) f w,¬Q (.panic c) f w:=by exactλ_ _ _ h=>h):∀w,U w0 S w->ex P n (.region id l.toArray true) Q f w:=λ_ E=>nV k tt r m E Y a b
theorem eP(z:Bool)(k:Nat)[e:ha f F g][hd:sh d n][e1:vG n ops F g eV]{b:Bool}[h:nu P F g w0 S op T (.bool b)][Y:dc P n ops Q l ((d,.bool z)::F) g w0 S k tS](a:tS)
 (c:b=z:=by first|with_reducible rfl|(simp only[decide_eq_true_eq,decide_eq_false_iff_not,Bool.not_eq_true',Bool.not_eq_false']<;>first|omega|(simp;omega))):∀w,U w0 S w->tn P n ops Q (⟨some d,op,T,pos,eO,eV⟩::l) f w:=λ_ E=>mn z k E a c
end
instance(priority:=50){c:Nat}[O α]{xs:List α}[h:gY w0 S (.slice a n c) α xs]:gY w0 S (eu.v ⟨a,n,c⟩) α xs:=⟨λE=>h.t E⟩
class xx(a b:List (Nat×Value))(c:outParam (List (Nat×Value))):Prop where t:a++b=c
instance{b:List (Nat×Value)}:xx [] b b:=⟨rfl⟩
instance{x:Nat×Value}{a b c:List (Nat×Value)}[h:xx a b c]:xx (x::a) b (x::c):=⟨congrArg (x::·) h.t⟩
instance{a b c d e:List (Nat×Value)}[h:xx b c d][Y:xx a d e]:xx (a++b) c e:=⟨by rw[List.append_assoc,h.t,Y.t]⟩
theorem Gk(a b:List (Nat×Value))(f:tr):oR (a++b) f=oR a (oR b f):=by
 induction a with
 |nil=>rfl
 |cons p a c=>show o2 (oR (a++b) f) p.1 p.2=o2 (oR a (oR b f)) p.1 p.2;rw[c]
instance(priority:=2000){a b c:List (Nat×Value)}[h:ha f F g][Y:xx (a++b) F c]:ha (oR (a++b) f) c g:=⟨by rw[<-Y.t,Gk (a++b) F g,<-h.t]⟩
theorem Gx{l:List α}{i:Nat}{x:α}(h:i<l.length)(e:l[i]=x):fr l i x:=⟨by rw[List.getElem?_eq_getElem h,e]⟩
section
variable{P:Program}{F:List (Nat×Value)}{f:tr}{w0:World}{S:List eL}{T s t:TypeId}{x y:Operand}{k j:IntKind}{a b c:Int}
theorem fB(h:k.wrap (a+b)=c)(d:eC (oR F f) x= .int k a:=by rfl)(e:eC (oR F f) y= .int k b:=by rfl):nu P F f w0 S (.binOp .add s x y t) T (.int k c):=⟨λ_ _ _ _ _ _ h'=>Z.add d e h h'⟩
theorem p1(h:k.wrap (a-b)=c)(d:eC (oR F f) x= .int k a:=by rfl)(e:eC (oR F f) y= .int k b:=by rfl):nu P F f w0 S (.binOp .sub s x y t) T (.int k c):=⟨λ_ _ _ _ _ _ h'=>Z.sub d e h h'⟩
theorem fd(h:k.wrap (a*b)=c)(d:eC (oR F f) x= .int k a:=by rfl)(e:eC (oR F f) y= .int k b:=by rfl):nu P F f w0 S (.binOp .mul s x y t) T (.int k c):=⟨λ_ _ _ _ _ _ h'=>Z.mul d e h h'⟩
theorem p2(h:hH .and k a b=c)(d:eC (oR F f) x= .int k a:=by rfl)(e:eC (oR F f) y= .int k b:=by rfl):nu P F f w0 S (.binOp .and s x y t) T (.int k c):=⟨λ_ _ _ _ _ _ h'=>Z.and d e h h'⟩
theorem N9(h:hH .or k a b=c)(d:eC (oR F f) x= .int k a:=by rfl)(e:eC (oR F f) y= .int k b:=by rfl):nu P F f w0 S (.binOp .or s x y t) T (.int k c):=⟨λ_ _ _ _ _ _ h'=>Z.or d e h h'⟩
theorem Zy(h:hH .andNot k a b=c)(d:eC (oR F f) x= .int k a:=by rfl)(e:eC (oR F f) y= .int k b:=by rfl):nu P F f w0 S (.binOp .andNot s x y t) T (.int k c):=⟨λ_ _ _ _ _ _ h'=>Z.andNot d e h h'⟩
theorem AM(d:b≠0)(h:k.wrap (a.tdiv b)=c)(e:eC (oR F f) x= .int k a:=by rfl)(g:eC (oR F f) y= .int k b:=by rfl):nu P F f w0 S (.binOp .quo s x y t) T (.int k c):=⟨λ_ _ _ _ _ _ h'=>Z.quo e g d h h'⟩
theorem Do(d:b≠0)(h:a.tmod b=c)(e:eC (oR F f) x= .int k a:=by rfl)(g:eC (oR F f) y= .int k b:=by rfl):nu P F f w0 S (.binOp .rem s x y t) T (.int k c):=⟨λ_ _ _ _ _ _ h'=>Z.rem e g d h h'⟩
theorem Se(d:0<=b)(h:k.wrap (a*2^(min b.toNat k.bits))=c)(e:eC (oR F f) x= .int k a:=by rfl)(g:eC (oR F f) y= .int j b:=by rfl):nu P F f w0 S (.binOp .shl s x y t) T (.int k c):=⟨λ_ _ _ _ _ _ h'=>Z.shl e g d h h'⟩
theorem lZ(d:0<=b)(h:a.fdiv (2^(min b.toNat k.bits))=c)(e:eC (oR F f) x= .int k a:=by rfl)(g:eC (oR F f) y= .int j b:=by rfl):nu P F f w0 S (.binOp .shr s x y t) T (.int k c):=⟨λ_ _ _ _ _ _ h'=>Z.shr e g d h h'⟩
end
end
section
open Go.Proofs Tryz
variable{v:Value}{w w0:World}{e S a b c L M:List eL}{x:eL}
abbrev eJ:=nk prog
abbrev tN(g:FuncId)(a:Array Value)(w:World)(v:Value):Prop:=nk prog g a w λu w'=>u=v/\eB w w'
theorem eY:v=v/\w=w:=⟨rfl,rfl⟩
theorem sF{u:Value}(h:v=u:=by first|rfl|(refine congrArg (Value.int .i64) ?_;omega)):v=u:=h
theorem tA{e oZ:eL}{tg:List eL}{R:World->Prop}(a:iD e oZ S tg)(h:∀w,U w0 tg w->R w):∀w,(∀tg,iD e oZ S tg->U w0 tg w) ->R w:=λw h'=>h w (h' _ a)
class yO(a b:List eL)(c:outParam (List eL)):Prop where t:a++b=c
instance(priority:=100):yO a b (a++b):=⟨rfl⟩
instance:yO [] b b:=⟨rfl⟩
instance[h:yO a b c]:yO (x::a) b (x::c):=⟨congrArg (x::·) h.t⟩
instance{d:List eL}[h:yO b c d][Y:yO a d e]:yO (a++b) c e:=⟨by rw[List.append_assoc,h.t,Y.t]⟩
theorem ik{aM:World}{T:List eL}(G:U w0 S aM)(Y:U aM T w)[h:yO T S L]:U w0 L w:=h.t▸G.jd Y
class St(L M:List eL)(e:outParam (List eL)):Prop where t:L=e++M
instance(priority:=2000):St M M []:=⟨rfl⟩
instance[h:St L M e]:St (x::L) M (x::e):=⟨congrArg (x::·) h.t⟩
section
variable{P:Program}{n:Nat}{ops:Array Oper}{w0:World}{S:List eL}{f g:tr}{i:Nat}{l:List Nat}{u F Gj:List (Nat×Value)}{e:List eL}{K:List (Nat×Value) ->List eL->Prop}{d:Nat}{op:Op}{T:TypeId}{pos:String}{eO:Array Edge}
theorem ewk{L:List eL->List eL}[a:∀X,yO (e++(S++X)) [] (L X)](ey:ops[i]? =some ⟨some d,op,T,pos,eO,none⟩)(hd:Nat.blt d n=true)(h:∀(X:List eL)(w:World),U w0 (L X) w->Z P (oR u f) ⟨some d,op,T,pos,eO,none⟩ w λv w'=>∃oZ,U w0 (oZ++(S++X)) w'/\o5 P n ops w0 S f l ((d,v)::u) oZ K):
 o5 P n ops w0 S f (i::l) u e K:=.step ey hd λX w E=>h X w ((a X).t▸(List.append_nil _).symm▸E)
theorem ewx{w:World}{X L M oZ:List eL}[G:yO S X M][Y:St L M oZ](E:U w0 L w)(h:o5 P n ops w0 S f l u oZ K):∃oZ,U w0 (oZ++(S++X)) w/\o5 P n ops w0 S f l u oZ K:=⟨oZ,by rw[G.t,<-Y.t];exact E,h⟩
class Sa(P:Program)(n:Nat)(ops:Array Oper)(w0:World)(S:List eL)(F:List (Nat×Value))(f:tr)(l:List Nat)(u:List (Nat×Value))(e:List eL)(K:List (Nat×Value) ->List eL->Prop)(k:Nat)(tS:outParam Prop):Prop where t:tS->o5 P n ops w0 S (oR F f) l u e K
variable{k:Nat}{tS:Prop}
instance(priority:=10):Sa P n ops w0 S F f l u e K 0 (o5 P n ops w0 S (oR F f) l u e K):=⟨id⟩
instance{v:Value}{L:List eL->List eL}[ey:cP ops i ⟨some d,op,T,pos,eO,none⟩][hd:sh d n][a:xx u F Gj][b:∀X,yO (e++(S++X)) [] (L X)][h:∀X,nu P Gj f w0 (L X) op T v][Y:Sa P n ops w0 S F f l ((d,v)::u) e K k tS]:Sa P n ops w0 S F f (i::l) u e K (k+1) tS:=
 ⟨λc=>.step ey.t hd.t λX w E=>by
  rw[<-Gk,a.t];exact(h X).t ((b X).t▸(List.append_nil _).symm▸E) ⟨e,E,Y.t c⟩⟩
theorem zG(k:Nat)[a:ha f F g][h:Sa P n ops w0 S F g l u e K k tS](b:tS):o5 P n ops w0 S f l u e K:=by rw[a.t];exact h.t b
end
section
variable[D:lH]{P:Program}{n tt:Nat}{ops:Array Oper}{Q:Exit->tr->World->Prop}{f:tr}{w w0 aM:World}{S:List eL}{r:sU}{I:World->Prop}{i d t:Nat}{op:Op}{T:TypeId}{pos:String}{eO:Array Edge}{rest:List Oper}{a1 b:Bool}{ek:Value}
theorem ea[hd:sh d n](h:Z P f ⟨some d,op,T,pos,eO,none⟩ w (λv w'=>tn P n ops Q rest (o2 f d v) w')):tn P n ops Q (⟨some d,op,T,pos,eO,none⟩::rest) f w:=tn.op hd.t h
theorem oA(h:Z P f ⟨none,op,T,pos,eO,none⟩ w (λ_ w'=>tn P n ops Q rest f w')):tn P n ops Q (⟨none,op,T,pos,eO,none⟩::rest) f w:=Hf h
def So(ops:Array Oper)(i n:Nat)(c:Bool):Option (Nat×Op×TypeId×String×Array Edge):=match ops[i]? with
 |some ⟨some d,op,T,pos,eO,none⟩=>bif c&&Nat.blt d n then some (d,op,T,pos,eO)else none
 |_=>none
theorem zW{c:Bool}(h:So ops i n c=some (d,op,T,pos,eO)):ops[i]? =some ⟨some d,op,T,pos,eO,none⟩/\c=true/\Nat.blt d n=true:=by
 unfold So at h;split at h
 .rename_i G;cases c with
  |false=>cases h
  |true=>
   rename_i d' _ _ _ _;cases Y:Nat.blt d' n with
   |false=>rw[Y]at h;cases h
   |true=>rw[Y]at h;cases h;exact⟨G,rfl,Y⟩
 cases h
def Si(ops:Array Oper)(i n:Nat):Option (Nat×Op×TypeId×String×Array Edge):=match ops[i]? with
 |some ⟨some d,op,T,pos,eO,none⟩=>bif Op.looks op&&Nat.blt d n then some (d,op,T,pos,eO)else none
 |_=>none
theorem zY(h:Si ops i n=some (d,op,T,pos,eO)):ops[i]? =some ⟨some d,op,T,pos,eO,none⟩/\Op.looks op=true/\Nat.blt d n=true:=by
 unfold Si at h;split at h
 .rename_i d' a _ _ _ G;cases Y:Nat.blt d' n<;>cases ez:Op.looks a<;>rw[Y,ez]at h<;>cases h;exact⟨G,ez,Y⟩
 cases h
theorem tw(em:Si ops i n=some (d,op,T,pos,eO))(h:∀w',U w0 S w'->Z P f ⟨some d,op,T,pos,eO,none⟩ w' (λv a=>v=ek/\a=w'))(b:e3 P n ops tt (U w0 S) Q r (o2 f d ek) w):e3 P n ops tt (U w0 S) Q (.look i r) f w:=e3.look (zY em).1 (zY em).2.1 (zY em).2.2 h b
theorem si(E:U w0 S aM)(em:Si ops i n=some (d,op,T,pos,eO))(h:∀w',U w0 S w'->Z P f ⟨some d,op,T,pos,eO,none⟩ w' (λv a=>v=ek/\a=w'))(b:e3 P n ops tt (eB aM) Q r (o2 f d ek) w):e3 P n ops tt (eB aM) Q (.look i r) f w:=e3.look (zY em).1 (zY em).2.1 (zY em).2.2 (λw' c=>h w' (E.ei c)) b
def Sn(ops:Array Oper)(i n:Nat):Option (Nat×Op×TypeId×String×Array Edge×Nat×Bool×Nat):=match ops[i]? with
 |some ⟨some d,op,T,pos,eO,some (g,a1)⟩=>match(ops[g]?).bind (·.dst)with
  |some t=>bif Op.looks op&&Nat.blt d n&&Nat.blt t n then some (d,op,T,pos,eO,t,a1,g)else none
  |none=>none
 |_=>none
theorem bI{g:Nat}(h:Sn ops i n=some (d,op,T,pos,eO,t,a1,g)):ops[i]? =some ⟨some d,op,T,pos,eO,some (g,a1)⟩/\Op.looks op=true/\Nat.blt d n=true/\(ops[g]?).bind (·.dst)=some t/\Nat.blt t n=true:=by
 unfold Sn at h;split at h
 .rename_i d' a _ _ _ c _ G;split at h
  .rename_i b e6;cases Y:Nat.blt d' n<;>cases ez:Op.looks a<;>cases ac:Nat.blt b n<;>rw[Y,ez,ac]at h<;>cases h;exact⟨G,ez,Y,e6,ac⟩
  cases h
 cases h
theorem uc{g:Nat}(em:Sn ops i n=some (d,op,T,pos,eO,t,a1,g))(a:f t= .bool b)(h:(b==a1)=true->∀w',U w0 S w'->Z P f ⟨some d,op,T,pos,eO,none⟩ w' (λv c=>v=ek/\c=w'))(e:e3 P n ops tt (U w0 S) Q r (o2 f d (rI (b==a1) ek)) w):e3 P n ops tt (U w0 S) Q (.look i r) f w:=TB b t (bI em).1 (bI em).2.1 (bI em).2.2.1 (bI em).2.2.2.1 (bI em).2.2.2.2 a h e
theorem du{g:Nat}(E:U w0 S aM)(em:Sn ops i n=some (d,op,T,pos,eO,t,a1,g))(a:f t= .bool b)(h:(b==a1)=true->∀w',U w0 S w'->Z P f ⟨some d,op,T,pos,eO,none⟩ w' (λv c=>v=ek/\c=w'))(j:e3 P n ops tt (eB aM) Q r (o2 f d (rI (b==a1) ek)) w):e3 P n ops tt (eB aM) Q (.look i r) f w:=TB b t (bI em).1 (bI em).2.1 (bI em).2.2.1 (bI em).2.2.2.1 (bI em).2.2.2.2 a (λe w' k=>h e w' (E.ei k)) j
theorem ol(em:So ops i n (Nat.blt i tt)=some (d,op,T,pos,eO))(h:Z P f ⟨some d,op,T,pos,eO,none⟩ w (λv w'=>I w'/\e3 P n ops tt I Q r (o2 f d v) w')):e3 P n ops tt I Q (.one i r) f w:=e3.one (zW em).1 (zW em).2.2 (zW em).2.1 h
theorem hA(em:So ops i n (Nat.ble tt i&&kU r)=some (d,op,T,pos,eO))(h:Z P f ⟨some d,op,T,pos,eO,none⟩ w (λv w'=>e3 P n ops tt I Q r (o2 f d v) w')):e3 P n ops tt I Q (.one i r) f w:=by
 have G:=(zW em).2.1;rw[Bool.and_eq_true]at G;exact TX (zW em).1 (zW em).2.2 G.1 G.2 h
theorem nP[G:gW tt i][Y:vP r](ey:ops[i]? =some ⟨none,op,T,pos,eO,none⟩)(h:Z P f ⟨none,op,T,pos,eO,none⟩ w (λ_ w'=>e3 P n ops tt I Q r f w')):e3 P n ops tt I Q (.one i r) f w:=FI ey G.t Y.t h
end
@[reducible] noncomputable def Gq(g:Nat):Bool:=List.rec (motive:=λ_=>Bool) false (λe _ r=>match Nat.beq g e with|true=>true|false=>r) [0,1,83,171,191,333,334,335,365,371,372,410,411,412,413,414,415,416,417,418,419,420,421,422,423,424,425,426,427,428,429,433,434,435,436,437,438,439,440,441,442,443,444,450,451,452,453,454,455,456,457,458,459,460,461]
noncomputable def Gz(g:Nat):Bool:=match(prog.funcs[g]?).map (λfn=>fn.body.isSome&&decide (fn.name≠ "runtime.NumGoroutine"))with
 |some true=>true
 |_=>false
theorem Zb:((List.range 463).all λg=>Gz g||Gq g)=true:=by kernel_rfl
instance{g:Nat}[h:sh g 463][Y:fs (Gq g) false]:dy prog g:=⟨by
 have ez:=h.t;have e6:=Y.t;have ac:=List.all_eq_true.1 Zb g (List.mem_range.2 (by simpa using ez));rw[e6,Bool.or_false]at ac;unfold Gz at ac;split at ac
 .assumption
 cases ac⟩
end
end Go.Fer
