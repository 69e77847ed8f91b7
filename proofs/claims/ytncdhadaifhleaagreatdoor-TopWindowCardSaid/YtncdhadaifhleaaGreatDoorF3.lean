import Derived.Test.YtncdhadaifhleaaGreatDoorF2
import Derived.Shelf.SlSortCmp.NoneTotal
import Derived.Lib.Bytealg
set_option linter.all false
set_option synthInstance.maxSize 100000
set_option synthInstance.maxHeartbeats 400000
set_option maxHeartbeats 8000000
set_option maxRecDepth 100000
namespace Go.Fer
open Go Go.RowKit
section
variable{F ws:List (Nat×Value)}{f g:te}{d k n b s m o j:Nat}{v u ob:Value}{l vs c2:List Value}{α:Type}{a:Option Addr}{c cs q:Array Value}{r:Option Nat}{x e o1:eH}{w0 w:World}{S tp K:List eH}{T eb:TypeId}{p:Prop}{ps zs l7:List (Array Value)}{P:Program}{z:ec}{parts:List (Nat×Operand)}
abbrev N(b:Nat):Value:=.pointer (some ⟨b,0,none⟩)
abbrev ed:ec:=⟨none,0,0⟩
abbrev ta(b n c:Nat):Value:=.slice (some ⟨b,0,none⟩) n c
abbrev tE(b n c:Nat):ec:=⟨some ⟨b,0,none⟩,n,c⟩
abbrev ef(n:Nat):Value:=.int .u64 n
abbrev i6(n:Int):Value:=.int .i64 n
abbrev tA(r:Nat):Value:=.map (some r)
abbrev eF:Value:=.slice none 0 0
@[reducible] noncomputable def tI(F:List (Nat×Value))(f:te)(i:Nat):Value:=
 List.rec (motive:=λ_=>Value) (f i) (λp _ r=>Prod.rec (motive:=λ_=>Value) (λj u=>match Nat.beq i j with|true=>u|false=>r) p) F
theorem PW(F:List (Nat×Value))(f:te)(i:Nat):oQ F f i=tI F f i:=by
 induction F with
 |nil=>rfl
 |cons p F a=>
  obtain⟨d,v⟩:=p;show o7 (oQ F f) d v i=_;simp only[o7,a];show(bif Nat.beq i d then v else tI F f i)=(match Nat.beq i d with|true=>v|false=>tI F f i);cases Nat.beq i d<;>rfl
class fl{α:Sort _}(a b:α):Prop where t:a=b
instance{α:Sort _}{a:α}:fl a a:=⟨rfl⟩
class he(f:te)(F:outParam (List (Nat×Value)))(g:outParam te):Prop where t:f=oQ F g
instance:he (oQ F f) F f:=⟨rfl⟩
instance[h:he f F g]:he (o7 f d v) ((d,v)::F) g:=⟨by rw[h.t];rfl⟩
class Nd(l:List Value)(k:Nat)(F:outParam (List (Nat×Value))):Prop where t:∀p∈F,k<=p.1/\l[p.1-k]? =some p.2
instance:Nd [] k []:=⟨by intro p a;cases a⟩
instance[h:Nd l (k+1) F]:Nd (v::l) k ((k,v)::F):=⟨by
 intro p a;rcases List.mem_cons.1 a with rfl|a
 .simp
 obtain⟨G,Y⟩:=h.t p a;refine⟨by omega,?_⟩;rw[show p.1-k=(p.1-(k+1))+1 by omega,List.getElem?_cons_succ];exact Y⟩
theorem Zt(h:∀p∈F,f p.1=p.2):oQ F f=f:=by
 induction F with
 |nil=>rfl
 |cons p F a=>
  obtain⟨d,v⟩:=p;show o7 (oQ F f) d v=f;rw[a λp b=>h p (List.mem_cons_of_mem _ b)];funext i;by_cases ew:i=d
  .subst ew;rw[y6];exact(h (i,v) List.mem_cons_self).symm
  rw[kI _ _ ew]
instance[h:Nd l 0 F]:he (mv l) F (mv l):=⟨by
 refine(Zt λp a=>?_).symm;have:=(h.t p a).2;simp only[Nat.sub_zero]at this;simp[mv,this]⟩
class fd{α:Type}(l:List α)(i:Nat)(v:outParam α):Prop where t:l[i]? =some v
instance{v:α}{l:List α}:fd (v::l) 0 v:=⟨rfl⟩
instance{v u:α}{l:List α}{i:Nat}[h:fd l i v]:fd (u::l) (i+1) v:=⟨by simpa using h.t⟩
class jC(i n:Nat):Prop where t:i<n
instance(priority:=100){l:List α}{i:Nat}[h:jC i l.length]:fd l i (l[i]'h.t):=⟨List.getElem?_eq_getElem h.t⟩
theorem lq{i:Nat}(h:i<n):jC i n:=⟨h⟩
class xf{α:Type}(l:List α)(n:outParam Nat):Prop where t:l.length=n
instance(priority:=100){l:List α}:xf l l.length:=⟨rfl⟩
instance{l:List α}{i:Nat}{u:α}[h:xf l n]:xf (l.set i u) n:=⟨by rw[List.length_set];exact h.t⟩
instance{u:α}:xf (List.replicate n u) n:=⟨List.length_replicate⟩
instance{i:Nat}{u:α}[h:jC i n]:fd (List.replicate n u) i u:=⟨by rw[List.getElem?_replicate,if_pos h.t]⟩
class pf(a:Value)(v:outParam Value):Prop where t:a=v
instance{k:IntKind}{n:Int}:pf (.int k n) (.int k n):=⟨rfl⟩
instance{b:Bool}:pf (.bool b) (.bool b):=⟨rfl⟩
instance:pf (.pointer a) (.pointer a):=⟨rfl⟩
instance{c:Nat}:pf (.slice a n c) (.slice a n c):=⟨rfl⟩
instance:pf (.agg c) (.agg c):=⟨rfl⟩
instance:pf (.tuple c) (.tuple c):=⟨rfl⟩
instance:pf (.map r) (.map r):=⟨rfl⟩
instance{g:Fn}{a b:Array Value}:pf (.func g a b) (.func g a b):=⟨rfl⟩
instance{t:TypeId}:pf (.iface t v) (.iface t v):=⟨rfl⟩
instance:pf .nilIface .nilIface:=⟨rfl⟩
instance{s:ec}:pf s.v s.v:=⟨rfl⟩
instance{s:im}:pf s.v s.v:=⟨rfl⟩
instance{i:Nat}:pf (oX v i s) (oX v i s):=⟨rfl⟩
instance:pf (rs v n) (rs v n):=⟨rfl⟩
class Nc(F:List (Nat×Value))(f:te)(i:Nat)(v:outParam Value):Prop where t:True
instance(priority:=2000){i:Nat}:Nc ((i,v)::F) f i v:=⟨trivial⟩
instance{i:Nat}[Nc F f i v]:Nc ((d,u)::F) f i v:=⟨trivial⟩
class oJ(F:List (Nat×Value))(f:te)(x:Operand)(v:outParam Value):Prop where t:eD (oQ F f) x=v
instance(priority:=2000){i:Nat}[h:pf (tI F f i) v]:oJ F f (.tmp i) v:=⟨(PW F f i).trans h.t⟩
instance{i:Nat}[Nc F f i v][h:fl (tI F f i) v]:oJ F f (.tmp i) v:=⟨(PW F f i).trans h.t⟩
instance:oJ F f (.const v) v:=⟨rfl⟩
instance{g:Nat}:oJ F f (.func g) (.func (.func g) #[] #[]):=⟨rfl⟩
class vD(F:List (Nat×Value))(f:te)(xs:List Operand)(vs:outParam (List Value)):Prop where t:xs.map (eD (oQ F f))=vs
instance:vD F f [] []:=⟨rfl⟩
instance{x:Operand}{xs:List Operand}[h:oJ F f x v][a:vD F f xs vs]:vD F f (x::xs) (v::vs):=⟨by rw[List.map_cons,h.t,a.t]⟩
class u9(b:Bool)(t:outParam Bool):Prop where t:b=t
instance{b:Bool}[h:fl b true]:u9 b true:=⟨h.t⟩
instance{b:Bool}[h:fl b false]:u9 b false:=⟨h.t⟩
class sx(a b:Nat):Prop where t:Nat.blt a b=true
instance{a:Nat}[h:fl (Nat.ble (Nat.succ a) b) true]:sx a b:=⟨h.t⟩
class gP(a b:Nat):Prop where t:Nat.ble a b=true
instance{a:Nat}[h:fl (Nat.ble a b) true]:gP a b:=⟨h.t⟩
@[reducible] def jU(a b:Int):Bool:=match a,b with| .ofNat m,.ofNat n=>Nat.beq m n| .negSucc m,.negSucc n=>Nat.beq m n| .ofNat _,.negSucc _=>false| .negSucc _,.ofNat _=>false
@[reducible] def Lz(m n:Nat):Bool:=match n with|0=>false|n+1=>Nat.ble m n
@[reducible] def xp(a b:Int):Bool:=match a,b with| .ofNat m,.ofNat n=>Lz m n| .negSucc m,.negSucc n=>Nat.ble (Nat.succ n) m| .ofNat _,.negSucc _=>false| .negSucc _,.ofNat _=>true
theorem LE(a b:Int):jU a b=decide (a=b):=by
 cases a<;>cases b<;>simp only[jU]<;>rw[Bool.eq_iff_iff]<;>simp<;>omega
theorem LT(a b:Int):xp a b=decide (a<b):=by
 have h:∀m n,Lz m n=decide (m<n):=by
  intro m n;cases n with
  |zero=>simp[Lz]
  |succ n=>
   show Nat.ble m n=_;rw[Bool.eq_iff_iff];simp;omega
 cases a<;>cases b<;>simp only[xp,h]<;>rw[Bool.eq_iff_iff]<;>simp<;>omega
class me(a:Int)(m:outParam Nat):Prop where t:a=(m:Int)
class LO{α:Sort _}(a:α)(b:outParam α):Prop where t:a=b
instance{α:Sort _}{a:α}:LO a a:=⟨rfl⟩
instance{a:Int}[h:LO a (Int.ofNat m)]:me a m:=⟨h.t⟩
class Ae(w0:World)(ob:Value)(cs:outParam (Array Value)):Prop where t:an w0 ob cs
theorem ir(h:an w0 ob cs):Ae w0 ob cs:=⟨h⟩
class zI(w0:World)(S:List eH)(b:Nat)(cs:outParam (Array Value)):Prop where t:∀{w:World},U w0 S w->an w (.pointer (some ⟨b,0,none⟩)) cs
theorem U.tail(h:U w0 (e::S) w):U w0 S w:=h.sub (List.sublist_cons_self _ _)
instance(priority:=2000):zI w0 (B b cs T::S) b cs:=⟨λh=>h.tb .nW⟩
instance[h:zI w0 S b cs]:zI w0 (e::S) b cs:=⟨λh'=>h.t h'.tail⟩
instance(priority:=100)[h:Ae w0 (.pointer (some ⟨b,0,none⟩)) cs]:zI w0 S b cs:=⟨λh'=>h.t.es h'.ee⟩
class LI(w0:World)(v:Value)(α:outParam Type)[i:outParam (O α)](xs:outParam (List α)):Prop where t:ex w0 v xs
theorem aL[O α]{xs:List α}(h:ex w0 v xs):LI w0 v α xs:=⟨h⟩
class gG(w0:World)(S:List eH)(v:Value)(α:outParam Type)[i:outParam (O α)](xs:outParam (List α)):Prop where t:∀{w:World},U w0 S w->ex w v xs
instance(priority:=2000)[O α]{xs:List α}:gG w0 (V v eb xs::S) v α xs:=⟨λh=>h.eu .nW⟩
instance[O α]{xs:List α}[h:gG w0 S v α xs]:gG w0 (e::S) v α xs:=⟨λh'=>h.t h'.tail⟩
instance(priority:=100)[O α]{xs:List α}[h:LI w0 v α xs]:gG w0 S v α xs:=⟨λh'=>h.t.es h'.ee⟩
class zN(w0:World)(S:List eH)(ob:Value)(cs:outParam (Array Value))(o:outParam Nat):Prop where t:∀{w:World},U w0 S w->∃p,an w p cs/\ob=rs p o
instance[h:zI w0 S b cs]:zN w0 S (.pointer (some ⟨b,o,none⟩)) cs o:=⟨λh'=>⟨_,h.t h',by simp[rs]⟩⟩
theorem LN{p:Value}(h:m6 p):p=rs p 0:=by obtain⟨b,o,rfl⟩:=h;rfl
theorem ex.PY[O α]{xs:List α}{i:Nat}{x:α}(h:ex w v xs)(Z:xs[i]? =some x):an w (oX v i (O.eo α)) (O.enc x):=h.tb Z
instance[O α]{xs:List α}{x:α}{i:Nat}[h:gG w0 S v α xs][Z:fd xs i x][b:fl s (O.eo α)]:zN w0 S (oX v i s) (O.enc x) 0:=⟨λh'=>by
 have a:=(h.t h').PY Z.t;rw[<-b.t]at a;exact⟨_,a,LN a.sY⟩⟩
instance[O α]{xs:List α}{x:α}{i:Nat}[h:gG w0 S v α xs][Z:fd xs i x][b:fl s (O.eo α)]:zN w0 S (rs (oX v i s) o) (O.enc x) o:=⟨λh'=>by
 have a:=(h.t h').PY Z.t;rw[<-b.t]at a;exact⟨_,a,rfl⟩⟩
instance(priority:=100)[h:Ae w0 ob cs]:zN w0 S ob cs 0:=⟨λh'=>⟨_,h.t.es h'.ee,LN h.t.sY⟩⟩
class jM(a b:Nat)(c:outParam Nat):Prop where t:a=c+b
instance{c:Nat}:jM (c+b) b c:=⟨rfl⟩
instance(priority:=90){a:Nat}:jM a 0 a:=⟨rfl⟩
instance(priority:=90){a c:Nat}[h:jM a b c]:jM (a+1) (b+1) c:=⟨by have:=h.t;omega⟩
class nt{α:Type}[O α](x:α)(ps:outParam (List (Array Value))):Prop where t:O.enc x=eK ps
theorem yj(c:Array Value):eK [c]=c:=by simp[eK]
instance(priority:=100){x:UInt8}:nt x [#[.int .u8 x.toNat]]:=⟨(yj _).symm⟩
instance(priority:=100){x:aa}:nt x [#[.int .u64 (x.n:Int)]]:=⟨(yj _).symm⟩
instance(priority:=100){x:lX}:nt x [#[.float .f64 x.n]]:=⟨(yj _).symm⟩
instance(priority:=100){x:ec}:nt x [#[x.v]]:=⟨(yj _).symm⟩
instance(priority:=100){x:im}:nt x [#[x.v]]:=⟨(yj _).symm⟩
instance:nt (⟨n⟩:aa) [#[.int .u64 (n:Int)]]:=⟨(yj _).symm⟩
instance{n:Int}:nt (⟨n⟩:eL) [#[.int .i64 n]]:=⟨(yj _).symm⟩
instance{c:Nat}:nt (⟨a,n,c⟩:ec) [#[.slice a n c]]:=⟨(yj _).symm⟩
instance:nt (⟨some n⟩:im) [#[.pointer (some ⟨n,0,none⟩)]]:=⟨(yj _).symm⟩
class At(cs:Array Value)(j:Nat)(v:outParam Value):Prop where t:cs[j]? =some v
class xg(ps:List (Array Value))(j:Nat)(v:outParam Value):Prop where t:(eK ps)[j]? =some v
instance[h:fd l j v]:At l.toArray j v:=⟨by simpa using h.t⟩
instance[O α]{x:α}[h:nt x ps][Y:xg ps j v]:At (O.enc x) j v:=⟨by rw[h.t];exact Y.t⟩
instance:xg (#[u]::ps) 0 u:=⟨by rw[cq,Array.getElem?_append_left (by simp)];rfl⟩
instance(priority:=2000){y:UInt8}[em:LO y (UInt8.ofNat n)][h:sx n 256]:xg (#[.int .u8 (y.toNat:Int)]::ps) 0 (.int .u8 (n:Int)):=⟨by
 have G:=h.t;have Y:n<256:=by simpa using G
 rw[cq,Array.getElem?_append_left (by simp)];have ej:y.toNat=n:=by rw[em.t];simp;omega
 rw[ej];rfl⟩
instance[h:xg ps j v]:xg (#[u]::ps) (j+1) v:=⟨by rw[cq,Array.getElem?_append_right (by simp)];simpa using h.t⟩
instance[O α]{x:α}[h:At (O.enc x) j v]:xg (O.enc x::ps) j v:=⟨by
 rw[cq,Array.getElem?_append_left (Array.getElem?_eq_some_iff.1 h.t).1];exact h.t⟩
instance[O α]{x:α}{i:Nat}[a:jM j (O.eo α) i][h:xg ps i v]:xg (O.enc x::ps) j v:=⟨by
 have:=a.t;rw[cq,Array.getElem?_append_right (by rw[O.ez];omega),O.ez,show j-O.eo α=i by omega];exact h.t⟩
class Aa(cs:Array Value)(o s:Nat)(c:outParam (Array Value)):Prop where t:cs.extract o (o+s)=c/\o+s<=cs.size
class zS(ps:List (Array Value))(o s:Nat)(c:outParam (Array Value)):Prop where t:(eK ps).extract o (o+s)=c/\o+s<=(eK ps).size
instance(priority:=2000)[O α]{x:α}[h:fl (O.eo α) s]:Aa (O.enc x) 0 s (O.enc x):=⟨by
 rw[<-h.t,Nat.zero_add,<-O.ez x];simp⟩
instance[O α]{x:α}[h:nt x ps][Y:zS ps o s c]:Aa (O.enc x) o s c:=⟨by rw[h.t];exact Y.t⟩
theorem PB{p:Array Value}{i:Nat}(h:o=i+p.size):(p++q).extract o (o+s)=q.extract i (i+s):=by
 subst h;rw[Array.extract_append,Array.extract_eq_empty_of_le (by omega)];simp only[Array.empty_append];congr 1<;>omega
theorem Za{p:Array Value}(h:o+s<=p.size):(p++q).extract o (o+s)=p.extract o (o+s):=by
 rw[Array.extract_append,show o+s-p.size=0 by omega];simp
instance[O α]{x:α}[h:Aa (O.enc x) o s c]:zS (O.enc x::ps) o s c:=⟨by
 have:=h.t;rw[cq];exact⟨by rw[Za this.2];exact this.1,by rw[Array.size_append];omega⟩⟩
instance[O α]{x:α}{i:Nat}[a:jM o (O.eo α) i][h:zS ps i s c]:zS (O.enc x::ps) o s c:=⟨by
 have G:=h.t;have Y:=a.t;have ej:=O.ez x;rw[cq];exact⟨by rw[PB (by omega:o=i+(O.enc x).size)];exact G.1,by rw[Array.size_append];omega⟩⟩
instance[h:zS ps o s c]:zS (#[u]::ps) (o+1) s c:=⟨by
 have G:=h.t;rw[cq];exact⟨by rw[PB (by simp:o+1=o+(#[u]:Array Value).size)];exact G.1,by rw[Array.size_append];simp;omega⟩⟩
class Nu(l:List Value)(s:Nat)(c:outParam (List Value)):Prop where t:l.take s=c/\s<=l.length
instance:Nu l 0 []:=⟨by simp⟩
instance{c:List Value}[h:Nu l s c]:Nu (u::l) (s+1) (u::c):=⟨by have:=h.t;simp;exact this⟩
class Nm(l:List Value)(o:Nat)(c:outParam (List Value)):Prop where t:l.drop o=c/\o<=l.length
instance:Nm l 0 l:=⟨by simp⟩
instance{m c:List Value}[h:Nm l o m][Y:Nu m s c]:Aa l.toArray o s c.toArray:=⟨by
 obtain⟨G,ej⟩:=h.t;obtain⟨e8,au⟩:=Y.t;subst G;subst e8;simp only[List.length_drop]at au;refine⟨?_,by simp;omega⟩;simp[List.extract_eq_take_drop]⟩
class Nf(P:Program)(w0:World)(S:List eH)(eb:TypeId)(ob:Value)(v:outParam Value):Prop where t:∀{w:World},U w0 S w->s1 P eb w ob v
instance[uX P eb][h:zN w0 S ob cs o][Y:At cs o v]:Nf P w0 S eb ob v:=⟨λh'=>by
 obtain⟨p,a,rfl⟩:=h.t h';exact ud a o Y.t⟩
instance{eb:Nat}[mj P eb][nm P eb s][h:zN w0 S ob cs o][Y:Aa cs o s c]:Nf P w0 S eb ob (.agg c):=⟨λh'=>by
 obtain⟨p,a,rfl⟩:=h.t h';exact s1.wl a o Y.t.1 Y.t.2⟩
class nf(P:Program)(F:List (Nat×Value))(f:te)(w0:World)(S:List eH)(op:Op)(T:TypeId)(v:outParam Value):Prop where
 t:∀{w:World},U w0 S w->∀{R:Value->World->Prop}{d:Option Tmp}{pos:String}{eO:Array Edge}{eQ:Option (Nat×Bool)},R v w->J P (oQ F f) ⟨d,op,T,pos,eO,eQ⟩ w R
section
variable{P:Program}{F:List (Nat×Value)}{f:te}{w0:World}{S:List eH}{T s:TypeId}{x y a b c:Operand}{v ob:Value}
instance[h:oJ F f x v]:nf P F f w0 S (.move x) T v:=⟨λ_ _ _ _ _ _ h'=>oI h.t h'⟩
instance[h:oJ F f x v]:nf P F f w0 S (.assign x) T v:=⟨λ_ _ _ _ _ _ h'=>yo h.t h'⟩
instance[h:oJ F f c (.bool true)][Y:oJ F f a v]:nf P F f w0 S (.pick c a b) T v:=⟨λ_ _ _ _ _ _ h'=>J.pick h.t (by rw[Y.t];exact h')⟩
instance[h:oJ F f c (.bool false)][Y:oJ F f b v]:nf P F f w0 S (.pick c a b) T v:=⟨λ_ _ _ _ _ _ h'=>J.pick h.t (by rw[Y.t];exact h')⟩
instance{eb:TypeId}[h:oJ F f x ob][Y:Nf P w0 S eb ob v]:nf P F f w0 S (.load eb x) T v:=⟨λE _ _ _ _ _ h'=>ag h.t (Y.t E) h'⟩
class jF(w0:World)(S:List eH)(ob:Value):Prop where t:∀{w:World},U w0 S w->m6 ob
instance{o b:Nat}:jF w0 S (.pointer (some ⟨b,o,none⟩)):=⟨λ_=>m6.mk b o⟩
instance{α:Type}[O α]{xs:List α}{z:α}{i s:Nat}[h:gG w0 S v α xs][Z:fd xs i z]:jF w0 S (oX v i s):=⟨λh'=>(h.t h').sY (List.getElem?_eq_some_iff.1 Z.t).1⟩
instance{o:Nat}[h:jF w0 S v]:jF w0 S (rs v o):=⟨λh'=>(h.t h').add o⟩
instance(priority:=100){cs:Array Value}[h:Ae w0 ob cs]:jF w0 S ob:=⟨λh'=>(h.t.es h'.ee).sY⟩
instance[h:oJ F f x ob][Y:jF w0 S ob]:nf P F f w0 S (.nilCheck x) T ob:=⟨λE _ _ _ _ _ h'=>J.nilCheck h.t (Y.t E) h'⟩
class Ao(a b:Nat)(c:outParam Nat):Prop where t:a+b=c
instance(priority:=2000){b:Nat}:Ao 0 b b:=⟨Nat.zero_add b⟩
instance{a b:Nat}:Ao a b (a+b):=⟨rfl⟩
class LS(a b:Nat)(c:outParam Nat):Prop where t:a*b=c
instance(priority:=2000){b:Nat}:LS 0 b 0:=⟨Nat.zero_mul b⟩
instance(priority:=1900){a:Nat}:LS a 1 a:=⟨Nat.mul_one a⟩
class Ai(ob:Value)(n:Nat)(Np:outParam Value):Prop where t:m6 ob->rs ob n=Np
instance{b o n m:Nat}[h:Ao o n m]:Ai (.pointer (some ⟨b,o,none⟩)) n (.pointer (some ⟨b,m,none⟩)):=⟨λ_=>by rw[<-h.t];rfl⟩
instance{i s n:Nat}:Ai (oX v i s) n (rs (oX v i s) n):=⟨λ_=>rfl⟩
instance(priority:=100){n:Nat}:Ai v n (rs v n):=⟨λ_=>rfl⟩
instance{o n m:Nat}[h:Ao o n m]:Ai (rs v o) n (rs v m):=⟨λh'=>by
 rw[<-h.t];cases v with
 |pointer a=>cases a with
  |none=>rfl
  |some a=>simp[rs,Nat.add_assoc]
 |_=>rfl⟩
instance{s i off:Nat}{Np:Value}[je P s i off][h:oJ F f x ob][Y:jF w0 S ob][ej:Ai ob off Np]:nf P F f w0 S (.fieldAddr s x i) T Np:=
 ⟨λE _ _ _ _ _ h'=>J.fieldAddr h.t (Y.t E) (by rw[ej.t (Y.t E)];exact h')⟩
instance{i:Nat}{vs:Array Value}[h:oJ F f x (.tuple vs)][Y:At vs i v]:nf P F f w0 S (.extract x i) T v:=⟨λ_ _ _ _ _ _ h'=>J.extract h.t Y.t h'⟩
class xw(b:Bool)(c:outParam Bool):Prop where t:(!b)=c
instance:xw true false:=⟨rfl⟩
instance:xw false true:=⟨rfl⟩
instance{s:TypeId}{b c:Bool}[h:oJ F f x (.bool b)][Y:xw b c]:nf P F f w0 S (.unOp .not s x) T (.bool c):=⟨λ_ _ _ _ _ _ h'=>J.not h.t (by rw[Y.t];exact h')⟩
instance(priority:=100){s:TypeId}{b:Bool}[h:oJ F f x (.bool b)]:nf P F f w0 S (.unOp .not s x) T (.bool (!b)):=⟨λ_ _ _ _ _ _ h'=>J.not h.t h'⟩
class Ng(k:IntKind)(a b:Int)(c:outParam Int):Prop where t:k.wrap (a+b)=c
theorem PV{n:Nat}(h:Nat.ble n 9223372036854775807=true):IntKind.i64.wrap (n:Int)=n:=by
 have:n<=9223372036854775807:=by simpa using h
 exact wrap_i64 (by omega)
theorem PK{n:Nat}(h:Nat.ble n 18446744073709551615=true):IntKind.u64.wrap (n:Int)=n:=by
 have:n<=18446744073709551615:=by simpa using h
 exact wrap_u64 (by omega)
instance{a b:Int}{m n:Nat}[h:me a m][Y:me b n][ej:gP (m+n) 9223372036854775807]:Ng .i64 a b ((m+n:Nat):Int):=⟨by rw[h.t,Y.t,<-Int.natCast_add];exact PV ej.t⟩
instance{a b:Int}{m n:Nat}[h:me a m][Y:me b n][ej:gP (m+n) 18446744073709551615]:Ng .u64 a b ((m+n:Nat):Int):=⟨by rw[h.t,Y.t,<-Int.natCast_add];exact PK ej.t⟩
section
variable{s t:TypeId}{k:IntKind}{m n:Int}{z yq:Bool}
instance{c:Int}[h:oJ F f x (.int k m)][Y:oJ F f y (.int k n)][ej:Ng k m n c]:nf P F f w0 S (.binOp .add s x y t) T (.int k c):=⟨λ_ _ _ _ _ _ h'=>J.add h.t Y.t ej.t h'⟩
instance[h:oJ F f x (.int k m)][Y:oJ F f y (.int k n)][ej:u9 (jU m n) z]:nf P F f w0 S (.binOp .eql s x y t) T (.bool z):=⟨λ_ _ _ _ _ _ h'=>J.eql h.t Y.t (by rw[<-LE,ej.t];exact h')⟩
instance[h:oJ F f x (.int k m)][Y:oJ F f y (.int k n)][ej:u9 (jU m n) z][e8:xw z yq]:nf P F f w0 S (.binOp .neq s x y t) T (.bool yq):=⟨λ_ _ _ _ _ _ h'=>J.neq h.t Y.t (by rw[<-LE,ej.t,e8.t];exact h')⟩
instance[h:oJ F f x (.int k m)][Y:oJ F f y (.int k n)][ej:u9 (xp m n) z]:nf P F f w0 S (.binOp .lss s x y t) T (.bool z):=⟨λ_ _ _ _ _ _ h'=>J.lss h.t Y.t (by rw[<-LT,ej.t];exact h')⟩
instance[h:oJ F f x (.int k m)][Y:oJ F f y (.int k n)][ej:u9 (xp n m) z]:nf P F f w0 S (.binOp .gtr s x y t) T (.bool z):=⟨λ_ _ _ _ _ _ h'=>J.gtr h.t Y.t (by rw[<-LT,ej.t];exact h')⟩
theorem PX(a b:Int):(!xp b a)=decide (a<=b):=by rw[LT,Bool.eq_iff_iff];simp
instance[h:oJ F f x (.int k m)][Y:oJ F f y (.int k n)][ej:u9 (xp n m) z][e8:xw z yq]:nf P F f w0 S (.binOp .leq s x y t) T (.bool yq):=⟨λ_ _ _ _ _ _ h'=>J.leq h.t Y.t (by rw[<-PX,ej.t,e8.t];exact h')⟩
instance[h:oJ F f x (.int k m)][Y:oJ F f y (.int k n)][ej:u9 (xp m n) z][e8:xw z yq]:nf P F f w0 S (.binOp .geq s x y t) T (.bool yq):=⟨λ_ _ _ _ _ _ h'=>J.geq h.t Y.t (by rw[<-PX,ej.t,e8.t];exact h')⟩
instance(priority:=100)[h:oJ F f x (.int k m)][Y:oJ F f y (.int k n)]:nf P F f w0 S (.binOp .eql s x y t) T (.bool (decide (m=n))):=⟨λ_ _ _ _ _ _ h'=>J.eql h.t Y.t h'⟩
instance(priority:=100)[h:oJ F f x (.int k m)][Y:oJ F f y (.int k n)]:nf P F f w0 S (.binOp .neq s x y t) T (.bool (!decide (m=n))):=⟨λ_ _ _ _ _ _ h'=>J.neq h.t Y.t h'⟩
instance(priority:=100)[h:oJ F f x (.int k m)][Y:oJ F f y (.int k n)]:nf P F f w0 S (.binOp .lss s x y t) T (.bool (decide (m<n))):=⟨λ_ _ _ _ _ _ h'=>J.lss h.t Y.t h'⟩
instance(priority:=100)[h:oJ F f x (.int k m)][Y:oJ F f y (.int k n)]:nf P F f w0 S (.binOp .gtr s x y t) T (.bool (decide (n<m))):=⟨λ_ _ _ _ _ _ h'=>J.gtr h.t Y.t h'⟩
instance(priority:=100)[h:oJ F f x (.int k m)][Y:oJ F f y (.int k n)]:nf P F f w0 S (.binOp .leq s x y t) T (.bool (decide (m<=n))):=⟨λ_ _ _ _ _ _ h'=>J.leq h.t Y.t h'⟩
instance(priority:=100)[h:oJ F f x (.int k m)][Y:oJ F f y (.int k n)]:nf P F f w0 S (.binOp .geq s x y t) T (.bool (decide (n<=m))):=⟨λ_ _ _ _ _ _ h'=>J.geq h.t Y.t h'⟩
instance{p:Addr}{eb:TypeId}[fE P s eb][h:oJ F f x (.pointer (some p))][Y:oJ F f y (.pointer none)]:nf P F f w0 S (.binOp .eql s x y t) T (.bool false):=⟨λ_ _ _ _ _ _ h'=>IW h.t Y.t h'⟩
instance{eb:TypeId}{p:Addr}[fE P s eb][h:oJ F f x (.pointer (some p))][Y:oJ F f y (.pointer none)]:nf P F f w0 S (.binOp .neq s x y t) T (.bool true):=⟨λ_ _ _ _ _ _ h'=>IY h.t Y.t h'⟩
instance{eb:TypeId}[fE P s eb][h:oJ F f x (.pointer none)][Y:oJ F f y (.pointer none)]:nf P F f w0 S (.binOp .neq s x y t) T (.bool false):=⟨λ_ _ _ _ _ _ h'=>IY h.t Y.t h'⟩
end
instance{eb:TypeId}{v:Value}[fE P s eb][h:oJ F f x v]:nf P F f w0 S (.makeInterface s x) T (.iface s v):=⟨λ_ _ _ _ _ _ h'=>QO h.t h'⟩
instance{fn:Fn}{a cs:List Operand}{us vs:List Value}[h:vD F f a us][Y:vD F f cs vs]:nf P F f w0 S (.makeFunc fn a.toArray cs.toArray) T (.func fn us.toArray vs.toArray):=⟨λ_ _ _ _ _ _ h'=>J8 h.t Y.t h'⟩
class bx{α:Type}(l:List α)(n:outParam Nat):Prop where t:l.length=n
instance{α:Type}:bx ([]:List α) 0:=⟨rfl⟩
instance{α:Type}{a:α}{l:List α}{n:Nat}[h:bx l n]:bx (a::l) (n+1):=⟨by rw[List.length_cons,h.t]⟩
instance(priority:=100){α:Type}{l:List α}:bx l l.length:=⟨rfl⟩
instance{α:Type}[O α]{t eb n:Nat}{xs:List α}[hl P t eb][h:oJ F f x v][Y:gG w0 S v α xs][ej:bx xs n]:nf P F f w0 S (.call {callee:=.builtin .len,args:=#[x],argTypes:=#[t]}) T (.int .i64 n):=
 ⟨λE _ _ _ _ _ h'=>J.hD h.t (Y.t E) (by rw[ej.t];exact h')⟩
instance{t eb n c:Nat}[hl P t eb][h:oJ F f x (.slice none n c)]:nf P F f w0 S (.call {callee:=.builtin .len,args:=#[x],argTypes:=#[t]}) T (.int .i64 n):=
 ⟨λ_ _ _ _ _ _ h'=>J.len h.t h'⟩
instance{α:Type}[O α]{t eb:Nat}{xs:List α}{z:α}{k:IntKind}{i:Int}{j s:Nat}[hl P t eb][a:nm P eb s][h:oJ F f x v][Y:gG w0 S v α xs][b:fl s (O.eo α)][ej:oJ F f y (.int k i)][e8:me i j][au:fd xs j z]:nf P F f w0 S (.indexAddr t x y) T (oX v j (O.eo α)):=
 ⟨λE _ _ _ _ _ h'=>have:nm P eb (O.eo α):=by rw[<-b.t];exact a
  nX h.t (Y.t E) ej.t (by have:=(List.getElem?_eq_some_iff.1 au.t).1;have:=e8.t;omega) (by rw[e8.t];exact h')⟩
instance{t eb n s b o j m q:Nat}{k:IntKind}{i:Int}[du P t n eb][nm P eb s][h:oJ F f x (.pointer (some ⟨b,o,none⟩))][ej:oJ F f y (.int k i)][e8:me i j][au:sx j n][a2:LS j s m][iK:Ao o m q]:nf P F f w0 S (.indexAddr t x y) T (.pointer (some ⟨b,q,none⟩)):=
 ⟨λE _ _ _ _ _ h'=>fi h.t ej.t (by have:=e8.t;have:=au.t;simp at this;omega) (by rw[e8.t,Int.toNat_natCast,a2.t,iK.t];exact h')⟩
class An(P:Program)(F:List (Nat×Value))(f:te)(w0:World)(S:List eH)(op:Op)(T:TypeId)(C:outParam Prop)(v:outParam Value):Prop where
 t:C->∀{w:World},U w0 S w->∀{R:Value->World->Prop}{d:Option Tmp}{pos:String}{eO:Array Edge}{eQ:Option (Nat×Bool)},R v w->J P (oQ F f) ⟨d,op,T,pos,eO,eQ⟩ w R
instance{α:Type}[O α]{t eb:Nat}{xs:List α}{k:IntKind}{i:Int}{j s:Nat}[hl P t eb][a:nm P eb s][h:oJ F f x v][Y:gG w0 S v α xs][b:fl s (O.eo α)][ej:oJ F f y (.int k i)][e8:me i j]{m:Nat}[e5:xf xs m]:An P F f w0 S (.indexAddr t x y) T (jC j m) (oX v j (O.eo α)):=
 ⟨λhb _ E _ _ _ _ _ h'=>have:nm P eb (O.eo α):=by rw[<-b.t];exact a
  nX h.t (Y.t E) ej.t (by have:=hb.t;have:=e5.t;have:=e8.t;omega) (by rw[e8.t];exact h')⟩
end
class gW(v:Value)(u:outParam (Array Value)):Prop where t:v.cells=u/\∀c∈u.toList,c.oneCell'=true
instance{k:IntKind}{n:Int}:gW (.int k n) #[.int k n]:=⟨rfl,oZ _ _⟩
instance{b:Bool}:gW (.bool b) #[.bool b]:=⟨rfl,h2 rfl⟩
instance:gW (.pointer a) #[.pointer a]:=⟨rfl,Ln _⟩
instance{c:Nat}:gW (.slice a n c) #[.slice a n c]:=⟨rfl,h2 rfl⟩
instance:gW (.map r) #[.map r]:=⟨rfl,ze _⟩
instance{s:ec}:gW s.v #[s.v]:=⟨rfl,O.one (α:=ec) s⟩
instance[O α]{x:α}:gW (.agg (O.enc x)) (O.enc x):=⟨rfl,O.one x⟩
class Nw(l:List Value):Prop where t:∀c∈l,c.oneCell'=true
instance:Nw []:=⟨by intro c a;cases a⟩
instance[h:gW v #[v]][Y:Nw l]:Nw (v::l):=⟨by
 intro c a;rcases List.mem_cons.1 a with rfl|a
 .exact h.t.2 _ (by simp)
 exact Y.t c a⟩
instance[h:Nw l]:gW (.agg l.toArray) l.toArray:=⟨rfl,h.t⟩
class Ny(u:Array Value)(n:outParam Nat):Prop where t:u.size=n
instance[h:bx l n]:Ny l.toArray n:=⟨by simpa using h.t⟩
instance[O α]{x:α}:Ny (O.enc x) (O.eo α):=⟨O.ez x⟩
class st(cs:Array Value)(o:Nat)(u:Array Value)(iA:outParam (Array Value)):Prop where t:o+u.size<=cs.size/\iI cs o u=iA
class Nb(l:List Value)(i:Nat)(v:Value)(c2:outParam (List Value)):Prop where t:i<l.length/\l.set i v=c2
instance:Nb (u::l) 0 v (v::l):=⟨by simp⟩
instance{i:Nat}[h:Nb l i v c2]:Nb (u::l) (i+1) v (u::c2):=⟨by have:=h.t;simp;exact this⟩
theorem Zo{i:Nat}(h:i<l.length):iI l.toArray i #[v]=(l.set i v).toArray:=by
 apply Array.ext_getElem?;intro j;rw[wu _ _ _ (by simp;omega)];simp only[List.getElem?_toArray,List.getElem?_set];by_cases a:i=j
 .subst a;rw[if_pos (by simp),if_pos rfl,if_pos h];simp
 rw[if_neg (by simp;omega),if_neg a]
instance{i:Nat}[h:Nb l i v c2]:st l.toArray i #[v] c2.toArray:=⟨by
 have:=h.t;refine⟨by simp;omega,?_⟩;rw[Zo this.1,this.2]⟩
instance(priority:=2000)[O α]{x y:α}:st (O.enc x) 0 (O.enc y) (O.enc y):=⟨by rw[O.ez,O.ez];omega,mq (by rw[O.ez,O.ez])⟩
instance[O α]{y:α}[h:bx l n][Y:fl (O.eo α) n]:st l.toArray 0 (O.enc y) (O.enc y):=⟨by
 have:=h.t;have:=Y.t;refine⟨by rw[O.ez];simp;omega,mq (by rw[O.ez];simp;omega)⟩⟩
class zR(l:List Value)(i:Nat)(m:List Value)(c2:outParam (List Value)):Prop where t:i+m.length<=l.length/\l.take i++m++l.drop (i+m.length)=c2
instance:zR l 0 [] l:=⟨by simp⟩
instance{m:List Value}[h:zR l 0 m c2]:zR (u::l) 0 (v::m) (v::c2):=⟨by
 have:=h.t;simp at this⊢;exact this⟩
instance{m:List Value}{i:Nat}[h:zR l i m c2]:zR (u::l) (i+1) m (u::c2):=⟨by
 have:=h.t;rw[show i+1+m.length=(i+m.length)+1 by omega];simp only[List.length_cons,List.take_succ_cons,List.drop_succ_cons,List.cons_append];exact⟨by omega,by rw[this.2]⟩⟩
instance(priority:=100){m:List Value}{i:Nat}[h:zR l i m c2]:st l.toArray i m.toArray c2.toArray:=⟨by
 have:=h.t;refine⟨by simp;omega,?_⟩;rw[<-this.2];unfold iI;simp[List.extract_eq_take_drop];rw[List.take_of_length_le (by simp)]⟩
instance{z:aa}{a:Int}[h:me a n]:st (O.enc z) 0 #[.int .u64 a] (O.enc (⟨n⟩:aa)):=⟨by rw[O.ez];exact Nat.le_refl _,by rw[h.t];exact mq rfl⟩
instance{z:eL}{a:Int}:st (O.enc z) 0 #[.int .i64 a] (O.enc (⟨a⟩:eL)):=⟨by rw[O.ez];exact Nat.le_refl _,mq rfl⟩
instance{s:ec}:st (O.enc z) 0 #[s.v] (O.enc s):=⟨by rw[O.ez];exact Nat.le_refl _,mq rfl⟩
instance{c:Nat}:st (O.enc z) 0 #[.slice a n c] (O.enc (⟨a,n,c⟩:ec)):=⟨by rw[O.ez];exact Nat.le_refl _,mq rfl⟩
class Nv(S:List eH)(b:Nat)(cs:outParam (Array Value))(T:outParam TypeId):Prop where t:tP (B b cs T) S
instance(priority:=2000):Nv (B b cs T::S) b cs T:=⟨.nW⟩
instance[h:Nv S b cs T]:Nv (e::S) b cs T:=⟨.ei h.t⟩
class Nk(u:Array Value)(bj:outParam (Array Value)):Prop where t:u=bj
instance(priority:=100){u:Array Value}:Nk u u:=⟨rfl⟩
instance{a:Int}[h:me a n][Y:sx n 256]:Nk #[.int .u8 a] #[.int .u8 ((UInt8.ofNat n).toNat:Int)]:=⟨by
 have ej:=Y.t;have e8:n<256:=by simpa using ej
 rw[h.t,show(UInt8.ofNat n).toNat=n by simp;omega]⟩
class As(S:List eH)(e o1:eH)(tp:outParam (List eH)):Prop where t:iH e o1 S tp
instance(priority:=2000):As (e::S) e o1 (o1::S):=⟨.nW⟩
instance[h:As S e o1 tp]:As (x::S) e o1 (x::tp):=⟨.ei h.t⟩
class zH(P:Program)(F:List (Nat×Value))(f:te)(w0:World)(S:List eH)(op:Op)(T:TypeId)(v:outParam Value)(tp:outParam (List eH)):Prop where
 t:∀{w:World},U w0 S w->∀{R:Value->World->Prop}{d:Option Tmp}{pos:String}{eO:Array Edge}{eQ:Option (Nat×Bool)},(∀w',U w0 tp w'->R v w') ->J P (oQ F f) ⟨d,op,T,pos,eO,eQ⟩ w R
section
variable{P:Program}{F:List (Nat×Value)}{f:te}{w0:World}{S tp:List eH}{T:TypeId}{x y:Operand}{v:Value}
instance{eb a s c b o:Nat}{cs iA u:Array Value}[nm P eb s][h:oJ F f x (.pointer (some ⟨b,o,none⟩))][Y:oJ F f y v][ej:Nv S b cs a][e8:gW v u][au:Ny u c][iK:fl c s]{bj:Array Value}[tG:Nk u bj][a2:st cs o bj iA][iG:As S (B b cs a) (B b iA a) tp]:zH P F f w0 S (.store eb x y) T undef tp:=
 ⟨λE _ _ _ _ _ h'=>by
  have d:=tG.t;subst d;obtain⟨e,g⟩:=e8.t;obtain⟨j,i⟩:=a2.t;have k:=au.t;have l:=iK.t;subst e;exact iU E h.t Y.t ej.t (by omega) (by omega) g i λw' sr=>h' w' (sr _ iG.t)⟩
end
class LR(ob:Value)(v:outParam Value)(i s o:outParam Nat):Prop where t:m6 (oX v i s) ->ob=rs (oX v i s) o
instance{i:Nat}:LR (oX v i s) v i s 0:=⟨λh=>LN h⟩
instance{i:Nat}:LR (rs (oX v i s) o) v i s o:=⟨λ_=>rfl⟩
class Nj(S:List eH)(v:Value)(eb:outParam TypeId)(α:outParam Type)[i:outParam (O α)](xs:outParam (List α)):Prop where t:tP (V v eb xs) S
instance(priority:=2000)[O α]{xs:List α}:Nj (V v eb xs::S) v eb α xs:=⟨.nW⟩
instance[O α]{xs:List α}[h:Nj S v eb α xs]:Nj (e::S) v eb α xs:=⟨.ei h.t⟩
class Nq{α:Type}(l:List α)(i:Nat)(v:α)(c2:outParam (List α)):Prop where t:i<l.length/\l.set i v=c2
instance{u v:α}{l:List α}:Nq (u::l) 0 v (v::l):=⟨by simp⟩
instance(priority:=100){v:α}{l:List α}{i:Nat}[a:xf l n][h:jC i n]:Nq l i v (l.set i v):=⟨by rw[a.t];exact h.t,rfl⟩
instance{u v:α}{l:List α}{i:Nat}[a:xf l n][h:jC i n]:Nq (l.set i u) i v (l.set i v):=⟨by have:=h.t;have:=a.t;simp;omega⟩
instance{u:α}{l:List α}{i:Nat}[a:xf l n][h:jC i n]:fd (l.set i u) i u:=⟨by rw[List.getElem?_set_self (by rw[a.t];exact h.t)]⟩
instance{x y:Operand}{c:Value}[O α]{xs zs:List α}{z d:α}{eb a e g i:Nat}{u:Array Value}[nm P eb s][h:oJ F f x ob][Y:oJ F f y c][ej:LR ob v i g o][j:fl g (O.eo α)][e8:Nj S v a α xs][au:fd xs i z]
 [a2:gW c u] [iK:Ny u e] [iG:fl e s] {bj:Array Value} [tG:Nk u bj] [sr:st (O.enc z) o bj (O.enc d)] [hh:Nq xs i d zs] [l5:As S (V v a xs) (V v a zs) tp]:zH P F f w0 S (.store eb x y) T undef tp:=
 ⟨λE _ _ _ _ _ h'=>by
  have k:=tG.t;subst k;obtain⟨l,m⟩:=a2.t;obtain⟨n,p⟩:=sr.t;obtain⟨b,q⟩:=hh.t;have A:=iK.t;have B:=iG.t;have r:=j.t;subst l;subst r;have w:xs[i]=z:=by have:=au.t;rw[List.getElem?_eq_getElem b]at this;exact Option.some.inj this
  rw[O.ez]at n;exact xn E e8.t b (by rw[h.t];exact ej.t ((E.eu e8.t).sY b)) Y.t (by omega) (by omega) m (by rw[w];exact p) q λw' sr=>h' w' (sr _ l5.t)⟩
class wS(c:Array Value)(yq:outParam (Array Value)):Prop where t:c=yq
instance(priority:=100):wS c c:=⟨rfl⟩
instance:wS (Array.replicate (n+1) (.int .u8 0)) (O.enc (aO (n+1))):=⟨by rw[iW]⟩
class bq(P:Program)(F:List (Nat×Value))(f:te)(w0:World)(S:List eH)(op:Op)(T:TypeId)(α:outParam Type)(v:outParam (α->Value))(tp:outParam (α->List eH)):Prop where
 t:∀{w:World},U w0 S w->∀{R:Value->World->Prop}{d:Option Tmp}{pos:String}{eO:Array Edge}{eQ:Option (Nat×Bool)},(∀a w',U w0 (tp a) w'->R (v a) w') ->J P (oQ F f) ⟨d,op,T,pos,eO,eQ⟩ w R
section
variable{P:Program}{F:List (Nat×Value)}{f:te}{w0:World}{S:List eH}{T:TypeId}{x:Operand}{v:Value}
instance{eb:TypeId}{c yq:Array Value}[oB P eb (.agg yq)][a:wS yq c]:bq P F f w0 S (.alloc eb) T Nat (λb=>.pointer (some ⟨b,0,none⟩)) (λb=>B b c eb::S):=⟨λE _ _ _ _ _ h'=>sI E λb w' _ h=>h' b w' (by rw[<-a.t];exact h)⟩
instance{eb:TypeId}{z:Value}[oB P eb z][h:gW z #[z]]:bq P F f w0 S (.alloc eb) T Nat (λb=>.pointer (some ⟨b,0,none⟩)) (λb=>B b #[z] eb::S):=⟨λE _ _ _ _ _ h'=>jh E h.t.1 λb w' _ h=>h' b w' h⟩
instance{eb:TypeId}{c:Array Value}[h:oJ F f x (.agg c)]:bq P F f w0 S (.box eb x) T Nat (λb=>.pointer (some ⟨b,0,none⟩)) (λb=>B b c eb::S):=⟨λE _ _ _ _ _ h'=>ba E h.t λb w' _ h=>h' b w' h⟩
instance{eb:TypeId}[h:oJ F f x v][Y:gW v #[v]]:bq P F f w0 S (.box eb x) T Nat (λb=>.pointer (some ⟨b,0,none⟩)) (λb=>B b #[v] eb::S):=⟨λE _ _ _ _ _ h'=>MV E h.t Y.t.1 λb w' _ h=>h' b w' h⟩
end
section
variable[D:lb]
def xm(P:Program)(n:Nat)(c:Code)(Q:Exit->te->World->Prop):Exit->te->World->Prop:=uY (λf w=>ek P n c Q f w) Q
class dO(P:Program)(n:Nat)(ops:Array Oper)(Q:Exit->te->World->Prop)(l:List Oper)(F:List (Nat×Value))(f:te)(w0:World)(S:List eH)(k:Nat)(tD:outParam Prop):Prop where t:tD->∀w,U w0 S w->ts P n ops Q l (oQ F f) w
class lL(P:Program)(n:Nat)(c:Code)(Q:Exit->te->World->Prop)(F:List (Nat×Value))(f:te)(w0:World)(S:List eH)(k:Nat)(tD:outParam Prop):Prop where t:tD->∀w,U w0 S w->ek P n c Q (oQ F f) w
class lJ(Q:Exit->te->World->Prop)(e:Exit)(F:List (Nat×Value))(f:te)(w0:World)(S:List eH)(k:Nat)(tD:outParam Prop):Prop where t:tD->∀w,U w0 S w->Q e (oQ F f) w
variable{P:Program}{n:Nat}{ops:Array Oper}{Q:Exit->te->World->Prop}{l:List Oper}{F:List (Nat×Value)}{f:te}{w0:World}{S tp:List eH}{k:Nat}{tD:Prop}{d:Nat}{op:Op}{T:TypeId}{pos:String}{eO:Array Edge}{v:Value}
instance(priority:=10):dO P n ops Q l F f w0 S 0 (∀w,U w0 S w->ts P n ops Q l (oQ F f) w):=⟨λh=>h⟩
instance(priority:=10){c:Code}:lL P n c Q F f w0 S 0 (∀w,U w0 S w->ek P n c Q (oQ F f) w):=⟨λh=>h⟩
instance(priority:=10){e:Exit}:lJ Q e F f w0 S 0 (∀w,U w0 S w->Q e (oQ F f) w):=⟨λh=>h⟩
instance[h:lJ Q .normal F f w0 S k tD]:dO P n ops Q [] F f w0 S (k+1) tD:=⟨λa w E=>ts.nil (h.t a w E)⟩
instance(priority:=2000)[hd:sx d n][h:nf P F f w0 S op T v][Y:dO P n ops Q l ((d,v)::F) f w0 S k tD]:dO P n ops Q (⟨some d,op,T,pos,eO,none⟩::l) F f w0 S (k+1) tD:=
 ⟨λa w E=>ts.op hd.t (h.t E (Y.t a w E))⟩
instance(priority:=1950){C:Prop}[hd:sx d n][h:An P F f w0 S op T C v]:dO P n ops Q (⟨some d,op,T,pos,eO,none⟩::l) F f w0 S 1 (C/\∀_:C,∀w,U w0 S w->ts P n ops Q l (oQ ((d,v)::F) f) w):=
 ⟨λ⟨a,b⟩ w E=>ts.op hd.t (h.t a E (b a w E))⟩
instance(priority:=1900)[h:zH P F f w0 S op T v tp][Y:dO P n ops Q l F f w0 tp k tD]:dO P n ops Q (⟨none,op,T,pos,eO,none⟩::l) F f w0 S (k+1) tD:=
 ⟨λa w E=>R0 (h.t E λw' b=>Y.t a w' b)⟩
instance(priority:=1800){α:Type}{v:α->Value}{tp:α->List eH}{tD:α->Prop}[hd:sx d n][h:bq P F f w0 S op T α v tp][Y:∀a,dO P n ops Q l ((d,v a)::F) f w0 (tp a) k (tD a)]:dO P n ops Q (⟨some d,op,T,pos,eO,none⟩::l) F f w0 S (k+1) (∀a,tD a):=
 ⟨λb w E=>ts.op hd.t (h.t E λa w' c=>(Y a).t (b a) w' c)⟩
class zL(ops:Array Oper)(g:Nat)(t:outParam Nat):Prop where t:(ops[g]?).bind (·.dst)=some t
instance{l:List Oper}{g t:Nat}{op:Op}{T:TypeId}{pos:String}{eO:Array Edge}{eQ:Option (Nat×Bool)}[h:fd l g ⟨some t,op,T,pos,eO,eQ⟩]:zL l.toArray g t:=⟨by simp[h.t]⟩
instance(priority:=2000){g t:Nat}{od:Bool}[h:zL ops g t][a:sx t n][hb:oJ F f (.tmp t) (.bool od)][Y:dO P n ops Q (⟨some d,op,T,pos,eO,none⟩::l) F f w0 S (k+1) tD]:dO P n ops Q (⟨some d,op,T,pos,eO,some (g,od)⟩::l) F f w0 S (k+1) tD:=
 ⟨λb w E=>dp t h.t a.t hb.t (Y.t b w E)⟩
instance(priority:=1900){g t:Nat}{od b:Bool}[h:zL ops g t][a:sx t n][hd:sx d n][hb:oJ F f (.tmp t) (.bool b)][c:xw od b][Y:dO P n ops Q l ((d,undef)::F) f w0 S k tD]:dO P n ops Q (⟨some d,op,T,pos,eO,some (g,od)⟩::l) F f w0 S (k+1) tD:=
 ⟨λe w E=>MY t h.t a.t hd.t (by have:=hb.t;rw[<-c.t]at this;exact this) (Y.t e w E)⟩
instance(priority:=1800){g t:Nat}{od:Bool}{u:Value}[h:zL ops g t][a:sx t n][hd:sx d n][hb:oJ F f (.tmp t) u][b:fl u undef][Y:dO P n ops Q l ((d,undef)::F) f w0 S k tD]:dO P n ops Q (⟨some d,op,T,pos,eO,some (g,od)⟩::l) F f w0 S (k+1) tD:=
 ⟨λc w E=>MB t h.t a.t hd.t (hb.t.trans b.t) (Y.t c w E)⟩
instance{l:List Oper}{id:Nat}[h:dO P n l.toArray Q l F f w0 S k tD]:lL P n (.region id l.toArray false) Q F f w0 S (k+1) tD:=⟨λa w E=>ek.region (h.t a w E)⟩
instance{si nu:Code}[h:lL P n si (xm P n nu Q) F f w0 S k tD]:lL P n (.seq si nu) Q F f w0 S (k+1) tD:=⟨λa w E=>lB _ (h.t a w E) λ_ _ h=>h⟩
instance{id:Nat}{c:Code}[h:lL P n c (blockQ id Q) F f w0 S k tD]:lL P n (.block id c) Q F f w0 S (k+1) tD:=⟨λa w E=>ek.block (h.t a w E)⟩
instance[h:lJ Q .normal F f w0 S k tD]:lL P n .skip Q F f w0 S (k+1) tD:=⟨λa w E=>ek.skip (h.t a w E)⟩
instance[h:lJ Q .ret F f w0 S k tD]:lL P n .ret Q F f w0 S (k+1) tD:=⟨λa w E=>ek.ret (h.t a w E)⟩
instance{id:Nat}[h:lJ Q (.exit id) F f w0 S k tD]:lL P n (.exit id) Q F f w0 S (k+1) tD:=⟨λa w E=>ek.exit (h.t a w E)⟩
instance{x:Operand}{si nu:Code}[Z:oJ F f x (.bool true)][h:lL P n si Q F f w0 S k tD]:lL P n (.cond x si nu) Q F f w0 S (k+1) tD:=⟨λa w E=>zb Z.t (h.t a w E)⟩
instance{x:Operand}{si nu:Code}[Z:oJ F f x (.bool false)][h:lL P n nu Q F f w0 S k tD]:lL P n (.cond x si nu) Q F f w0 S (k+1) tD:=⟨λa w E=>vH Z.t (h.t a w E)⟩
instance{c:Code}[h:lL P n c Q F f w0 S k tD]:lJ (xm P n c Q) .normal F f w0 S (k+1) tD:=⟨λa w E=>h.t a w E⟩
instance{c:Code}[h:lJ Q .ret F f w0 S k tD]:lJ (xm P n c Q) .ret F f w0 S (k+1) tD:=⟨λa w E=>h.t a w E⟩
instance{c:Code}{i:Nat}[h:lJ Q (.exit i) F f w0 S k tD]:lJ (xm P n c Q) (.exit i) F f w0 S (k+1) tD:=⟨λa w E=>h.t a w E⟩
instance{i:Nat}[h:lJ Q .normal F f w0 S k tD]:lJ (blockQ i Q) .normal F f w0 S (k+1) tD:=⟨λa w E=>h.t a w E⟩
instance{i:Nat}[h:lJ Q .ret F f w0 S k tD]:lJ (blockQ i Q) .ret F f w0 S (k+1) tD:=⟨λa w E=>h.t a w E⟩
instance{i:Nat}[h:lJ Q .normal F f w0 S k tD]:lJ (blockQ i Q) (.exit i) F f w0 S (k+1) tD:=⟨λa w E=>ya (h.t a w E)⟩
instance{i j:Nat}[ew:u9 (Nat.beq j i) false][h:lJ Q (.exit j) F f w0 S k tD]:lJ (blockQ i Q) (.exit j) F f w0 S (k+1) tD:=⟨λa w E=>Hl ew.t (h.t a w E)⟩
instance(priority:=100){K:te->World->Prop}:lJ (uY K Q) .normal F f w0 S 1 (∀w,U w0 S w->K (oQ F f) w):=⟨λa w E=>a w E⟩
instance{c:Code}{m:Nat}{a:Exit->te->World->Prop}[h:lL P n c (uY (oc P n c Q m) Q) F f w0 S k tD]:lJ (uY (oc P n c Q (m+1)) a) .normal F f w0 S (k+2) tD:=⟨λb w E=>oc.step (h.t b w E)⟩
instance{K:te->World->Prop}[h:lJ Q .ret F f w0 S k tD]:lJ (uY K Q) .ret F f w0 S (k+1) tD:=⟨λa w E=>h.t a w E⟩
instance{K:te->World->Prop}{i:Nat}[h:lJ Q (.exit i) F f w0 S k tD]:lJ (uY K Q) (.exit i) F f w0 S (k+1) tD:=⟨λa w E=>h.t a w E⟩
class jP(P:Program)(F:List (Nat×Value))(f:te)(w0:World)(S:List eH)(aw:List ResultVar)(vs:outParam (List Value)):Prop where t:∀{w:World},U w0 S w->hY P (oQ F f) w aw vs
instance:jP P F f w0 S [] []:=⟨λ_=>.nil⟩
instance{t:Nat}{aw:List ResultVar}{vs:List Value}[h:oJ F f (.tmp t) v][Y:jP P F f w0 S aw vs]:jP P F f w0 S (.tmp t::aw) (v::vs):=⟨λE=>.w9 h.t (Y.t E)⟩
instance{t eb:Nat}{ob:Value}{aw:List ResultVar}{vs:List Value}[h:oJ F f (.tmp t) ob][ej:Nf P w0 S eb ob v][Y:jP P F f w0 S aw vs]:jP P F f w0 S (.cell t eb::aw) (v::vs):=⟨λE=>.cell (by have:=h.t;rw[show eD (oQ F f) (.tmp t)=oQ F f t from rfl]at this;rw[this];exact ej.t E) (Y.t E)⟩
class Ar(vs:List Value)(v:outParam Value):Prop where t:uB vs=v
instance:Ar [v] v:=⟨rfl⟩
instance:Ar [] (.tuple #[]):=⟨rfl⟩
instance{u:Value}{vs:List Value}:Ar (u::v::vs) (.tuple (u::v::vs).toArray):=⟨rfl⟩
instance{aw:List ResultVar}{R:Value->World->Prop}{vs:List Value}[h:jP P F f w0 S aw vs][Y:Ar vs v]:lJ (x9 P aw R) .ret F f w0 S 1 (∀w,U w0 S w->R v w):=⟨λa w E=>cJ (h.t E) (by rw[Y.t];exact a w E)⟩
instance{aw:List ResultVar}{R:Value->World->Prop}{vs:List Value}[h:jP P F f w0 S aw vs][Y:Ar vs v]:lJ (x9 P aw R) .normal F f w0 S 1 (∀w,U w0 S w->R v w):=⟨λa w E=>Xo (h.t E) (by rw[Y.t];exact a w E)⟩
theorem ey{w:World}{f g:te}(k:Nat)(E:U w0 S w)[a:he f F g][h:dO P n ops Q l F g w0 S k tD](b:tD):ts P n ops Q l f w:=by rw[a.t];exact h.t b w E
theorem eA{w:World}{f g:te}{c:Code}(k:Nat)(E:U w0 S w)[a:he f F g][h:lL P n c Q F g w0 S k tD](b:tD):ek P n c Q f w:=by rw[a.t];exact h.t b w E
theorem s6{w:World}{f g:te}{e:Exit}(k:Nat)(E:U w0 S w)[a:he f F g][h:lJ Q e F g w0 S k tD](b:tD):Q e f w:=by rw[a.t];exact h.t b w E
end
class vC(K S:List eH):Prop where t:K.Sublist S
instance(priority:=2000):vC S S:=⟨List.Sublist.refl S⟩
instance(priority:=1900):vC [] S:=⟨List.nil_sublist S⟩
instance(priority:=1800)[h:vC K S]:vC (e::K) (e::S):=⟨h.t.cons₂ e⟩
instance[h:vC K S]:vC K (e::S):=⟨h.t.cons e⟩
theorem pp[h:vC K S](E:U w0 S w):U w0 K w:=E.sub h.t
class Nz(e:eH)(S:List eH)(tp:outParam (List eH)):Prop where t:S.Perm (e::tp)
instance(priority:=2000):Nz e (e::S) S:=⟨List.Perm.refl _⟩
instance[h:Nz e S tp]:Nz e (x::S) (x::tp):=⟨(h.t.cons x).trans (List.Perm.swap e x tp)⟩
class Ah(K S:List eH):Prop where t:∃R:List eH,S.Perm (K++R)
instance(priority:=10)[h:vC K S]:Ah K S:=⟨by
 obtain⟨R,a⟩:=h.t.exists_perm_append;exact⟨R,a⟩⟩
instance[h:Nz e S tp][Y:Ah K tp]:Ah (e::K) S:=⟨by
 obtain⟨R,a⟩:=Y.t;exact⟨R,h.t.trans (a.cons e)⟩⟩
theorem ig[h:Ah K S](E:U w0 S w):U w0 K w:=by
 obtain⟨R,a⟩:=h.t;exact(E.hK a).sub (List.sublist_append_left K R)
class vU(K S:List eH):Prop where t:∀{w0 w:World},U w0 S w->U w0 K w
instance(priority:=2000)[h:vC K S]:vU K S:=⟨λE=>E.sub h.t⟩
instance(priority:=100)[h:Ah K S]:vU K S:=⟨λE=>ig E⟩
class cN(ops:Array Oper)(i:Nat)(o:outParam Oper):Prop where t:ops[i]? =some o
instance{l:List Oper}{i:Nat}{o:Oper}[h:fd l i o]:cN l.toArray i o:=⟨by simpa using h.t⟩
class c7(op:Op):Prop where t:Op.looks op=true
section
variable{x y z:Operand}{s t:TypeId}{i:Nat}
instance:c7 (.move x):=⟨rfl⟩
instance:c7 (.assign x):=⟨rfl⟩
instance:c7 (.pick x y z):=⟨rfl⟩
instance:c7 (.load t x):=⟨rfl⟩
instance{op:BinOp}:c7 (.binOp op s x y t):=⟨rfl⟩
instance{op:UnOp}:c7 (.unOp op s x):=⟨rfl⟩
instance:c7 (.convert s t x):=⟨rfl⟩
instance:c7 (.fieldAddr t x i):=⟨rfl⟩
instance:c7 (.indexAddr t x y):=⟨rfl⟩
instance:c7 (.extract x i):=⟨rfl⟩
instance:c7 (.nilCheck x):=⟨rfl⟩
instance:c7 (.makeInterface t x):=⟨rfl⟩
instance{nI:Array TypeId}:c7 (.call {callee:=.builtin .len,args:=#[x],argTypes:=nI}):=⟨rfl⟩
end
section
variable[D:lb]
class lD(P:Program)(n:Nat)(ops:Array Oper)(e9:Nat)(ii:List eH)(Q:Exit->te->World->Prop)(r:sF)(F:List (Nat×Value))(f:te)(w0:World)(S:List eH)(k:Nat)(tD:outParam Prop):Prop where t:tD->∀w,U w0 S w->e2 P n ops e9 (U w0 ii) Q r (oQ F f) w
variable{P:Program}{n e9:Nat}{ops:Array Oper}{ii:List eH}{Q:Exit->te->World->Prop}{r:sF}{F:List (Nat×Value)}{f:te}{w0:World}{S tp:List eH}{k i:Nat}{tD:Prop}{d:Nat}{op:Op}{T:TypeId}{pos:String}{eO:Array Edge}{v:Value}
instance(priority:=10):lD P n ops e9 ii Q r F f w0 S 0 (∀w,U w0 S w->e2 P n ops e9 (U w0 ii) Q r (oQ F f) w):=⟨λh=>h⟩
instance[h:lJ Q .normal F f w0 S k tD]:lD P n ops e9 ii Q .nil F f w0 S (k+1) tD:=⟨λa w E=>e2.nil (h.t a w E)⟩
instance(priority:=2000)[ew:cN ops i ⟨some d,op,T,pos,eO,none⟩][eB:c7 op][hd:sx d n][h:nf P F f w0 ii op T v][Y:lD P n ops e9 ii Q r ((d,v)::F) f w0 S k tD]:lD P n ops e9 ii Q (.look i r) F f w0 S (k+1) tD:=
 ⟨λa w E=>e2.look ew.t eB.t hd.t (λw' b=>h.t b ⟨rfl,rfl⟩) (Y.t a w E)⟩
instance(priority:=2000){g t:Nat}{od:Bool}[ew:cN ops i ⟨some d,op,T,pos,eO,some (g,od)⟩][eB:c7 op][hd:sx d n][a:zL ops g t][b:sx t n][hb:oJ F f (.tmp t) (.bool od)][h:nf P F f w0 ii op T v][Y:lD P n ops e9 ii Q r ((d,v)::F) f w0 S k tD]:lD P n ops e9 ii Q (.look i r) F f w0 S (k+1) tD:=
 ⟨λc w E=>cE t ew.t eB.t hd.t a.t b.t hb.t (λw' e=>h.t e ⟨rfl,rfl⟩) (Y.t c w E)⟩
instance(priority:=2000)[ew:cN ops i ⟨some d,op,T,pos,eO,none⟩][hd:sx d n][a:sx i e9][h:nf P F f w0 S op T v][b:vU ii S][Y:lD P n ops e9 ii Q r ((d,v)::F) f w0 S k tD]:lD P n ops e9 ii Q (.one i r) F f w0 S (k+1) tD:=
 ⟨λc w E=>e2.one ew.t hd.t a.t (h.t E ⟨b.t E,Y.t c w E⟩)⟩
instance(priority:=1900)[ew:cN ops i ⟨none,op,T,pos,eO,none⟩][b:sx i e9][h:zH P F f w0 S op T v tp][c:vU ii tp][Y:lD P n ops e9 ii Q r F f w0 tp k tD]:lD P n ops e9 ii Q (.one i r) F f w0 S (k+1) tD:=
 ⟨λd w E=>n8 ew.t b.t (h.t E λw' a=>⟨c.t a,Y.t d w' a⟩)⟩
instance(priority:=1800){α:Type}{v:α->Value}{tp:α->List eH}[ew:cN ops i ⟨some d,op,T,pos,eO,none⟩][hd:sx d n][c:sx i e9][h:bq P F f w0 S op T α v tp][e:∀a,vU ii (tp a)]{tD:α->Prop}[Y:∀a,lD P n ops e9 ii Q r ((d,v a)::F) f w0 (tp a) k (tD a)]:lD P n ops e9 ii Q (.one i r) F f w0 S (k+1) (∀a,tD a):=
 ⟨λg w E=>e2.one ew.t hd.t c.t (h.t E λa w' b=>⟨(e a).t b,(Y a).t (g a) w' b⟩)⟩
instance(priority:=1950){C:Prop}[ew:cN ops i ⟨some d,op,T,pos,eO,none⟩][eB:c7 op][hd:sx d n][h:An P F f w0 ii op T C v]:lD P n ops e9 ii Q (.look i r) F f w0 S 1 (C/\∀_:C,∀w,U w0 S w->e2 P n ops e9 (U w0 ii) Q r (oQ ((d,v)::F) f) w):=
 ⟨λ⟨a,b⟩ w E=>e2.look ew.t eB.t hd.t (λw' c=>h.t a c ⟨rfl,rfl⟩) (b a w E)⟩
instance(priority:=1950){C:Prop}[ew:cN ops i ⟨some d,op,T,pos,eO,none⟩][hd:sx d n][b:sx i e9][h:An P F f w0 S op T C v][c:vU ii S]:lD P n ops e9 ii Q (.one i r) F f w0 S 1 (C/\∀_:C,∀w,U w0 S w->e2 P n ops e9 (U w0 ii) Q r (oQ ((d,v)::F) f) w):=
 ⟨λ⟨a,e⟩ w E=>e2.one ew.t hd.t b.t (h.t a E ⟨c.t E,e a w E⟩)⟩
class vM(r:sF):Prop where t:kU r=true
instance:vM .nil:=⟨rfl⟩
instance{i:Nat}[h:vM r]:vM (.one i r):=⟨h.t⟩
instance(priority:=2000)[ew:cN ops i ⟨some d,op,T,pos,eO,none⟩][hd:sx d n][a:gP e9 i][e1:vM r][h:nf P F f w0 S op T v][Y:lD P n ops e9 ii Q r ((d,v)::F) f w0 S k tD]:lD P n ops e9 ii Q (.one i r) F f w0 S (k+1) tD:=
 ⟨λb w E=>Tz ew.t hd.t a.t e1.t (h.t E (Y.t b w E))⟩
instance(priority:=1900)[ew:cN ops i ⟨none,op,T,pos,eO,none⟩][a:gP e9 i][e1:vM r][h:zH P F f w0 S op T v tp][Y:lD P n ops e9 ii Q r F f w0 tp k tD]:lD P n ops e9 ii Q (.one i r) F f w0 S (k+1) tD:=
 ⟨λb w E=>Fa ew.t a.t e1.t (h.t E λw' c=>Y.t b w' c)⟩
theorem Zs{C:Prop}{w:World}{f g:te}(E:U w0 S w)[b:he f F g][ew:cN ops i ⟨some d,op,T,pos,eO,none⟩][hd:sx d n][c:gP e9 i][e1:vM r][h:An P F g w0 S op T C v](a:C)(e:∀a:C,e2 P n ops e9 (U w0 ii) Q r (o7 f d v) w):e2 P n ops e9 (U w0 ii) Q (.one i r) f w:=by
 have:=b.t;subst this;exact Tz ew.t hd.t c.t e1.t (h.t a E (e a))
theorem t7{w:World}{f g:te}(k:Nat)(E:U w0 S w)[a:he f F g][h:lD P n ops e9 ii Q r F g w0 S k tD](b:tD):e2 P n ops e9 (U w0 ii) Q r f w:=by rw[a.t];exact h.t b w E
theorem t1{w:World}{f g:te}{l:List Oper}(E:U w0 S w)[a:he f F g][hd:sx d n][h:nf P F g w0 S op T v](b:ts P n ops Q l (o7 f d v) w):ts P n ops Q (⟨some d,op,T,pos,eO,none⟩::l) f w:=by
 have:=a.t;subst this;exact ts.op hd.t (h.t E b)
theorem t2{w:World}{f g:te}{l:List Oper}(E:U w0 S w)[a:he f F g][h:zH P F g w0 S op T v tp](b:∀w,U w0 tp w->ts P n ops Q l f w):ts P n ops Q (⟨none,op,T,pos,eO,none⟩::l) f w:=by
 have:=a.t;subst this;exact R0 (h.t E b)
theorem t3{w:World}{f g:te}{l:List Oper}{α:Type}{v:α->Value}{tp:α->List eH}(E:U w0 S w)[b:he f F g][hd:sx d n][h:bq P F g w0 S op T α v tp](c:∀a w,U w0 (tp a) w->ts P n ops Q l (o7 f d (v a)) w):ts P n ops Q (⟨some d,op,T,pos,eO,none⟩::l) f w:=by
 have:=b.t;subst this;exact ts.op hd.t (h.t E c)
theorem Tp{w:World}{f g:te}[a:he f F g][ew:cN ops i ⟨some d,op,T,pos,eO,none⟩][eB:c7 op][hd:sx d n][h:nf P F g w0 ii op T v](b:e2 P n ops e9 (U w0 ii) Q r (o7 f d v) w):e2 P n ops e9 (U w0 ii) Q (.look i r) f w:=by
 have:=a.t;subst this;exact e2.look ew.t eB.t hd.t (λw' c=>h.t c ⟨rfl,rfl⟩) b
theorem Al{w:World}{f g:te}(E:U w0 S w)[a:he f F g][ew:cN ops i ⟨some d,op,T,pos,eO,none⟩][hd:sx d n][b:sx i e9][h:nf P F g w0 S op T v][c:vU ii S](e:e2 P n ops e9 (U w0 ii) Q r (o7 f d v) w):e2 P n ops e9 (U w0 ii) Q (.one i r) f w:=by
 have:=a.t;subst this;exact e2.one ew.t hd.t b.t (h.t E ⟨c.t E,e⟩)
theorem Zr{w:World}{f g:te}(E:U w0 S w)[a:he f F g][ew:cN ops i ⟨some d,op,T,pos,eO,none⟩][hd:sx d n][b:gP e9 i][e1:vM r][h:nf P F g w0 S op T v](c:e2 P n ops e9 (U w0 ii) Q r (o7 f d v) w):e2 P n ops e9 (U w0 ii) Q (.one i r) f w:=by
 have:=a.t;subst this;exact Tz ew.t hd.t b.t e1.t (h.t E c)
class xb(m:List Nat)(i:Nat)(S:List eH)(K:outParam (List eH)):Prop where t:K.Sublist S
instance{i:Nat}{S:List eH}:xb [] i S S:=⟨List.Sublist.refl S⟩
instance(priority:=2000){i:Nat}{m:List Nat}{e:eH}{S K:List eH}[h:xb m (i+1) S K]:xb (i::m) i (e::S) K:=⟨h.t.cons e⟩
instance{i j:Nat}{m:List Nat}{e:eH}{S K:List eH}[a:u9 (Nat.beq j i) false][h:xb (j::m) (i+1) S K]:xb (j::m) i (e::S) (e::K):=⟨h.t.cons₂ e⟩
theorem nC[e5:vx P]{id:Nat}{l:List Oper}{w:World}{f g:te}(k e9:Nat)(r:sF)(m:List Nat)(E:U w0 S w)[hd:xb m 0 S ii][e:he f F g][h:lD P n l.toArray e9 ii Q r F g w0 S k tD](Y:tD)
 (b:(Region.noSelect l.toArray&&bn l.toArray e9&&dg l.toArray e9 (Array.replicate l.toArray.size false) r&&decide (lK r=l.length))=true:=by kernel_rfl)
 (d:∀(c:List PanicEntry) f w,¬Q (.panic c) f w:=by exactλ_ _ _ h=>h):ek P n (.region id l.toArray true) Q f w:=
 vj e9 r b d λaB a=>⟨U w0 ii,(E.es a).sub hd.t,t7 k (E.es a) Y⟩
end
class NE(sl S:List eH)(tp:outParam (List eH)):Prop where t:sl++S=tp
instance:NE [] S S:=⟨rfl⟩
instance{sl:List eH}[h:NE sl S tp]:NE (e::sl) S (e::tp):=⟨by rw[List.cons_append,h.t]⟩
class Ad(a b:List Value)(c:outParam (List Value)):Prop where t:a++b=c
instance{b:List Value}:Ad [] b b:=⟨rfl⟩
instance{a b c:List Value}[h:Ad a b c]:Ad (v::a) b (v::c):=⟨by rw[List.cons_append,h.t]⟩
section
variable[D:lb]
inductive zD where
 |LH (P:Program) (n:Nat) (ops:Array Oper) (Q:Exit->te->World->Prop) (l:List Oper) (d:Nat) (F:List (Nat×Value)) (f:te) (k:Nat)
 |LL (P:Program) (n:Nat) (ops:Array Oper) (e9:Nat) (w0:World) (ii:List eH) (Q:Exit->te->World->Prop) (r:sF) (d:Nat) (F:List (Nat×Value)) (f:te) (k:Nat)
 |mp (P:Program) (n:Nat) (ops:Array Oper) (e9:Nat) (w0:World) (ii:List eH) (Q:Exit->te->World->Prop) (r:sF) (d:Nat) (F:List (Nat×Value)) (f:te) (k:Nat)
def zD.ok:zD->Value->World->Prop
 | .LH P n ops Q l d F f _,v,w=>ts P n ops Q l (o7 (oQ F f) d v) w
 | .LL P n ops e9 w0 ii Q r d F f _,v,w=>U w0 ii w/\e2 P n ops e9 (U w0 ii) Q r (o7 (oQ F f) d v) w
 | .mp P n ops e9 w0 ii Q r d F f _,v,w=>e2 P n ops e9 (U w0 ii) Q r (o7 (oQ F f) d v) w
class zC(c:zD)(v:Value)(w0:World)(S:List eH)(tD:outParam Prop):Prop where t:tD->∀w,U w0 S w->c.ok v w
variable{P:Program}{n e9:Nat}{ops:Array Oper}{ii:List eH}{Q:Exit->te->World->Prop}{l:List Oper}{r:sF}{F:List (Nat×Value)}{f g:te}{w w0:World}{S tp sl:List eH}{k i d:Nat}{tD:Prop}{op:Op}{T:TypeId}{pos:String}{eO:Array Edge}{eQ:Option (Nat×Bool)}{v:Value}
instance[h:dO P n ops Q l ((d,v)::F) f w0 S k tD]:zC (.LH P n ops Q l d F f k) v w0 S tD:=⟨λa w E=>h.t a w E⟩
instance[a:vU ii S][h:lD P n ops e9 ii Q r ((d,v)::F) f w0 S k tD]:zC (.LL P n ops e9 w0 ii Q r d F f k) v w0 S tD:=⟨λb w E=>⟨a.t E,h.t b w E⟩⟩
instance[h:lD P n ops e9 ii Q r ((d,v)::F) f w0 S k tD]:zC (.mp P n ops e9 w0 ii Q r d F f k) v w0 S tD:=⟨λa w E=>h.t a w E⟩
class zU(R:Value->World->Prop)(w w0:World)(S:List eH)(c:zD)(tD:outParam Prop):Prop where t:tD->U w0 S w->∀u w',R u w'->c.ok u w'
class zM(R:World->Prop)(v:Value)(w w0:World)(S:List eH)(c:zD)(tD:outParam Prop):Prop where t:tD->U w0 S w->∀w',R w'->c.ok v w'
variable{c:zD}
instance{α:Sort _}{R:α->Value->World->Prop}{tD:α->Prop}[h:∀a,zU (R a) w w0 S c (tD a)]:zU (λu w'=>∃a,R a u w') w w0 S c (∀a,tD a):=⟨λb E u w'⟨a,h'⟩=>(h a).t (b a) E u w' h'⟩
instance{R:World->Prop}[h:zM R v w w0 S c tD]:zU (λu w'=>u=v/\R w') w w0 S c tD:=⟨λa E u w'⟨G,Y⟩=>by subst G;exact h.t a E w' Y⟩
instance[h:zC c v w0 S tD]:zM (λw'=>eV w w') v w w0 S c tD:=⟨λa E w' h'=>h.t a w' (E.es h')⟩
instance[ep:NE sl S tp][h:zC c v w0 tp tD]:zM (λw'=>U w sl w') v w w0 S c tD:=⟨λa E w' h'=>h.t a w' (by rw[<-ep.t];exact E.jd h')⟩
instance(priority:=2000)[h:zC c v w0 tp tD]:zM (λw'=>U w0 tp w') v w w0 S c tD:=⟨λa _ w' h'=>h.t a w' h'⟩
instance{p:Prop}{R:World->Prop}[h:zM R v w w0 S c tD]:zM (λw'=>p/\R w') v w w0 S c (p->tD):=⟨λa E w'⟨G,Y⟩=>h.t (a G) E w' Y⟩
class jG(P:Program)(F:List (Nat×Value))(f:te)(op:Op)(g:outParam FuncId)(vs:outParam (List Value)):Prop where
 t:∀{w:World}{R R':Value->World->Prop}{d:Option Tmp}{T:TypeId}{pos:String}{eO:Array Edge}{eQ:Option (Nat×Bool)},nr P g vs.toArray w R'->(∀v w',R' v w'->R v w') ->J P (oQ F f) ⟨d,op,T,pos,eO,eQ⟩ w R
instance{g:FuncId}{args:List Operand}{nI:Array TypeId}{vs:List Value}[lS P g][h:vD F f args vs]:jG P F f (.call {callee:=.value (.func g),args:=args.toArray,argTypes:=nI}) g vs:=⟨λa h'=>J.call a (by simpa using h.t) h'⟩
instance{g:FuncId}{x:Operand}{args:List Operand}{nI:Array TypeId}{vs cs us:List Value}[lS P g][Z:oJ F f x (.func (.func g) #[] cs.toArray)][h:vD F f args vs][ep:Ad vs cs us]:jG P F f (.call {callee:=.value x,args:=args.toArray,argTypes:=nI}) g us:=⟨λa h'=>Pc Z.t (by rw[ep.t];exact a) (by simpa using h.t) h'⟩
instance{g:FuncId}{x:Operand}{args:List Operand}{nI:Array TypeId}{vs nk us:List Value}[lS P g][Z:oJ F f x (.func (.func g) nk.toArray #[])][h:vD F f args vs][ep:Ad nk vs us]:jG P F f (.call {callee:=.value x,args:=args.toArray,argTypes:=nI}) g us:=⟨λa h'=>QI Z.t (by rw[ep.t];exact a) (by simpa using h.t) h'⟩
instance{g:FuncId}{x:Operand}{t:TypeId}{name:String}{args:List Operand}{nI:Array TypeId}{vs:List Value}{z:Value}[zk P t name g][lS P g][Z:oJ F f x (.iface t z)][h:vD F f args vs]:jG P F f (.call {callee:=.invoke x name,args:=args.toArray,argTypes:=nI}) g (z::vs):=⟨λa h'=>QE Z.t a (by simpa using h.t) h'⟩
class vF(n:Nat)(ops:Array Oper)(F:List (Nat×Value))(f:te)(eQ:Option (Nat×Bool)):Prop where t:eQ=none∨∃g t od,eQ=some (g,od)/\(ops[g]?).bind (·.dst)=some t/\Nat.blt t n=true/\oQ F f t= .bool od
instance:vF n ops F f none:=⟨.inl rfl⟩
instance{g t:Nat}{od:Bool}[h:zL ops g t][a:sx t n][hb:oJ F f (.tmp t) (.bool od)]:vF n ops F f (some (g,od)):=⟨.inr ⟨g,t,od,rfl,h.t,a.t,hb.t⟩⟩
theorem ev{a:FuncId}{vs:List Value}{R:Value->World->Prop}(k:Nat)(E:U w0 S w)[b:he f F g][hd:sx d n][e1:vF n ops F g eQ][c:jG P F g op a vs](e:nr P a vs.toArray w R)[h:zU R w w0 S (.LH P n ops Q l d F g k) tD](j:tD):ts P n ops Q (⟨some d,op,T,pos,eO,eQ⟩::l) f w:=by
 have:=b.t;subst this;have key:ts P n ops Q (⟨some d,op,T,pos,eO,none⟩::l) (oQ F g) w:=ts.op hd.t (c.t e λu w' h'=>h.t j E u w' h');rcases e1.t with rfl|⟨i,t,od,rfl,G,Y,ej⟩
 .exact key
 exact dp t G Y ej key
theorem o0{a:FuncId}{vs:List Value}{R:Value->World->Prop}(k:Nat)(E:U w0 S w)[c:he f F g][ew:cN ops i ⟨some d,op,T,pos,eO,eQ⟩][hd:sx d n][b:sx i e9][e1:vF n ops F g eQ][e:jG P F g op a vs](l:nr P a vs.toArray w R)[h:zU R w w0 S (.LL P n ops e9 w0 ii Q r d F g k) tD](m:tD):e2 P n ops e9 (U w0 ii) Q (.one i r) f w:=by
 have:=c.t;subst this;have key:J P (oQ F g) ⟨some d,op,T,pos,eO,none⟩ w λv w'=>U w0 ii w'/\e2 P n ops e9 (U w0 ii) Q r (o7 (oQ F g) d v) w':=e.t l λu w' h'=>h.t m E u w' h';have ew:=ew.t;rcases e1.t with rfl|⟨j,t,od,rfl,G,Y,ej⟩
 .exact e2.one ew hd.t b.t key
 exact Ft t ew hd.t G Y ej b.t key
theorem c8{a:FuncId}{vs:List Value}{R:Value->World->Prop}(k:Nat)(E:U w0 S w)[b:he f F g][ew:cN ops i ⟨some d,op,T,pos,eO,none⟩][hd:sx d n][c:gP e9 i][e1:vM r][e:jG P F g op a vs](j:nr P a vs.toArray w R)[h:zU R w w0 S (.mp P n ops e9 w0 ii Q r d F g k) tD](l:tD):e2 P n ops e9 (U w0 ii) Q (.one i r) f w:=by
 have:=b.t;subst this;exact Tz ew.t hd.t c.t e1.t (e.t j λu w' h'=>h.t l E u w' h')
theorem eN{a:FuncId}{fn:Func}{b:Code}{args:List Value}{aw:List ResultVar}{R:Value->World->Prop}(k:Nat)(E:U w0 S w)(c:P.funcs[a]? =some fn)(d:fn.ntmps=n)(hr:fn.results=aw.toArray)(hb:fn.body=some b)[f:he (mv args) F g]
 [h:lL (D:=vl) P n b (x9 P aw R) F g w0 S k tD] (e:tD) (ep:Nat.ble args.length n=true:=by rfl):nr P a args.toArray w R:=
 nr.enter c hb d hr ep (eA (D:=vl) k E e)
class fM(b:Bool)(p q:outParam Prop):Prop where t:(b=true->p)/\(b=false->q)
instance(priority:=10){b:Bool}:fM b (b=true) (b=false):=⟨id,id⟩
instance(priority:=100){p:Prop}[Decidable p]:fM (decide p) p (¬p):=⟨of_decide_eq_true,of_decide_eq_false⟩
instance{a b:Int}:fM (decide (a<b)) (a<b) (b<=a):=⟨of_decide_eq_true,λh=>Int.not_lt.1 (of_decide_eq_false h)⟩
instance{a b:Int}:fM (decide (a<=b)) (a<=b) (b<a):=⟨of_decide_eq_true,λh=>Int.not_le.1 (of_decide_eq_false h)⟩
instance{b:Bool}{p q:Prop}[h:fM b p q]:fM (!b) q p:=⟨λe=>h.t.2 (by simpa using e),λe=>h.t.1 (by simpa using e)⟩
instance{a b:Bool}{p q c d:Prop}[h:fM a p q][Y:fM b c d]:fM (a&&b) (p/\c) (q∨d):=⟨λe=>by simp at e;exact⟨h.t.1 e.1,Y.t.1 e.2⟩,λe=>by
 cases a with
 |true=>exact .inr (Y.t.2 (by simpa using e))
 |false=>exact .inl (h.t.2 rfl)⟩
instance{a b:Bool}{p q c d:Prop}[h:fM a p q][Y:fM b c d]:fM (a||b) (p∨c) (q/\d):=⟨λe=>by
 cases a with
 |true=>exact .inl (h.t.1 rfl)
 |false=>exact .inr (Y.t.1 (by simpa using e)),λe=>by simp at e;exact⟨h.t.2 e.1,Y.t.2 e.2⟩⟩
theorem wR{x:Operand}{si nu:Code}{b:Bool}{p q a c:Prop}(d h:Nat)(E:U w0 S w)[i:he f F g][Z:oJ F g x (.bool b)][hb:fM b p q][tj:lL P n si Q F g w0 S d a][tZ:lL P n nu Q F g w0 S h c](G:p->a)(Y:q->c):ek P n (.cond x si nu) Q f w:=by
 rw[i.t];exact ek.cond b Z.t (λe=>tj.t (G (hb.t.1 e)) w E) (λe=>tZ.t (Y (hb.t.2 e)) w E)
theorem NT{x:Operand}{si nu:Code}{b:Bool}{p q a c:Prop}(d h:Nat)(E:U w0 S w)[i:he f F g][Z:oJ F g x (.bool b)][hb:fM b p q][tj:lL P n si Q F g w0 S d a][tZ:lL P n nu Q F g w0 S h c](G:b=true->p->a)(Y:b=false->q->c):ek P n (.cond x si nu) Q f w:=by
 rw[i.t];exact ek.cond b Z.t (λe=>tj.t (G e (hb.t.1 e)) w E) (λe=>tZ.t (Y e (hb.t.2 e)) w E)
end
theorem en(h:p:=by first|exact .em|exact .G|exact .Y|exact .ej|exact .e8|exact .au|exact .a2|exact .iK|exact .iG|exact .sr|exact .hh|exact .l5|exact .uV|exact .mx|exact .az):p:=h
theorem aj(h:p:=by first|omega|(simp;done)|(simp;omega)):p:=h
theorem wH(h:p:=by rw[O.ez];exact Nat.le_of_ble_eq_true rfl):p:=h
theorem sX:(∀(p:Prop)[Decidable p],(decide p=true)=p)/\(∀(p:Prop)[Decidable p],(decide p=false)=¬p)/\(∀a b:Bool,((a&&b)=true)=(a=true/\b=true))/\(∀a b:Bool,((a||b)=true)=(a=true∨b=true))/\(∀a b:Bool,((a&&b)=false)=(a=false∨b=false))/\(∀a b:Bool,((a||b)=false)=(a=false/\b=false))/\(∀a:Bool,((!a)=true)=(a=false))/\(∀a:Bool,((!a)=false)=(a=true))/\(∀a b:Int,(¬a<b)=(b<=a))/\(∀a b:Int,(¬a<=b)=(b<a)):=
 ⟨λp _=>decide_eq_true_eq,λp _=>propext decide_eq_false_iff_not,λa b=>Bool.and_eq_true a b,λa b=>Bool.or_eq_true a b,λa b=>propext Bool.and_eq_false_iff,λa b=>propext Bool.or_eq_false_iff,λa=>Bool.not_eq_true' a,λa=>Bool.not_eq_false' a,λa b=>propext Int.not_lt,λa b=>propext Int.not_le⟩
@[reducible] noncomputable def eX(l:List Nat)(r:sF):sF:=List.rec (motive:=λ_=>sF) r (λi _ h=>.look i h) l
@[reducible] noncomputable def oA(l:List Nat)(r:sF):sF:=List.rec (motive:=λ_=>sF) r (λi _ h=>.one i h) l
theorem tN(m:List Nat)[h:xb m 0 S K](E:U w0 S w):U w0 K w:=E.sub h.t
class NA(n:Nat)(S:List eH)(e:outParam eH):Prop where t:tP e S
instance:NA 0 (e::S) e:=⟨.nW⟩
instance[h:NA n S e]:NA (n+1) (x::S) e:=⟨.ei h.t⟩
theorem tP.i(n:Nat)[h:NA n S e]:tP e S:=h.t
class NO(n:Nat)(e o1:eH)(S:List eH)(tp:outParam (List eH)):Prop where t:iH e o1 S tp
instance:NO 0 e o1 (e::S) (o1::S):=⟨.nW⟩
instance[h:NO n e o1 S tp]:NO (n+1) e o1 (x::S) (x::tp):=⟨.ei h.t⟩
theorem iH.i(n:Nat)[h:NO n e o1 S tp]:iH e o1 S tp:=h.t
class Au(n:Nat)(S:List eH)(e:outParam eH)(tp:outParam (List eH)):Prop where t:rX e S tp
instance:Au 0 (e::S) e S:=⟨.nW⟩
instance[h:Au n S e tp]:Au (n+1) (x::S) e (x::tp):=⟨.ei h.t⟩
class NI(l:List Nat)(S:List eH)(tp:outParam (List eH)):Prop where t:∀{w0 w:World},U w0 S w->U w0 tp w
instance:NI [] S S:=⟨id⟩
instance{i:Nat}{l:List Nat}[h:Au i S e tp][Y:NI l (e::tp) K]:NI (i::l) S K:=⟨λE=>Y.t (E.pick h.t)⟩
theorem Pi(l:List Nat)[h:NI l S K](E:U w0 S w):U w0 K w:=h.t E
theorem aS(h:K.Sublist S:=by repeat(first|with_reducible exact List.nil_sublist _|with_reducible exact List.Sublist.refl _|with_reducible refine List.Sublist.cons₂ _ ?_|with_reducible refine List.Sublist.cons _ ?_)):K.Sublist S:=h
theorem sU(h:p:=by rw[iw];simp only[List.map,O.ez];rfl):p:=h
class Am{α:Type}(a b:List α)(i:Nat)(v:outParam α):Prop where t:(List.append a b)[i]? =some v
instance{b:List α}{i:Nat}{v:α}[h:fd b i v]:Am [] b i v:=⟨h.t⟩
instance{a b:List α}{v:α}:Am (v::a) b 0 v:=⟨rfl⟩
instance{a b:List α}{i:Nat}{u v:α}[h:Am a b i v]:Am (u::a) b (i+1) v:=⟨h.t⟩
instance{a b:List α}{i:Nat}{v:α}[h:Am a b i v]:fd (List.append a b) i v:=⟨h.t⟩
instance{a b:Int}{z:Bool}[h:u9 (jU a b) z]:u9 (decide (a=b)) z:=⟨by rw[<-LE];exact h.t⟩
instance:u9 (xp (-1) 0) true:=⟨rfl⟩
instance:u9 (jU 0 (-1)) false:=⟨rfl⟩
section
variable[D:lb]{P:Program}{n:Nat}{Q:Exit->te->World->Prop}{F:List (Nat×Value)}{f:te}{w0:World}{S:List eH}{k:Nat}{tD:Prop}
instance(priority:=900){x:Operand}{si nu:Code}{b:Bool}[Z:oJ F f x (.bool b)][hb:u9 b true][h:lL P n si Q F f w0 S k tD]:lL P n (.cond x si nu) Q F f w0 S (k+1) tD:=⟨λa w E=>zb (by rw[Z.t,hb.t]) (h.t a w E)⟩
instance(priority:=900){x:Operand}{si nu:Code}{b:Bool}[Z:oJ F f x (.bool b)][hb:u9 b false][h:lL P n nu Q F f w0 S k tD]:lL P n (.cond x si nu) Q F f w0 S (k+1) tD:=⟨λa w E=>vH (by rw[Z.t,hb.t]) (h.t a w E)⟩
end
instance{b z a:Bool}[h:u9 b z][Y:xw z a]:u9 (!b) a:=⟨by rw[h.t];exact Y.t⟩
instance:u9 (jU (-1) (-1)) true:=⟨rfl⟩
class jW(k:IntKind)(m:Nat):Prop where t:k.wrap (m:Int)=m
instance[h:gP m 9223372036854775807]:jW .i64 m:=⟨PV h.t⟩
instance[h:gP m 18446744073709551615]:jW .u64 m:=⟨PK h.t⟩
instance[h:gP m 255]:jW .u8 m:=⟨MS (by have:=h.t;simp at this;omega)⟩
section
variable{P:Program}{F:List (Nat×Value)}{f:te}{w0:World}{S:List eH}{T s t:TypeId}{x y:Operand}{k j:IntKind}{a b:Int}{m n:Nat}
instance[h:oJ F f x (.int k a)][Y:oJ F f y (.int k b)][ep:me a m][hb:me b n][eB:gP n m][c:jW k (m-n)]:nf P F f w0 S (.binOp .sub s x y t) T (.int k ((m-n:Nat):Int)):=
 ⟨λ_ _ _ _ _ _ h'=>J.sub h.t Y.t (by have:=eB.t;simp at this;rw[ep.t,hb.t,<-c.t];congr 1;omega) h'⟩
instance[h:oJ F f x (.int k a)][Y:oJ F f y (.int k b)][ep:me a m][hb:me b n][c:jW k (m*n)]:nf P F f w0 S (.binOp .mul s x y t) T (.int k ((m*n:Nat):Int)):=
 ⟨λ_ _ _ _ _ _ h'=>J.mul h.t Y.t (by rw[ep.t,hb.t,<-Int.natCast_mul];exact c.t) h'⟩
instance[h:oJ F f x (.int k a)][Y:oJ F f y (.int k b)][ep:me a m][hb:me b n][eB:sx 0 n]:nf P F f w0 S (.binOp .rem s x y t) T (.int k ((m%n:Nat):Int)):=
 ⟨λ_ _ _ _ _ _ h'=>J.rem h.t Y.t (by have:=eB.t;simp at this;rw[hb.t];omega) (by rw[ep.t,hb.t];exact(Int.ofNat_tmod m n).symm) h'⟩
instance[hZ P s j][hZ P t k][h:oJ F f x (.int j a)][ep:me a m][b:jW k m]:nf P F f w0 S (.convert s t x) T (.int k (m:Int)):=
 ⟨λ_ _ _ _ _ _ h'=>J.conv h.t (by rw[ep.t];exact b.t) h'⟩
end
class zF(P:Program)(F:List (Nat×Value))(f:te)(w0:World)(S:List eH)(op:Op)(T:TypeId)(C:outParam Prop)(v:outParam Value):Prop where
 t:C->∀{w:World},U w0 S w->∀{R:Value->World->Prop}{d:Option Tmp}{pos:String}{eO:Array Edge}{eQ:Option (Nat×Bool)},R v w->J P (oQ F f) ⟨d,op,T,pos,eO,eQ⟩ w R
section
variable{P:Program}{F:List (Nat×Value)}{f:te}{w0:World}{S:List eH}{T s t:TypeId}{x y:Operand}{k j:IntKind}{a b:Int}
instance[h:oJ F f x (.int k a)][Y:oJ F f y (.int k b)]:zF P F f w0 S (.binOp .add s x y t) T (k.wrap (a+b)=a+b) (.int k (a+b)):=⟨λc _ _ _ _ _ _ _ h'=>J.add h.t Y.t c h'⟩
instance[h:oJ F f x (.int k a)][Y:oJ F f y (.int k b)]:zF P F f w0 S (.binOp .sub s x y t) T (k.wrap (a-b)=a-b) (.int k (a-b)):=⟨λc _ _ _ _ _ _ _ h'=>J.sub h.t Y.t c h'⟩
instance[h:oJ F f x (.int k a)][Y:oJ F f y (.int k b)]:zF P F f w0 S (.binOp .mul s x y t) T (k.wrap (a*b)=a*b) (.int k (a*b)):=⟨λc _ _ _ _ _ _ _ h'=>J.mul h.t Y.t c h'⟩
instance[hZ P s j][hZ P t k][h:oJ F f x (.int j a)]:zF P F f w0 S (.convert s t x) T (k.wrap a=a) (.int k a):=⟨λb _ _ _ _ _ _ _ h'=>J.conv h.t b h'⟩
end
theorem ib(h:p:=by first|exact wrap_i64 (by omega)|exact wrap_u64 (by omega)|exact MS (by omega)):p:=h
section
variable[D:lb]{P:Program}{n e9:Nat}{ops:Array Oper}{Q:Exit->te->World->Prop}{l:List Oper}{r:sF}{F:List (Nat×Value)}{f g:te}{w w0:World}{S ii:List eH}{k i d:Nat}{tD C:Prop}{op:Op}{T:TypeId}{pos:String}{eO:Array Edge}{eQ:Option (Nat×Bool)}{v:Value}
instance(priority:=500)[hd:sx d n][h:zF P F f w0 S op T C v][Y:dO P n ops Q l ((d,v)::F) f w0 S k tD]:dO P n ops Q (⟨some d,op,T,pos,eO,none⟩::l) F f w0 S (k+1) (C/\tD):=
 ⟨λ⟨a,b⟩ w E=>ts.op hd.t (h.t a E (Y.t b w E))⟩
instance(priority:=500)[ew:cN ops i ⟨some d,op,T,pos,eO,none⟩][eB:c7 op][hd:sx d n][h:zF P F f w0 ii op T C v][Y:lD P n ops e9 ii Q r ((d,v)::F) f w0 S k tD]:lD P n ops e9 ii Q (.look i r) F f w0 S (k+1) (C/\tD):=
 ⟨λ⟨a,b⟩ w E=>e2.look ew.t eB.t hd.t (λw' c=>h.t a c ⟨rfl,rfl⟩) (Y.t b w E)⟩
theorem fc(z:Bool)(k:Nat)(E:U w0 S w)[a:he f F g][hd:sx d n][e1:vF n ops F g eQ]{b:Bool}[h:nf P F g w0 S op T (.bool b)][Y:dO P n ops Q l ((d,.bool z)::F) g w0 S k tD](c:tD)
 (hb:b=z:=by first|with_reducible rfl|(simp only[decide_eq_true_eq,decide_eq_false_iff_not,Bool.not_eq_true',Bool.not_eq_false']<;>first|omega|(simp;omega))):ts P n ops Q (⟨some d,op,T,pos,eO,eQ⟩::l) f w:=by
 have:=a.t;subst this;subst hb;have key:ts P n ops Q (⟨some d,op,T,pos,eO,none⟩::l) (oQ F g) w:=ts.op hd.t (h.t E (Y.t c w E));rcases e1.t with rfl|⟨i,t,od,rfl,G,Y,ej⟩
 .exact key
 exact dp t G Y ej key
theorem bz(z:Bool)(k:Nat)(E:U w0 S w)[e:he f F g][ew:cN ops i ⟨some d,op,T,pos,eO,eQ⟩][eB:c7 op][hd:sx d n][e1:vF n ops F g eQ]{b:Bool}[h:nf P F g w0 ii op T (.bool b)][Y:lD P n ops e9 ii Q r ((d,.bool z)::F) g w0 S k tD](c:tD)
 (hb:b=z:=by first|with_reducible rfl|(simp only[decide_eq_true_eq,decide_eq_false_iff_not,Bool.not_eq_true',Bool.not_eq_false']<;>first|omega|(simp;omega))):e2 P n ops e9 (U w0 ii) Q (.look i r) f w:=by
 have:=e.t;subst this;subst hb;have ew:=ew.t;rcases e1.t with rfl|⟨j,t,od,rfl,G,ej,e8⟩
 .exact e2.look ew eB.t hd.t (λw' a=>h.t a ⟨rfl,rfl⟩) (Y.t c w E)
 exact cE t ew eB.t hd.t G ej e8 (λw' a=>h.t a ⟨rfl,rfl⟩) (Y.t c w E)
end
instance{l:List α}{i:Nat}{u:α}[h:bx l n]:bx (l.set i u) n:=⟨by rw[List.length_set];exact h.t⟩
instance{u:α}:bx (List.replicate n u) n:=⟨List.length_replicate⟩
instance{k:IntKind}{a b:Int}[h:me a m][Y:me b n][ej:jW k (m+n)]:Ng k a b ((m+n:Nat):Int):=⟨by rw[h.t,Y.t,<-Int.natCast_add];exact ej.t⟩
class LD(e:eH)(b:Nat)(cs:outParam (Array Value)):Prop where t:∀{ea w:World}{S:List eH},U ea S w->tP e S->an w (.pointer (some ⟨b,0,none⟩)) cs
class Af(e:eH)(v:Value)(α:outParam Type)[i:outParam (O α)](xs:outParam (List α)):Prop where t:∀{ea w:World}{S:List eH},U ea S w->tP e S->ex w v xs
class LC(w0:World)(e:eH):Prop where t:∃(ea:World)(S:List eH),U ea S w0/\tP e S
theorem lC{ea:World}(h:U ea S w0)(a:tP e S):LC w0 e:=⟨⟨ea,S,h,a⟩⟩
instance[h:LD e b cs]:zI w0 (e::S) b cs:=⟨λE=>h.t E .nW⟩
instance[O α]{xs:List α}[h:Af e v α xs]:gG w0 (e::S) v α xs:=⟨λE=>h.t E .nW⟩
set_option synthInstance.checkSynthOrder false in
instance(priority:=90)[h:LC w0 e][Y:LD e b cs]:Ae w0 (.pointer (some ⟨b,0,none⟩)) cs:=⟨by obtain⟨ea,S,ej,e8⟩:=h.t;exact Y.t ej e8⟩
set_option synthInstance.checkSynthOrder false in
instance(priority:=90){i:O α}{xs:List α}[h:LC w0 e][Y:Af e v α xs]:LI w0 v α xs:=⟨by obtain⟨ea,S,ej,e8⟩:=h.t;exact Y.t ej e8⟩
section
variable{P:Program}{F:List (Nat×Value)}{f:te}{w0:World}{S:List eH}{T s t K eb:TypeId}{x y:Operand}{r:Nat}
instance[rH P s K eb][h:oJ F f x (.map (some r))][Y:oJ F f y (.map none)]:nf P F f w0 S (.binOp .eql s x y t) T (.bool false):=⟨λ_ _ _ _ _ _ h'=>JO h.t Y.t h'⟩
instance[rH P s K eb][h:oJ F f x (.map (some r))][Y:oJ F f y (.map none)]:nf P F f w0 S (.binOp .neq s x y t) T (.bool true):=⟨λ_ _ _ _ _ _ h'=>JI h.t Y.t h'⟩
end
section
variable[D:lb]{P:Program}{n e9:Nat}{ops:Array Oper}{Q:Exit->te->World->Prop}{l:List Oper}{r:sF}{F:List (Nat×Value)}{f g:te}{w w0:World}{S ii:List eH}{k i d:Nat}{tD:Prop}{op:Op}{T:TypeId}{pos:String}{eO:Array Edge}{eQ:Option (Nat×Bool)}{v:Value}{α:Type}{fu:α->Value}{Ap:α->List eH}{NN:α->Prop}
theorem af(k:Nat)(E:U w0 S w)[a:he f F g][hd:sx d n][e1:vF n ops F g eQ](h:nf P F g w0 S op T v)[Y:dO P n ops Q l ((d,v)::F) g w0 S k tD](b:tD):ts P n ops Q (⟨some d,op,T,pos,eO,eQ⟩::l) f w:=by
 have:=a.t;subst this;have key:ts P n ops Q (⟨some d,op,T,pos,eO,none⟩::l) (oQ F g) w:=ts.op hd.t (h.t E (Y.t b w E));rcases e1.t with rfl|⟨i,t,od,rfl,G,Y,ej⟩
 .exact key
 exact dp t G Y ej key
theorem mR(k:Nat)(E:U w0 S w)[c:he f F g][ew:cN ops i ⟨some d,op,T,pos,eO,eQ⟩][eB:c7 op][hd:sx d n][e1:vF n ops F g eQ](h:nf P F g w0 ii op T v)[Y:lD P n ops e9 ii Q r ((d,v)::F) g w0 S k tD](b:tD):e2 P n ops e9 (U w0 ii) Q (.look i r) f w:=by
 have:=c.t;subst this;have ew:=ew.t;rcases e1.t with rfl|⟨j,t,od,rfl,G,ej,e8⟩
 .exact e2.look ew eB.t hd.t (λw' a=>h.t a ⟨rfl,rfl⟩) (Y.t b w E)
 exact cE t ew eB.t hd.t G ej e8 (λw' a=>h.t a ⟨rfl,rfl⟩) (Y.t b w E)
theorem rF(k:Nat)(E:U w0 S w)[b:he f F g][hd:sx d n](h:bq P F g w0 S op T α fu Ap)[Y:∀a,dO P n ops Q l ((d,fu a)::F) g w0 (Ap a) k (NN a)](c:∀a,NN a):ts P n ops Q (⟨some d,op,T,pos,eO,none⟩::l) f w:=by
 have:=b.t;subst this;exact ts.op hd.t (h.t E λa w' e=>(Y a).t (c a) w' e)
theorem mt(k:Nat)(E:U w0 S w)[c:he f F g][ew:cN ops i ⟨some d,op,T,pos,eO,none⟩][hd:sx d n][e:sx i e9](h:bq P F g w0 S op T α fu Ap)[j:∀a,vU ii (Ap a)][Y:∀a,lD P n ops e9 ii Q r ((d,fu a)::F) g w0 (Ap a) k (NN a)](l:∀a,NN a):e2 P n ops e9 (U w0 ii) Q (.one i r) f w:=by
 have:=c.t;subst this;exact e2.one ew.t hd.t e.t (h.t E λa w' b=>⟨(j a).t b,(Y a).t (l a) w' b⟩)
end
class zP(F:List (Nat×Value))(f:te)(l:List (Nat×Operand))(vs:outParam (List (Nat×Value))):Prop where t:l.map (λp=>(p.1,eD (oQ F f) p.2))=vs
instance:zP F f [] []:=⟨rfl⟩
instance{i:Nat}{x:Operand}{l:List (Nat×Operand)}{vs:List (Nat×Value)}[h:oJ F f x v][Y:zP F f l vs]:zP F f ((i,x)::l) ((i,v)::vs):=⟨by simp only[List.map_cons,h.t,Y.t]⟩
class NS(ws:List (Nat×Value))(k:Nat)(vs:outParam (List Value)):Prop where t:ws=pJ vs k
instance:NS [] k []:=⟨rfl⟩
instance[h:NS ws (k+1) vs]:NS ((k,v)::ws) k (v::vs):=⟨by rw[h.t];simp[pJ]⟩
theorem p5[O α](r:α){s:TypeId}{vs:List (Nat×Value)}[b:nY P s zs][a:zP F f parts vs][hr:nt r ps]
 (G:uQ zs vs=ps:=by first|rfl|(simp only[sg,iW];rfl)) (ej:pr zs vs:=by first|(refine hT ?_;(repeat' (first|exact trivial|refine⟨by decide,rfl,?_⟩));done)|((repeat' (first|exact trivial|refine And.intro ?_ ?_))<;>first|rfl|exact O.ez _|(simp;done))):nf P F f w0 S (.build s parts.toArray) T (.agg (O.enc r)):=
 ⟨λ_ _ _ _ _ _ h'=>sV hr.t (by have:=a.t;simp only[]at this⊢;rw[this];exact G) (by have:=a.t;simp only[]at this⊢;rw[this];exact ej) h'⟩
theorem c9(c:Array Value){s:TypeId}{vs:List (Nat×Value)}[b:nY P s zs][a:zP F f parts vs]
 (G:eK (uQ zs vs)=c:=by rfl) (ej:pr zs vs:=by first|(refine hT ?_;(repeat' (first|exact trivial|refine⟨by decide,rfl,?_⟩));done)|((repeat' (first|exact trivial|refine And.intro ?_ ?_))<;>first|rfl|exact O.ez _|(simp;done))):nf P F f w0 S (.build s parts.toArray) T (.agg c):=
 ⟨λ_ _ _ _ _ _ h'=>jN (by have:=a.t;simp only[]at this⊢;rw[this];exact ej) (by have:=a.t;simp only[]at this⊢;rw[this];exact G) h'⟩
theorem nB[O α](xs:List α){s:TypeId}{len:Nat}{z:Value}[g:hl P s eb][i:nm P eb (O.eo α)][j:oB P eb z][a:zP F f parts ws][c:NS ws 0 vs]
 (d:z.cells.size=O.eo α:=by rfl) (e:vs.map Value.cells=xs.map O.enc:=by rfl) (hlen:len=xs.length:=by rfl) (hb:len*O.eo α<=16777216:=by first|decide|simp):bq P F f w0 S (.buildSlice s len parts.toArray) T Nat (λb=>.slice (some ⟨b,0,none⟩) xs.length xs.length) (λb=>V (.slice (some ⟨b,0,none⟩) xs.length xs.length) eb xs::S):=
 ⟨λE _ _ _ _ _ h'=>n7 E xs vs d (by have G:=a.t;have Y:=c.t;simp only[]at G⊢;rw[G];exact Y) e hlen hb λb w' _ h=>h' b w' h⟩
theorem hA{x:Operand}[h:oJ F f x ob](Y:∀w,U w0 S w->s1 P eb w ob v):nf P F f w0 S (.load eb x) T v:=⟨λE _ _ _ _ _ h'=>ag h.t (Y _ E) h'⟩
class jY(ps l7:List (Array Value))(o:Nat)(u:Array Value):Prop where t:∃a p b,ps=a++p::b/\l7=a++u::b/\(eK a).size=o/\u.size=p.size
instance(priority:=2000):jY (#[u]::ps) (#[v]::ps) 0 #[v]:=⟨[],_,_,rfl,rfl,rfl,rfl⟩
instance(priority:=2000)[O α]{x y:α}:jY (O.enc x::ps) (O.enc y::ps) 0 (O.enc y):=⟨[],_,_,rfl,rfl,rfl,by rw[O.ez,O.ez]⟩
instance{v:Array Value}[h:jY ps l7 o v]:jY (#[u]::ps) (#[u]::l7) (o+1) v:=⟨by
 obtain⟨a,p,b,rfl,rfl,ej,e8⟩:=h.t;exact⟨#[u]::a,p,b,rfl,rfl,by rw[cq,Array.size_append,ej];simp;omega,e8⟩⟩
instance[O α]{x:α}{i:Nat}{v:Array Value}[c:jM o (O.eo α) i][h:jY ps l7 i v]:jY (O.enc x::ps) (O.enc x::l7) o v:=⟨by
 obtain⟨a,p,b,rfl,rfl,ej,e8⟩:=h.t;have:=c.t;exact⟨O.enc x::a,p,b,rfl,rfl,by rw[cq,Array.size_append,ej,O.ez];omega,e8⟩⟩
theorem rb[O α]{x y:α}{u:Array Value}[G:nt x ps][Y:nt y l7][ej:jY ps l7 o u]:st (O.enc x) o u (O.enc y):=⟨by
 obtain⟨a,p,b,rfl,rfl,rfl,e8⟩:=ej.t;rw[G.t,Y.t];exact⟨by rw[qQ,cq,Array.size_append,Array.size_append,e8];omega,rL a b p u e8⟩⟩
section
variable[D:lb]{P:Program}{n e9:Nat}{ops:Array Oper}{ii:List eH}{Q:Exit->te->World->Prop}{r:sF}{F:List (Nat×Value)}{f g:te}{w0 aB w:World}{k i d:Nat}{tD:Prop}{op:Op}{T:TypeId}{pos:String}{eO:Array Edge}{v:Value}
class NR(P:Program)(n:Nat)(ops:Array Oper)(e9:Nat)(aB:World)(ii:List eH)(Q:Exit->te->World->Prop)(r:sF)(F:List (Nat×Value))(f:te)(w0 w:World)(k:Nat)(tD:outParam Prop):Prop where t:U w0 ii aB->tD->e2 P n ops e9 (eV aB) Q r (oQ F f) w
instance(priority:=10):NR P n ops e9 aB ii Q r F f w0 w 0 (e2 P n ops e9 (eV aB) Q r (oQ F f) w):=⟨λ_ h=>h⟩
instance(priority:=2000)[ew:cN ops i ⟨some d,op,T,pos,eO,none⟩][eB:c7 op][hd:sx d n][h:nf P F f w0 ii op T v][Y:NR P n ops e9 aB ii Q r ((d,v)::F) f w0 w k tD]:NR P n ops e9 aB ii Q (.look i r) F f w0 w (k+1) tD:=
 ⟨λE a=>e2.look ew.t eB.t hd.t (λw' b=>h.t (E.es b) ⟨rfl,rfl⟩) (Y.t E a)⟩
theorem ht(k:Nat)(E:U w0 ii aB)[a:he f F g][h:NR P n ops e9 aB ii Q r F g w0 w k tD](b:tD):e2 P n ops e9 (eV aB) Q r f w:=by rw[a.t];exact h.t E b
end
section
variable[D:lb]{P:Program}{n e9:Nat}{ops:Array Oper}{Q:Exit->te->World->Prop}{l:List Oper}{r:sF}{F:List (Nat×Value)}{f g:te}{w0:World}{S ii:List eH}{k d:Nat}{tD:Prop}{op:Op}{T:TypeId}{pos:String}{eO:Array Edge}{eQ:Option (Nat×Bool)}{α:Type}
theorem rO(k:Nat)[b:he f F g][h:dO P n ops Q l F g w0 S k tD](a:tD):∀w,U w0 S w->ts P n ops Q l f w:=λ_ E=>ey k E a
theorem jB(k:Nat)[b:he f F g][h:lD P n ops e9 ii Q r F g w0 S k tD](a:tD):∀w,U w0 S w->e2 P n ops e9 (U w0 ii) Q r f w:=λ_ E=>t7 k E a
theorem om{x:Operand}{si nu:Code}{b:Bool}{p q a c:Prop}(d e:Nat)[h:he f F g][Z:oJ F g x (.bool b)][hb:fM b p q][tj:lL P n si Q F g w0 S d a][tZ:lL P n nu Q F g w0 S e c](G:p->a)(Y:q->c):∀w,U w0 S w->ek P n (.cond x si nu) Q f w:=λ_ E=>wR d e E G Y
theorem na{x:Operand}{si nu:Code}{b:Bool}{p q a c:Prop}(d e:Nat)[h:he f F g][Z:oJ F g x (.bool b)][hb:fM b p q][tj:lL P n si Q F g w0 S d a][tZ:lL P n nu Q F g w0 S e c](G:b=true->p->a)(Y:b=false->q->c):∀w,U w0 S w->ek P n (.cond x si nu) Q f w:=λ_ E=>NT d e E G Y
theorem aC[e5:vx P]{id:Nat}{l:List Oper}(k e9:Nat)(r:sF)(m:List Nat)[hd:xb m 0 S ii][d:he f F g][h:lD P n l.toArray e9 ii Q r F g w0 S k tD](Y:tD)
 (a:(Region.noSelect l.toArray&&bn l.toArray e9&&dg l.toArray e9 (Array.replicate l.toArray.size false) r&&decide (lK r=l.length))=true:=by kernel_rfl)
 (b:∀(c:List PanicEntry) f w,¬Q (.panic c) f w:=by exactλ_ _ _ h=>h):∀w,U w0 S w->ek P n (.region id l.toArray true) Q f w:=λ_ E=>nC k e9 r m E Y a b
theorem eU(z:Bool)(k:Nat)[c:he f F g][hd:sx d n][e1:vF n ops F g eQ]{b:Bool}[h:nf P F g w0 S op T (.bool b)][Y:dO P n ops Q l ((d,.bool z)::F) g w0 S k tD](a:tD)
 (hb:b=z:=by first|with_reducible rfl|(simp only[decide_eq_true_eq,decide_eq_false_iff_not,Bool.not_eq_true',Bool.not_eq_false']<;>first|omega|(simp;omega))):∀w,U w0 S w->ts P n ops Q (⟨some d,op,T,pos,eO,eQ⟩::l) f w:=λ_ E=>fc z k E a hb
end
instance(priority:=50){c:Nat}[O α]{xs:List α}[h:gG w0 S (.slice a n c) α xs]:gG w0 S (ec.v ⟨a,n,c⟩) α xs:=⟨λE=>h.t E⟩
class xv(a b:List (Nat×Value))(c:outParam (List (Nat×Value))):Prop where t:a++b=c
instance{b:List (Nat×Value)}:xv [] b b:=⟨rfl⟩
instance{x:Nat×Value}{a b c:List (Nat×Value)}[h:xv a b c]:xv (x::a) b (x::c):=⟨congrArg (x::·) h.t⟩
instance{a b c d e:List (Nat×Value)}[h:xv b c d][Y:xv a d e]:xv (a++b) c e:=⟨by rw[List.append_assoc,h.t,Y.t]⟩
theorem P1(a b:List (Nat×Value))(f:te):oQ (a++b) f=oQ a (oQ b f):=by
 induction a with
 |nil=>rfl
 |cons p a c=>show o7 (oQ (a++b) f) p.1 p.2=o7 (oQ a (oQ b f)) p.1 p.2;rw[c]
instance(priority:=2000){a b c:List (Nat×Value)}[h:he f F g][Y:xv (a++b) F c]:he (oQ (a++b) f) c g:=⟨by rw[<-Y.t,P1 (a++b) F g,<-h.t]⟩
theorem P2{l:List α}{i:Nat}{x:α}(h:i<l.length)(e:l[i]=x):fd l i x:=⟨by rw[List.getElem?_eq_getElem h,e]⟩
section
variable{P:Program}{F:List (Nat×Value)}{f:te}{w0:World}{S:List eH}{T s t:TypeId}{x y:Operand}{k j:IntKind}{a b c:Int}
theorem fF(h:k.wrap (a+b)=c)(Z:eD (oQ F f) x= .int k a:=by rfl)(d:eD (oQ F f) y= .int k b:=by rfl):nf P F f w0 S (.binOp .add s x y t) T (.int k c):=⟨λ_ _ _ _ _ _ h'=>J.add Z d h h'⟩
theorem p6(h:k.wrap (a-b)=c)(Z:eD (oQ F f) x= .int k a:=by rfl)(d:eD (oQ F f) y= .int k b:=by rfl):nf P F f w0 S (.binOp .sub s x y t) T (.int k c):=⟨λ_ _ _ _ _ _ h'=>J.sub Z d h h'⟩
theorem fm(h:k.wrap (a*b)=c)(Z:eD (oQ F f) x= .int k a:=by rfl)(d:eD (oQ F f) y= .int k b:=by rfl):nf P F f w0 S (.binOp .mul s x y t) T (.int k c):=⟨λ_ _ _ _ _ _ h'=>J.mul Z d h h'⟩
theorem p7(h:hL .and k a b=c)(Z:eD (oQ F f) x= .int k a:=by rfl)(d:eD (oQ F f) y= .int k b:=by rfl):nf P F f w0 S (.binOp .and s x y t) T (.int k c):=⟨λ_ _ _ _ _ _ h'=>J.and Z d h h'⟩
theorem NH(h:hL .or k a b=c)(Z:eD (oQ F f) x= .int k a:=by rfl)(d:eD (oQ F f) y= .int k b:=by rfl):nf P F f w0 S (.binOp .or s x y t) T (.int k c):=⟨λ_ _ _ _ _ _ h'=>J.or Z d h h'⟩
theorem Zh(h:hL .andNot k a b=c)(Z:eD (oQ F f) x= .int k a:=by rfl)(d:eD (oQ F f) y= .int k b:=by rfl):nf P F f w0 S (.binOp .andNot s x y t) T (.int k c):=⟨λ_ _ _ _ _ _ h'=>J.andNot Z d h h'⟩
theorem Ag(hb:b≠0)(h:k.wrap (a.tdiv b)=c)(Z:eD (oQ F f) x= .int k a:=by rfl)(d:eD (oQ F f) y= .int k b:=by rfl):nf P F f w0 S (.binOp .quo s x y t) T (.int k c):=⟨λ_ _ _ _ _ _ h'=>J.quo Z d hb h h'⟩
theorem NL(hb:b≠0)(h:a.tmod b=c)(Z:eD (oQ F f) x= .int k a:=by rfl)(d:eD (oQ F f) y= .int k b:=by rfl):nf P F f w0 S (.binOp .rem s x y t) T (.int k c):=⟨λ_ _ _ _ _ _ h'=>J.rem Z d hb h h'⟩
theorem ND(hb:0<=b)(h:k.wrap (a*2^(min b.toNat k.bits))=c)(Z:eD (oQ F f) x= .int k a:=by rfl)(d:eD (oQ F f) y= .int j b:=by rfl):nf P F f w0 S (.binOp .shl s x y t) T (.int k c):=⟨λ_ _ _ _ _ _ h'=>J.shl Z d hb h h'⟩
theorem lQ(hb:0<=b)(h:a.fdiv (2^(min b.toNat k.bits))=c)(Z:eD (oQ F f) x= .int k a:=by rfl)(d:eD (oQ F f) y= .int j b:=by rfl):nf P F f w0 S (.binOp .shr s x y t) T (.int k c):=⟨λ_ _ _ _ _ _ h'=>J.shr Z d hb h h'⟩
theorem Zl[hZ P s j][hZ P t k](h:k.wrap a=c)(Z:eD (oQ F f) x= .int j a:=by rfl):nf P F f w0 S (.convert s t x) T (.int k c):=⟨λ_ _ _ _ _ _ h'=>J.conv Z h h'⟩
end
end
section
open Go.Proofs Tryz
variable{v:Value}{w w0:World}{e S a b c L M:List eH}{x:eH}
abbrev eJ:=nr prog
abbrev tS(g:FuncId)(a:Array Value)(w:World)(v:Value):Prop:=nr prog g a w λu w'=>u=v/\eV w w'
theorem eG:v=v/\w=w:=⟨rfl,rfl⟩
theorem sJ{u:Value}(h:v=u:=by first|rfl|(refine congrArg (Value.int .i64) ?_;omega)):v=u:=h
theorem tH{e o1:eH}{tp:List eH}{R:World->Prop}(a:iH e o1 S tp)(h:∀w,U w0 tp w->R w):∀w,(∀tp,iH e o1 S tp->U w0 tp w) ->R w:=λw h'=>h w (h' _ a)
class yT(a b:List eH)(c:outParam (List eH)):Prop where t:a++b=c
instance(priority:=100):yT a b (a++b):=⟨rfl⟩
instance:yT [] b b:=⟨rfl⟩
instance[h:yT a b c]:yT (x::a) b (x::c):=⟨congrArg (x::·) h.t⟩
instance{d:List eH}[h:yT b c d][Y:yT a d e]:yT (a++b) c e:=⟨by rw[List.append_assoc,h.t,Y.t]⟩
theorem iq{aB:World}{T:List eH}(G:U w0 S aB)(Y:U aB T w)[h:yT T S L]:U w0 L w:=h.t▸G.jd Y
class NC(L M:List eH)(e:outParam (List eH)):Prop where t:L=e++M
instance(priority:=2000):NC M M []:=⟨rfl⟩
instance[h:NC L M e]:NC (x::L) M (x::e):=⟨congrArg (x::·) h.t⟩
section
variable{P:Program}{n:Nat}{ops:Array Oper}{w0:World}{S:List eH}{f g:te}{i:Nat}{l:List Nat}{u F P3:List (Nat×Value)}{e:List eH}{K:List (Nat×Value) ->List eH->Prop}{d:Nat}{op:Op}{T:TypeId}{pos:String}{eO:Array Edge}
theorem ewU{L:List eH->List eH}[a:∀X,yT (e++(S++X)) [] (L X)](ew:ops[i]? =some ⟨some d,op,T,pos,eO,none⟩)(hd:Nat.blt d n=true)(h:∀(X:List eH)(w:World),U w0 (L X) w->J P (oQ u f) ⟨some d,op,T,pos,eO,none⟩ w λv w'=>∃o1,U w0 (o1++(S++X)) w'/\io P n ops w0 S f l ((d,v)::u) o1 K):
 io P n ops w0 S f (i::l) u e K:=.step ew hd λX w E=>h X w ((a X).t▸(List.append_nil _).symm▸E)
theorem ewM{w:World}{X L M o1:List eH}[G:yT S X M][Y:NC L M o1](E:U w0 L w)(h:io P n ops w0 S f l u o1 K):∃o1,U w0 (o1++(S++X)) w/\io P n ops w0 S f l u o1 K:=⟨o1,by rw[G.t,<-Y.t];exact E,h⟩
class NU(P:Program)(n:Nat)(ops:Array Oper)(w0:World)(S:List eH)(F:List (Nat×Value))(f:te)(l:List Nat)(u:List (Nat×Value))(e:List eH)(K:List (Nat×Value) ->List eH->Prop)(k:Nat)(tD:outParam Prop):Prop where t:tD->io P n ops w0 S (oQ F f) l u e K
variable{k:Nat}{tD:Prop}
instance(priority:=10):NU P n ops w0 S F f l u e K 0 (io P n ops w0 S (oQ F f) l u e K):=⟨id⟩
instance{v:Value}{L:List eH->List eH}[ew:cN ops i ⟨some d,op,T,pos,eO,none⟩][hd:sx d n][a:xv u F P3][b:∀X,yT (e++(S++X)) [] (L X)][h:∀X,nf P P3 f w0 (L X) op T v][Y:NU P n ops w0 S F f l ((d,v)::u) e K k tD]:NU P n ops w0 S F f (i::l) u e K (k+1) tD:=
 ⟨λc=>.step ew.t hd.t λX w E=>by
  rw[<-P1,a.t];exact(h X).t ((b X).t▸(List.append_nil _).symm▸E) ⟨e,E,Y.t c⟩⟩
theorem zG(k:Nat)[a:he f F g][h:NU P n ops w0 S F g l u e K k tD](b:tD):io P n ops w0 S f l u e K:=by rw[a.t];exact h.t b
end
section
variable[D:lb]{P:Program}{n e9:Nat}{ops:Array Oper}{Q:Exit->te->World->Prop}{f:te}{w w0 aB:World}{S:List eH}{r:sF}{I:World->Prop}{i d t:Nat}{op:Op}{T:TypeId}{pos:String}{eO:Array Edge}{rest:List Oper}{od b:Bool}{eb:Value}
theorem et[hd:sx d n](h:J P f ⟨some d,op,T,pos,eO,none⟩ w (λv w'=>ts P n ops Q rest (o7 f d v) w')):ts P n ops Q (⟨some d,op,T,pos,eO,none⟩::rest) f w:=ts.op hd.t h
theorem oE(h:J P f ⟨none,op,T,pos,eO,none⟩ w (λ_ w'=>ts P n ops Q rest f w')):ts P n ops Q (⟨none,op,T,pos,eO,none⟩::rest) f w:=R0 h
def NM(ops:Array Oper)(i n:Nat)(c:Bool):Option (Nat×Op×TypeId×String×Array Edge):=match ops[i]? with
 |some ⟨some d,op,T,pos,eO,none⟩=>bif c&&Nat.blt d n then some (d,op,T,pos,eO)else none
 |_=>none
theorem zW{c:Bool}(h:NM ops i n c=some (d,op,T,pos,eO)):ops[i]? =some ⟨some d,op,T,pos,eO,none⟩/\c=true/\Nat.blt d n=true:=by
 unfold NM at h;split at h
 .rename_i G;cases c with
  |false=>cases h
  |true=>
   rename_i d' _ _ _ _;cases Y:Nat.blt d' n with
   |false=>rw[Y]at h;cases h
   |true=>rw[Y]at h;cases h;exact⟨G,rfl,Y⟩
 cases h
def NF(ops:Array Oper)(i n:Nat):Option (Nat×Op×TypeId×String×Array Edge):=match ops[i]? with
 |some ⟨some d,op,T,pos,eO,none⟩=>bif Op.looks op&&Nat.blt d n then some (d,op,T,pos,eO)else none
 |_=>none
theorem zY(h:NF ops i n=some (d,op,T,pos,eO)):ops[i]? =some ⟨some d,op,T,pos,eO,none⟩/\Op.looks op=true/\Nat.blt d n=true:=by
 unfold NF at h;split at h
 .rename_i d' a _ _ _ G;cases Y:Nat.blt d' n<;>cases ej:Op.looks a<;>rw[Y,ej]at h<;>cases h;exact⟨G,ej,Y⟩
 cases h
theorem tl(em:NF ops i n=some (d,op,T,pos,eO))(h:∀w',U w0 S w'->J P f ⟨some d,op,T,pos,eO,none⟩ w' (λv a=>v=eb/\a=w'))(hr:e2 P n ops e9 (U w0 S) Q r (o7 f d eb) w):e2 P n ops e9 (U w0 S) Q (.look i r) f w:=e2.look (zY em).1 (zY em).2.1 (zY em).2.2 h hr
theorem ss(E:U w0 S aB)(em:NF ops i n=some (d,op,T,pos,eO))(h:∀w',U w0 S w'->J P f ⟨some d,op,T,pos,eO,none⟩ w' (λv a=>v=eb/\a=w'))(hr:e2 P n ops e9 (eV aB) Q r (o7 f d eb) w):e2 P n ops e9 (eV aB) Q (.look i r) f w:=e2.look (zY em).1 (zY em).2.1 (zY em).2.2 (λw' b=>h w' (E.es b)) hr
def NP(ops:Array Oper)(i n:Nat):Option (Nat×Op×TypeId×String×Array Edge×Nat×Bool×Nat):=match ops[i]? with
 |some ⟨some d,op,T,pos,eO,some (g,od)⟩=>match(ops[g]?).bind (·.dst)with
  |some t=>bif Op.looks op&&Nat.blt d n&&Nat.blt t n then some (d,op,T,pos,eO,t,od,g)else none
  |none=>none
 |_=>none
theorem bE{g:Nat}(h:NP ops i n=some (d,op,T,pos,eO,t,od,g)):ops[i]? =some ⟨some d,op,T,pos,eO,some (g,od)⟩/\Op.looks op=true/\Nat.blt d n=true/\(ops[g]?).bind (·.dst)=some t/\Nat.blt t n=true:=by
 unfold NP at h;split at h
 .rename_i d' a _ _ _ c _ G;split at h
  .rename_i b e8;cases Y:Nat.blt d' n<;>cases ej:Op.looks a<;>cases au:Nat.blt b n<;>rw[Y,ej,au]at h<;>cases h;exact⟨G,ej,Y,e8,au⟩
  cases h
 cases h
theorem ue{g:Nat}(em:NP ops i n=some (d,op,T,pos,eO,t,od,g))(hb:f t= .bool b)(h:(b==od)=true->∀w',U w0 S w'->J P f ⟨some d,op,T,pos,eO,none⟩ w' (λv a=>v=eb/\a=w'))(hr:e2 P n ops e9 (U w0 S) Q r (o7 f d (rK (b==od) eb)) w):e2 P n ops e9 (U w0 S) Q (.look i r) f w:=Tx b t (bE em).1 (bE em).2.1 (bE em).2.2.1 (bE em).2.2.2.1 (bE em).2.2.2.2 hb h hr
theorem ds{g:Nat}(E:U w0 S aB)(em:NP ops i n=some (d,op,T,pos,eO,t,od,g))(hb:f t= .bool b)(h:(b==od)=true->∀w',U w0 S w'->J P f ⟨some d,op,T,pos,eO,none⟩ w' (λv a=>v=eb/\a=w'))(hr:e2 P n ops e9 (eV aB) Q r (o7 f d (rK (b==od) eb)) w):e2 P n ops e9 (eV aB) Q (.look i r) f w:=Tx b t (bE em).1 (bE em).2.1 (bE em).2.2.1 (bE em).2.2.2.1 (bE em).2.2.2.2 hb (λe w' c=>h e w' (E.es c)) hr
theorem ol(em:NM ops i n (Nat.blt i e9)=some (d,op,T,pos,eO))(h:J P f ⟨some d,op,T,pos,eO,none⟩ w (λv w'=>I w'/\e2 P n ops e9 I Q r (o7 f d v) w')):e2 P n ops e9 I Q (.one i r) f w:=e2.one (zW em).1 (zW em).2.2 (zW em).2.1 h
theorem hO(em:NM ops i n (Nat.ble e9 i&&kU r)=some (d,op,T,pos,eO))(h:J P f ⟨some d,op,T,pos,eO,none⟩ w (λv w'=>e2 P n ops e9 I Q r (o7 f d v) w')):e2 P n ops e9 I Q (.one i r) f w:=by
 have G:=(zW em).2.1;rw[Bool.and_eq_true]at G;exact Tz (zW em).1 (zW em).2.2 G.1 G.2 h
theorem nH[G:gP e9 i][Y:vM r](ew:ops[i]? =some ⟨none,op,T,pos,eO,none⟩)(h:J P f ⟨none,op,T,pos,eO,none⟩ w (λ_ w'=>e2 P n ops e9 I Q r f w')):e2 P n ops e9 I Q (.one i r) f w:=Fa ew G.t Y.t h
end
@[reducible] noncomputable def P4(g:Nat):Bool:=List.rec (motive:=λ_=>Bool) false (λe _ r=>match Nat.beq g e with|true=>true|false=>r) [0,1,83,171,191,333,334,335,365,371,372,410,411,412,413,414,415,416,417,418,419,420,421,422,423,424,425,426,427,428,429,433,434,435,436,437,438,439,440,441,442,443,444,450,451,452,453,454,455,456,457,458,459,460,461]
noncomputable def P5(g:Nat):Bool:=match(prog.funcs[g]?).map (λfn=>fn.body.isSome&&decide (fn.name≠ "runtime.NumGoroutine"))with
 |some true=>true
 |_=>false
theorem Zd:((List.range 463).all λg=>P5 g||P4 g)=true:=by kernel_rfl
instance{g:Nat}[h:sx g 463][Y:fl (P4 g) false]:lS prog g:=⟨by
 have ej:=h.t;have e8:=Y.t;have au:=List.all_eq_true.1 Zd g (List.mem_range.2 (by simpa using ej));rw[e8,Bool.or_false]at au;unfold P5 at au;split at au
 .assumption
 cases au⟩
end
section
open Go.Proofs Tryz
variable{oU gV:Nat}{o5 n4 v bT:ec}
abbrev ak:=Vector UInt8 32
abbrev sd:=Vector UInt8 64
structure aH where
 iO:Nat
 dG:Vector UInt8 32
 tq:Nat
 deriving DecidableEq
def aH.parts(x:aH):List (Array Value):=[#[.int .u64 (x.iO:Int)],O.enc x.dG,#[.int .u64 (x.tq:Int)]]
theorem Zc(x:aH):x.parts.map Array.size=[1,32,1]:=by
 simp only[aH.parts,List.map,O.ez];rfl
instance:O aH where
 enc x:=eK x.parts
 eo:=34
 pos:=by omega
 ez x:=by rw[iw,Zc];rfl
 one x:=rD (all_cons (oZ _ _) (all_cons (O.one _) (all_cons (oZ _ _) rC)))
theorem pg(x:aH):O.enc x=eK x.parts:=rfl
theorem Aw(x:aH):(O.enc x)[0]? =some (.int .u64 (x.iO:Int)):=hu [] [O.enc x.dG,#[.int .u64 (x.tq:Int)]] _ (by rw[iw];simp only[List.map,O.ez];rfl)
theorem LM(x:aH):(O.enc x).extract 1 (1+32)=O.enc x.dG:=p1 [#[.int .u64 (x.iO:Int)]] [#[.int .u64 (x.tq:Int)]] _ (by rw[iw];simp only[List.map,O.ez];rfl) (by rw[O.ez];rfl)
theorem LF(x:aH):(O.enc x)[33]? =some (.int .u64 (x.tq:Int)):=hu [#[.int .u64 (x.iO:Int)],O.enc x.dG] [] _ (by rw[iw];simp only[List.map,O.ez];rfl)
theorem P6(x:aH)(v:Nat):iI (O.enc x) 0 #[.int .u64 (v:Int)]=O.enc {x with iO:=v}:=by
 have h:=rL [] [O.enc x.dG,#[.int .u64 (x.tq:Int)]] (#[.int .u64 (x.iO:Int)]) (#[.int .u64 (v:Int)]) (by first|(rw[O.ez,O.ez];done)|rfl);rw[show(eK []).size=0 from(by rw[iw];simp only[List.map,O.ez];rfl)]at h;exact h
instance(x:aH):nt x [#[.int .u64 (x.iO:Int)],O.enc x.dG,#[.int .u64 (x.tq:Int)]]:=⟨rfl⟩
instance(priority:=2000){o5:Vector UInt8 32}{n4:Nat}:nt (⟨oU,o5,n4⟩:aH) [#[.int .u64 (oU:Int)],O.enc o5,#[.int .u64 (n4:Int)]]:=⟨rfl⟩
instance{x:aH}{v:Nat}:st (O.enc x) 0 #[.int .u64 (v:Int)] (O.enc {x with iO:=v}):=rb
instance{x:aH}{v:Vector UInt8 32}:st (O.enc x) 1 (O.enc v) (O.enc {x with dG:=v}):=rb
instance{x:aH}{v:Nat}:st (O.enc x) 33 #[.int .u64 (v:Int)] (O.enc {x with tq:=v}):=rb
instance:k1 prog 62 aH 3 where
 le:=by omega
 run w d hd x y:=by
  obtain⟨d,rfl⟩:∃d',d=d'+1:=⟨d-1,by omega⟩;have h:=FA (P:=prog) (w:=w) (d:=d) (xs:=O.enc x) (ys:=O.enc y) underlying62 (by kernel_rfl) (HR (T:=23) (by omega) rfl rfl (by decide) (Aw x) (Aw y) (FE (T:=60) (α:=Vector UInt8 32) (by omega) rfl rfl (by decide) (LM x) (LM y) (HR (T:=23) (by omega) rfl rfl (by decide) (LF x) (LF y) FT)));rw[h];refine congrArg (λb=>Result.ok b w) ?_;rw[Bool.eq_iff_iff];cases x;cases y;simp[aH.mk.injEq];try(intros;simp_all[<-UInt8.toNat_inj];try omega)
  all_goals(try simp only[Int.ofNat_inj,Int.natCast_inj])
structure o6 where
 key:Vector UInt8 32
 zB:Bool
 iY:Bool
 deriving DecidableEq
def o6.parts(x:o6):List (Array Value):=[O.enc x.key,#[.bool x.zB],#[.bool x.iY]]
theorem Zu(x:o6):x.parts.map Array.size=[32,1,1]:=by
 simp only[o6.parts,List.map,O.ez];rfl
instance:O o6 where
 enc x:=eK x.parts
 eo:=34
 pos:=by omega
 ez x:=by rw[iw,Zu];rfl
 one x:=rD (all_cons (O.one _) (all_cons (O.one (α:=Bool) _) (all_cons (O.one (α:=Bool) _) rC)))
theorem LP(x:o6):O.enc x=eK x.parts:=rfl
theorem Ay(x:o6):(O.enc x).extract 0 (0+32)=O.enc x.key:=p1 [] [#[.bool x.zB],#[.bool x.iY]] _ (by rw[iw];simp only[List.map,O.ez];rfl) (by rw[O.ez];rfl)
theorem Zm(x:o6):(O.enc x)[33]? =some (.bool x.iY):=hu [O.enc x.key,#[.bool x.zB]] [] _ (by rw[iw];simp only[List.map,O.ez];rfl)
theorem Zf(x:o6)(v:Bool):iI (O.enc x) 33 #[.bool v]=O.enc {x with iY:=v}:=by
 have h:=rL [O.enc x.key,#[.bool x.zB]] [] (#[.bool x.iY]) (#[.bool v]) (by first|(rw[O.ez,O.ez];done)|rfl);rw[show(eK [O.enc x.key,#[.bool x.zB]]).size=33 from(by rw[iw];simp only[List.map,O.ez];rfl)]at h;exact h
instance(x:o6):nt x [O.enc x.key,#[.bool x.zB],#[.bool x.iY]]:=⟨rfl⟩
instance(priority:=2000){oU:Vector UInt8 32}{o5:Bool}{n4:Bool}:nt (⟨oU,o5,n4⟩:o6) [O.enc oU,#[.bool o5],#[.bool n4]]:=⟨rfl⟩
structure Instr where
 program:UInt8
 cS:ec
 data:ec
def Instr.parts(x:Instr):List (Array Value):=[#[.int .u8 x.program.toNat],#[x.cS.v],#[x.data.v]]
theorem Zp(x:Instr):x.parts.map Array.size=[1,1,1]:=by
 simp only[Instr.parts,List.map,O.ez];rfl
instance:O Instr where
 enc x:=eK x.parts
 eo:=3
 pos:=by omega
 ez x:=by rw[iw,Zp];rfl
 one x:=rD (all_cons (oZ _ _) (all_cons (O.one (α:=ec) _) (all_cons (O.one (α:=ec) _) rC)))
theorem P7(x:Instr):O.enc x=eK x.parts:=rfl
theorem P8(x:Instr):(O.enc x)[0]? =some (.int .u8 x.program.toNat):=hu [] [#[x.cS.v],#[x.data.v]] _ (by rw[iw];simp only[List.map,O.ez];rfl)
theorem Zg(x:Instr):(O.enc x)[1]? =some (x.cS.v):=hu [#[.int .u8 x.program.toNat]] [#[x.data.v]] _ (by rw[iw];simp only[List.map,O.ez];rfl)
def Instr.ok(w:World)(x:Instr):Prop:=(∃l:List (UInt8),ex w x.cS.v l/\∀e∈l,True)/\(∃l:List (UInt8),ex w x.data.v l/\∀e∈l,True)
instance(x:Instr):nt x [#[.int .u8 x.program.toNat],#[x.cS.v],#[x.data.v]]:=⟨rfl⟩
instance(priority:=2000){oU:UInt8}:nt (⟨oU,o5,n4⟩:Instr) [#[.int .u8 oU.toNat],#[o5.v],#[n4.v]]:=⟨rfl⟩
instance{x:Instr}{v:UInt8}:st (O.enc x) 0 #[.int .u8 v.toNat] (O.enc {x with program:=v}):=rb
instance{x:Instr}:st (O.enc x) 1 #[v.v] (O.enc {x with cS:=v}):=rb
instance{x:Instr}:st (O.enc x) 2 #[v.v] (O.enc {x with data:=v}):=rb
structure ro where
 rh:UInt8
 fP:UInt8
 uk:UInt8
 deriving DecidableEq
def ro.parts(x:ro):List (Array Value):=[#[.int .u8 x.rh.toNat],#[.int .u8 x.fP.toNat],#[.int .u8 x.uk.toNat]]
theorem Zw(x:ro):x.parts.map Array.size=[1,1,1]:=by
 simp only[ro.parts,List.map,O.ez];rfl
instance:O ro where
 enc x:=eK x.parts
 eo:=3
 pos:=by omega
 ez x:=by rw[iw,Zw];rfl
 one x:=rD (all_cons (oZ _ _) (all_cons (oZ _ _) (all_cons (oZ _ _) rC)))
theorem cR(x:ro):O.enc x=eK x.parts:=rfl
theorem P9(x:ro):(O.enc x)[0]? =some (.int .u8 x.rh.toNat):=hu [] [#[.int .u8 x.fP.toNat],#[.int .u8 x.uk.toNat]] _ (by rw[iw];simp only[List.map,O.ez];rfl)
theorem Zy(x:ro):(O.enc x)[2]? =some (.int .u8 x.uk.toNat):=hu [#[.int .u8 x.rh.toNat],#[.int .u8 x.fP.toNat]] [] _ (by rw[iw];simp only[List.map,O.ez];rfl)
theorem Zb(x:ro)(v:UInt8):iI (O.enc x) 0 #[.int .u8 v.toNat]=O.enc {x with rh:=v}:=by
 have h:=rL [] [#[.int .u8 x.fP.toNat],#[.int .u8 x.uk.toNat]] (#[.int .u8 x.rh.toNat]) (#[.int .u8 v.toNat]) (by first|(rw[O.ez,O.ez];done)|rfl);rw[show(eK []).size=0 from(by rw[iw];simp only[List.map,O.ez];rfl)]at h;exact h
theorem Zv(x:ro)(v:UInt8):iI (O.enc x) 1 #[.int .u8 v.toNat]=O.enc {x with fP:=v}:=by
 have h:=rL [#[.int .u8 x.rh.toNat]] [#[.int .u8 x.uk.toNat]] (#[.int .u8 x.fP.toNat]) (#[.int .u8 v.toNat]) (by first|(rw[O.ez,O.ez];done)|rfl);rw[show(eK [#[.int .u8 x.rh.toNat]]).size=1 from(by rw[iw];simp only[List.map,O.ez];rfl)]at h;exact h
theorem Zk(x:ro)(v:UInt8):iI (O.enc x) 2 #[.int .u8 v.toNat]=O.enc {x with uk:=v}:=by
 have h:=rL [#[.int .u8 x.rh.toNat],#[.int .u8 x.fP.toNat]] [] (#[.int .u8 x.uk.toNat]) (#[.int .u8 v.toNat]) (by first|(rw[O.ez,O.ez];done)|rfl);rw[show(eK [#[.int .u8 x.rh.toNat],#[.int .u8 x.fP.toNat]]).size=2 from(by rw[iw];simp only[List.map,O.ez];rfl)]at h;exact h
instance(x:ro):nt x [#[.int .u8 x.rh.toNat],#[.int .u8 x.fP.toNat],#[.int .u8 x.uk.toNat]]:=⟨rfl⟩
structure iX where
 table:Vector UInt8 32
 iY:ec
 p8:ec
def iX.parts(x:iX):List (Array Value):=[O.enc x.table,#[x.iY.v],#[x.p8.v]]
theorem Zx(x:iX):x.parts.map Array.size=[32,1,1]:=by
 simp only[iX.parts,List.map,O.ez];rfl
instance:O iX where
 enc x:=eK x.parts
 eo:=34
 pos:=by omega
 ez x:=by rw[iw,Zx];rfl
 one x:=rD (all_cons (O.one _) (all_cons (O.one (α:=ec) _) (all_cons (O.one (α:=ec) _) rC)))
theorem Zj(x:iX):O.enc x=eK x.parts:=rfl
instance(x:iX):nt x [O.enc x.table,#[x.iY.v],#[x.p8.v]]:=⟨rfl⟩
instance(priority:=2000){oU:Vector UInt8 32}:nt (⟨oU,o5,n4⟩:iX) [O.enc oU,#[o5.v],#[n4.v]]:=⟨rfl⟩
instance{x:iX}{v:Vector UInt8 32}:st (O.enc x) 0 (O.enc v) (O.enc {x with table:=v}):=rb
instance{x:iX}:st (O.enc x) 32 #[v.v] (O.enc {x with iY:=v}):=rb
instance{x:iX}:st (O.enc x) 33 #[v.v] (O.enc {x with p8:=v}):=rb
structure oa where
 v0:Bool
 ic:ro
 td:ec
 oT:Vector UInt8 32
 instrs:ec
 rJ:ec
def oa.parts(x:oa):List (Array Value):=[#[.bool x.v0],O.enc x.ic,#[x.td.v],O.enc x.oT,#[x.instrs.v],#[x.rJ.v]]
theorem Zq(x:oa):x.parts.map Array.size=[1,3,1,32,1,1]:=by
 simp only[oa.parts,List.map,O.ez];rfl
instance:O oa where
 enc x:=eK x.parts
 eo:=39
 pos:=by omega
 ez x:=by rw[iw,Zq];rfl
 one x:=rD (all_cons (O.one (α:=Bool) _) (all_cons (O.one _) (all_cons (O.one (α:=ec) _) (all_cons (O.one _) (all_cons (O.one (α:=ec) _) (all_cons (O.one (α:=ec) _) rC))))))
theorem cn(x:oa):O.enc x=eK x.parts:=rfl
theorem NG(x:oa):(O.enc x).extract 1 (1+3)=O.enc x.ic:=p1 [#[.bool x.v0]] [#[x.td.v],O.enc x.oT,#[x.instrs.v],#[x.rJ.v]] _ (by rw[iw];simp only[List.map,O.ez];rfl) (by rw[O.ez];rfl)
theorem Ge(x:oa):(O.enc x)[4]? =some (x.td.v):=hu [#[.bool x.v0],O.enc x.ic] [O.enc x.oT,#[x.instrs.v],#[x.rJ.v]] _ (by rw[iw];simp only[List.map,O.ez];rfl)
theorem Zz(x:oa):(O.enc x)[37]? =some (x.instrs.v):=hu [#[.bool x.v0],O.enc x.ic,#[x.td.v],O.enc x.oT] [#[x.rJ.v]] _ (by rw[iw];simp only[List.map,O.ez];rfl)
theorem LG(x:oa)(v:ro):iI (O.enc x) 1 (O.enc v)=O.enc {x with ic:=v}:=by
 have h:=rL [#[.bool x.v0]] [#[x.td.v],O.enc x.oT,#[x.instrs.v],#[x.rJ.v]] (O.enc x.ic) (O.enc v) (by first|(rw[O.ez,O.ez];done)|rfl);rw[show(eK [#[.bool x.v0]]).size=1 from(by rw[iw];simp only[List.map,O.ez];rfl)]at h;exact h
theorem ZE(x:oa)(v:ec):iI (O.enc x) 4 #[v.v]=O.enc {x with td:=v}:=by
 have h:=rL [#[.bool x.v0],O.enc x.ic] [O.enc x.oT,#[x.instrs.v],#[x.rJ.v]] (#[x.td.v]) (#[v.v]) (by first|(rw[O.ez,O.ez];done)|rfl);rw[show(eK [#[.bool x.v0],O.enc x.ic]).size=4 from(by rw[iw];simp only[List.map,O.ez];rfl)]at h;exact h
theorem ZT(x:oa)(v:ec):iI (O.enc x) 37 #[v.v]=O.enc {x with instrs:=v}:=by
 have h:=rL [#[.bool x.v0],O.enc x.ic,#[x.td.v],O.enc x.oT] [#[x.rJ.v]] (#[x.instrs.v]) (#[v.v]) (by first|(rw[O.ez,O.ez];done)|rfl);rw[show(eK [#[.bool x.v0],O.enc x.ic,#[x.td.v],O.enc x.oT]).size=37 from(by rw[iw];simp only[List.map,O.ez];rfl)]at h;exact h
theorem ZA(x:oa)(v:ec):iI (O.enc x) 38 #[v.v]=O.enc {x with rJ:=v}:=by
 have h:=rL [#[.bool x.v0],O.enc x.ic,#[x.td.v],O.enc x.oT,#[x.instrs.v]] [] (#[x.rJ.v]) (#[v.v]) (by first|(rw[O.ez,O.ez];done)|rfl);rw[show(eK [#[.bool x.v0],O.enc x.ic,#[x.td.v],O.enc x.oT,#[x.instrs.v]]).size=38 from(by rw[iw];simp only[List.map,O.ez];rfl)]at h;exact h
instance(x:oa):nt x [#[.bool x.v0],O.enc x.ic,#[x.td.v],O.enc x.oT,#[x.instrs.v],#[x.rJ.v]]:=⟨rfl⟩
instance(priority:=2000){oU:Bool}{o5:ro}{lo:Vector UInt8 32}{gV:ec}:nt (⟨oU,o5,n4,lo,gV,bT⟩:oa) [#[.bool oU],O.enc o5,#[n4.v],O.enc lo,#[gV.v],#[bT.v]]:=⟨rfl⟩
instance{x:oa}{v:Bool}:st (O.enc x) 0 #[.bool v] (O.enc {x with v0:=v}):=rb
instance{x:oa}:st (O.enc x) 4 #[v.v] (O.enc {x with td:=v}):=rb
instance{x:oa}{v:Vector UInt8 32}:st (O.enc x) 5 (O.enc v) (O.enc {x with oT:=v}):=rb
instance{x:oa}:st (O.enc x) 37 #[v.v] (O.enc {x with instrs:=v}):=rb
instance{x:oa}:st (O.enc x) 38 #[v.v] (O.enc {x with rJ:=v}):=rb
structure oW where
 sigs:ec
 m:oa
def oW.parts(x:oW):List (Array Value):=[#[x.sigs.v],O.enc x.m]
theorem ZO(x:oW):x.parts.map Array.size=[1,39]:=by
 simp only[oW.parts,List.map,O.ez];rfl
instance:O oW where
 enc x:=eK x.parts
 eo:=40
 pos:=by omega
 ez x:=by rw[iw,ZO];rfl
 one x:=rD (all_cons (O.one (α:=ec) _) (all_cons (O.one _) rC))
theorem dr(x:oW):O.enc x=eK x.parts:=rfl
theorem LW(x:oW):(O.enc x)[0]? =some (x.sigs.v):=hu [] [O.enc x.m] _ (by rw[iw];simp only[List.map,O.ez];rfl)
theorem zV(x:oW):(O.enc x).extract 1 (1+39)=O.enc x.m:=p1 [#[x.sigs.v]] [] _ (by rw[iw];simp only[List.map,O.ez];rfl) (by rw[O.ez];rfl)
theorem Gt(x:oW)(v:ec):iI (O.enc x) 0 #[v.v]=O.enc {x with sigs:=v}:=by
 have h:=rL [] [O.enc x.m] (#[x.sigs.v]) (#[v.v]) (by first|(rw[O.ez,O.ez];done)|rfl);rw[show(eK []).size=0 from(by rw[iw];simp only[List.map,O.ez];rfl)]at h;exact h
theorem NW(x:oW)(v:oa):iI (O.enc x) 1 (O.enc v)=O.enc {x with m:=v}:=by
 have h:=rL [#[x.sigs.v]] [] (O.enc x.m) (O.enc v) (by first|(rw[O.ez,O.ez];done)|rfl);rw[show(eK [#[x.sigs.v]]).size=1 from(by rw[iw];simp only[List.map,O.ez];rfl)]at h;exact h
theorem Ga(x:oW):(O.enc x)[38]? =some (x.m.instrs.v):=vq (i:=37) (zV x) (Zz x.m) (by decide)
instance(x:oW):nt x [#[x.sigs.v],O.enc x.m]:=⟨rfl⟩
instance(priority:=2000){oU:ec}{o5:oa}:nt (⟨oU,o5⟩:oW) [#[oU.v],O.enc o5]:=⟨rfl⟩
structure sP where
 tJ:Nat
 xk:Nat
 dW:Int
 deriving DecidableEq
def sP.parts(x:sP):List (Array Value):=[#[.int .u64 (x.tJ:Int)],#[.int .u64 (x.xk:Int)],#[.int .i64 x.dW]]
theorem ZI(x:sP):x.parts.map Array.size=[1,1,1]:=by
 simp only[sP.parts,List.map,O.ez];rfl
instance:O sP where
 enc x:=eK x.parts
 eo:=3
 pos:=by omega
 ez x:=by rw[iw,ZI];rfl
 one x:=rD (all_cons (oZ _ _) (all_cons (oZ _ _) (all_cons (oZ _ _) rC)))
theorem bA(x:sP):O.enc x=eK x.parts:=rfl
theorem Gi(x:sP):(O.enc x)[0]? =some (.int .u64 (x.tJ:Int)):=hu [] [#[.int .u64 (x.xk:Int)],#[.int .i64 x.dW]] _ (by rw[iw];simp only[List.map,O.ez];rfl)
theorem ZN(x:sP)(v:Nat):iI (O.enc x) 0 #[.int .u64 (v:Int)]=O.enc {x with tJ:=v}:=by
 have h:=rL [] [#[.int .u64 (x.xk:Int)],#[.int .i64 x.dW]] (#[.int .u64 (x.tJ:Int)]) (#[.int .u64 (v:Int)]) (by first|(rw[O.ez,O.ez];done)|rfl);rw[show(eK []).size=0 from(by rw[iw];simp only[List.map,O.ez];rfl)]at h;exact h
theorem ZS(x:sP)(v:Nat):iI (O.enc x) 1 #[.int .u64 (v:Int)]=O.enc {x with xk:=v}:=by
 have h:=rL [#[.int .u64 (x.tJ:Int)]] [#[.int .i64 x.dW]] (#[.int .u64 (x.xk:Int)]) (#[.int .u64 (v:Int)]) (by first|(rw[O.ez,O.ez];done)|rfl);rw[show(eK [#[.int .u64 (x.tJ:Int)]]).size=1 from(by rw[iw];simp only[List.map,O.ez];rfl)]at h;exact h
instance(x:sP):nt x [#[.int .u64 (x.tJ:Int)],#[.int .u64 (x.xk:Int)],#[.int .i64 x.dW]]:=⟨rfl⟩
instance(priority:=2000){o5:Nat}{n4:Int}:nt (⟨oU,o5,n4⟩:sP) [#[.int .u64 (oU:Int)],#[.int .u64 (o5:Int)],#[.int .i64 n4]]:=⟨rfl⟩
instance{x:sP}{v:Int}:st (O.enc x) 2 #[.int .i64 v] (O.enc {x with dW:=v}):=rb
structure aZ where
 bytes:ec
 tQ:oW
 rI:ec
 rN:sP
 tv:Nat
 ow:Nat
 priority:Nat
def aZ.parts(x:aZ):List (Array Value):=[#[x.bytes.v],O.enc x.tQ,#[x.rI.v],O.enc x.rN,#[.int .u64 (x.tv:Int)],#[.int .u64 (x.ow:Int)],#[.int .u64 (x.priority:Int)]]
theorem ZR(x:aZ):x.parts.map Array.size=[1,40,1,3,1,1,1]:=by
 simp only[aZ.parts,List.map,O.ez];rfl
instance:O aZ where
 enc x:=eK x.parts
 eo:=48
 pos:=by omega
 ez x:=by rw[iw,ZR];rfl
 one x:=rD (all_cons (O.one (α:=ec) _) (all_cons (O.one _) (all_cons (O.one (α:=ec) _) (all_cons (O.one _) (all_cons (oZ _ _) (all_cons (oZ _ _) (all_cons (oZ _ _) rC)))))))
theorem p9(x:aZ):O.enc x=eK x.parts:=rfl
theorem Ab(x:aZ):(O.enc x).extract 1 (1+40)=O.enc x.tQ:=p1 [#[x.bytes.v]] [#[x.rI.v],O.enc x.rN,#[.int .u64 (x.tv:Int)],#[.int .u64 (x.ow:Int)],#[.int .u64 (x.priority:Int)]] _ (by rw[iw];simp only[List.map,O.ez];rfl) (by rw[O.ez];rfl)
theorem Gn(x:aZ):(O.enc x)[41]? =some (x.rI.v):=hu [#[x.bytes.v],O.enc x.tQ] [O.enc x.rN,#[.int .u64 (x.tv:Int)],#[.int .u64 (x.ow:Int)],#[.int .u64 (x.priority:Int)]] _ (by rw[iw];simp only[List.map,O.ez];rfl)
theorem Gs(x:aZ):(O.enc x).extract 42 (42+3)=O.enc x.rN:=p1 [#[x.bytes.v],O.enc x.tQ,#[x.rI.v]] [#[.int .u64 (x.tv:Int)],#[.int .u64 (x.ow:Int)],#[.int .u64 (x.priority:Int)]] _ (by rw[iw];simp only[List.map,O.ez];rfl) (by rw[O.ez];rfl)
theorem Gr(x:aZ):(O.enc x)[45]? =some (.int .u64 (x.tv:Int)):=hu [#[x.bytes.v],O.enc x.tQ,#[x.rI.v],O.enc x.rN] [#[.int .u64 (x.ow:Int)],#[.int .u64 (x.priority:Int)]] _ (by rw[iw];simp only[List.map,O.ez];rfl)
theorem NY(x:aZ)(v:oW):iI (O.enc x) 1 (O.enc v)=O.enc {x with tQ:=v}:=by
 have h:=rL [#[x.bytes.v]] [#[x.rI.v],O.enc x.rN,#[.int .u64 (x.tv:Int)],#[.int .u64 (x.ow:Int)],#[.int .u64 (x.priority:Int)]] (O.enc x.tQ) (O.enc v) (by first|(rw[O.ez,O.ez];done)|rfl);rw[show(eK [#[x.bytes.v]]).size=1 from(by rw[iw];simp only[List.map,O.ez];rfl)]at h;exact h
theorem ZH(x:aZ)(v:Nat):iI (O.enc x) 45 #[.int .u64 (v:Int)]=O.enc {x with tv:=v}:=by
 have h:=rL [#[x.bytes.v],O.enc x.tQ,#[x.rI.v],O.enc x.rN] [#[.int .u64 (x.ow:Int)],#[.int .u64 (x.priority:Int)]] (#[.int .u64 (x.tv:Int)]) (#[.int .u64 (v:Int)]) (by first|(rw[O.ez,O.ez];done)|rfl);rw[show(eK [#[x.bytes.v],O.enc x.tQ,#[x.rI.v],O.enc x.rN]).size=45 from(by rw[iw];simp only[List.map,O.ez];rfl)]at h;exact h
theorem ZL(x:aZ):(O.enc x)[42]? =some (.int .u64 (x.rN.tJ:Int)):=vq (i:=0) (Gs x) (Gi x.rN) (by decide)
instance(x:aZ):nt x [#[x.bytes.v],O.enc x.tQ,#[x.rI.v],O.enc x.rN,#[.int .u64 (x.tv:Int)],#[.int .u64 (x.ow:Int)],#[.int .u64 (x.priority:Int)]]:=⟨rfl⟩
instance(priority:=2000){oU:ec}{o5:oW}{lo:sP}{bT:Nat}{Av:Nat}:nt (⟨oU,o5,n4,lo,gV,bT,Av⟩:aZ) [#[oU.v],O.enc o5,#[n4.v],O.enc lo,#[.int .u64 (gV:Int)],#[.int .u64 (bT:Int)],#[.int .u64 (Av:Int)]]:=⟨rfl⟩
instance{x:aZ}:st (O.enc x) 0 #[v.v] (O.enc {x with bytes:=v}):=rb
instance{x:aZ}:st (O.enc x) 41 #[v.v] (O.enc {x with rI:=v}):=rb
instance{x:aZ}{v:Nat}:st (O.enc x) 46 #[.int .u64 (v:Int)] (O.enc {x with ow:=v}):=rb
instance{x:aZ}{v:Nat}:st (O.enc x) 47 #[.int .u64 (v:Int)] (O.enc {x with priority:=v}):=rb
structure tX where
 key:Vector UInt8 32
 cr:aH
 deriving DecidableEq
def tX.parts(x:tX):List (Array Value):=[O.enc x.key,O.enc x.cr]
theorem ZD(x:tX):x.parts.map Array.size=[32,34]:=by
 simp only[tX.parts,List.map,O.ez];rfl
instance:O tX where
 enc x:=eK x.parts
 eo:=66
 pos:=by omega
 ez x:=by rw[iw,ZD];rfl
 one x:=rD (all_cons (O.one _) (all_cons (O.one _) rC))
theorem bO(x:tX):O.enc x=eK x.parts:=rfl
theorem ZC(x:tX):(O.enc x).extract 0 (0+32)=O.enc x.key:=p1 [] [O.enc x.cr] _ (by rw[iw];simp only[List.map,O.ez];rfl) (by rw[O.ez];rfl)
instance(x:tX):nt x [O.enc x.key,O.enc x.cr]:=⟨rfl⟩
structure tr where
 fail:Int
 ot:Int
 tJ:Nat
 tv:Nat
 tq:Nat
 ha:ec
def tr.parts(x:tr):List (Array Value):=[#[.int .i64 x.fail],#[.int .i64 x.ot],#[.int .u64 (x.tJ:Int)],#[.int .u64 (x.tv:Int)],#[.int .u64 (x.tq:Int)],#[x.ha.v]]
theorem ZU(x:tr):x.parts.map Array.size=[1,1,1,1,1,1]:=by
 simp only[tr.parts,List.map,O.ez];rfl
instance:O tr where
 enc x:=eK x.parts
 eo:=6
 pos:=by omega
 ez x:=by rw[iw,ZU];rfl
 one x:=rD (all_cons (oZ _ _) (all_cons (oZ _ _) (all_cons (oZ _ _) (all_cons (oZ _ _) (all_cons (oZ _ _) (all_cons (O.one (α:=ec) _) rC))))))
theorem jV(x:tr):O.enc x=eK x.parts:=rfl
theorem ZM(x:tr)(v:Int):iI (O.enc x) 0 #[.int .i64 v]=O.enc {x with fail:=v}:=by
 have h:=rL [] [#[.int .i64 x.ot],#[.int .u64 (x.tJ:Int)],#[.int .u64 (x.tv:Int)],#[.int .u64 (x.tq:Int)],#[x.ha.v]] (#[.int .i64 x.fail]) (#[.int .i64 v]) (by first|(rw[O.ez,O.ez];done)|rfl);rw[show(eK []).size=0 from(by rw[iw];simp only[List.map,O.ez];rfl)]at h;exact h
instance(x:tr):nt x [#[.int .i64 x.fail],#[.int .i64 x.ot],#[.int .u64 (x.tJ:Int)],#[.int .u64 (x.tv:Int)],#[.int .u64 (x.tq:Int)],#[x.ha.v]]:=⟨rfl⟩
instance(priority:=2000){oU:Int}{o5:Int}{n4:Nat}{lo:Nat}:nt (⟨oU,o5,n4,lo,gV,bT⟩:tr) [#[.int .i64 oU],#[.int .i64 o5],#[.int .u64 (n4:Int)],#[.int .u64 (lo:Int)],#[.int .u64 (gV:Int)],#[bT.v]]:=⟨rfl⟩
instance{x:tr}{v:Int}:st (O.enc x) 1 #[.int .i64 v] (O.enc {x with ot:=v}):=rb
instance{x:tr}{v:Nat}:st (O.enc x) 2 #[.int .u64 (v:Int)] (O.enc {x with tJ:=v}):=rb
instance{x:tr}{v:Nat}:st (O.enc x) 4 #[.int .u64 (v:Int)] (O.enc {x with tq:=v}):=rb
instance{x:tr}:st (O.enc x) 5 #[v.v] (O.enc {x with ha:=v}):=rb
structure Item where
 number:Nat
 r:aZ
 place:UInt8
 Ak:Bool
def Item.parts(x:Item):List (Array Value):=[#[.int .u64 (x.number:Int)],O.enc x.r,#[.int .u8 x.place.toNat],#[.bool x.Ak]]
theorem ZF(x:Item):x.parts.map Array.size=[1,48,1,1]:=by
 simp only[Item.parts,List.map,O.ez];rfl
instance:O Item where
 enc x:=eK x.parts
 eo:=51
 pos:=by omega
 ez x:=by rw[iw,ZF];rfl
 one x:=rD (all_cons (oZ _ _) (all_cons (O.one _) (all_cons (oZ _ _) (all_cons (O.one (α:=Bool) _) rC))))
theorem LY(x:Item):O.enc x=eK x.parts:=rfl
theorem ZP(x:Item):(O.enc x).extract 1 (1+48)=O.enc x.r:=p1 [#[.int .u64 (x.number:Int)]] [#[.int .u8 x.place.toNat],#[.bool x.Ak]] _ (by rw[iw];simp only[List.map,O.ez];rfl) (by rw[O.ez];rfl)
instance(x:Item):nt x [#[.int .u64 (x.number:Int)],O.enc x.r,#[.int .u8 x.place.toNat],#[.bool x.Ak]]:=⟨rfl⟩
instance(priority:=2000){o5:aZ}{n4:UInt8}{lo:Bool}:nt (⟨oU,o5,n4,lo⟩:Item) [#[.int .u64 (oU:Int)],O.enc o5,#[.int .u8 n4.toNat],#[.bool lo]]:=⟨rfl⟩
instance{x:Item}{v:aZ}:st (O.enc x) 1 (O.enc v) (O.enc {x with r:=v}):=rb
instance{x:Item}{v:UInt8}:st (O.enc x) 49 #[.int .u8 v.toNat] (O.enc {x with place:=v}):=rb
structure lZ where
 sy:ec
 nx:ec
 sc:Int
def lZ.parts(x:lZ):List (Array Value):=[#[x.sy.v],#[x.nx.v],#[.int .i64 x.sc]]
theorem ZG(x:lZ):x.parts.map Array.size=[1,1,1]:=by
 simp only[lZ.parts,List.map,O.ez];rfl
instance:O lZ where
 enc x:=eK x.parts
 eo:=3
 pos:=by omega
 ez x:=by rw[iw,ZG];rfl
 one x:=rD (all_cons (O.one (α:=ec) _) (all_cons (O.one (α:=ec) _) (all_cons (oZ _ _) rC)))
theorem NB(x:lZ):O.enc x=eK x.parts:=rfl
theorem NV(x:lZ):(O.enc x)[0]? =some (x.sy.v):=hu [] [#[x.nx.v],#[.int .i64 x.sc]] _ (by rw[iw];simp only[List.map,O.ez];rfl)
theorem LV(x:lZ):(O.enc x)[1]? =some (x.nx.v):=hu [#[x.sy.v]] [#[.int .i64 x.sc]] _ (by rw[iw];simp only[List.map,O.ez];rfl)
theorem LK(x:lZ):(O.enc x)[2]? =some (.int .i64 x.sc):=hu [#[x.sy.v],#[x.nx.v]] [] _ (by rw[iw];simp only[List.map,O.ez];rfl)
theorem Gh(x:lZ)(v:Int):iI (O.enc x) 2 #[.int .i64 v]=O.enc {x with sc:=v}:=by
 have h:=rL [#[x.sy.v],#[x.nx.v]] [] (#[.int .i64 x.sc]) (#[.int .i64 v]) (by first|(rw[O.ez,O.ez];done)|rfl);rw[show(eK [#[x.sy.v],#[x.nx.v]]).size=2 from(by rw[iw];simp only[List.map,O.ez];rfl)]at h;exact h
instance(x:lZ):nt x [#[x.sy.v],#[x.nx.v],#[.int .i64 x.sc]]:=⟨rfl⟩
instance(priority:=2000){oU:ec}{n4:Int}:nt (⟨oU,o5,n4⟩:lZ) [#[oU.v],#[o5.v],#[.int .i64 n4]]:=⟨rfl⟩
def ux:Item:=⟨0,⟨⟨none,0,0⟩,⟨⟨none,0,0⟩,⟨false,⟨0,0,0⟩,⟨none,0,0⟩,aO 32,⟨none,0,0⟩,⟨none,0,0⟩⟩⟩,⟨none,0,0⟩,⟨0,0,0⟩,0,0,0⟩,0,false⟩
theorem yA(v:Value)(i s:Nat):rs (oX v i s) 0=oX v i s:=by
 unfold oX;split<;>simp[rs,undef]
theorem zK:(eK [#[.int .u64 0],eK [#[.slice none 0 0],eK [#[.slice none 0 0],eK [#[.bool false],eK [#[.int .u8 0],#[.int .u8 0],#[.int .u8 0]],#[.slice none 0 0],(Array.replicate 32 (.int .u8 0)),#[.slice none 0 0],#[.slice none 0 0]]],#[.slice none 0 0],eK [#[.int .u64 0],#[.int .u64 0],#[.int .i64 0]],#[.int .u64 0],#[.int .u64 0],#[.int .u64 0]],#[.int .u8 0],#[.bool false]])=O.enc (ux:Item):=by
 simp only[LY,Item.parts,iW,ux,p9,aZ.parts,dr,oW.parts,cn,oa.parts,cR,ro.parts,bA,sP.parts];rfl
instance:wS (eK [#[.int .u64 0],eK [#[.slice none 0 0],eK [#[.slice none 0 0],eK [#[.bool false],eK [#[.int .u8 0],#[.int .u8 0],#[.int .u8 0]],#[.slice none 0 0],(Array.replicate 32 (.int .u8 0)),#[.slice none 0 0],#[.slice none 0 0]]],#[.slice none 0 0],eK [#[.int .u64 0],#[.int .u64 0],#[.int .i64 0]],#[.int .u64 0],#[.int .u64 0],#[.int .u64 0]],#[.int .u8 0],#[.bool false]]) (O.enc (ux:Item)):=⟨zK⟩
def hD(v:Value):Nat:=match v with| .slice _ n _=>n|_=>0
theorem Gl{α:Type}[O α]{w:World}{v:Value}{xs:List α}(h:ex w v xs):hD v=xs.length:=by obtain⟨a,c,rfl⟩:=h.eq;rfl
def dI(l:List Instr):Nat:=(l.map λi=>hD i.data.v).sum
theorem ZW{l:List Instr}{k:Nat}(a:k<l.length):dI (l.take (k+1))=dI (l.take k)+hD l[k].data.v:=by
 unfold dI;rw[List.take_succ_eq_append_getElem a,List.map_append,List.sum_append];simp
end
section
open Go.Lib Go.Sort
open Go.Proofs (sortWorldK sortWorldK_grown_c)
variable{P:Program}{w:World}{v:Value}{xs:List UInt8}
theorem UM:∀a:List UInt8,compareBytes a a=0
 |[]=>by simp[compareBytes]
 |x::l=>by unfold compareBytes;rw[if_neg (by simp),if_neg (by simp)];exact UM l
theorem UF(x y:UInt8)(a b:List UInt8):compareBytes (x::a) (y::b)<0↔x<y∨x=y/\compareBytes a b<0:=by
 rw[compareBytes.eq_4];by_cases G:x<y
 .rw[if_pos G];exact⟨λ_=>.inl G,λ_=>by decide⟩
 rw[if_neg G];by_cases Y:y<x
 .rw[if_pos Y];refine⟨λh=>absurd h (by decide),λh=>?_⟩;rcases h with h|⟨h,_⟩
  .exact absurd h G
  subst h;exact absurd Y G
 rw[if_neg Y];have ej:x=y:=UInt8.le_antisymm (UInt8.not_lt.1 Y) (UInt8.not_lt.1 G);exact⟨λh=>.inr ⟨ej,h⟩,λh=>(h.resolve_left G).2⟩
theorem RC:∀a b c:List UInt8,compareBytes a b<0->compareBytes b c<0->compareBytes a c<0
 |a,b,[],_,Y=>by cases b<;>simp[compareBytes]at Y
 |a,[],_,G,_=>by cases a<;>simp[compareBytes]at G
 |[],_::_,z::c,_,_=>by simp[compareBytes]
 |x::a,y::b,z::c,G,Y=>by
  rw[UF]at*;rcases G with G|⟨rfl,G⟩
  .rcases Y with Y|⟨rfl,_⟩
   .exact .inl (UInt8.lt_trans G Y)
   exact .inl G
  rcases Y with Y|⟨rfl,Y⟩
  .exact .inl Y
  exact .inr ⟨rfl,RC a b c G Y⟩
theorem UP:∀a b:List UInt8,compareBytes a b<0∨a=b∨compareBytes b a<0
 |[],[]=>.inr (.inl rfl)
 |[],_::_=>.inl (by simp[compareBytes])
 |_::_,[]=>.inr (.inr (by simp[compareBytes]))
 |x::a,y::b=>by
  rw[UF,UF];by_cases G:x<y
  .exact .inl (.inl G)
  by_cases Y:y<x
  .exact .inr (.inr (.inl Y))
  have ej:x=y:=UInt8.le_antisymm (UInt8.not_lt.1 Y) (UInt8.not_lt.1 G);subst ej;rcases UP a b with h|h|h
  .exact .inl (.inr ⟨rfl,h⟩)
  .subst h;exact .inr (.inl rfl)
  exact .inr (.inr (.inr ⟨rfl,h⟩))
theorem eu5{α:Type}(f:α->List UInt8):Go.Sort.SWO (Go.Proofs.ltOf λx y=>compareBytes (f x) (f y))where
 irrefl x:=by unfold Go.Proofs.ltOf;exact decide_eq_false (by show¬compareBytes (f x) (f x)<0;rw[UM];decide)
 trans x y z G Y:=by
  unfold Go.Proofs.ltOf at*;rw[decide_eq_true_eq]at*;exact RC _ _ _ G Y
 ntrans x y z G Y:=by
  unfold Go.Proofs.ltOf at*;rw[decide_eq_false_iff_not]at*;replace G:¬compareBytes (f x) (f y)<0:=G;replace Y:¬compareBytes (f y) (f z)<0:=Y;show¬compareBytes (f x) (f z)<0;intro h;rcases UP (f x) (f y)with ej|ej|ej
  .exact G ej
  .rw[ej]at h;exact Y h
  rcases UP (f y) (f z)with e8|e8|e8
  .exact Y e8
  .rw[<-e8]at h;exact G h
  have:=RC _ _ _ e8 ej;exact absurd (RC _ _ _ h this) (by rw[UM];decide)
theorem VS{P:Program}{w:World}:∀(ys:List UInt8)(a:Addr)(cu:ByteArray),(∀(j:Nat)(x:UInt8),ys[j]? =some x->w.cell? (a.add j)=some (.int .u8 (x.toNat:Int))) ->
 (Extern.Bytes.loadBytes a ys.length cu).run P w= .ok ⟨cu.data++ys.toArray⟩ w
 |[],a,cu,_=>by simp[Extern.Bytes.loadBytes]
 |y::ys,a,cu,h=>by
  have em:w.cell? a=some (.int .u8 (y.toNat:Int)):=by
   have:=h 0 y rfl;simpa[Addr.add]using this
  have c:=VS (P:=P) ys (a.add 1) (cu.push y) (λj x b=>by
   have:=h (j+1) x (by simpa using b);have e:(a.add 1).add j=a.add (j+1):=by
    unfold Addr.add;by_cases b:j=0
    .subst b;simp
    simp[b];omega
   rw[e];exact this)
  simp only[List.length_cons,Extern.Bytes.loadBytes,Sem.run_bind,run_load,em,Result.andThen];have d:((y.toNat:Int).toNat.toUInt8)=y:=by simp
  rw[d,c];congr 1;apply ByteArray.ext;simp[ByteArray.push]
theorem VR(h:ex w v xs):(Extern.Bytes.bytesOf v).run P w= .ok ⟨xs.toArray⟩ w:=by
 obtain⟨a,cap,rfl,G,Y,ej,e8⟩:=h;cases a with
 |none=>
  have au:=ej rfl;have a2:xs=[]:=List.length_eq_zero_iff.1 (by omega);subst a2;rfl
 |some c=>
  by_cases g:0<cap
  .obtain⟨d,hr⟩:=e8 c rfl g;have a2:=VS (P:=P) (w:=w) xs c .empty (λj x i=>by
    have iK:=hr j (.int .u8 (x.toNat:Int)) (by rw[IA,List.getElem?_map,i];rfl);have e:c.add j=⟨c.block,c.off+j,none⟩:=by
     obtain⟨b,o,s⟩:=c;have d:s=none:=d;subst d;unfold Addr.add;by_cases f:j=0
     .subst f;rfl
     simp[f]
    rw[e];exact iK)
   simp only[Extern.Bytes.bytesOf];rw[a2];congr 1;apply ByteArray.ext;show(#[]:Array UInt8)++xs.toArray=xs.toArray;simp
  have a2:xs=[]:=List.length_eq_zero_iff.1 (by omega);subst a2;rfl
theorem eu6{u:Value}{ys:List UInt8}(h:ex w v xs)(k:ex w u ys):(Extern.BytealgCompare.compare #[v,u]).run P w= .ok (.int .i64 (compareBytes xs ys)) w:=by
 change Sem.run P (do pure (goInt (Extern.BytealgCompare.cmp (<-Extern.Bytes.bytesOf v) (<-Extern.Bytes.bytesOf u)))) w=_;simp only[Sem.run_bind,VR h,VR k,Result.andThen,Sem.run_pure];rw[cmp_eq];simp[goInt]
section
variable{α:Type}[O α][Inhabited α]
def ul(x:α):List Value:=(O.enc x).toList
theorem VL(x:α):(ul x).length=O.eo α:=by unfold ul;rw[Array.length_toList,O.ez]
theorem VD(x:α):(ul x).toArray=O.enc x:=by unfold ul;simp
theorem eu7(x:α):∀v∈ul x,v.oneCell'=true:=O.one x
theorem VC(d:Array α)(t:Nat)(h:t<d.size*O.eo α):(ij d.toList)[t]? =some (flatK ul (O.eo α) d)[t]! :=by
 have a:=O.pos (α:=α);have ew:t/O.eo α<d.size:=(Nat.div_lt_iff_lt_mul a).2 h;have b:t%O.eo α<O.eo α:=Nat.mod_lt _ a;have c:t%O.eo α<(O.enc d[t/O.eo α]).size:=by rw[O.ez];exact b
 have Y:=Io d.toList (t/O.eo α) d[t/O.eo α] (by rw[Array.getElem?_toList];exact Array.getElem?_eq_getElem ew) (t%O.eo α) _ (Array.getElem?_eq_getElem c);rw[show t/O.eo α*O.eo α+t%O.eo α=t from by rw[Nat.mul_comm];exact Nat.div_add_mod ..]at Y;rw[Y,get_flatK _ _ _ _ h,getElem!_pos d _ ew];have ej:t%O.eo α<(ul d[t/O.eo α]).length:=by rw[VL];exact b
 rw[getElem!_pos (ul d[t/O.eo α]) _ ej];simp[ul]
theorem eu8{w:World}{g cap:Nat}{e:TypeId}{ne:Array Value}{xs:List α}(b:w.heap[g]? =some (.cells ne e (0,0)))(e8:ne.toList.take (xs.length*O.eo α)=ij xs):HoldsK ul (O.eo α) w g 0 xs.toArray:=by
 intro j a;rw[size_flatK]at a;have au:=VC xs.toArray j a;rw[<-e8,List.getElem?_take,if_pos (by simpa using a)]at au;refine⟨?_,?_⟩
 .rw[Tf b,Nat.zero_add,<-Array.getElem?_toList];exact au
 simp[World.frozen?,b]
theorem eu9{w:World}{g n:Nat}{e:TypeId}{ne:Array Value}(a:w.heap[g]? =some (.cells ne e (0,0)))(d:Array α)(os:Array Obj):
 (sortWorldK ul (O.eo α) w g 0 n d os).heap[g]? =some (.cells (putCells id 0 (flatK ul (O.eo α) d) ne) e (0,0)):=by
 have hlt:=(Array.getElem?_eq_some_iff.1 a).1;have b:g<(putRowK ul (O.eo α) (Sort.ahead w n) g 0 d).heap.size:=by rw[size_putRowK];exact hlt
 unfold sortWorldK;rw[heap_grow_old _ _ b];simp[putRowK,putRow,mapBlock,Sort.ahead,Array.getElem?_modify,a,onCells]
theorem eme{w:World}{g n:Nat}(d:Array α)(os:Array Obj)(k:Nat)(a:k<w.heap.size)(b:k≠g):(sortWorldK ul (O.eo α) w g 0 n d os).heap[k]? =w.heap[k]? :=by
 have c:k<(putRowK ul (O.eo α) (Sort.ahead w n) g 0 d).heap.size:=by rw[size_putRowK];exact a
 unfold sortWorldK;rw[heap_grow_old _ _ c];simp[putRowK,putRow,mapBlock,Sort.ahead,Array.getElem?_modify,Ne.symm b]
theorem emt{w:World}{g cap n:Nat}{e:TypeId}{ne:Array Value}{xs:List α}(b:w.heap[g]? =some (.cells ne e (0,0)))(G:xs.length<=cap)(Y:cap<=maxLen)(ej:cap*O.eo α<=ne.size)(d:Array α)(hd:d.size=xs.length)(os:Array Obj):
 l6 (sortWorldK ul (O.eo α) w g 0 n d os) (.slice (some ⟨g,0,none⟩) xs.length cap) e d.toList:=by
 have eB:d.toList.length=xs.length:=by simpa using hd
 refine .inr ⟨g,cap,_,by rw[eB],eu9 b d os,by rw[eB];exact G,Y,by simpa[putCells]using ej,?_⟩;apply List.ext_getElem?;intro t;rw[List.getElem?_take,eB];by_cases a:t<xs.length*O.eo α
 .rw[if_pos a];have au:=VC d t (by rw[hd];exact a);have c:t<ne.size:=Nat.lt_of_lt_of_le a (Nat.le_trans (Nat.mul_le_mul_right _ G) ej);rw[au,Array.getElem?_toList];simp[putCells,c,hd,a]
 rw[if_neg a,eq_comm,List.getElem?_eq_none_iff,uc,eB];omega
theorem U.ema{w0 w w':World}{S:List eH}{s:ec}{e:TypeId}{xs:List α}(h:U w0 (V s.v e xs::S) w){g cap n:Nat}(b:s.v= .slice (some ⟨g,0,none⟩) xs.length cap){d:Array α}{os:Array Obj}(hd:d.size=xs.length)
 (i:w'=sortWorldK ul (O.eo α) w g 0 n d os):U w0 (V s.v e d.toList::S) w':=by
 subst i;rcases h.cQ .nW with⟨Z,_⟩|⟨o,p,ne,tG,f,G,Y,ej,e8⟩
 .rw[b]at Z;cases Z
 rw[b]at tG;injection tG with a q j;injection a with a;injection a with a;subst a;subst j;have hlt:=(Array.getElem?_eq_some_iff.1 f).1;refine lv (w:=w) (w':=sortWorldK ul (O.eo α) w g 0 n d os) (e:=V s.v e xs) (o1:=V s.v e d.toList) ⟨rfl,rfl,rfl,?_,λk c l=>?_⟩ ?_ ?_ h .nW
 .unfold sortWorldK;rw[size_grow,size_putRowK];exact Nat.le_add_right _ _
 .refine eme d os k c λm=>l ?_;subst m;rw[dm,b];rfl
 .rw[df,b];exact emt f G Y ej d hd os
 intro k c;rw[dm]at c⊢;exact .inl c
def uF(w w':World):Prop:=∃q os,w'=grow (w.drewN q) os
theorem uF.refl(w:World):uF w w:=⟨0,#[],by rw[grow_empty];rfl⟩
theorem uF.alloc{w w':World}(h:uF w w')(o:Obj):uF w (w'.alloc o):=by
 obtain⟨q,os,rfl⟩:=h;exact⟨q,_,by rw[alloc_eq_grow,grow_grow]⟩
theorem uF.drawn{w w':World}(h:uF w w'):uF w {w' with drawn:=w'.drawn+1}:=by
 obtain⟨q,os,rfl⟩:=h;exact⟨q+1,os,rfl⟩
theorem uF.trans{a b c:World}(h:uF a b)(k:uF b c):uF a c:=by
 obtain⟨q,os,rfl⟩:=h;obtain⟨oy,d,rfl⟩:=k;refine⟨q+oy,os++d,?_⟩;simp[grow,World.drewN,Nat.add_assoc,Array.append_assoc]
theorem uF.es{w w':World}(h:uF w w'):eV w w':=by
 obtain⟨q,os,rfl⟩:=h;refine⟨rfl,rfl,rfl,?_,λk a=>heap_grow_old _ _ a⟩;rw[size_grow];exact Nat.le_add_right _ _
end
end
section
section
variable{P:Program}{n:Nat}{D:List Deferred}{Q:Exit->Act->World->Prop}{f:te}{w:World}
theorem emi{g:Operand}{p q rE:Nat}{cI cb:Code}{ra:Nat}[m:lS P ra]{oN:List Value}{ea:World}{r9:List eH}
 (b:eD f g= .func (.func ra) #[] oN.toArray) (c:Nat.blt p n=true) (e:Nat.blt q n=true) (E:U ea r9 w)
 (i:∀(x:Value)(X:List eH)(W:World),U ea (X++r9) W->nr P ra (x::oN).toArray W λ_ j=>eV W j)
 (k:∀(d:Nat)(W:World),U ea (lu d (.deferred (some []))::r9) W->∀a,sK n ({target:=.collected d,args:=#[]}::D) a f->Q .normal a W):
 lx P n (.block rE (.rangeFunc g #[p,q] cI cb)) D Q f w:=by
 refine JJ (oh:=Unit) (σ:=Unit) (ρ:=Unit) (λ_=>False) (λ_=>[]) (λ_=>.nilIface) (λ_=>.nilIface) (λ_ _=>False) (λ_=>r9) (λ_ _=>False) (λ_=>[]) (λ_=>True) (λ_=>False) b c e E ?_ ?_ ?_ ?_
 .intro l X o W o4 _;exact(i _ X W o4).mono λ_ _ hb=>.inl ⟨(),trivial,o4.es hb⟩
 .intro l X t W h;exact h.elim
 .intro d W _ _ o4;exact k d W o4
 intro d W _ h;exact h.elim
end
def VU(Q:Exit->List Nat->te->World->Prop):Exit->List Nat->te->World->Prop
 | .goto _,_,_,_=>False
 |e,L,f,w=>Q e L f w
section
variable{P:Program}{n:Nat}{Q:Exit->List Nat->te->World->Prop}{L:List Nat}{f:te}{w:World}
theorem VM{g:Operand}{p q rE:Nat}{cI cb:Code}{ra:Nat}[m:lS P ra]{oN:List Value}{ea:World}{r9:List eH}
 (b:eD f g= .func (.func ra) #[] oN.toArray) (c:Nat.blt p n=true) (i:Nat.blt q n=true) (E:U ea (hM L::r9) w)
 (j:∀(x:Value)(S:List eH)(W:World),U ea (r9++S) W->nr P ra (x::oN).toArray W λ_ k=>eV W k)
 (l:∀(d:Nat)(W:World),U ea (hM (d::L)::r9) W->Q .normal (d::L) f W):
 oq P n (.block rE (.rangeFunc g #[p,q] cI cb)) Q L f w:=by
 unfold oq;intro a ep;have h:=emi (n:=n) (D:=u7 L) (Q:=λe tc w'=>∃ae L',sK n (u7 L') tc ae/\Q e L' ae w') (f:=f) (w:=w) (g:=g) (p:=p) (q:=q) (rE:=rE) (cI:=cI) (cb:=cb) b c i E
  (λx X W o4=>j x (X++[hM L]) W (o4.hK (by rw[<-List.append_assoc];exact(List.perm_middle (l₁:=X)).trans ((List.perm_append_comm (l₁:=hM L::X) (l₂:=r9)).trans (by
   refine(List.Perm.append_left r9 ?_).trans (by rw[List.append_assoc]);exact List.perm_append_comm (l₁:=[hM L]) (l₂:=X))))))
  (λd W o4 a ep=>⟨f,d::L,ep,l d W o4.Lv⟩)
 exact wpIn_wide.1 (h.run ep)
theorem oq.scope{c:Code}(h:oq P n c (VU Q) L f w):oq P n (.scope c) Q L f w:=by
 unfold oq at*;intro a ep;refine wp_scope_straight (wp_mono (h a ep) λe tc w'⟨ae,L',hr,b⟩=>?_);cases e with
 |goto l=>exact b.elim
 |_=>exact⟨ae,L',hr,b⟩
theorem oq.label{l:Nat}(h:Q .normal L f w):oq P n (.label l) Q L f w:=by unfold oq;exactλa ep=>wp_label ⟨f,L,ep,h⟩
theorem emn(h:Q .ret L f w):VU Q .ret L f w:=h
end
end
end Go.Fer
