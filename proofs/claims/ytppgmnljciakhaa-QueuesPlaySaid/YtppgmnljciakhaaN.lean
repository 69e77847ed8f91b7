/- order: data -/
import Derived.Test.YtppgmnljciakhaaG
set_option linter.all false
namespace Go.Fer
open Go Go.Proofs Go.RowKit

theorem ML.forkT {P : Program} {n nh : Nat} {I : World → Prop} {ops : Array Oper} {Q : Exit → Fr → World → Prop} {f : Fr} {w : World} {ri rj : Sched} {i j di dj g : Nat} {want : Bool} {opi opj : Op} {Ti Tj : TypeId} {posi posj : String} {afi afj : Array Edge} (t : Nat)
    (hi : ops[i]? = some ⟨some di, opi, Ti, posi, afi, some (g, want)⟩) (hj : ops[j]? = some ⟨some dj, opj, Tj, posj, afj, some (g, want)⟩) (hdi : Nat.blt di n = true) (hdj : Nat.blt dj n = true)
    (hg : (ops[g]?).bind (·.dst) = some t) (ht : Nat.blt t n = true) (hb : f t = .bool want)
    (h1 : opW P f ⟨some di, opi, Ti, posi, afi, none⟩ w (fun v w' => I w' ∧ ML P n ops nh I Q ri (upd f di v) w'))
    (h2 : opW P f ⟨some dj, opj, Tj, posj, afj, none⟩ w (fun v w' => I w' ∧ ML P n ops nh I Q rj (upd f dj v) w')) : ML P n ops nh I Q (.fork i j ri rj) f w := by
  have hdi : di < n := by simpa using hdi
  have hdj : dj < n := by simpa using hdj
  have h1' : opW P f ⟨some di, opi, Ti, posi, afi, some (g, want)⟩ w (fun v w' => I w' ∧ ML P n ops nh I Q ri (upd f di v) w') := by unfold opW at h1 ⊢; exact h1
  have h2' : opW P f ⟨some dj, opj, Tj, posj, afj, some (g, want)⟩ w (fun v w' => I w' ∧ ML P n ops nh I Q rj (upd f dj v) w') := by unfold opW at h2 ⊢; exact h2
  unfold ML at h1' h2' ⊢
  intro listed a hsel hok hinv ha hnp
  simp only [mixOk, Bool.and_eq_true, decide_eq_true_eq] at hok
  obtain ⟨⟨⟨⟨⟨g1, g2⟩, g3⟩, g4⟩, g5⟩, g6⟩ := hok
  have hho : headOk .any ops nh listed := (hinv.resolve_right (fun h => by cases h)).1
  have hri : i ∈ Region.ready .any ops listed := by rw [g3]; simp
  have hrj : j ∈ Region.ready .any ops listed := by rw [g3]; simp
  have hy : yielded ops a.tmps g = some want := by
    unfold yielded
    simp only [hg, Option.bind_some, tmps_at ha (t := t) (by simpa using ht), hb]
  refine ⟨fun h0 => (by rw [g3] at h0; cases h0), fun x hx => ?_⟩
  rw [g3] at hx
  rcases List.mem_cons.1 hx with rfl | hx
  · unfold wpOp
    simp only [hi, Region.wanted, hy, beq_self_eq_true, if_true]
    exact .inl (wp_of_opW ha h1' fun v w' ⟨hI, hk⟩ => ⟨fun _ _ => hI, hk _ _ hsel g5 (.inl ⟨hho.set hri g1, hI⟩) (ha.put (dst := some di) (by intro x hx; cases hx; exact hdi) v) hnp⟩)
  · obtain rfl : x = j := by simpa using hx
    unfold wpOp
    simp only [hj, Region.wanted, hy, beq_self_eq_true, if_true]
    refine .inl (wp_of_opW ha h2' fun v w' ⟨hI, hk⟩ => ⟨fun _ _ => hI, ?_⟩)
    show wpAnyB P .any ops nh I _ (ways ri) _ _ _
    rw [g4]
    exact hk _ _ hsel g6 (.inl ⟨hho.set hrj g2, hI⟩) (ha.put (dst := some dj) (by intro x hx; cases hx; exact hdj) v) hnp

structure OrD where
  tk : SlV
  tl : List SlV
  tc : List (List I64)
  gv : SlV
  gl : List Bt
def orE (x : OrD) : List Ent := ownE x.tk.v 32 x.tl :: ownE x.gv.v 32 (x.gl.map Prod.fst) :: bE x.gl
structure OrOk (w : World) (n : Nat) (x : OrD) (c : List (List I64)) : Prop where
  len : x.tl.length = x.tc.length
  rd : ∀ m (h1 : m < x.tl.length) (h2 : m < x.tc.length), SlR w x.tl[m].v x.tc[m]
  eq : x.tc = x.gl.map Prod.snd ++ c
  bd : x.tl.length ≤ n
theorem OrOk.glen {w : World} {n : Nat} {x : OrD} {c : List (List I64)} (h : OrOk w n x c) : x.tl.length = x.gl.length + c.length := by rw [h.len, h.eq]; simp
theorem OrOk.pop {w : World} {n : Nat} {x : OrD} {b : Bt} {c : List (List I64)} (h : OrOk w n x (b.2 :: c)) (s : SlV) : OrOk w n { x with gv := s, gl := x.gl ++ [b] } c :=
  ⟨h.len, h.rd, by show x.tc = _; rw [h.eq]; simp, h.bd⟩
theorem OrOk.push {w : World} {n : Nat} {x : OrD} {c : List (List I64)} (h : OrOk w n x c) (s b : SlV) {l : List I64} (hb : SlR w b.v l) : OrOk w (n + 1) { x with tk := s, tl := x.tl ++ [b], tc := x.tc ++ [l] } (c ++ [l]) := by
  refine ⟨by simp [h.len], fun m h1 h2 => ?_, by show x.tc ++ [l] = _; rw [h.eq]; simp, by simp; exact h.bd⟩
  have h1 : m < (x.tl ++ [b]).length := h1
  show SlR w (x.tl ++ [b])[m].v (x.tc ++ [l])[m]
  by_cases hm : m < x.tl.length
  · rw [List.getElem_append_left hm, List.getElem_append_left (by rw [← h.len]; exact hm)]
    exact h.rd m hm _
  · have e : m = x.tl.length := by simp at h1; omega
    subst e
    simp [h.len, hb]
theorem OrOk.up {w : World} {n m : Nat} {x : OrD} {c : List (List I64)} (h : OrOk w n x c) (hn : n ≤ m) : OrOk w m x c := ⟨h.len, h.rd, h.eq, Nat.le_trans h.bd hn⟩
structure Inv3 (w : World) (n : Nat) (xs : List OrD) (C : Cn) : Prop where
  l1 : xs.length = 3
  l2 : C.length = 3
  all : ∀ k (h1 : k < xs.length) (h2 : k < C.length), OrOk w n xs[k] C[k]
theorem Inv3.set {w : World} {n m : Nat} {xs : List OrD} {C : Cn} (h : Inv3 w n xs C) (hn : n ≤ m) {j : Nat} {X : OrD} {c : List (List I64)} (hx : OrOk w m X c) : Inv3 w m (xs.set j X) (C.set j c) := by
  refine ⟨by simpa using h.l1, by simpa using h.l2, fun k h1 h2 => ?_⟩
  by_cases hk : j = k
  · subst hk
    rw [List.getElem_set_self, List.getElem_set_self]; exact hx
  · rw [List.getElem_set_ne hk, List.getElem_set_ne hk]; exact (h.all k _ _).up hn
def arr3 (l : List SlV) : Array Value := (l.map SlV.v).toArray
theorem arr3_at {l : List SlV} {k : Nat} (hk : k < l.length) : (arr3 l)[0 + k * 1]? = some l[k].v := by simp [arr3, hk]
theorem arr3_set {l : List SlV} {k : Nat} (hk : k < l.length) (s : SlV) : spl (arr3 l) (0 + k * 1) s.v.cells = arr3 (l.set k s) := by
  have e : s.v.cells = #[s.v] := rfl
  apply Array.ext'
  rw [e]
  simp only [spl, arr3, Array.toList_append, Array.toList_extract, Nat.zero_add, Nat.mul_one, List.size_toArray, List.length_map, List.length_cons, List.length_nil]
  rw [List.set_eq_take_append_cons_drop, if_pos hk]
  simp [List.extract, List.map_take, List.map_drop]
  exact List.take_of_length_le (by simp)
theorem St.nthOut {α : Type} (f : α → List Ent) (A : List Ent) {w0 w : World} {S : List Ent} {D : List α} {k : Nat} (hk : k < D.length) (hS : St w0 (A ++ (D.flatMap f ++ S)) w) : St w0 (A ++ (f D[k] ++ ((D.take k ++ D.drop (k + 1)).flatMap f ++ S))) w := by
  have e : D.take k ++ D[k] :: D.drop (k + 1) = D := by rw [← List.drop_eq_getElem_cons hk, List.take_append_drop]
  have h := (List.perm_middle (l₁ := D.take k) (l₂ := D.drop (k + 1)) (a := D[k])).flatMap_right f
  rw [e, List.flatMap_cons] at h
  refine hS.perm (List.Perm.append_left _ ?_)
  rw [← List.append_assoc]
  exact h.append_right S
theorem St.nthIn {α : Type} (f : α → List Ent) (A : List Ent) {w0 w : World} {S : List Ent} {D : List α} {k : Nat} (hk : k < D.length) {x : α} (hS : St w0 (A ++ (f x ++ ((D.take k ++ D.drop (k + 1)).flatMap f ++ S))) w) : St w0 (A ++ ((D.set k x).flatMap f ++ S)) w := by
  have h := (List.perm_middle (l₁ := D.take k) (l₂ := D.drop (k + 1)) (a := x)).flatMap_right f
  refine hS.perm (List.Perm.append_left _ ?_)
  rw [← List.append_assoc, List.set_eq_take_append_cons_drop, if_pos hk]
  exact (h.append_right S).symm
theorem and3 (x : Int) : ∃ j : Nat, bitsI .and .i64 x 3 = (j : Int) ∧ j < 4 := by
  have h1 : (BitVec.ofInt 64 x &&& BitVec.ofInt 64 3).toNat < 4 := by
    rw [BitVec.toNat_and]
    exact Nat.lt_of_le_of_lt Nat.and_le_right (by decide)
  refine ⟨_, ?_, h1⟩
  unfold bitsI
  show IntKind.wrap .i64 (((BitVec.ofInt 64 x &&& BitVec.ofInt 64 3).toNat : Nat) : Int) = _
  exact wrap_i64 (by omega)
theorem acs24 {w : World} {xs : List Act} (h : ∀ x ∈ xs, Act.okz w x) : ∃ ac : Nat → List I64, ∀ i (hi : i < xs.length), SlR w xs[i].batch.v (ac i) ∧ (ac i).length ≤ 17592186044416 := by
  have h2 : ∀ x ∈ xs, ∃ l : List I64, SlR w x.batch.v l ∧ l.length ≤ 17592186044416 := fun x hx => by
    obtain ⟨_, l, h1, h2, _⟩ := h x hx
    exact ⟨l, h1, by omega⟩
  refine ⟨fun i => if hi : i < xs.length then (h2 _ (List.getElem_mem hi)).choose else [], fun i hi => ?_⟩
  simp only [dif_pos hi]
  exact (h2 _ (List.getElem_mem hi)).choose_spec

def nO : OrD := ⟨⟨none, 0, 0⟩, [], [], ⟨none, 0, 0⟩, []⟩
theorem inv0 (w : World) : Inv3 w 0 [nO, nO, nO] [[], [], []] := by
  refine ⟨rfl, rfl, fun k h1 h2 => ?_⟩
  rcases k with _ | _ | _ | k
  · exact ⟨rfl, fun m h => absurd h (Nat.not_lt_zero m), rfl, Nat.le_refl 0⟩
  · exact ⟨rfl, fun m h => absurd h (Nat.not_lt_zero m), rfl, Nat.le_refl 0⟩
  · exact ⟨rfl, fun m h => absurd h (Nat.not_lt_zero m), rfl, Nat.le_refl 0⟩
  · exact absurd h1 (by simp)
theorem arrJ_at {l : List SlV} {j : Nat} (hj : j < l.length) (s : SlV) : (arr3 (l.set j s))[0 + j * 1]? = some s.v := by
  rw [arr3_at (by rw [List.length_set]; exact hj), List.getElem_set_self]
theorem arrJ_set {l : List SlV} {j : Nat} (hj : j < l.length) (s t : SlV) : spl (arr3 (l.set j s)) (0 + j * 1) t.v.cells = arr3 (l.set j t) := by
  rw [arr3_set (by rw [List.length_set]; exact hj), List.set_set]
theorem arr3_size (l : List SlV) : (arr3 l).size = l.length := by simp [arr3]
def rO (os : List OrD) (j : Nat) : List Ent := (os.take j ++ os.drop (j + 1)).flatMap orE
section
variable {w0 w : World} {b5 b6 j : Nat} {os : List OrD} {e : Ent}
theorem St.ordOut (hj : j < os.length) (hS : St w0 (e :: blkE b5 (arr3 (os.map OrD.tk)) 53 :: blkE b6 (arr3 (os.map OrD.gv)) 53 :: (os.flatMap orE ++ [])) w) {X : OrD} (hX : os[j] = X) :
    St w0 (e :: blkE b5 (arr3 ((os.map OrD.tk).set j X.tk)) 53 :: blkE b6 (arr3 ((os.map OrD.gv).set j X.gv)) 53 :: ownE X.tk.v 32 X.tl :: ownE X.gv.v 32 (X.gl.map Prod.fst) :: (bE X.gl ++ (rO os j ++ []))) w := by
  subst hX
  have e1 : (os.map OrD.tk).set j os[j].tk = os.map OrD.tk := by
    have h : os[j].tk = (os.map OrD.tk)[j]'(by simpa using hj) := by simp
    rw [h, List.set_getElem_self]
  have e2 : (os.map OrD.gv).set j os[j].gv = os.map OrD.gv := by
    have h : os[j].gv = (os.map OrD.gv)[j]'(by simpa using hj) := by simp
    rw [h, List.set_getElem_self]
  rw [e1, e2]
  exact St.nthOut orE [_, _, _] hj hS
theorem St.ordIn (hj : j < os.length) {X : OrD} (hS : St w0 (e :: blkE b5 (arr3 ((os.map OrD.tk).set j X.tk)) 53 :: blkE b6 (arr3 ((os.map OrD.gv).set j X.gv)) 53 :: ownE X.tk.v 32 X.tl :: ownE X.gv.v 32 (X.gl.map Prod.fst) :: (bE X.gl ++ (rO os j ++ []))) w) :
    St w0 (e :: blkE b5 (arr3 ((os.set j X).map OrD.tk)) 53 :: blkE b6 (arr3 ((os.set j X).map OrD.gv)) 53 :: ((os.set j X).flatMap orE ++ [])) w := by
  rw [List.map_set, List.map_set]
  exact St.nthIn orE [_, _, _] hj (x := X) hS
end
theorem St.bEr {w0 w : World} {S : List Ent} {q : List Bt} (hS : St w0 S w) (h : ∀ e ∈ bE q, e ∈ S) : ∀ b ∈ q, SlR w b.1.v b.2 := by
  intro b hb
  have := (hS.all _ (h _ (List.mem_map.2 ⟨b, hb, rfl⟩))).1
  rw [ownE_A] at this; exact this.sl
theorem lan_gv {w : World} {v : Value} {q : List Bt} (h : SlR w v (q.map Prod.fst)) (hq : ∀ b ∈ q, SlR w b.1.v b.2) : LanR w v (q.map Prod.snd) :=
  ⟨_, h, by simp, fun m h1 h2 => by
    have hm : m < q.length := by simpa using h1
    have := hq _ (List.getElem_mem hm)
    simpa using this⟩
theorem nest1 {w : World} {va : Value} {s : SlV} {c : List (List I64)} (h1 : SlR w va [s]) (h2 : LanR w s.v c) : NestR w va [c] := by
  refine ⟨_, h1, rfl, fun k a b => ?_⟩
  rcases k with _ | k
  · exact h2
  · exact absurd a (by simp)

end Go.Fer
