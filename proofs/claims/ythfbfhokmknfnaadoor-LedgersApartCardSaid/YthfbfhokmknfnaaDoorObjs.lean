/- Library, part 16 (objects that change): many entries as one; an entry brought to the front; lists in a map. No condition: rules alone. -/
import Derived.Test.YthfbfhokmknfnaaDoorRanges
set_option linter.all false
namespace Go.Fer
open Go Go.RowKit

/-- an entry is taken out -/
inductive Pick (e : Ent) : List Ent → List Ent → Prop
  | here {S : List Ent} : Pick e (e :: S) S
  | there {x : Ent} {S S' : List Ent} (h : Pick e S S') : Pick e (x :: S) (x :: S')
section
variable {e : Ent} {S : List Ent} {x0 x1 x2 x3 x4 x5 x6 x7 x8 x9 x10 x11 x12 x13 x14 : Ent}
theorem Pick.h0 : Pick e (e :: S) (S) := .here
theorem Pick.h1 : Pick e (x0 :: e :: S) (x0 :: S) := .there (.here)
theorem Pick.h2 : Pick e (x0 :: x1 :: e :: S) (x0 :: x1 :: S) := .there (.there (.here))
theorem Pick.h3 : Pick e (x0 :: x1 :: x2 :: e :: S) (x0 :: x1 :: x2 :: S) := .there (.there (.there (.here)))
theorem Pick.h4 : Pick e (x0 :: x1 :: x2 :: x3 :: e :: S) (x0 :: x1 :: x2 :: x3 :: S) := .there (.there (.there (.there (.here))))
theorem Pick.h5 : Pick e (x0 :: x1 :: x2 :: x3 :: x4 :: e :: S) (x0 :: x1 :: x2 :: x3 :: x4 :: S) := .there (.there (.there (.there (.there (.here)))))
theorem Pick.h6 : Pick e (x0 :: x1 :: x2 :: x3 :: x4 :: x5 :: e :: S) (x0 :: x1 :: x2 :: x3 :: x4 :: x5 :: S) := .there (.there (.there (.there (.there (.there (.here))))))
theorem Pick.h7 : Pick e (x0 :: x1 :: x2 :: x3 :: x4 :: x5 :: x6 :: e :: S) (x0 :: x1 :: x2 :: x3 :: x4 :: x5 :: x6 :: S) := .there (.there (.there (.there (.there (.there (.there (.here)))))))
theorem Pick.h8 : Pick e (x0 :: x1 :: x2 :: x3 :: x4 :: x5 :: x6 :: x7 :: e :: S) (x0 :: x1 :: x2 :: x3 :: x4 :: x5 :: x6 :: x7 :: S) := .there (.there (.there (.there (.there (.there (.there (.there (.here))))))))
theorem Pick.h9 : Pick e (x0 :: x1 :: x2 :: x3 :: x4 :: x5 :: x6 :: x7 :: x8 :: e :: S) (x0 :: x1 :: x2 :: x3 :: x4 :: x5 :: x6 :: x7 :: x8 :: S) := .there (.there (.there (.there (.there (.there (.there (.there (.there (.here)))))))))
theorem Pick.h10 : Pick e (x0 :: x1 :: x2 :: x3 :: x4 :: x5 :: x6 :: x7 :: x8 :: x9 :: e :: S) (x0 :: x1 :: x2 :: x3 :: x4 :: x5 :: x6 :: x7 :: x8 :: x9 :: S) := .there (.there (.there (.there (.there (.there (.there (.there (.there (.there (.here))))))))))
theorem Pick.h11 : Pick e (x0 :: x1 :: x2 :: x3 :: x4 :: x5 :: x6 :: x7 :: x8 :: x9 :: x10 :: e :: S) (x0 :: x1 :: x2 :: x3 :: x4 :: x5 :: x6 :: x7 :: x8 :: x9 :: x10 :: S) := .there (.there (.there (.there (.there (.there (.there (.there (.there (.there (.there (.here)))))))))))
theorem Pick.h12 : Pick e (x0 :: x1 :: x2 :: x3 :: x4 :: x5 :: x6 :: x7 :: x8 :: x9 :: x10 :: x11 :: e :: S) (x0 :: x1 :: x2 :: x3 :: x4 :: x5 :: x6 :: x7 :: x8 :: x9 :: x10 :: x11 :: S) := .there (.there (.there (.there (.there (.there (.there (.there (.there (.there (.there (.there (.here))))))))))))
theorem Pick.h13 : Pick e (x0 :: x1 :: x2 :: x3 :: x4 :: x5 :: x6 :: x7 :: x8 :: x9 :: x10 :: x11 :: x12 :: e :: S) (x0 :: x1 :: x2 :: x3 :: x4 :: x5 :: x6 :: x7 :: x8 :: x9 :: x10 :: x11 :: x12 :: S) := .there (.there (.there (.there (.there (.there (.there (.there (.there (.there (.there (.there (.there (.here)))))))))))))
theorem Pick.h14 : Pick e (x0 :: x1 :: x2 :: x3 :: x4 :: x5 :: x6 :: x7 :: x8 :: x9 :: x10 :: x11 :: x12 :: x13 :: e :: S) (x0 :: x1 :: x2 :: x3 :: x4 :: x5 :: x6 :: x7 :: x8 :: x9 :: x10 :: x11 :: x12 :: x13 :: S) := .there (.there (.there (.there (.there (.there (.there (.there (.there (.there (.there (.there (.there (.there (.here))))))))))))))
end
theorem Pick.perm {e : Ent} {S S' : List Ent} (h : Pick e S S') : S.Perm (e :: S') := by
  induction h with
  | here => exact List.Perm.refl _
  | there _ ih => exact (List.Perm.cons _ ih).trans (List.Perm.swap _ _ _)
theorem St.perm {w0 w : World} {S S' : List Ent} (h : St w0 S w) (hp : S.Perm S') : St w0 S' w :=
  ⟨h.old, hp.pairwise h.dis (fun {a b} hab k hb ha => hab k ha hb), fun e he => h.all e (hp.mem_iff.2 he)⟩
theorem St.pick {w0 w : World} {e : Ent} {S S' : List Ent} (h : St w0 S w) (hp : Pick e S S') : St w0 (e :: S') w := h.perm hp.perm

/-- their feet don't meet -/
def disL (l : List Ent) : Prop := l.Pairwise (fun a b : Ent => ∀ k, a.F k → ¬ b.F k)
/-- many entries as one -/
@[irreducible] def starE (l : List Ent) : Ent :=
  ⟨fun k => ∃ e ∈ l, e.F k, fun w => disL l ∧ ∀ e ∈ l, e.A w, fun w w' h ⟨h1, h2⟩ => ⟨h1, fun e he => e.st w w' (fun b hb => h b ⟨e, he, hb⟩) (h2 e he)⟩⟩
theorem starE_F (l : List Ent) : (starE l).F = fun k => ∃ e ∈ l, e.F k := by unfold starE; rfl
theorem starE_A (l : List Ent) : (starE l).A = fun w => disL l ∧ ∀ e ∈ l, e.A w := by unfold starE; rfl
theorem St.opened {w0 w : World} {l S : List Ent} (h : St w0 (starE l :: S) w) : St w0 (l ++ S) w := by
  obtain ⟨h1, h2, h3⟩ := h
  have h4 := h3 _ List.mem_cons_self
  rw [starE_A, starE_F] at h4
  obtain ⟨h5, h6⟩ := List.pairwise_cons.1 h2
  refine ⟨h1, List.pairwise_append.2 ⟨h4.1.1, h6, fun a ha b hb k hka hkb => ?_⟩, fun e he => ?_⟩
  · have := h5 b hb k
    rw [starE_F] at this
    exact this ⟨a, ha, hka⟩ hkb
  · rcases List.mem_append.1 he with he | he
    · exact ⟨h4.1.2 e he, fun k hk => h4.2 k ⟨e, he, hk⟩⟩
    · exact h3 e (List.mem_cons_of_mem _ he)
theorem St.closed {w0 w : World} {l S : List Ent} (h : St w0 (l ++ S) w) : St w0 (starE l :: S) w := by
  obtain ⟨h1, h2, h3⟩ := h
  obtain ⟨h4, h5, h6⟩ := List.pairwise_append.1 h2
  refine ⟨h1, List.pairwise_cons.2 ⟨fun b hb k hka hkb => ?_, h5⟩, fun e he => ?_⟩
  · rw [starE_F] at hka
    obtain ⟨a, ha, hk⟩ := hka
    exact h6 a ha b hb k hk hkb
  · rcases List.mem_cons.1 he with rfl | he
    · rw [starE_A, starE_F]
      refine ⟨⟨h4, fun e he => (h3 e (List.mem_append_left _ he)).1⟩, fun k ⟨e, he, hk⟩ => (h3 e (List.mem_append_left _ he)).2 k hk⟩
    · exact h3 e (List.mem_append_right _ he)

/-- new memory that an entry tells of -/
def NewE (w w' : World) (e : Ent) : Prop := e.A w' ∧ ∀ k, e.F k → w.heap.size ≤ k ∧ k < w'.heap.size
theorem St.newE {w0 w w' : World} {S : List Ent} {e : Ent} (hS : St w0 S w) (hb : Bel w w') (h : NewE w w' e) : St w0 (e :: S) w' := hS.new hb h.1 h.2
theorem St.takeE {w0 w : World} {S : List Ent} {e : Ent} (hS : St w0 S w) (he : Has e S) : NewE w0 w e := hS.all e he.mem

section
variable {κ ν α : Type} [DecidableEq κ] [Enc α]
theorem adel_perm {k : κ} {x : ν} : ∀ {l : List (κ × ν)}, aget k l = some x → l.Perm ((k, x) :: adel k l)
  | (y, u) :: r, h => by
    by_cases hk : k = y
    · subst hk; simp [aget] at h; subst h; simp [adel]
    · simp [aget, hk] at h
      have ih := adel_perm (l := r) h
      simp only [adel, hk, if_false]
      exact (List.Perm.cons _ ih).trans (List.Perm.swap _ _ _)
theorem aput_perm {k : κ} {x : ν} : ∀ {l : List (κ × ν)}, (l.map Prod.fst).Nodup → (aput k x l).Perm ((k, x) :: adel k l)
  | [], _ => by simp [aput, adel]
  | (y, u) :: r, h => by
    simp only [List.map_cons, List.nodup_cons] at h
    by_cases hk : k = y
    · subst hk; simp [aput, adel]
    · simp only [aput, adel, hk, if_false]
      exact (List.Perm.cons _ (aput_perm (l := r) h.2)).trans (List.Perm.swap _ _ _)
/-- the lists in a map -/
def ownsL (T : TypeId) (kvs : List (κ × (Value × List α))) : List Ent := kvs.map fun p => ownE p.2.1 T p.2.2
variable {w0 w : World} {T : TypeId} {kvs : List (κ × (Value × List α))} {k : κ}
theorem ownsL_perm {l l' : List (κ × (Value × List α))} (h : l.Perm l') : (ownsL T l).Perm (ownsL T l') := h.map _
/-- a list is taken out -/
theorem St.ownOut (L : List Ent) {S : List Ent} {x : Value × List α} (hS : St w0 (L ++ (ownsL T kvs ++ S)) w) (h : aget k kvs = some x) : St w0 (ownE x.1 T x.2 :: (L ++ (ownsL T (adel k kvs) ++ S))) w := by
  refine hS.perm ?_
  refine ((((ownsL_perm (adel_perm h)).append_right S)).append_left L).trans ?_
  exact List.perm_middle
theorem St.ownIn (L : List Ent) {S : List Ent} {v : Value} {xs : List α} (hn : (kvs.map Prod.fst).Nodup) (hS : St w0 (ownE v T xs :: (L ++ (ownsL T (adel k kvs) ++ S))) w) : St w0 (L ++ (ownsL T (aput k (v, xs) kvs) ++ S)) w := by
  refine hS.perm (List.Perm.symm ?_)
  refine ((((ownsL_perm (aput_perm hn)).append_right S)).append_left L).trans ?_
  exact List.perm_middle
theorem St.ownDel (L : List Ent) {S : List Ent} (hS : St w0 (L ++ (ownsL T kvs ++ S)) w) : St w0 (L ++ (ownsL T (adel k kvs) ++ S)) w :=
  hS.sub (((List.Sublist.map _ (adel_sub k kvs)).append_right S).append_left L)
theorem St.ownAt {S : List Ent} {x : Value × List α} (hS : St w0 S w) (hs : ∀ e ∈ ownsL T kvs, e ∈ S) (h : aget k kvs = some x) : OwnB w x.1 T x.2 := by
  have h1 : (k, x) ∈ kvs := (adel_perm h).mem_iff.2 List.mem_cons_self
  have h2 := (hS.all _ (hs _ (List.mem_map_of_mem (f := fun p : κ × (Value × List α) => ownE p.2.1 T p.2.2) h1))).1
  rw [ownE_A] at h2; exact h2
end
/-! nil pointers, nil maps -/
section
variable {P : Program} {f : Fr} {w w0 : World} {S : List Ent} {R : Value → World → Prop} {d : Option Tmp} {T : TypeId} {pos : String} {af : Array Edge} {gd : Option (Nat × Bool)}
theorem run_equal_ptrNil {s E : Nat} (hs : PtrT P s E) (a : Option Addr) (w : World) : (Op.equal s (.pointer a) (.pointer none)).run P w = .ok a.isNone w := by
  unfold Op.equal
  show (Op.equalIn (9999 + 1) s (.pointer a) (.pointer none)).run P w = .ok a.isNone w
  generalize 9999 = k
  cases a <;> simp [Op.equalIn, run_underlying hs.out]
theorem run_equal_mapNil {s K E : Nat} (hs : MapT P s K E) (a : Option Nat) (w : World) : (Op.equal s (.map a) (.map none)).run P w = .ok a.isNone w := by
  unfold Op.equal
  show (Op.equalIn (9999 + 1) s (.map a) (.map none)).run P w = .ok a.isNone w
  generalize 9999 = k
  cases a <;> simp [Op.equalIn, run_underlying hs.out]
theorem opW.eqlP {s t E : Nat} {x y : Operand} {a : Option Addr} [hs : PtrT P s E] (hx : ev f x = .pointer a) (hy : ev f y = .pointer none) (h : R (.bool a.isNone) w) : opW P f ⟨d, .binOp .eql s x y t, T, pos, af, gd⟩ w R := by
  refine opW.of_run (v := .bool a.isNone) (w' := w) ?_ h
  have e1 : eqGuard .eql s x y (.pointer a) (.pointer none) = pure () := rfl
  have e2 : binOp .eql s (.pointer a) (.pointer none) = (do pure (.bool (← Op.equal s (.pointer a) (.pointer none)))) := rfl
  simp only [execOp, hx, hy, e1, e2, Sem.run_bind, Sem.run_pure, Result.andThen_ok, run_equal_ptrNil hs]
theorem opW.neqP {s t E : Nat} {x y : Operand} {a : Option Addr} [hs : PtrT P s E] (hx : ev f x = .pointer a) (hy : ev f y = .pointer none) (h : R (.bool (!a.isNone)) w) : opW P f ⟨d, .binOp .neq s x y t, T, pos, af, gd⟩ w R := by
  refine opW.of_run (v := .bool (!a.isNone)) (w' := w) ?_ h
  have e1 : eqGuard .neq s x y (.pointer a) (.pointer none) = pure () := rfl
  have e2 : binOp .neq s (.pointer a) (.pointer none) = (do pure (.bool (!(← Op.equal s (.pointer a) (.pointer none))))) := rfl
  simp only [execOp, hx, hy, e1, e2, Sem.run_bind, Sem.run_pure, Result.andThen_ok, run_equal_ptrNil hs]
theorem opW.eqlM {s t K E : Nat} {x y : Operand} {a : Option Nat} [hs : MapT P s K E] (hx : ev f x = .map a) (hy : ev f y = .map none) (h : R (.bool a.isNone) w) : opW P f ⟨d, .binOp .eql s x y t, T, pos, af, gd⟩ w R := by
  refine opW.of_run (v := .bool a.isNone) (w' := w) ?_ h
  have e1 : eqGuard .eql s x y (.map a) (.map none) = pure () := rfl
  have e2 : binOp .eql s (.map a) (.map none) = (do pure (.bool (← Op.equal s (.map a) (.map none)))) := rfl
  simp only [execOp, hx, hy, e1, e2, Sem.run_bind, Sem.run_pure, Result.andThen_ok, run_equal_mapNil hs]
theorem opW.neqM {s t K E : Nat} {x y : Operand} {a : Option Nat} [hs : MapT P s K E] (hx : ev f x = .map a) (hy : ev f y = .map none) (h : R (.bool (!a.isNone)) w) : opW P f ⟨d, .binOp .neq s x y t, T, pos, af, gd⟩ w R := by
  refine opW.of_run (v := .bool (!a.isNone)) (w' := w) ?_ h
  have e1 : eqGuard .neq s x y (.map a) (.map none) = pure () := rfl
  have e2 : binOp .neq s (.map a) (.map none) = (do pure (.bool (!(← Op.equal s (.map a) (.map none))))) := rfl
  simp only [execOp, hx, hy, e1, e2, Sem.run_bind, Sem.run_pure, Result.andThen_ok, run_equal_mapNil hs]
end
theorem Pt.at1 {P : Program} {w : World} {T b o : Nat} [ScalT P T] {cs : Array Value} {v : Value} (hp : Pt w (.pointer (some ⟨b, 0, none⟩)) cs) (hc : cs[o]? = some v) : Ld P T w (.pointer (some ⟨b, o, none⟩)) v := by
  have := Ld.pt1 (P := P) (T := T) hp o hc
  simpa [ptrAdd] using this
theorem St.drop1 {w0 w : World} {e : Ent} {S : List Ent} (h : St w0 (e :: S) w) : St w0 S w := h.sub (.cons _ (List.Sublist.refl _))
theorem opW.lookup2Z {κ ν : Type} [DecidableEq κ] [KV κ] {P : Program} {f : Fr} {w : World} {R : Value → World → Prop} {d : Option Tmp} {T : TypeId} {pos : String} {af : Array Edge} {gd : Option (Nat × Bool)} {t K E r : Nat} {z0 u : ν} {x ix : Operand} {k : κ} {vv : ν → Value} {kvs : List (κ × ν)} [hm : MapT P t K E] [hk : KeyT P K κ] (hz : ZeroT P E (vv z0)) (hM : MapB w r vv kvs) (hx : ev f x = .map (some r)) (hi : ev f ix = KV.kv k)
    (hu : (aget k kvs).getD z0 = u) (h : R (.tuple #[vv u, .bool (aget k kvs).isSome]) w) : opW P f ⟨d, .lookup t x ix true, T, pos, af, gd⟩ w R := by
  refine opW.lookup2 (z := vv z0) hM hx hi ?_
  subst hu
  have e : ((aget k kvs).map vv).getD (vv z0) = vv ((aget k kvs).getD z0) := by cases aget k kvs <;> rfl
  rw [e]; exact h
theorem St.ownGet {κ α : Type} [DecidableEq κ] [Enc α] {w0 w : World} {T : TypeId} {kvs : List (κ × (Value × List α))} (L : List Ent) {S : List Ent} (k : κ) (hS : St w0 (L ++ (ownsL T kvs ++ S)) w) :
    St w0 (ownE ((aget k kvs).getD (.slice none 0 0, [])).1 T ((aget k kvs).getD (.slice none 0 0, [])).2 :: (L ++ (ownsL T (adel k kvs) ++ S))) w := by
  cases h : aget k kvs with
  | none =>
    rw [adel_none h]
    exact hS.nilOwn T
  | some x => exact hS.ownOut L h
/-- a list without the keys of a list -/
theorem adel_filter {κ ν : Type} [DecidableEq κ] {k : κ} : ∀ {l : List (κ × ν)}, (l.map Prod.fst).Nodup → adel k l = l.filter (fun q => decide (q.1 ≠ k))
  | [], _ => rfl
  | (y, u) :: r, h => by
    simp only [List.map_cons, List.nodup_cons] at h
    by_cases hk : k = y
    · subst hk
      simp only [adel, if_true]
      rw [List.filter_cons_of_neg (by simp)]
      refine (List.filter_eq_self.2 fun q hq => ?_).symm
      have : q.1 ≠ k := fun e => h.1 (e ▸ List.mem_map_of_mem hq)
      simpa using this
    · simp only [adel, hk, if_false]
      rw [List.filter_cons_of_pos (by simpa using Ne.symm hk), adel_filter h.2]
/-- a pointer to a variable, or none, as a list's element -/
structure PtV where
  p : Option Nat
def PtV.v (x : PtV) : Value := .pointer (x.p.map fun b => ⟨b, 0, none⟩)
instance : Enc PtV where
  enc s := #[s.v]
  sz := 1
  pos := by omega
  size_eq _ := rfl
  one s u hu := by simp at hu; subst hu; rfl
theorem enc_ptv (s : PtV) : Enc.enc s = #[s.v] := rfl
theorem Pt.ldP {P : Program} {w : World} {T : Nat} [ScalT P T] {q pv : Value} {x : PtV} (hp : Pt w q (Enc.enc x)) (h : x.v = pv) : Ld P T w q pv := hp.ld (by rw [enc_ptv, ← h]; rfl)
/-- a store into a part of a variable -/
theorem opW.storeF {P : Program} {f : Fr} {w : World} {R : Value → World → Prop} {d : Option Tmp} {T : TypeId} {pos : String} {af : Array Edge} {gd : Option (Nat × Bool)} {E T' sz b o : Nat} [hs : SizeT P E sz] {x y : Operand} {v : Value} {cs cs' : Array Value} {w0 : World} {S : List Ent} (hS : St w0 S w) (hx : ev f x = .pointer (some ⟨b, o, none⟩)) (hy : ev f y = v) (he : Has (blkE b cs T') S)
    (hv : v.cells.size = sz) (ho : o + sz ≤ cs.size) (h1 : ∀ u ∈ v.cells.toList, u.oneCell' = true) (henc : spl cs o v.cells = cs')
    (h : ∀ w', (∀ S', Turn (blkE b cs T') (blkE b cs' T') S S' → St w0 S' w') → R undef w') : opW P f ⟨d, .store E x y, T, pos, af, gd⟩ w R := by
  subst henc
  exact opW.store hS hx hy he hv ho h1 h
/-- a choice whose outcome is known -/
theorem opW.pickK {P : Program} {f : Fr} {w : World} {R : Value → World → Prop} {d : Option Tmp} {T : TypeId} {pos : String} {af : Array Edge} {gd : Option (Nat × Bool)} {c a b : Operand} {t u : Bool} (v : Bool) (hc : ev f c = .bool t) (ha : cond t (ev f a) (ev f b) = .bool u) (hu : u = v) (h : R (.bool v) w) : opW P f ⟨d, .pick c a b, T, pos, af, gd⟩ w R := by
  subst hu
  exact opW.pickT hc ha h
theorem opW.pickAndK {P : Program} {f : Fr} {w : World} {R : Value → World → Prop} {d : Option Tmp} {T : TypeId} {pos : String} {af : Array Edge} {gd : Option (Nat × Bool)} {c a b : Operand} {t u : Bool} (v : Bool) (hc : ev f c = .bool t) (ha : ev f a = gv (t == true) (.bool u)) (hb : ev f b = .bool false) (hu : (t && u) = v) (h : R (.bool v) w) : opW P f ⟨d, .pick c a b, T, pos, af, gd⟩ w R := by
  subst hu
  exact opW.pickAnd hc ha hb h
end Go.Fer
