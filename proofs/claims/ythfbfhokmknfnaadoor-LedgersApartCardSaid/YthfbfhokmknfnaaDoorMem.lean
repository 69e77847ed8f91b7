/- Library, part 2 (memory): what is known of the heap, as a list of entries with feet that don't meet; slices that can be read; types by instance. No condition: rules alone. -/
import Derived.Test.YthfbfhokmknfnaaDoorCore
set_option linter.all false
namespace Go.Fer
open Go Go.RowKit

abbrev Bel (w w' : World) : Prop := Below w.heap.size w w'
theorem Bel.refl (w : World) : Bel w w := Below.refl _ _
theorem Bel.trans {a b c : World} (h : Bel a b) (k : Bel b c) : Bel a c := Below.trans h (Below.mono k h.size)
theorem Bel.drawn (w : World) (n : Nat) : Bel w { w with drawn := n } := ⟨rfl, rfl, rfl, Nat.le_refl _, fun _ _ => rfl⟩
theorem Bel.get {w w' : World} (h : Bel w w') {b : Nat} {o : Obj} (hb : w.heap[b]? = some o) : w'.heap[b]? = some o := by
  rw [h.block b (Array.getElem?_eq_some_iff.1 hb).1]; exact hb
theorem Bel.cell {w w' : World} (h : Bel w w') {a : Addr} {v : Value} (hc : w.cell? a = some v) : w'.cell? a = some v := by
  rw [World.cell?_of_block (w := w) (h.block a.block (World.block_lt_of_cell? w a hc))]; exact hc
theorem Bel.alloc (w : World) (o : Obj) : Bel w (w.alloc o) := (Below.refl _ _).alloc (Nat.le_refl _) o
theorem Bel.drew (w : World) : Bel w w.drew := (Below.refl _ _).drew

/-! entries -/
structure Ent where
  F : Nat → Prop
  A : World → Prop
  st : ∀ w w' : World, (∀ b, F b → w'.heap[b]? = w.heap[b]?) → A w → A w'

structure St (w0 : World) (S : List Ent) (w : World) : Prop where
  old : Bel w0 w
  dis : S.Pairwise (fun a b => ∀ k, a.F k → ¬ b.F k)
  all : ∀ e ∈ S, e.A w ∧ ∀ k, e.F k → w0.heap.size ≤ k ∧ k < w.heap.size

theorem St.start (w : World) : St w [] w := ⟨Bel.refl w, List.Pairwise.nil, by simp⟩
theorem St.bel {w0 w w' : World} {S : List Ent} (h : St w0 S w) (hb : Bel w w') : St w0 S w' :=
  ⟨h.old.trans hb, h.dis, fun e he => ⟨e.st w w' (fun b hf => hb.block b ((h.all e he).2 b hf).2) (h.all e he).1, fun k hk => ⟨((h.all e he).2 k hk).1, Nat.lt_of_lt_of_le ((h.all e he).2 k hk).2 hb.size⟩⟩⟩
theorem St.new {w0 w w' : World} {S : List Ent} (h : St w0 S w) (hb : Bel w w') {e : Ent} (hA : e.A w') (hF : ∀ k, e.F k → w.heap.size ≤ k ∧ k < w'.heap.size) : St w0 (e :: S) w' := by
  have h' := h.bel hb
  refine ⟨h'.old, List.Pairwise.cons (fun x hx k hk hx' => ?_) h'.dis, fun x hx => ?_⟩
  · have := ((h.all x hx).2 k hx').2
    have := (hF k hk).1
    omega
  · rcases List.mem_cons.1 hx with rfl | hx
    · exact ⟨hA, fun k hk => ⟨Nat.le_trans h.old.size (hF k hk).1, (hF k hk).2⟩⟩
    · exact h'.all x hx
theorem St.sub {w0 w : World} {S S' : List Ent} (h : St w0 S w) (hs : S'.Sublist S) : St w0 S' w :=
  ⟨h.old, h.dis.sublist hs, fun e he => h.all e (hs.subset he)⟩

/-- an entry is there -/
inductive Has (e : Ent) : List Ent → Prop
  | here {S : List Ent} : Has e (e :: S)
  | there {x : Ent} {S : List Ent} (h : Has e S) : Has e (x :: S)
theorem Has.mem {e : Ent} {S : List Ent} (h : Has e S) : e ∈ S := by
  induction h with
  | here => exact List.mem_cons_self
  | there _ ih => exact List.mem_cons_of_mem _ ih
theorem St.get {w0 w : World} {S : List Ent} {e : Ent} (h : St w0 S w) (he : Has e S) : e.A w := (h.all e he.mem).1
/-- an entry is turned into another one -/
inductive Turn (e e' : Ent) : List Ent → List Ent → Prop
  | here {S : List Ent} : Turn e e' (e :: S) (e' :: S)
  | there {x : Ent} {S S' : List Ent} (h : Turn e e' S S') : Turn e e' (x :: S) (x :: S')
theorem Turn.has {e e' : Ent} {S S' : List Ent} (h : Turn e e' S S') : Has e S := by
  induction h with
  | here => exact .here
  | there _ ih => exact .there ih

/-! short names for places -/
section
variable {e e' : Ent} {S : List Ent} {x0 x1 x2 x3 x4 x5 x6 x7 x8 x9 x10 x11 x12 x13 x14 : Ent}
theorem Has.h0 : Has e (e :: S) := .here
theorem Turn.h0 : Turn e e' (e :: S) (e' :: S) := .here
theorem Has.h1 : Has e (x0 :: e :: S) := .there (.here)
theorem Turn.h1 : Turn e e' (x0 :: e :: S) (x0 :: e' :: S) := .there (.here)
theorem Has.h2 : Has e (x0 :: x1 :: e :: S) := .there (.there (.here))
theorem Turn.h2 : Turn e e' (x0 :: x1 :: e :: S) (x0 :: x1 :: e' :: S) := .there (.there (.here))
theorem Has.h3 : Has e (x0 :: x1 :: x2 :: e :: S) := .there (.there (.there (.here)))
theorem Turn.h3 : Turn e e' (x0 :: x1 :: x2 :: e :: S) (x0 :: x1 :: x2 :: e' :: S) := .there (.there (.there (.here)))
theorem Has.h4 : Has e (x0 :: x1 :: x2 :: x3 :: e :: S) := .there (.there (.there (.there (.here))))
theorem Turn.h4 : Turn e e' (x0 :: x1 :: x2 :: x3 :: e :: S) (x0 :: x1 :: x2 :: x3 :: e' :: S) := .there (.there (.there (.there (.here))))
theorem Has.h5 : Has e (x0 :: x1 :: x2 :: x3 :: x4 :: e :: S) := .there (.there (.there (.there (.there (.here)))))
theorem Turn.h5 : Turn e e' (x0 :: x1 :: x2 :: x3 :: x4 :: e :: S) (x0 :: x1 :: x2 :: x3 :: x4 :: e' :: S) := .there (.there (.there (.there (.there (.here)))))
theorem Has.h6 : Has e (x0 :: x1 :: x2 :: x3 :: x4 :: x5 :: e :: S) := .there (.there (.there (.there (.there (.there (.here))))))
theorem Turn.h6 : Turn e e' (x0 :: x1 :: x2 :: x3 :: x4 :: x5 :: e :: S) (x0 :: x1 :: x2 :: x3 :: x4 :: x5 :: e' :: S) := .there (.there (.there (.there (.there (.there (.here))))))
theorem Has.h7 : Has e (x0 :: x1 :: x2 :: x3 :: x4 :: x5 :: x6 :: e :: S) := .there (.there (.there (.there (.there (.there (.there (.here)))))))
theorem Turn.h7 : Turn e e' (x0 :: x1 :: x2 :: x3 :: x4 :: x5 :: x6 :: e :: S) (x0 :: x1 :: x2 :: x3 :: x4 :: x5 :: x6 :: e' :: S) := .there (.there (.there (.there (.there (.there (.there (.here)))))))
theorem Has.h8 : Has e (x0 :: x1 :: x2 :: x3 :: x4 :: x5 :: x6 :: x7 :: e :: S) := .there (.there (.there (.there (.there (.there (.there (.there (.here))))))))
theorem Turn.h8 : Turn e e' (x0 :: x1 :: x2 :: x3 :: x4 :: x5 :: x6 :: x7 :: e :: S) (x0 :: x1 :: x2 :: x3 :: x4 :: x5 :: x6 :: x7 :: e' :: S) := .there (.there (.there (.there (.there (.there (.there (.there (.here))))))))
theorem Has.h9 : Has e (x0 :: x1 :: x2 :: x3 :: x4 :: x5 :: x6 :: x7 :: x8 :: e :: S) := .there (.there (.there (.there (.there (.there (.there (.there (.there (.here)))))))))
theorem Turn.h9 : Turn e e' (x0 :: x1 :: x2 :: x3 :: x4 :: x5 :: x6 :: x7 :: x8 :: e :: S) (x0 :: x1 :: x2 :: x3 :: x4 :: x5 :: x6 :: x7 :: x8 :: e' :: S) := .there (.there (.there (.there (.there (.there (.there (.there (.there (.here)))))))))
theorem Has.h10 : Has e (x0 :: x1 :: x2 :: x3 :: x4 :: x5 :: x6 :: x7 :: x8 :: x9 :: e :: S) := .there (.there (.there (.there (.there (.there (.there (.there (.there (.there (.here))))))))))
theorem Turn.h10 : Turn e e' (x0 :: x1 :: x2 :: x3 :: x4 :: x5 :: x6 :: x7 :: x8 :: x9 :: e :: S) (x0 :: x1 :: x2 :: x3 :: x4 :: x5 :: x6 :: x7 :: x8 :: x9 :: e' :: S) := .there (.there (.there (.there (.there (.there (.there (.there (.there (.there (.here))))))))))
theorem Has.h11 : Has e (x0 :: x1 :: x2 :: x3 :: x4 :: x5 :: x6 :: x7 :: x8 :: x9 :: x10 :: e :: S) := .there (.there (.there (.there (.there (.there (.there (.there (.there (.there (.there (.here)))))))))))
theorem Turn.h11 : Turn e e' (x0 :: x1 :: x2 :: x3 :: x4 :: x5 :: x6 :: x7 :: x8 :: x9 :: x10 :: e :: S) (x0 :: x1 :: x2 :: x3 :: x4 :: x5 :: x6 :: x7 :: x8 :: x9 :: x10 :: e' :: S) := .there (.there (.there (.there (.there (.there (.there (.there (.there (.there (.there (.here)))))))))))
theorem Has.h12 : Has e (x0 :: x1 :: x2 :: x3 :: x4 :: x5 :: x6 :: x7 :: x8 :: x9 :: x10 :: x11 :: e :: S) := .there (.there (.there (.there (.there (.there (.there (.there (.there (.there (.there (.there (.here))))))))))))
theorem Turn.h12 : Turn e e' (x0 :: x1 :: x2 :: x3 :: x4 :: x5 :: x6 :: x7 :: x8 :: x9 :: x10 :: x11 :: e :: S) (x0 :: x1 :: x2 :: x3 :: x4 :: x5 :: x6 :: x7 :: x8 :: x9 :: x10 :: x11 :: e' :: S) := .there (.there (.there (.there (.there (.there (.there (.there (.there (.there (.there (.there (.here))))))))))))
theorem Has.h13 : Has e (x0 :: x1 :: x2 :: x3 :: x4 :: x5 :: x6 :: x7 :: x8 :: x9 :: x10 :: x11 :: x12 :: e :: S) := .there (.there (.there (.there (.there (.there (.there (.there (.there (.there (.there (.there (.there (.here)))))))))))))
theorem Turn.h13 : Turn e e' (x0 :: x1 :: x2 :: x3 :: x4 :: x5 :: x6 :: x7 :: x8 :: x9 :: x10 :: x11 :: x12 :: e :: S) (x0 :: x1 :: x2 :: x3 :: x4 :: x5 :: x6 :: x7 :: x8 :: x9 :: x10 :: x11 :: x12 :: e' :: S) := .there (.there (.there (.there (.there (.there (.there (.there (.there (.there (.there (.there (.there (.here)))))))))))))
theorem Has.h14 : Has e (x0 :: x1 :: x2 :: x3 :: x4 :: x5 :: x6 :: x7 :: x8 :: x9 :: x10 :: x11 :: x12 :: x13 :: e :: S) := .there (.there (.there (.there (.there (.there (.there (.there (.there (.there (.there (.there (.there (.there (.here))))))))))))))
theorem Turn.h14 : Turn e e' (x0 :: x1 :: x2 :: x3 :: x4 :: x5 :: x6 :: x7 :: x8 :: x9 :: x10 :: x11 :: x12 :: x13 :: e :: S) (x0 :: x1 :: x2 :: x3 :: x4 :: x5 :: x6 :: x7 :: x8 :: x9 :: x10 :: x11 :: x12 :: x13 :: e' :: S) := .there (.there (.there (.there (.there (.there (.there (.there (.there (.there (.there (.there (.there (.there (.here))))))))))))))
end
/-- a step that touches the feet of one entry alone -/
structure Chg (F : Nat → Prop) (w w' : World) : Prop where
  os : w'.os = w.os
  tape : w'.tape = w.tape
  output : w'.output = w.output
  size : w.heap.size ≤ w'.heap.size
  block : ∀ k, k < w.heap.size → ¬ F k → w'.heap[k]? = w.heap[k]?

theorem Turn.mem' {e e' : Ent} {S S' : List Ent} (h : Turn e e' S S') : ∀ x, x ∈ S' → x = e' ∨ x ∈ S := by
  induction h with
  | here => intro x hx; rcases List.mem_cons.1 hx with h | h; exact .inl h; exact .inr (List.mem_cons_of_mem _ h)
  | there _ ih =>
    intro x hx
    rcases List.mem_cons.1 hx with h | h
    · subst h; exact .inr List.mem_cons_self
    · rcases ih x h with h | h
      · exact .inl h
      · exact .inr (List.mem_cons_of_mem _ h)

theorem St.turn {w0 w w' : World} {e e' : Ent} (hc : Chg e.F w w') (hA : e'.A w')
    (hF : ∀ k, e'.F k → e.F k ∨ (w.heap.size ≤ k ∧ k < w'.heap.size)) :
    ∀ {S S' : List Ent}, St w0 S w → Turn e e' S S' → St w0 S' w' := by
  intro S S' h ht
  have hold : Bel w0 w' := by
    refine ⟨hc.os.trans h.old.os, hc.tape.trans h.old.tape, hc.output.trans h.old.output, Nat.le_trans h.old.size hc.size, fun k hk => ?_⟩
    rw [hc.block k (Nat.lt_of_lt_of_le hk h.old.size) (fun hf => by have := ((h.all e ht.has.mem).2 k hf).1; omega)]
    exact h.old.block k hk
  have key : ∀ {S S' : List Ent}, Turn e e' S S' → S.Pairwise (fun a b => ∀ k, a.F k → ¬ b.F k) → (∀ x ∈ S, x.A w ∧ ∀ k, x.F k → w0.heap.size ≤ k ∧ k < w.heap.size) →
      S'.Pairwise (fun a b => ∀ k, a.F k → ¬ b.F k) ∧ ∀ x ∈ S', x.A w' ∧ ∀ k, x.F k → w0.heap.size ≤ k ∧ k < w'.heap.size := by
    have other : ∀ x : Ent, (∀ k, x.F k → ¬ e.F k) → (x.A w ∧ ∀ k, x.F k → w0.heap.size ≤ k ∧ k < w.heap.size) → x.A w' ∧ ∀ k, x.F k → w0.heap.size ≤ k ∧ k < w'.heap.size :=
      fun x hd hx => ⟨x.st w w' (fun b hb => hc.block b (hx.2 b hb).2 (hd b hb)) hx.1, fun k hk => ⟨(hx.2 k hk).1, Nat.lt_of_lt_of_le (hx.2 k hk).2 hc.size⟩⟩
    have mine : (e.A w ∧ ∀ k, e.F k → w0.heap.size ≤ k ∧ k < w.heap.size) → e'.A w' ∧ ∀ k, e'.F k → w0.heap.size ≤ k ∧ k < w'.heap.size := fun he => ⟨hA, fun k hk => by
      rcases hF k hk with h1 | h1
      · exact ⟨(he.2 k h1).1, Nat.lt_of_lt_of_le (he.2 k h1).2 hc.size⟩
      · exact ⟨Nat.le_trans h.old.size h1.1, h1.2⟩⟩
    intro S S' ht
    induction ht with
    | @here S =>
      intro hd ha
      obtain ⟨h1, h2⟩ := List.pairwise_cons.1 hd
      refine ⟨List.pairwise_cons.2 ⟨fun x hx k hk hk' => ?_, h2⟩, fun x hx => ?_⟩
      · rcases hF k hk with h3 | h3
        · exact h1 x hx k h3 hk'
        · have := ((ha x (List.mem_cons_of_mem _ hx)).2 k hk').2; omega
      · rcases List.mem_cons.1 hx with rfl | hx
        · exact mine (ha e List.mem_cons_self)
        · exact other x (fun k hk hk' => h1 x hx k hk' hk) (ha x (List.mem_cons_of_mem _ hx))
    | @there y S S' ht ih =>
      intro hd ha
      obtain ⟨h1, h2⟩ := List.pairwise_cons.1 hd
      obtain ⟨i1, i2⟩ := ih h2 fun x hx => ha x (List.mem_cons_of_mem _ hx)
      have hye : ∀ k, y.F k → ¬ e.F k := h1 e ht.has.mem
      refine ⟨List.pairwise_cons.2 ⟨fun x hx k hk hk' => ?_, i1⟩, fun x hx => ?_⟩
      · rcases ht.mem' x hx with rfl | hx
        · rcases hF k hk' with h3 | h3
          · exact hye k hk h3
          · have := ((ha y List.mem_cons_self).2 k hk).2; omega
        · exact h1 x hx k hk hk'
      · rcases List.mem_cons.1 hx with rfl | hx
        · exact other x hye (ha x List.mem_cons_self)
        · exact i2 x hx
  obtain ⟨k1, k2⟩ := key ht h.dis h.all
  exact ⟨hold, k1, k2⟩

/-! blocks -/
@[irreducible] def blkE (b : Nat) (cs : Array Value) (T : TypeId) : Ent :=
  ⟨fun k => k = b, fun w => w.heap[b]? = some (.cells cs T (0, 0)), fun w w' h hA => by rw [h b rfl]; exact hA⟩
theorem St.blk {w0 w : World} {S : List Ent} {b : Nat} {cs : Array Value} {T : TypeId} (h : St w0 S w) (he : Has (blkE b cs T) S) : w.heap[b]? = some (.cells cs T (0, 0)) := by
  have := h.get he
  unfold blkE at this
  exact this
theorem St.alloc {w0 w : World} {S : List Ent} (h : St w0 S w) (cs : Array Value) (T : TypeId) : St w0 (blkE w.heap.size cs T :: S) (w.alloc (.cells cs T)) := by
  refine h.new (Bel.alloc w _) ?_ ?_
  · unfold blkE; exact heap_alloc_new w _
  · unfold blkE; intro k hk; have hk : k = w.heap.size := hk; subst hk; exact ⟨Nat.le_refl _, by simp⟩
end Go.Fer
