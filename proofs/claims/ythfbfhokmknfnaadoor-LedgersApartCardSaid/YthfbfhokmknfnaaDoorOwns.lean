/- Library, part 12 (own slices): heads and tails, appending to nil, making, storing into. No condition: rules alone. -/
import Derived.Test.YthfbfhokmknfnaaDoorRecs
import Derived.Laws.OwnMore
set_option linter.all false
namespace Go.Fer
open Go Go.RowKit

section
variable {α : Type} [Enc α]
theorem SlR.head {w : World} {v : Value} {xs ys : List α} (h : SlR w v (xs ++ ys)) {m : Nat} (hm : xs.length ≤ m) (hm2 : m ≤ capV v) : SlR w (cutV v 0 xs.length m (Enc.sz α)) xs := by
  have := h.cut (l := 0) (h := xs.length) (m := m) (Nat.zero_le _) (by simp) hm hm2
  simpa using this
theorem SlR.tail {w : World} {v : Value} {xs ys : List α} (h : SlR w v (xs ++ ys)) : SlR w (cutV v xs.length (xs ++ ys).length (capV v) (Enc.sz α)) ys := by
  have := h.cut (l := xs.length) (h := (xs ++ ys).length) (m := capV v) (by simp) (Nat.le_refl _) h.cap (Nat.le_refl _)
  rw [List.take_length, List.drop_left] at this
  exact this
theorem SlR.front {w : World} {v : Value} {xs : List α} (h : SlR w v xs) {k m : Nat} (hk : k ≤ xs.length) (hm : k ≤ m) (hm2 : m ≤ capV v) : SlR w (cutV v 0 k m (Enc.sz α)) (xs.take k) := by
  have := h.cut (l := 0) (h := k) (m := m) (Nat.zero_le _) hk hm hm2
  simpa using this
end
theorem wrap_u16_mod (n : Int) : IntKind.u16.wrap n = n % 65536 := by simp [IntKind.wrap, IntKind.bits, IntKind.signed]
section
variable {α : Type} [Enc α] {P : Program} {f : Fr} {w w0 : World} {S : List Ent} {R : Value → World → Prop} {d : Option Tmp} {T : TypeId} {pos : String} {af : Array Edge} {gd : Option (Nat × Bool)}
theorem opW.lenV {x : Operand} {v : Value} {t E : Nat} {xs : List α} [SliceT P t E] (hx : ev f x = v) (hs : SlR w v xs) (h : R (.int .i64 xs.length) w) :
    opW P f ⟨d, .call { callee := .builtin .len, args := #[x], argTypes := #[t] }, T, pos, af, gd⟩ w R := by
  subst hx; exact opW.lenS hs h
theorem opW.cap {x : Operand} {v : Value} {t E : Nat} {xs : List α} [hs : SliceT P t E] (hx : ev f x = v) (hv : SlR w v xs) (h : R (.int .i64 (capV v)) w) :
    opW P f ⟨d, .call { callee := .builtin .cap, args := #[x], argTypes := #[t] }, T, pos, af, gd⟩ w R := by
  obtain ⟨a, c, rfl, _⟩ := hv
  refine opW.of_run (v := .int .i64 c) (w' := w) ?_ h
  simp [execOp, resolve, invoke, builtin, Builtin.cap_, hx, run_underlying hs.out, goInt]
/-- 'append' to nothing -/
theorem opW.appendNil {x y : Operand} {t E by_ : Nat} {z : Value} {ys : List α} [ht : SliceT P t E] [hz : SizeT P E (Enc.sz α)] [hb : BytesT P E by_] [hzz : ZeroT P E z] (hzs : z.cells.size = Enc.sz α)
    (hS : St w0 S w) (hx : ev f x = .slice none 0 0) (hy : SlR w (ev f y) ys) (hl1 : ys.length * by_ ≤ 140737488355328) (hl2 : ys.length ≤ maxLen)
    (h : ∀ v' w', Bel w w' → St w0 (ownE v' E ys :: S) w' → R v' w') :
    opW P f ⟨d, .call { callee := .builtin .append, args := #[x, y], argTypes := #[t, t] }, T, pos, af, gd⟩ w R := by
  have h0 : OwnB w (.slice none 0 0) E ([] : List α) := .inl ⟨rfl, rfl⟩
  obtain ⟨v', w', hr, h1, h2, h3⟩ := run_append_OwnB (P := P) (ty := T) ht hz hb hzz hzs h0 hy (by simpa using hl1) (by simpa using hl2)
  have hbel : Bel w w' := ⟨h2.os, h2.tape, h2.output, h2.size, fun k hk => h2.block k hk (by simp [Value.ownBlock])⟩
  refine opW.of_run (v := v') (w' := w') ?_ (h v' w' hbel ?_)
  · simp [execOp, resolve, invoke, builtin, hx, hr]
  · rw [List.nil_append] at h1
    exact hS.newOwn hbel h1 fun k hk => by
      rcases h3 k hk with h4 | h4
      · simp [Value.ownBlock] at h4
      · exact h4.1
end
end Go.Fer
