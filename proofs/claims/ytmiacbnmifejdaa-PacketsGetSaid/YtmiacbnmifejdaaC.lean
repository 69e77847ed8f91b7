/- laying -/
import Derived.Test.YtmiacbnmifejdaaB
set_option linter.all false
namespace Go.Fer
open Go Go.Proofs Go.RowKit

theorem run_append_t2 {P : Program} {t t' ty e e' : Nat} (ht : SliceT P t e) (ht' : SliceT P t' e') (x y : Value) (w : World) : (Builtin.append_ #[t, t'] ty #[x, y]).run P w = (Builtin.append_ #[t, t] ty #[x, y]).run P w := by
  unfold Builtin.append_
  cases x <;> simp [run_underlying ht.out, run_underlying ht'.out]
section
variable {α : Type} [Enc α] {P : Program} {f : Fr} {w w0 : World} {S : List Ent} {R : Value → World → Prop} {d : Option Tmp} {T : TypeId} {pos : String} {af : Array Edge} {gd : Option (Nat × Bool)}
/-- an append of a slice of another named type -/
theorem opW.appendOwn2 {x y : Operand} {t t' E E' by_ : Nat} {z v : Value} {xs ys : List α} [ht : SliceT P t E] [ht' : SliceT P t' E'] [hz : SizeT P E (Enc.sz α)] [hb : BytesT P E by_] [hzz : ZeroT P E z] (hzs : z.cells.size = Enc.sz α)
    (hS : St w0 S w) (hx : ev f x = v) (ho : Has (ownE v E xs) S) (hy : SlR w (ev f y) ys) (hl1 : (xs.length + ys.length) * by_ ≤ 140737488355328) (hl2 : xs.length + ys.length ≤ maxLen)
    (h : ∀ v' w', (∀ S', Turn (ownE v E xs) (ownE v' E (xs ++ ys)) S S' → St w0 S' w') → R v' w') :
    opW P f ⟨d, .call { callee := .builtin .append, args := #[x, y], argTypes := #[t, t'] }, T, pos, af, gd⟩ w R := by
  obtain ⟨v', w', hr, h1, h2, h3⟩ := run_append_OwnB (P := P) (ty := T) ht hz hb hzz hzs (hS.own ho) hy hl1 hl2
  rw [← run_append_t2 ht ht'] at hr
  refine opW.of_run (v := v') (w' := w') ?_ (h v' w' fun S' hT => St.turn (by rw [ownE_F]; exact h2) (by rw [ownE_A]; exact h1) (by rw [ownE_F, ownE_F]; exact h3) hS hT)
  simp [execOp, resolve, Go.invoke, builtin, hx, hr]
end
theorem shortB_le (n : Nat) : (shortB n).length ≤ 3 := by unfold shortB; split <;> (try split) <;> simp

theorem many_ok (wb w0 : World) (S : List Ent) (p : Nat) (s : SlV) (xs : List UInt8) (n : Nat) (hn : n ≤ 65535) (hl : xs.length ≤ 10000000) (hS0 : St wb (blkE p #[s.v] 87 :: ownE s.v 5 xs :: S) w0) : Ret Try.prog 51 #[.pointer (some ⟨p, 0, none⟩), .int .i64 (n : Int)] w0 (fun u w' => ∃ s' : SlV, St wb (blkE p #[s'.v] 87 :: ownE s'.v 5 (xs ++ shortB n) :: S) w') := by
  refine Ret.enter (args := [.pointer (some ⟨p, 0, none⟩), .int .i64 (n : Int)]) Try.func51 rfl Try.ntmps51 Try.results51 rfl ?_
  have hS := St.start w0
  replace hS := hS0
  refine WC.seq (fun K1 hK1 => ?_)
  refine WC.region ?_
  refine WL.op rfl (opW.moveI rfl ?_)
  refine WL.op rfl (opW.call (put_short _ _ [] n (SlR.nil _) (by simp) hn) rfl ?_)
  rintro _ w ⟨v8, rfl, hn8, hw⟩; replace hS := hS.newOwn hw hn8.1 hn8.2
  rw [List.nil_append] at hS
  have hsb := shortB_le n
  refine WL.op rfl (opW.moveV (v := .tuple #[v8, .int .i64 0]) rfl ?_)
  refine WL.op rfl (opW.extract rfl rfl ?_)
  refine WL.op rfl (opW.extract rfl rfl ?_)
  refine WL.op rfl (opW.assignV (v := v8) rfl ?_)
  refine WL.op rfl (opW.assignI rfl ?_)
  refine WL.nil ?_
  refine thenQ_n (hK1 _ _ ?_)
  refine WC.region ?_
  refine WL.op rfl (opW.moveV (v := .pointer (some ⟨p, 0, none⟩)) rfl ?_)
  refine WL.op rfl (opW.moveV (v := .pointer (some ⟨p, 0, none⟩)) rfl ?_)
  refine WL.op rfl (opW.nilCheckB rfl ?_)
  refine WL.op rfl (opW.loadV rfl (hS.ld1 (by first | exact .h0 | exact .h1 | exact .h2 | exact .h3 | exact .h4 | exact .h5 | exact .h6 | exact .h7 | exact .h8 | exact .h9 | exact .h10 | exact .h11 | exact .h12 | exact .h13 | exact .h14) (o := 0) rfl) ?_)
  refine WL.op rfl (opW.moveV (v := v8) rfl ?_)
  refine WL.op rfl (opW.appendOwn2 (α := UInt8) (v := s.v) (xs := xs) rfl hS rfl (by first | exact .h0 | exact .h1 | exact .h2 | exact .h3 | exact .h4 | exact .h5 | exact .h6 | exact .h7 | exact .h8 | exact .h9 | exact .h10 | exact .h11 | exact .h12 | exact .h13 | exact .h14) (hS.sl (v := v8) (xs := shortB n) (by first | exact .h0 | exact .h1 | exact .h2 | exact .h3 | exact .h4 | exact .h5 | exact .h6 | exact .h7 | exact .h8 | exact .h9 | exact .h10 | exact .h11 | exact .h12 | exact .h13 | exact .h14)) (by omega) (by simp only [maxLen]; omega) ?_)
  intro v16 w hS; replace hS := hS _ (by first | exact .h0 | exact .h1 | exact .h2 | exact .h3 | exact .h4 | exact .h5 | exact .h6 | exact .h7 | exact .h8 | exact .h9 | exact .h10 | exact .h11 | exact .h12 | exact .h13 | exact .h14)
  obtain ⟨s16, rfl⟩ := (hS.sl (v := v16) (xs := xs ++ shortB n) (by first | exact .h0 | exact .h1 | exact .h2 | exact .h3 | exact .h4 | exact .h5 | exact .h6 | exact .h7 | exact .h8 | exact .h9 | exact .h10 | exact .h11 | exact .h12 | exact .h13 | exact .h14)).asV
  refine WL.op rfl (opW.nilCheckB rfl ?_)
  refine WL.op0 (opW.storeF (b := p) (o := 0) (v := s16.v) (sz := 1) (cs := #[s.v]) (cs' := #[s16.v]) hS rfl rfl (by first | exact .h0 | exact .h1 | exact .h2 | exact .h3 | exact .h4 | exact .h5 | exact .h6 | exact .h7 | exact .h8 | exact .h9 | exact .h10 | exact .h11 | exact .h12 | exact .h13 | exact .h14) rfl (Nat.le_refl 1) (Enc.one (α := SlV) s16) rfl ?_)
  intro w hS; replace hS := hS _ (by first | exact .h0 | exact .h1 | exact .h2 | exact .h3 | exact .h4 | exact .h5 | exact .h6 | exact .h7 | exact .h8 | exact .h9 | exact .h10 | exact .h11 | exact .h12 | exact .h13 | exact .h14)
  refine WL.nil ?_
  refine bodyQ_end .nil ?_
  exact ⟨s16, hS.drop1⟩

theorem list_ok (wb w0 : World) (S : List Ent) (p : Nat) (s : SlV) (xs : List UInt8) (v : Value) (ys : List UInt8) (hn : ys.length ≤ 65535) (hl : xs.length ≤ 10000000) (hy : ∀ w, St wb S w → SlR w v ys) (hS0 : St wb (blkE p #[s.v] 87 :: ownE s.v 5 xs :: S) w0) : Ret Try.prog 52 #[.pointer (some ⟨p, 0, none⟩), v] w0 (fun u w' => ∃ s' : SlV, St wb (blkE p #[s'.v] 87 :: ownE s'.v 5 (xs ++ (shortB ys.length ++ ys)) :: S) w') := by
  refine Ret.enter (args := [.pointer (some ⟨p, 0, none⟩), v]) Try.func52 rfl Try.ntmps52 Try.results52 rfl ?_
  have hS := St.start w0
  replace hS := hS0
  refine WC.seq (fun K1 hK1 => ?_)
  refine WC.region ?_
  refine WL.op rfl (opW.moveV (v := .pointer (some ⟨p, 0, none⟩)) rfl ?_)
  refine WL.op rfl (opW.moveV (v := v) rfl ?_)
  refine WL.op rfl (opW.lenV rfl ((hy _ hS.drop1.drop1)) ?_)
  refine WL.op rfl (opW.call (many_ok _ _ S p s xs ys.length hn hl hS) rfl ?_)
  rintro v7 w ⟨s7, hS⟩
  have hsb := shortB_le ys.length
  refine WL.nil ?_
  refine thenQ_n (hK1 _ _ ?_)
  refine WC.region ?_
  refine WL.op rfl (opW.moveV (v := .pointer (some ⟨p, 0, none⟩)) rfl ?_)
  refine WL.op rfl (opW.moveV (v := .pointer (some ⟨p, 0, none⟩)) rfl ?_)
  refine WL.op rfl (opW.nilCheckB rfl ?_)
  refine WL.op rfl (opW.loadV rfl (hS.ld1 (by first | exact .h0 | exact .h1 | exact .h2 | exact .h3 | exact .h4 | exact .h5 | exact .h6 | exact .h7 | exact .h8 | exact .h9 | exact .h10 | exact .h11 | exact .h12 | exact .h13 | exact .h14) (o := 0) rfl) ?_)
  refine WL.op rfl (opW.moveV (v := v) rfl ?_)
  refine WL.op rfl (opW.appendOwn2 (α := UInt8) (v := s7.v) (xs := xs ++ shortB ys.length) rfl hS rfl (by first | exact .h0 | exact .h1 | exact .h2 | exact .h3 | exact .h4 | exact .h5 | exact .h6 | exact .h7 | exact .h8 | exact .h9 | exact .h10 | exact .h11 | exact .h12 | exact .h13 | exact .h14) (hy _ hS.drop1.drop1) (by rw [List.length_append]; omega) (by rw [List.length_append]; simp only [maxLen]; omega) ?_)
  intro v13 w hS; replace hS := hS _ (by first | exact .h0 | exact .h1 | exact .h2 | exact .h3 | exact .h4 | exact .h5 | exact .h6 | exact .h7 | exact .h8 | exact .h9 | exact .h10 | exact .h11 | exact .h12 | exact .h13 | exact .h14)
  obtain ⟨s13, rfl⟩ := (hS.sl (v := v13) (xs := xs ++ shortB ys.length ++ ys) (by first | exact .h0 | exact .h1 | exact .h2 | exact .h3 | exact .h4 | exact .h5 | exact .h6 | exact .h7 | exact .h8 | exact .h9 | exact .h10 | exact .h11 | exact .h12 | exact .h13 | exact .h14)).asV
  refine WL.op rfl (opW.nilCheckB rfl ?_)
  refine WL.op0 (opW.storeF (b := p) (o := 0) (v := s13.v) (sz := 1) (cs := #[s7.v]) (cs' := #[s13.v]) hS rfl rfl (by first | exact .h0 | exact .h1 | exact .h2 | exact .h3 | exact .h4 | exact .h5 | exact .h6 | exact .h7 | exact .h8 | exact .h9 | exact .h10 | exact .h11 | exact .h12 | exact .h13 | exact .h14) rfl (Nat.le_refl 1) (Enc.one (α := SlV) s13) rfl ?_)
  intro w hS; replace hS := hS _ (by first | exact .h0 | exact .h1 | exact .h2 | exact .h3 | exact .h4 | exact .h5 | exact .h6 | exact .h7 | exact .h8 | exact .h9 | exact .h10 | exact .h11 | exact .h12 | exact .h13 | exact .h14)
  refine WL.nil ?_
  refine bodyQ_end .nil ?_
  rw [List.append_assoc] at hS
  exact ⟨s13, hS⟩

end Go.Fer
