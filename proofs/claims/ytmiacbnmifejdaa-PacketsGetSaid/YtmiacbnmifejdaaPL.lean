/- lives -/
import Derived.Test.YtmiacbnmifejdaaPX
import Derived.Test.YtmiacbnmifejdaaPA
import Derived.Test.YtmiacbnmifejdaaPG
import Derived.Test.YtmiacbnmifejdaaO
set_option linter.all false
namespace Go.Fer
open Go Go.Proofs Go.RowKit

section
variable {α : Type} [Enc α] {P : Program} {f : Fr} {w w0 : World} {S : List Ent} {R : Value → World → Prop} {d : Option Tmp} {T : TypeId} {pos : String} {af : Array Edge} {gd : Option (Nat × Bool)}
/-- 'append' to a slice that has no room: it stays -/
theorem opW.appendFull {x y : Operand} {t E by_ : Nat} {z v : Value} {xs ys : List α} [ht : SliceT P t E] [hz : SizeT P E (Enc.sz α)] [hb : BytesT P E by_] [hzz : ZeroT P E z] (hzs : z.cells.size = Enc.sz α)
    (hS : St w0 S w) (hx : ev f x = v) (ho : Has (ownE v E xs) S) (hc : capV v = xs.length) (hy : SlR w (ev f y) ys) (hne : 0 < ys.length) (hl1 : (xs.length + ys.length) * by_ ≤ 140737488355328) (hl2 : xs.length + ys.length ≤ maxLen)
    (h : ∀ v' w', Bel w w' → St w0 (ownE v' E (xs ++ ys) :: S) w' → R v' w') :
    opW P f ⟨d, .call { callee := .builtin .append, args := #[x, y], argTypes := #[t, t] }, T, pos, af, gd⟩ w R := by
  obtain ⟨v', w', hr, h1, h2, h3⟩ := run_append_OwnB (P := P) (ty := T) ht hz hb hzz hzs (hS.own ho) hy hl1 hl2
  have key : Bel w w' ∧ ∀ k, v'.ownBlock = some k → w.heap.size ≤ k := by
    rcases hS.own ho with ⟨hv, hxs⟩ | ⟨g, cap, cur, hv, hg, a1, a2, a3, a4⟩
    · refine ⟨⟨h2.os, h2.tape, h2.output, h2.size, fun k hk => h2.block k hk (by rw [hv]; simp [Value.ownBlock])⟩, fun k hk => ?_⟩
      rcases h3 k hk with h4 | h4
      · rw [hv] at h4; simp [Value.ownBlock] at h4
      · exact h4.1
    · obtain ⟨i, hi, hisz, hiby, hiz⟩ : ∃ i, P.info? E = some i ∧ i.size = Enc.sz α ∧ i.bytes = by_ ∧ i.zero = some z := by
        have g1 := hz.out; have g2 := hb.out; have g3 := hzz.out
        cases hi : P.info? E with
        | none => simp [hi] at g1
        | some i => simp [hi] at g1 g2 g3; exact ⟨i, rfl, g1, g2, g3⟩
      have h63 : ((xs.length + ys.length : Nat) : Int) ≤ 9223372036854775807 := by simp only [maxLen] at hl2; omega
      obtain ⟨ad, cap', hu, hcap', hrow⟩ := hy.some_of hne
      rw [hu] at hr
      have hnews : ∀ (j : Nat) (u : Value), (flat ys)[j]? = some u → w.cell? (ad.add j) = some u := by
        intro j u hj
        have := hrow.2 j u hj
        have e : ad.add j = ⟨ad.block, ad.off + j, none⟩ := by
          have g1 := hrow.1
          obtain ⟨b, o, s⟩ := ad
          simp only at g1
          subst g1
          exact add_spot b o j
        rw [e]; exact this
      have holds : ∀ (j : Nat) (u : Value), (flat xs)[j]? = some u → w.cell? ((⟨g, 0, none⟩ : Addr).add j) = some u := by
        intro j u hj
        rw [add_spot, cell_blk hg, Nat.zero_add]
        rw [← a4, List.getElem?_take] at hj
        split at hj
        · simpa using hj
        · cases hj
      have hcc : cap = xs.length := by rw [hv] at hc; exact hc
      have hr' := run_append_grow (P := P) w t T E i z ht.out hi hiz ⟨g, 0, none⟩ xs.length cap (flat xs) (by rw [flat_length, hisz]) holds ad ys.length cap' (flat ys) (by rw [flat_length, hisz]) hnews (by omega) h63 (growslice_fits (by omega) (by rw [hiby]; exact hl1))
      rw [hv, hr'] at hr
      injection hr with e1 e2
      subst e1; subst e2
      refine ⟨⟨rfl, rfl, rfl, by simp, fun k hk => heap_alloc_old w.drew _ hk⟩, fun k hk => ?_⟩
      simp [Value.ownBlock] at hk; subst hk
      exact Nat.le_refl _
  refine opW.of_run (v := v') (w' := w') ?_ (h v' w' key.1 (hS.newOwn key.1 h1 key.2))
  simp [Go.execOp, Go.resolve, Go.invoke, Go.builtin, hx, hr]
end

@[irreducible] def oneK : Vector UInt8 32 := (vz 32).set 0 1
theorem oneK_eq : oneK = (vz 32).set 0 1 := by unfold oneK; rfl
@[irreducible] def liv4 : MC := ⟨false, ⟨1, 0, 0⟩, [oneK], vz 32, [], []⟩
theorem liv4_eq : liv4 = ⟨false, ⟨1, 0, 0⟩, [oneK], vz 32, [], []⟩ := by unfold liv4; rfl
theorem liv4M : mayF liv4 = true := by rw [liv4_eq]; decide
theorem liv4L : (putF liv4).length = 69 := by rw [liv4_eq, oneK_eq]; decide
theorem liv4S : liv4.size ≤ 10 := by rw [liv4_eq]; decide
@[irreducible] def livT : TC := ⟨[], liv4⟩
theorem livT_eq : livT = ⟨[], liv4⟩ := by unfold livT; rfl
@[irreducible] def livU : TC := ⟨List.replicate 19 (vz 64), liv4⟩
theorem livU_eq : livU = ⟨List.replicate 19 (vz 64), liv4⟩ := by unfold livU; rfl
theorem livT_m : mayF livT.m = true := by rw [livT_eq]; exact liv4M
theorem livT_s : livT.sigs = [] := by rw [livT_eq]
theorem livT_len : (ptB livT).length = 70 := by rw [ptB_leq, livT_eq]; show (shortB 0).length + (64 * 0 + (putF liv4).length) = 70; rw [liv4L]; rfl
theorem livT_0 : (ptB livT)[0]'(by rw [livT_len]; decide) = 0 := by
  have h : ptB livT = 0 :: putF liv4 := by rw [ptB_eq, livT_eq]; rfl
  simp only [h, List.getElem_cons_zero]
theorem livT_e : ptE livT = 0 := by unfold ptE; rw [if_pos livT_m, livT_len, if_neg (by decide)]
theorem livT_l : ptL livT = ptB livT := by unfold ptL; rw [if_pos livT_e]
theorem livT_w : whF (ptB livT) = (livT, 0) := whF_put livT_m (by rw [livT_s]; decide) (by rw [livT_len]; decide)
theorem livT_w1 : whF (ptB livT ++ [0]) = (zTC, 4) := by
  rw [whF_put1 livT_m (by rw [livT_s]; decide) (by rw [livT_len]; decide), livT_len]; rfl
theorem livZ : whF (List.replicate 1233 0) = (zTC, 3) := whF_lim (by rw [List.length_replicate]; decide)
theorem livU_e : ptE livU = 3 := by
  have h : (ptB livU).length = 1286 := by
    rw [ptB_leq, livU_eq]
    show (shortB (List.replicate 19 (vz 64)).length).length + (64 * (List.replicate 19 (vz 64)).length + (putF liv4).length) = 1286
    rw [List.length_replicate, liv4L]; rfl
  unfold ptE
  rw [if_pos (by rw [livU_eq]; exact liv4M), h, if_pos (by decide)]

set_option maxRecDepth 20000 in
set_option maxHeartbeats 4000000 in
theorem lives4_ok (w0 : World) : Ret Try.prog 9 #[] w0 (fun u w' => u = .bool true ∧ Bel w0 w') := by
  refine Ret.enter (args := []) Try.func9 rfl Try.ntmps9 Try.results9 rfl ?_
  have hS := St.start w0
  refine WC.seq (fun K1 hK1 => ?_)
  refine WC.region ?_
  refine WL.op rfl (opW.assignB rfl ?_)
  refine WL.nil ?_
  refine thenQ_n (hK1 _ _ ?_)
  refine WC.seq (fun K2 hK2 => ?_)
  refine WC.region ?_
  refine WL.op rfl (opW.buildE (r := (⟨1, 0, 0⟩ : Header)) (ps := Header.parts (⟨1, 0, 0⟩ : Header)) (Header.enc_eq _) (by first | rfl | (simp only [oneK, enc_vset, enc_vz, Header.enc_eq, Header.parts, Instr.enc_eq, Instr.parts, Lookup.enc_eq, Lookup.parts, Message.enc_eq, Message.parts, Tx.enc_eq, Tx.parts, Reader.enc_eq, Reader.parts, Stop.enc_eq, Stop.parts, Taker.enc_eq, Taker.parts, Reading.enc_eq, Reading.parts, ShByte.enc_eq, ShByte.parts, ShKey.enc_eq, ShKey.parts, BookS.enc_eq, BookS.parts, ShSig.enc_eq, ShSig.parts]; rfl)) (by (repeat' (first | exact trivial | refine And.intro ?_ ?_)) <;> first | rfl | exact Enc.size_eq _ | (simp; done)) ?_)
  refine WL.op rfl (opW.buildVec (k := oneK) (by first | rfl | (simp only [oneK, enc_vset, enc_vz]; rfl)) (by intro p hp; first | (exfalso; simp at hp; done) | (simp only [List.map_cons, List.map_nil, List.mem_cons, List.not_mem_nil, or_false] at hp; rcases hp with rfl | rfl | rfl | rfl <;> exact ⟨by simp, rfl⟩)) ?_)
  refine WL.op rfl (opW.buildSl hS (([oneK] : List (Vector UInt8 32))) [.agg (Enc.enc oneK)] rfl rfl rfl rfl (by decide) ?_)
  intro b14 w hw hS
  refine WL.op rfl (opW.buildE (r := (⟨false, ⟨1, 0, 0⟩, ⟨some ⟨b14, 0, none⟩, 1, 1⟩, vz 32, ⟨none, 0, 0⟩, ⟨none, 0, 0⟩⟩ : Message)) (ps := Message.parts (⟨false, ⟨1, 0, 0⟩, ⟨some ⟨b14, 0, none⟩, 1, 1⟩, vz 32, ⟨none, 0, 0⟩, ⟨none, 0, 0⟩⟩ : Message)) (Message.enc_eq _) (by simp only [enc_vset, enc_vz, Header.enc_eq, Header.parts, Message.parts]; rfl) (by (repeat' (first | exact trivial | refine And.intro ?_ ?_)) <;> first | rfl | exact Enc.size_eq _ | (simp; done)) ?_)
  refine WL.op rfl (opW.allocA hS ?_)
  intro b1 w _ hS
  refine WL.op0 (opW.storeE (r := (⟨false, ⟨1, 0, 0⟩, ⟨some ⟨b14, 0, none⟩, 1, 1⟩, vz 32, ⟨none, 0, 0⟩, ⟨none, 0, 0⟩⟩ : Message)) hS rfl rfl (by first | exact .h0 | exact .h1 | exact .h2 | exact .h3 | exact .h4 | exact .h5 | exact .h6 | exact .h7 | exact .h8 | exact .h9 | exact .h10 | exact .h11 | exact .h12 | exact .h13 | exact .h14) (by rw [mg_zero]; exact Enc.size_eq _) ?_)
  intro w hS; replace hS := hS _ (by first | exact .h0 | exact .h1 | exact .h2 | exact .h3 | exact .h4 | exact .h5 | exact .h6 | exact .h7 | exact .h8 | exact .h9 | exact .h10 | exact .h11 | exact .h12 | exact .h13 | exact .h14)
  refine WL.nil ?_
  refine thenQ_n (hK2 _ _ ?_)
  refine WC.seq (fun K3 hK3 => ?_)
  refine WC.region ?_
  refine WL.op rfl (opW.loadV rfl (hS.ldA (b := b1) (cs := Enc.enc (⟨false, ⟨1, 0, 0⟩, ⟨some ⟨b14, 0, none⟩, 1, 1⟩, vz 32, ⟨none, 0, 0⟩, ⟨none, 0, 0⟩⟩ : Message)) (by first | exact .h0 | exact .h1 | exact .h2 | exact .h3 | exact .h4 | exact .h5 | exact .h6 | exact .h7 | exact .h8 | exact .h9 | exact .h10 | exact .h11 | exact .h12 | exact .h13 | exact .h14) (by exact Enc.size_eq _)) ?_)
  refine WL.op rfl (opW.buildE (r := (⟨⟨none, 0, 0⟩, (⟨false, ⟨1, 0, 0⟩, ⟨some ⟨b14, 0, none⟩, 1, 1⟩, vz 32, ⟨none, 0, 0⟩, ⟨none, 0, 0⟩⟩ : Message)⟩ : Tx)) (ps := Tx.parts (⟨⟨none, 0, 0⟩, (⟨false, ⟨1, 0, 0⟩, ⟨some ⟨b14, 0, none⟩, 1, 1⟩, vz 32, ⟨none, 0, 0⟩, ⟨none, 0, 0⟩⟩ : Message)⟩ : Tx)) (Tx.enc_eq _) (by rfl) (show partsFit _ [(1, Value.agg (Enc.enc (⟨false, ⟨1, 0, 0⟩, ⟨some ⟨b14, 0, none⟩, 1, 1⟩, vz 32, ⟨none, 0, 0⟩, ⟨none, 0, 0⟩⟩ : Message)))] from ⟨by decide, (Enc.size_eq (⟨false, ⟨1, 0, 0⟩, ⟨some ⟨b14, 0, none⟩, 1, 1⟩, vz 32, ⟨none, 0, 0⟩, ⟨none, 0, 0⟩⟩ : Message)).trans (by rfl), trivial⟩) ?_)
  refine WL.op rfl (opW.call (pput_ok _ (⟨⟨none, 0, 0⟩, (⟨false, ⟨1, 0, 0⟩, ⟨some ⟨b14, 0, none⟩, 1, 1⟩, vz 32, ⟨none, 0, 0⟩, ⟨none, 0, 0⟩⟩ : Message)⟩ : Tx) livT [] [] (by rw [livT_eq]; exact ⟨SlR.nil _, (show IsM _ (⟨false, ⟨1, 0, 0⟩, ⟨some ⟨b14, 0, none⟩, 1, 1⟩, vz 32, ⟨none, 0, 0⟩, ⟨none, 0, 0⟩⟩ : Message) liv4 [] [] from (by rw [liv4_eq]; exact ⟨rfl, rfl, rfl, (hS.sl (v := (.slice (some ⟨b14, 0, none⟩) 1 1)) (xs := [oneK]) (by first | exact .h0 | exact .h1 | exact .h2 | exact .h3 | exact .h4 | exact .h5 | exact .h6 | exact .h7 | exact .h8 | exact .h9 | exact .h10 | exact .h11 | exact .h12 | exact .h13 | exact .h14)), SlR.nil _, ⟨rfl, fun i h => by cases h⟩, SlR.nil _, ⟨rfl, fun i h => by cases h⟩⟩))⟩) (by rw [livT_eq]; decide) (by rw [livT_eq]; have := liv4S; show liv4.size ≤ 100000; omega)) rfl ?_)
  rintro _ w ⟨v19, rfl, hn19, hw, hc19⟩; replace hS := hS.newOwn hw hn19.1 hn19.2
  rw [livT_e]
  rw [livT_l] at hS hc19
  obtain ⟨s19, rfl⟩ := (hS.sl (v := v19) (xs := ptB livT) (by first | exact .h0 | exact .h1 | exact .h2 | exact .h3 | exact .h4 | exact .h5 | exact .h6 | exact .h7 | exact .h8 | exact .h9 | exact .h10 | exact .h11 | exact .h12 | exact .h13 | exact .h14)).asV
  refine WL.op rfl (opW.moveV (v := .tuple #[s19.v, .int .i64 0]) rfl ?_)
  refine WL.op rfl (opW.extract rfl rfl ?_)
  refine WL.op rfl (opW.extract rfl rfl ?_)
  refine WL.op rfl (opW.assignV (v := s19.v) rfl ?_)
  refine WL.op rfl (opW.assignI rfl ?_)
  refine WL.nil ?_
  refine thenQ_n (hK3 _ _ ?_)
  refine WC.seq (fun K4 hK4 => ?_)
  refine WC.region ?_
  refine WL.op rfl (opW.moveV (v := s19.v) rfl ?_)
  refine WL.op rfl (opW.call (whole_ok _ s19 (ptB livT) (hS.sl (v := s19.v) (xs := ptB livT) (by first | exact .h0 | exact .h1 | exact .h2 | exact .h3 | exact .h4 | exact .h5 | exact .h6 | exact .h7 | exact .h8 | exact .h9 | exact .h10 | exact .h11 | exact .h12 | exact .h13 | exact .h14)) (by rw [livT_len]; decide)) rfl ?_)
  rintro _ w hgr
  obtain ⟨x4, i4, l4, rfl, hg4, hSg⟩ := gotWR_of hgr livT_w
  replace hS := hS.merge hSg
  unfold gotTL gotL at hS
  simp only [List.cons_append, List.nil_append] at hS
  have hI4 : IsT w x4 livT i4 l4 := hg4.isT (show St w0 (ownE x4.sigs.v 62 livT.sigs :: [ownE x4.m.keys.v 58 livT.m.keys, ownE x4.m.instrs.v 90 i4, b2E (zipI i4 livT.m.ins), ownE x4.m.lookups.v 92 l4, b2E (zipL l4 livT.m.lks)]) _ from hS.sub (by repeat (first | with_reducible exact List.nil_sublist _ | with_reducible exact List.Sublist.refl _ | with_reducible refine List.Sublist.cons₂ _ ?_ | with_reducible refine List.Sublist.cons _ ?_)))
  refine WL.op rfl (opW.moveV (v := .tuple #[.agg (Enc.enc x4), .int .i64 0]) rfl ?_)
  refine WL.op rfl (opW.extract rfl rfl ?_)
  refine WL.op rfl (opW.extract rfl rfl ?_)
  refine WL.op rfl (opW.allocA hS ?_)
  intro b4 w _ hS
  refine WL.op0 (opW.storeE (b := b4) (r := x4) hS rfl rfl (by first | exact .h0 | exact .h1 | exact .h2 | exact .h3 | exact .h4 | exact .h5 | exact .h6 | exact .h7 | exact .h8 | exact .h9 | exact .h10 | exact .h11 | exact .h12 | exact .h13 | exact .h14) (by rw [tx_zero]; exact Enc.size_eq _) ?_)
  intro w hS; replace hS := hS _ (by first | exact .h0 | exact .h1 | exact .h2 | exact .h3 | exact .h4 | exact .h5 | exact .h6 | exact .h7 | exact .h8 | exact .h9 | exact .h10 | exact .h11 | exact .h12 | exact .h13 | exact .h14)
  refine WL.op rfl (opW.assignI rfl ?_)
  refine WL.nil ?_
  refine thenQ_n (hK4 _ _ ?_)
  refine WC.seq (fun K5 hK5 => ?_)
  refine WC.region ?_
  refine WL.op rfl (opW.moveV (v := s19.v) rfl ?_)
  refine WL.op rfl (opW.buildSl hS (([0] : List UInt8)) [.int .u8 0] rfl rfl rfl rfl (by decide) ?_)
  intro b29 w hw hS
  refine WL.op rfl (opW.appendFull (α := UInt8) (v := s19.v) (xs := ptB livT) rfl hS rfl (by first | exact .h0 | exact .h1 | exact .h2 | exact .h3 | exact .h4 | exact .h5 | exact .h6 | exact .h7 | exact .h8 | exact .h9 | exact .h10 | exact .h11 | exact .h12 | exact .h13 | exact .h14) hc19 (hS.sl (v := .slice (some ⟨b29, 0, none⟩) 1 1) (xs := [0]) (by first | exact .h0 | exact .h1 | exact .h2 | exact .h3 | exact .h4 | exact .h5 | exact .h6 | exact .h7 | exact .h8 | exact .h9 | exact .h10 | exact .h11 | exact .h12 | exact .h13 | exact .h14)) (by decide) (by rw [livT_len]; decide) (by rw [livT_len]; decide) ?_)
  intro v30 w hw hS
  obtain ⟨s30, rfl⟩ := (hS.sl (v := v30) (xs := ptB livT ++ [0]) (by first | exact .h0 | exact .h1 | exact .h2 | exact .h3 | exact .h4 | exact .h5 | exact .h6 | exact .h7 | exact .h8 | exact .h9 | exact .h10 | exact .h11 | exact .h12 | exact .h13 | exact .h14)).asV
  refine WL.op rfl (opW.call (whole_ok _ s30 (ptB livT ++ [0]) (hS.sl (v := s30.v) (xs := ptB livT ++ [0]) (by first | exact .h0 | exact .h1 | exact .h2 | exact .h3 | exact .h4 | exact .h5 | exact .h6 | exact .h7 | exact .h8 | exact .h9 | exact .h10 | exact .h11 | exact .h12 | exact .h13 | exact .h14)) (by rw [List.length_append, livT_len]; decide)) rfl ?_)
  rintro _ w hgr
  obtain ⟨x6, i6, l6, rfl, hg6, hSg⟩ := gotWR_of hgr livT_w1
  replace hS := hS.bel hSg.old
  refine WL.op rfl (opW.moveV (v := .tuple #[.agg (Enc.enc x6), .int .i64 4]) rfl ?_)
  refine WL.op rfl (opW.extract rfl rfl ?_)
  refine WL.op rfl (opW.extract rfl rfl ?_)
  refine WL.op rfl (opW.allocA hS ?_)
  intro b6 w _ hS
  refine WL.op0 (opW.storeE (b := b6) (r := x6) hS rfl rfl (by first | exact .h0 | exact .h1 | exact .h2 | exact .h3 | exact .h4 | exact .h5 | exact .h6 | exact .h7 | exact .h8 | exact .h9 | exact .h10 | exact .h11 | exact .h12 | exact .h13 | exact .h14) (by rw [tx_zero]; exact Enc.size_eq _) ?_)
  intro w hS; replace hS := hS _ (by first | exact .h0 | exact .h1 | exact .h2 | exact .h3 | exact .h4 | exact .h5 | exact .h6 | exact .h7 | exact .h8 | exact .h9 | exact .h10 | exact .h11 | exact .h12 | exact .h13 | exact .h14)
  refine WL.op rfl (opW.assignI rfl ?_)
  replace hS := (show St w0 (blkE b4 (Enc.enc x4) 33 :: ownE x4.sigs.v 62 livT.sigs :: [ownE x4.m.keys.v 58 livT.m.keys, ownE x4.m.instrs.v 90 i4, b2E (zipI i4 livT.m.ins), ownE x4.m.lookups.v 92 l4, b2E (zipL l4 livT.m.lks), ownE s19.v 5 (ptB livT), blkE b1 (Enc.enc (⟨false, ⟨1, 0, 0⟩, ⟨some ⟨b14, 0, none⟩, 1, 1⟩, vz 32, ⟨none, 0, 0⟩, ⟨none, 0, 0⟩⟩ : Message)) 31, ownE (.slice (some ⟨b14, 0, none⟩) [oneK].length [oneK].length) 58 [oneK]]) _ from hS.sub (by repeat (first | with_reducible exact List.nil_sublist _ | with_reducible exact List.Sublist.refl _ | with_reducible refine List.Sublist.cons₂ _ ?_ | with_reducible refine List.Sublist.cons _ ?_)))
  refine WL.nil ?_
  refine thenQ_n (hK5 _ _ ?_)
  refine WC.seq (fun K6 hK6 => ?_)
  refine WC.region ?_
  refine WL.op rfl (opW.makeSl (α := UInt8) (n := 1233) (0 : UInt8) (by rfl) hS rfl rfl (by omega) (by decide) ?_)
  intro b35 w _ hS
  refine WL.op rfl (opW.call (whole_ok _ ⟨some ⟨b35, 0, none⟩, 1233, 1233⟩ (List.replicate 1233 0) (hS.sl (v := .slice (some ⟨b35, 0, none⟩) 1233 1233) (xs := List.replicate 1233 (0 : UInt8)) (by first | exact .h0 | exact .h1 | exact .h2 | exact .h3 | exact .h4 | exact .h5 | exact .h6 | exact .h7 | exact .h8 | exact .h9 | exact .h10 | exact .h11 | exact .h12 | exact .h13 | exact .h14)) (by rw [List.length_replicate]; decide)) rfl ?_)
  rintro _ w hgr
  obtain ⟨x8, i8, l8, rfl, hg8, hSg⟩ := gotWR_of hgr livZ
  replace hS := hS.bel hSg.old
  refine WL.op rfl (opW.moveV (v := .tuple #[.agg (Enc.enc x8), .int .i64 3]) rfl ?_)
  refine WL.op rfl (opW.extract rfl rfl ?_)
  refine WL.op rfl (opW.extract rfl rfl ?_)
  refine WL.op rfl (opW.allocA hS ?_)
  intro b8 w _ hS
  refine WL.op0 (opW.storeE (b := b8) (r := x8) hS rfl rfl (by first | exact .h0 | exact .h1 | exact .h2 | exact .h3 | exact .h4 | exact .h5 | exact .h6 | exact .h7 | exact .h8 | exact .h9 | exact .h10 | exact .h11 | exact .h12 | exact .h13 | exact .h14) (by rw [tx_zero]; exact Enc.size_eq _) ?_)
  intro w hS; replace hS := hS _ (by first | exact .h0 | exact .h1 | exact .h2 | exact .h3 | exact .h4 | exact .h5 | exact .h6 | exact .h7 | exact .h8 | exact .h9 | exact .h10 | exact .h11 | exact .h12 | exact .h13 | exact .h14)
  refine WL.op rfl (opW.assignI rfl ?_)
  refine WL.nil ?_
  refine thenQ_n (hK6 _ _ ?_)
  refine WC.seq (fun K7 hK7 => ?_)
  refine WC.draw 9 (.look 0 (.one 1 (.look 2 (.one 3 (.look 4 (.look 5 (.look 6 (.look 7 (.look 8 .nil))))))))) (by kernel_rfl) (fun _ _ _ h => h) (fun w1 hw1 => ?_)
  replace hS := hS.bel hw1
  have hS1 := hS
  have hT := St.start w1
  refine ML.look rfl rfl rfl (fun w hw => (by have hS := hS1.bel hw; exact opW.loadV rfl (hS.ldA (b := b1) (cs := Enc.enc (⟨false, ⟨1, 0, 0⟩, ⟨some ⟨b14, 0, none⟩, 1, 1⟩, vz 32, ⟨none, 0, 0⟩, ⟨none, 0, 0⟩⟩ : Message)) (by first | exact .h0 | exact .h1 | exact .h2 | exact .h3 | exact .h4 | exact .h5 | exact .h6 | exact .h7 | exact .h8 | exact .h9 | exact .h10 | exact .h11 | exact .h12 | exact .h13 | exact .h14) (by exact Enc.size_eq _)) ⟨rfl, rfl⟩)) ?_
  refine ML.one rfl rfl rfl (opW.makeSl (α := Vector UInt8 64) (n := 19) (vz 64) (by first | rfl | (rw [enc_vz]; rfl)) hT rfl rfl (by omega) (by decide) ?_)
  intro b41 w hw hT
  refine ⟨hT.old, ?_⟩
  have hS := hS1.merge hT
  try simp only [List.cons_append, List.nil_append] at hS
  refine ML.look rfl rfl rfl (fun w hw => (by have hS := hS1.bel hw; exact opW.buildE (r := (⟨⟨some ⟨b41, 0, none⟩, 19, 19⟩, (⟨false, ⟨1, 0, 0⟩, ⟨some ⟨b14, 0, none⟩, 1, 1⟩, vz 32, ⟨none, 0, 0⟩, ⟨none, 0, 0⟩⟩ : Message)⟩ : Tx)) (ps := Tx.parts (⟨⟨some ⟨b41, 0, none⟩, 19, 19⟩, (⟨false, ⟨1, 0, 0⟩, ⟨some ⟨b14, 0, none⟩, 1, 1⟩, vz 32, ⟨none, 0, 0⟩, ⟨none, 0, 0⟩⟩ : Message)⟩ : Tx)) (Tx.enc_eq _) (by rfl) (show partsFit _ [(1, Value.agg (Enc.enc (⟨false, ⟨1, 0, 0⟩, ⟨some ⟨b14, 0, none⟩, 1, 1⟩, vz 32, ⟨none, 0, 0⟩, ⟨none, 0, 0⟩⟩ : Message))), (0, Value.slice (some ⟨b41, 0, none⟩) 19 19)] from ⟨by decide, (Enc.size_eq (⟨false, ⟨1, 0, 0⟩, ⟨some ⟨b14, 0, none⟩, 1, 1⟩, vz 32, ⟨none, 0, 0⟩, ⟨none, 0, 0⟩⟩ : Message)).trans (by rfl), by rw [List.length_set]; decide, by rfl, trivial⟩) ⟨rfl, rfl⟩)) ?_
  refine ML.one rfl rfl rfl (opW.call (pput_ok _ (⟨⟨some ⟨b41, 0, none⟩, 19, 19⟩, (⟨false, ⟨1, 0, 0⟩, ⟨some ⟨b14, 0, none⟩, 1, 1⟩, vz 32, ⟨none, 0, 0⟩, ⟨none, 0, 0⟩⟩ : Message)⟩ : Tx) livU [] [] (by rw [livU_eq]; exact ⟨(hS.sl (v := .slice (some ⟨b41, 0, none⟩) 19 19) (xs := List.replicate 19 (vz 64)) (by first | exact .h0 | exact .h1 | exact .h2 | exact .h3 | exact .h4 | exact .h5 | exact .h6 | exact .h7 | exact .h8 | exact .h9 | exact .h10 | exact .h11 | exact .h12 | exact .h13 | exact .h14)), (show IsM _ (⟨false, ⟨1, 0, 0⟩, ⟨some ⟨b14, 0, none⟩, 1, 1⟩, vz 32, ⟨none, 0, 0⟩, ⟨none, 0, 0⟩⟩ : Message) liv4 [] [] from (by rw [liv4_eq]; exact ⟨rfl, rfl, rfl, (hS.sl (v := (.slice (some ⟨b14, 0, none⟩) 1 1)) (xs := [oneK]) (by first | exact .h0 | exact .h1 | exact .h2 | exact .h3 | exact .h4 | exact .h5 | exact .h6 | exact .h7 | exact .h8 | exact .h9 | exact .h10 | exact .h11 | exact .h12 | exact .h13 | exact .h14)), SlR.nil _, ⟨rfl, fun i h => by cases h⟩, SlR.nil _, ⟨rfl, fun i h => by cases h⟩⟩))⟩) (by rw [livU_eq]; decide) (by rw [livU_eq]; have := liv4S; show liv4.size ≤ 100000; omega)) rfl ?_)
  rintro _ w ⟨v43, rfl, hn43, hw, _⟩; replace hT := hT.newOwn hw hn43.1 hn43.2
  rw [livU_e]
  refine ⟨hT.old, ?_⟩
  have hS := hS1.merge hT
  try simp only [List.cons_append, List.nil_append] at hS
  refine ML.look rfl rfl rfl (fun w hw => (by have hS := hS1.bel hw; exact opW.moveV (v := .tuple #[v43, .int .i64 3]) rfl ⟨rfl, rfl⟩)) ?_
  refine ML.look rfl rfl rfl (fun w hw => (by have hS := hS1.bel hw; exact opW.extract rfl rfl ⟨rfl, rfl⟩)) ?_
  refine ML.look rfl rfl rfl (fun w hw => (by have hS := hS1.bel hw; exact opW.extract rfl rfl ⟨rfl, rfl⟩)) ?_
  refine ML.look rfl rfl rfl (fun w hw => (by have hS := hS1.bel hw; exact opW.assignV (v := v43) rfl ⟨rfl, rfl⟩)) ?_
  refine ML.look rfl rfl rfl (fun w hw => (by have hS := hS1.bel hw; exact opW.assignI rfl ⟨rfl, rfl⟩)) ?_
  refine ML.nil ?_
  refine thenQ_n (hK7 _ _ ?_)
  refine WC.seq (fun K8 hK8 => ?_)
  refine WC.region ?_
  refine WL.op rfl (opW.moveI rfl ?_)
  refine WL.op rfl (opW.boolT (by decide) (opW.eql rfl rfl ⟨rfl, rfl⟩) ?_)
  refine WL.op rfl (opW.moveB rfl ?_)
  refine WL.gT 48 rfl rfl rfl (WL.op rfl (opW.moveV (v := s19.v) rfl ?_))
  refine WL.gT 48 rfl rfl rfl (WL.op rfl (opW.lenV rfl ((hS.sl (v := s19.v) (xs := ptB livT) (by first | exact .h0 | exact .h1 | exact .h2 | exact .h3 | exact .h4 | exact .h5 | exact .h6 | exact .h7 | exact .h8 | exact .h9 | exact .h10 | exact .h11 | exact .h12 | exact .h13 | exact .h14))) ?_))
  refine WL.gT 48 rfl rfl rfl (WL.op rfl (opW.boolT (by rw [livT_len]; decide) (opW.eql rfl rfl ⟨rfl, rfl⟩) ?_))
  refine WL.op rfl (opW.pickT rfl rfl ?_)
  refine WL.op rfl (opW.moveB rfl ?_)
  refine WL.gT 53 rfl rfl rfl (WL.op rfl (opW.moveV (v := s19.v) rfl ?_))
  refine WL.gT 53 rfl rfl rfl (WL.op rfl (opW.idxV (xs := ptB livT) rfl (hS.sl (v := s19.v) (xs := ptB livT) (by first | exact .h0 | exact .h1 | exact .h2 | exact .h3 | exact .h4 | exact .h5 | exact .h6 | exact .h7 | exact .h8 | exact .h9 | exact .h10 | exact .h11 | exact .h12 | exact .h13 | exact .h14)) rfl (by rw [livT_len]; decide) ?_))
  refine WL.gT 53 rfl rfl rfl (WL.op rfl (opW.loadV rfl (((hS.sl (v := s19.v) (xs := ptB livT) (by first | exact .h0 | exact .h1 | exact .h2 | exact .h3 | exact .h4 | exact .h5 | exact .h6 | exact .h7 | exact .h8 | exact .h9 | exact .h10 | exact .h11 | exact .h12 | exact .h13 | exact .h14)).isPt (i := 0) (by rw [livT_len]; decide)).ld (by rw [livT_0]; rfl)) ?_))
  refine WL.gT 53 rfl rfl rfl (WL.op rfl (opW.boolT (by decide) (opW.eql rfl rfl ⟨rfl, rfl⟩) ?_))
  refine WL.op rfl (opW.pickT rfl rfl ?_)
  refine WL.op rfl (opW.moveB rfl ?_)
  refine WL.gT 59 rfl rfl rfl (WL.op rfl (opW.moveI rfl ?_))
  refine WL.gT 59 rfl rfl rfl (WL.op rfl (opW.boolT (by decide) (opW.eql rfl rfl ⟨rfl, rfl⟩) ?_))
  refine WL.op rfl (opW.pickT rfl rfl ?_)
  refine WL.op rfl (opW.moveB rfl ?_)
  refine WL.gT 63 rfl rfl rfl (WL.op rfl (opW.fieldAddrB rfl ?_))
  refine WL.gT 63 rfl rfl rfl (WL.op rfl (opW.loadV rfl (hS.ldF (b := b4) (cs := Enc.enc x4) (by first | exact .h0 | exact .h1 | exact .h2 | exact .h3 | exact .h4 | exact .h5 | exact .h6 | exact .h7 | exact .h8 | exact .h9 | exact .h10 | exact .h11 | exact .h12 | exact .h13 | exact .h14) (Tx.ex_m x4) (by rw [Enc.size_eq]; decide)) ?_))
  refine WL.gT 63 rfl rfl rfl (WL.op rfl (opW.loadV rfl (hS.ldA (b := b1) (cs := Enc.enc (⟨false, ⟨1, 0, 0⟩, ⟨some ⟨b14, 0, none⟩, 1, 1⟩, vz 32, ⟨none, 0, 0⟩, ⟨none, 0, 0⟩⟩ : Message)) (by first | exact .h0 | exact .h1 | exact .h2 | exact .h3 | exact .h4 | exact .h5 | exact .h6 | exact .h7 | exact .h8 | exact .h9 | exact .h10 | exact .h11 | exact .h12 | exact .h13 | exact .h14) (by exact Enc.size_eq _)) ?_))
  refine WL.gT 63 rfl rfl rfl (WL.op rfl (opW.call (sameMsg_ok _ x4.m (⟨false, ⟨1, 0, 0⟩, ⟨some ⟨b14, 0, none⟩, 1, 1⟩, vz 32, ⟨none, 0, 0⟩, ⟨none, 0, 0⟩⟩ : Message) liv4 liv4 i4 [] l4 [] (show IsM _ x4.m liv4 i4 l4 from by have h := (hg4.isT (show St w0 (ownE x4.sigs.v 62 livT.sigs :: [ownE x4.m.keys.v 58 livT.m.keys, ownE x4.m.instrs.v 90 i4, b2E (zipI i4 livT.m.ins), ownE x4.m.lookups.v 92 l4, b2E (zipL l4 livT.m.lks)]) _ from hS.sub (by repeat (first | with_reducible exact List.nil_sublist _ | with_reducible exact List.Sublist.refl _ | with_reducible refine List.Sublist.cons₂ _ ?_ | with_reducible refine List.Sublist.cons _ ?_)))).2; rw [livT_eq] at h; exact h) (show IsM _ (⟨false, ⟨1, 0, 0⟩, ⟨some ⟨b14, 0, none⟩, 1, 1⟩, vz 32, ⟨none, 0, 0⟩, ⟨none, 0, 0⟩⟩ : Message) liv4 [] [] from (by rw [liv4_eq]; exact ⟨rfl, rfl, rfl, (hS.sl (v := (.slice (some ⟨b14, 0, none⟩) 1 1)) (xs := [oneK]) (by first | exact .h0 | exact .h1 | exact .h2 | exact .h3 | exact .h4 | exact .h5 | exact .h6 | exact .h7 | exact .h8 | exact .h9 | exact .h10 | exact .h11 | exact .h12 | exact .h13 | exact .h14)), SlR.nil _, ⟨rfl, fun i h => by cases h⟩, SlR.nil _, ⟨rfl, fun i h => by cases h⟩⟩))) rfl ?_))
  rintro _ w ⟨rfl, hw⟩; replace hS := hS.bel hw
  rw [decide_eq_true (rfl : liv4 = liv4)]
  refine WL.op rfl (opW.pickT rfl rfl ?_)
  refine WL.op rfl (opW.moveB rfl ?_)
  refine WL.gT 69 rfl rfl rfl (WL.op rfl (opW.fieldAddrB rfl ?_))
  refine WL.gT 69 rfl rfl rfl (WL.op rfl (opW.loadV rfl (hS.ld1 (b := b4) (cs := Enc.enc x4) (by first | exact .h0 | exact .h1 | exact .h2 | exact .h3 | exact .h4 | exact .h5 | exact .h6 | exact .h7 | exact .h8 | exact .h9 | exact .h10 | exact .h11 | exact .h12 | exact .h13 | exact .h14) (Tx.at_sigs x4)) ?_))
  refine WL.gT 69 rfl rfl rfl (WL.op rfl (opW.lenV rfl ((hS.sl (v := x4.sigs.v) (xs := livT.sigs) (by first | exact .h0 | exact .h1 | exact .h2 | exact .h3 | exact .h4 | exact .h5 | exact .h6 | exact .h7 | exact .h8 | exact .h9 | exact .h10 | exact .h11 | exact .h12 | exact .h13 | exact .h14))) ?_))
  refine WL.gT 69 rfl rfl rfl (WL.op rfl (opW.boolT (by rw [livT_s]; decide) (opW.eql rfl rfl ⟨rfl, rfl⟩) ?_))
  refine WL.op rfl (opW.pickT rfl rfl ?_)
  refine WL.op rfl (opW.moveB rfl ?_)
  refine WL.gT 75 rfl rfl rfl (WL.op rfl (opW.moveI rfl ?_))
  refine WL.gT 75 rfl rfl rfl (WL.op rfl (opW.boolT (by decide) (opW.eql rfl rfl ⟨rfl, rfl⟩) ?_))
  refine WL.op rfl (opW.pickT rfl rfl ?_)
  refine WL.op rfl (opW.moveB rfl ?_)
  refine WL.gT 79 rfl rfl rfl (WL.op rfl (opW.moveI rfl ?_))
  refine WL.gT 79 rfl rfl rfl (WL.op rfl (opW.boolT (by decide) (opW.eql rfl rfl ⟨rfl, rfl⟩) ?_))
  refine WL.op rfl (opW.pickT rfl rfl ?_)
  refine WL.op rfl (opW.moveB rfl ?_)
  refine WL.gT 83 rfl rfl rfl (WL.op rfl (opW.moveI rfl ?_))
  refine WL.gT 83 rfl rfl rfl (WL.op rfl (opW.boolT (by decide) (opW.eql rfl rfl ⟨rfl, rfl⟩) ?_))
  refine WL.op rfl (opW.pickT rfl rfl ?_)
  refine WL.op rfl (opW.assignB rfl ?_)
  refine WL.nil ?_
  refine thenQ_n (hK8 _ _ ?_)
  refine WC.ret ?_
  refine bodyQ_ret (.tmpB rfl .nil) ?_
  exact ⟨rfl, hS.old⟩

end Go.Fer
