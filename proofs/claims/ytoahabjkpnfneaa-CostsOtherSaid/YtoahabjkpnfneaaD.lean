/- costs.Of -/
import Derived.Test.YtoahabjkpnfneaaC
set_option linter.all false
namespace Go.Fer
open Go Go.Proofs Go.RowKit

theorem iter_w {wb w : World} {b bt bw bu : Nat} {c : Array Value} {T : TypeId} {x : Tx} {writes : Int} {units : Nat} {sg : List (Vector UInt8 64)} {ins : List Instr} (hsg : SlR wb x.sigs.v sg) (hins : SlR wb x.m.instrs.v ins) (hok : ∀ e ∈ ins, Instr.ok wb e) (hwr : -9223372036854775808 ≤ writes ∧ writes ≤ 9223372036854775807)
    (hL : St wb [blkE b c T, blkE bu #[.int .u64 ((units : Nat) : Int)] 34, blkE bw #[.int .i64 writes] 3, blkE bt (Enc.enc x) 33] w) : IterW Try.prog 15 [.pointer (some ⟨bt, 0, none⟩), .pointer (some ⟨bw, 0, none⟩), .pointer (some ⟨bu, 0, none⟩)] (fun y : U64 => .int .u64 ((y.n : Nat) : Int)) (partsL sg.length (dataL ins) writes units) w.heap.size b w := by
  intro l J W hb hJ hY h0
  have hF : St wb [blkE bu #[.int .u64 ((units : Nat) : Int)] 34, blkE bw #[.int .i64 writes] 3, blkE bt (Enc.enc x) 33] w := hL.sub (by repeat (first | with_reducible exact List.nil_sublist _ | with_reducible exact List.Sublist.refl _ | with_reducible refine List.Sublist.cons₂ _ ?_ | with_reducible refine List.Sublist.cons _ ?_))
  exact parts1_ok wb W w.heap.size b l bt bw bu J x writes units sg ins hsg hins hok hwr (hF.bel hb) (fun A B hA hk => St.kpB hL hA hk) hJ hY h0
theorem cost_of (w0 : World) (x : Tx) (writes : Int) (units : Nat) (sg : List (Vector UInt8 64)) (ins : List Instr) (hsg : SlR w0 x.sigs.v sg) (hins : SlR w0 x.m.instrs.v ins) (hok : ∀ e ∈ ins, Instr.ok w0 e) (hwr : -9223372036854775808 ≤ writes ∧ writes ≤ 9223372036854775807) (hu : units < 18446744073709551616) :
    Ret Try.prog 9 #[.agg (Enc.enc x), .int .i64 writes, .int .u64 ((units : Nat) : Int)] w0 (fun u w' => u = .int .u64 ((costF sg.length (dataL ins) writes units : Nat) : Int) ∧ Bel w0 w') := by
  refine Ret.enterI (args := [.agg (Enc.enc x), .int .i64 writes, .int .u64 ((units : Nat) : Int)]) Try.func9 rfl Try.ntmps9 rfl ?_
  have hS := St.start w0
  refine WCI.seqR ?_
  show WLI none 2 _ _ _ _ _ [0, 1] _ _
  refine WLI.op rfl rfl (by simp) (opW.opI (opW.boxA hS rfl ?_))
  intro b3 w _ hS
  refine WLI.op rfl rfl (by simp) (opW.opI (opW.assignI rfl ?_))
  refine WLI.nil ⟨rfl, ?_⟩
  refine WCI.seqR ?_
  show WLI none 2 _ _ _ _ _ [0, 1] _ _
  refine WLI.op rfl rfl (by simp) (opW.opI (opW.alloc1 hS rfl ?_))
  intro b7 w _ hS
  refine WLI.op0 rfl (by simp) (opW.opI (opW.storeAll (c := #[.int .u64 0]) hS rfl rfl (by first | exact .here | exact .there (.here) | exact .there (.there (.here)) | exact .there (.there (.there (.here))) | exact .there (.there (.there (.there (.here)))) | exact .there (.there (.there (.there (.there (.here))))) | exact .there (.there (.there (.there (.there (.there (.here)))))) | exact .there (.there (.there (.there (.there (.there (.there (.here))))))) | exact .there (.there (.there (.there (.there (.there (.there (.there (.here)))))))) | exact .there (.there (.there (.there (.there (.there (.there (.there (.there (.here))))))))) | exact .there (.there (.there (.there (.there (.there (.there (.there (.there (.there (.here)))))))))) | exact .there (.there (.there (.there (.there (.there (.there (.there (.there (.there (.there (.here))))))))))) | exact .there (.there (.there (.there (.there (.there (.there (.there (.there (.there (.there (.there (.here))))))))))))) rfl rfl (one_int _ _) ?_))
  intro w hS; replace hS := hS _ (by first | exact .here | exact .there (.here) | exact .there (.there (.here)) | exact .there (.there (.there (.here))) | exact .there (.there (.there (.there (.here)))) | exact .there (.there (.there (.there (.there (.here))))) | exact .there (.there (.there (.there (.there (.there (.here)))))) | exact .there (.there (.there (.there (.there (.there (.there (.here))))))) | exact .there (.there (.there (.there (.there (.there (.there (.there (.here)))))))) | exact .there (.there (.there (.there (.there (.there (.there (.there (.there (.here))))))))) | exact .there (.there (.there (.there (.there (.there (.there (.there (.there (.there (.here)))))))))) | exact .there (.there (.there (.there (.there (.there (.there (.there (.there (.there (.there (.here))))))))))) | exact .there (.there (.there (.there (.there (.there (.there (.there (.there (.there (.there (.there (.here)))))))))))))
  refine WLI.nil ⟨rfl, ?_⟩
  refine WCI.seq (WCI.seqR ?_)
  show WLI none 2 _ _ _ _ _ [0, 1, 2, 3] _ _
  refine WLI.op rfl rfl (by simp) (opW.opI (opW.loadV rfl (hS.ldA (cs := Enc.enc x) (by first | exact .here | exact .there (.here) | exact .there (.there (.here)) | exact .there (.there (.there (.here))) | exact .there (.there (.there (.there (.here)))) | exact .there (.there (.there (.there (.there (.here))))) | exact .there (.there (.there (.there (.there (.there (.here)))))) | exact .there (.there (.there (.there (.there (.there (.there (.here))))))) | exact .there (.there (.there (.there (.there (.there (.there (.there (.here)))))))) | exact .there (.there (.there (.there (.there (.there (.there (.there (.there (.here))))))))) | exact .there (.there (.there (.there (.there (.there (.there (.there (.there (.there (.here)))))))))) | exact .there (.there (.there (.there (.there (.there (.there (.there (.there (.there (.there (.here))))))))))) | exact .there (.there (.there (.there (.there (.there (.there (.there (.there (.there (.there (.there (.here))))))))))))) (Enc.size_eq _)) ?_))
  refine WLI.op rfl rfl (by simp) (opW.opI (opW.moveI rfl ?_))
  refine WLI.op rfl rfl (by simp) (opW.opI (opW.moveI rfl ?_))
  refine WLI.op rfl rfl (by simp) (opW.opI (opW.call (parts_ok w0 _ _ x writes units (hS.sub (S' := [blkE b7 #[.int .u64 0] 34]) (by repeat (first | with_reducible exact List.nil_sublist _ | with_reducible exact List.Sublist.refl _ | with_reducible refine List.Sublist.cons₂ _ ?_ | with_reducible refine List.Sublist.cons _ ?_)))) rfl ?_))
  rintro _ w ⟨bu, bw, bt, rfl, hS⟩
  refine WLI.nil ⟨rfl, ?_⟩
  replace hS : St w0 [blkE b7 #[.int .u64 ((sumL ((partsL sg.length (dataL ins) writes units).take (0)) : Nat) : Int)] 34, blkE bu #[.int .u64 ((units : Nat) : Int)] 34, blkE bw #[.int .i64 writes] 3, blkE bt (Enc.enc x) 33] w := hS.pick (e := blkE b7 #[.int .u64 0] 34) (by first | exact .here | exact .there (.here) | exact .there (.there (.here)) | exact .there (.there (.there (.here))) | exact .there (.there (.there (.there (.here)))) | exact .there (.there (.there (.there (.there (.here))))) | exact .there (.there (.there (.there (.there (.there (.here)))))) | exact .there (.there (.there (.there (.there (.there (.there (.here))))))) | exact .there (.there (.there (.there (.there (.there (.there (.there (.here)))))))) | exact .there (.there (.there (.there (.there (.there (.there (.there (.there (.here))))))))) | exact .there (.there (.there (.there (.there (.there (.there (.there (.there (.there (.here)))))))))) | exact .there (.there (.there (.there (.there (.there (.there (.there (.there (.there (.there (.here))))))))))) | exact .there (.there (.there (.there (.there (.there (.there (.there (.there (.there (.there (.there (.here)))))))))))))
  have hsz := hS.old.size
  have hlen : (partsL sg.length (dataL ins) writes units).length = 4 := rfl
  refine WCI.range (xs := (partsL sg.length (dataL ins) writes units)) (enc := fun y : U64 => .int .u64 ((y.n : Nat) : Int)) (b := b7) (lb := [.pointer (some ⟨bt, 0, none⟩), .pointer (some ⟨bw, 0, none⟩), .pointer (some ⟨bu, 0, none⟩)]) rfl rfl (iter_w hsg hins hok hwr hS)
    (fun k W => St w0 [blkE b7 #[.int .u64 ((sumL ((partsL sg.length (dataL ins) writes units).take (k)) : Nat) : Int)] 34, blkE bu #[.int .u64 ((units : Nat) : Int)] 34, blkE bw #[.int .i64 writes] 3, blkE bt (Enc.enc x) 33] W ∧ w.heap.size ≤ W.heap.size) 8 ?hI ⟨hS, Nat.le_refl _⟩ ?ha ?hb ?hd
  case ha =>
    intro l y W
    show WLI (some l) 0 _ _ _ _ _ [0] _ _
    refine WLI.op rfl rfl (by simp) (opW.opI (opW.assignV (v := .int .u64 ((y.n : Nat) : Int)) rfl ?_))
    exact WLI.nil ⟨rfl, rfl, rfl⟩
  case hI =>
    rintro k A B row ⟨h1, h2⟩ hg hr
    exact ⟨h1.grown hg hr hsz (by intro e he; simp only [List.mem_cons, List.not_mem_nil, or_false] at he; rcases he with rfl | rfl | rfl | rfl <;> exact ⟨_, _, _, rfl⟩), Nat.le_trans h2 hg.size⟩
  case hb =>
    rintro l k hk W ⟨hS, hz⟩
    have hxk := partsL_ok (s := sg.length) (d := dataL ins) (writes := writes) hu _ (List.getElem_mem hk)
    generalize hxe : (partsL sg.length (dataL ins) writes units)[k] = y at hxk ⊢
    show WLI (some l) 0 _ _ _ _ _ [0, 1, 2, 3, 4] _ _
    refine WLI.op rfl rfl (by simp) (opW.opI (opW.loadV (v := .int .u64 ((sumL ((partsL sg.length (dataL ins) writes units).take (k)) : Nat) : Int)) rfl (hS.ld1 (by first | exact .here | exact .there (.here) | exact .there (.there (.here)) | exact .there (.there (.there (.here))) | exact .there (.there (.there (.there (.here)))) | exact .there (.there (.there (.there (.there (.here))))) | exact .there (.there (.there (.there (.there (.there (.here)))))) | exact .there (.there (.there (.there (.there (.there (.there (.here))))))) | exact .there (.there (.there (.there (.there (.there (.there (.there (.here)))))))) | exact .there (.there (.there (.there (.there (.there (.there (.there (.there (.here))))))))) | exact .there (.there (.there (.there (.there (.there (.there (.there (.there (.there (.here)))))))))) | exact .there (.there (.there (.there (.there (.there (.there (.there (.there (.there (.there (.here))))))))))) | exact .there (.there (.there (.there (.there (.there (.there (.there (.there (.there (.there (.there (.here))))))))))))) rfl) ?_))
    refine WLI.op rfl rfl (by simp) (opW.opI (opW.moveV (v := .int .u64 ((y.n : Nat) : Int)) rfl ?_))
    refine WLI.op rfl rfl (by simp) (opW.opI (opW.buildSl hS ([⟨sumL ((partsL sg.length (dataL ins) writes units).take k)⟩, y] : List U64) [.int .u64 ((sumL ((partsL sg.length (dataL ins) writes units).take k) : Nat) : Int), .int .u64 ((y.n : Nat) : Int)] rfl rfl rfl rfl (by decide) ?_))
    intro b16 w1 hb1 hS
    refine WLI.op rfl rfl (by simp) (opW.opI (opW.call (wsum_ok _ _ [⟨sumL ((partsL sg.length (dataL ins) writes units).take k)⟩, y] (hS.sl (xs := ([⟨sumL ((partsL sg.length (dataL ins) writes units).take k)⟩, y] : List U64)) (by first | exact .here | exact .there (.here) | exact .there (.there (.here)) | exact .there (.there (.there (.here))) | exact .there (.there (.there (.there (.here)))) | exact .there (.there (.there (.there (.there (.here))))) | exact .there (.there (.there (.there (.there (.there (.here)))))) | exact .there (.there (.there (.there (.there (.there (.there (.here))))))) | exact .there (.there (.there (.there (.there (.there (.there (.there (.here)))))))) | exact .there (.there (.there (.there (.there (.there (.there (.there (.there (.here))))))))) | exact .there (.there (.there (.there (.there (.there (.there (.there (.there (.there (.here)))))))))) | exact .there (.there (.there (.there (.there (.there (.there (.there (.there (.there (.there (.here))))))))))) | exact .there (.there (.there (.there (.there (.there (.there (.there (.there (.there (.there (.there (.here)))))))))))))) (okl2 (sumL_lt _) hxk)) rfl ?_))
    rintro _ w2 ⟨rfl, hb2⟩; replace hS := hS.bel hb2
    rw [sumL_two, ← hxe, ← List.take_succ_eq_append_getElem hk]
    refine WLI.op0 rfl (by simp) (opW.opI (opW.storeK (b := b7) (v := .int .u64 ((sumL ((partsL sg.length (dataL ins) writes units).take (k + 1)) : Nat) : Int)) hS rfl rfl rfl rfl (by first | exact .here | exact .there (.here) | exact .there (.there (.here)) | exact .there (.there (.there (.here))) | exact .there (.there (.there (.there (.here)))) | exact .there (.there (.there (.there (.there (.here))))) | exact .there (.there (.there (.there (.there (.there (.here)))))) | exact .there (.there (.there (.there (.there (.there (.there (.here))))))) | exact .there (.there (.there (.there (.there (.there (.there (.there (.here)))))))) | exact .there (.there (.there (.there (.there (.there (.there (.there (.there (.here))))))))) | exact .there (.there (.there (.there (.there (.there (.there (.there (.there (.there (.here)))))))))) | exact .there (.there (.there (.there (.there (.there (.there (.there (.there (.there (.there (.here))))))))))) | exact .there (.there (.there (.there (.there (.there (.there (.there (.there (.there (.there (.there (.here))))))))))))) ?_))
    intro w3 hS hkp hko
    replace hS := hS _ (by first | exact .here | exact .there (.here) | exact .there (.there (.here)) | exact .there (.there (.there (.here))) | exact .there (.there (.there (.there (.here)))) | exact .there (.there (.there (.there (.there (.here))))) | exact .there (.there (.there (.there (.there (.there (.here)))))) | exact .there (.there (.there (.there (.there (.there (.there (.here))))))) | exact .there (.there (.there (.there (.there (.there (.there (.there (.here)))))))) | exact .there (.there (.there (.there (.there (.there (.there (.there (.there (.here))))))))) | exact .there (.there (.there (.there (.there (.there (.there (.there (.there (.there (.here)))))))))) | exact .there (.there (.there (.there (.there (.there (.there (.there (.there (.there (.there (.here))))))))))) | exact .there (.there (.there (.there (.there (.there (.there (.there (.there (.there (.there (.there (.here)))))))))))))
    have hb12 := hb1.trans hb2
    exact WLI.nil ⟨rfl, (KeepsOthers.of_bel hb12).trans hko, (KpB.of_bel hb12 hz).trans (hkp _), hS.sub (by repeat (first | with_reducible exact List.nil_sublist _ | with_reducible exact List.Sublist.refl _ | with_reducible refine List.Sublist.cons₂ _ ?_ | with_reducible refine List.Sublist.cons _ ?_)), Nat.le_trans hz (Nat.le_trans hb12.size hko.size)⟩
  case hd =>
    rintro d W ⟨hS, hz⟩ hdd hdl a ha
    refine WCI.run (WCI.seqR ?_) ha
    show WLI none 2 _ _ _ _ _ [0, 1] _ _
    refine WLI.op rfl rfl (by simp) (opW.opI (opW.loadV (v := .int .u64 ((costF sg.length (dataL ins) writes units : Nat) : Int)) rfl (hS.ld1 (by first | exact .here | exact .there (.here) | exact .there (.there (.here)) | exact .there (.there (.there (.here))) | exact .there (.there (.there (.there (.here)))) | exact .there (.there (.there (.there (.there (.here))))) | exact .there (.there (.there (.there (.there (.there (.here)))))) | exact .there (.there (.there (.there (.there (.there (.there (.here))))))) | exact .there (.there (.there (.there (.there (.there (.there (.there (.here)))))))) | exact .there (.there (.there (.there (.there (.there (.there (.there (.there (.here))))))))) | exact .there (.there (.there (.there (.there (.there (.there (.there (.there (.there (.here)))))))))) | exact .there (.there (.there (.there (.there (.there (.there (.there (.there (.there (.there (.here))))))))))) | exact .there (.there (.there (.there (.there (.there (.there (.there (.there (.there (.there (.there (.here))))))))))))) rfl) ?_))
    refine WLI.op rfl rfl (by simp) (opW.opI (opW.assignV (v := .int .u64 ((costF sg.length (dataL ins) writes units : Nat) : Int)) rfl ?_))
    refine WLI.nil ⟨rfl, ?_⟩
    refine WCI.ret fun a ha => ?_
    exact bodyM_one ha hdd Try.results9 (.tmpV (v := .int .u64 ((costF sg.length (dataL ins) writes units : Nat) : Int)) rfl .nil) ⟨rfl, hS.old.putObj (Nat.le_trans hsz hdl)⟩

end Go.Fer
