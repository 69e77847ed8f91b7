/- lives -/
import Derived.Test.YtholpjhjebbbgaaB
set_option linter.all false
namespace Go.Fer
open Go Go.Proofs Go.RowKit

theorem sumL_min (l : List U64) : sumL l = min ((l.map U64.n).sum) 18446744073709551615 := by
  have h : ∀ (l : List U64) (a : Nat), a ≤ 18446744073709551615 → l.foldl (fun a x => sumH a x.n) a = min (a + (l.map U64.n).sum) 18446744073709551615 := by
    intro l
    induction l with
    | nil => intro a h; simp; omega
    | cons x r ih =>
      intro a h
      simp only [List.foldl_cons, List.map_cons, List.sum_cons]
      rw [ih _ (by unfold sumH; split <;> omega)]
      unfold sumH
      split <;> omega
  have := h l 0 (by decide)
  simpa [sumL] using this

theorem lives02 (w0 : World) : Ret Try.prog 7 #[] w0 (fun r w' => r = .bool true ∧ Bel w0 w') := by
  refine Ret.enter (args := []) Try.func7 rfl Try.ntmps7 Try.results7 rfl ?_
  have hS := St.start w0
  refine WC.seq (fun K1 hK1 => ?_)
  refine WC.region ?_
  refine WL.op rfl (opW.assignB rfl ?_)
  refine WL.nil ?_
  refine thenQ_n (hK1 _ _ ?_)
  refine WC.seq (fun K2 hK2 => ?_)
  refine WC.region ?_
  refine WL.op rfl (opW.call (wmul_ok _ 18446744073709551615 18446744073709551615 (by decide) (by decide)) rfl ?_)
  rintro _ w ⟨rfl, hw⟩; replace hS := hS.bel hw
  refine WL.op rfl (opW.moveV (v := .tuple #[.int .u64 ((18446744073709551615 * 18446744073709551615 / 18446744073709551616 : Nat) : Int), .int .u64 ((18446744073709551615 * 18446744073709551615 % 18446744073709551616 : Nat) : Int)]) rfl ?_)
  refine WL.op rfl (opW.extract rfl rfl ?_)
  refine WL.op rfl (opW.extract rfl rfl ?_)
  refine WL.op rfl (opW.assignI rfl ?_)
  refine WL.op rfl (opW.assignI rfl ?_)
  refine WL.nil ?_
  refine thenQ_n (hK2 _ _ ?_)
  refine WC.seq (fun K3 hK3 => ?_)
  refine WC.region ?_
  refine WL.op rfl (opW.moveI rfl ?_)
  refine WL.op rfl (opW.boolT (by decide) (opW.eql rfl rfl ⟨rfl, rfl⟩) ?_)
  refine WL.op rfl (opW.moveB rfl ?_)
  refine WL.gT 9 rfl rfl rfl (WL.op rfl (opW.moveI rfl ?_))
  refine WL.gT 9 rfl rfl rfl (WL.op rfl (opW.boolT (by decide) (opW.eql rfl rfl ⟨rfl, rfl⟩) ?_))
  refine WL.op rfl (opW.pickT rfl rfl ?_)
  refine WL.op rfl (opW.moveB rfl ?_)
  refine WL.gT 13 rfl rfl rfl (WL.op rfl (opW.call (wtimes_ok _ 7 3 2 false (by decide) (by decide) (by decide)) rfl ?_))
  rintro _ w ⟨rfl, hw⟩; replace hS := hS.bel hw
  refine WL.gT 13 rfl rfl rfl (WL.op rfl (opW.boolT (by decide) (opW.eql rfl rfl ⟨rfl, rfl⟩) ?_))
  refine WL.op rfl (opW.pickT rfl rfl ?_)
  refine WL.op rfl (opW.moveB rfl ?_)
  refine WL.gT 17 rfl rfl rfl (WL.op rfl (opW.call (wtimes_ok _ 7 3 2 true (by decide) (by decide) (by decide)) rfl ?_))
  rintro _ w ⟨rfl, hw⟩; replace hS := hS.bel hw
  refine WL.gT 17 rfl rfl rfl (WL.op rfl (opW.boolT (by decide) (opW.eql rfl rfl ⟨rfl, rfl⟩) ?_))
  refine WL.op rfl (opW.pickT rfl rfl ?_)
  refine WL.op rfl (opW.moveB rfl ?_)
  refine WL.gT 21 rfl rfl rfl (WL.op rfl (opW.buildSl hS (([⟨18446744073709551615⟩, ⟨5⟩] : List U64)) [.int .u64 18446744073709551615, .int .u64 5] rfl rfl rfl rfl (by decide) ?_))
  intro b22 w hw hS
  refine WL.gT 21 rfl rfl rfl (WL.op rfl (opW.call (wsum_ok _ _ [⟨18446744073709551615⟩, ⟨5⟩] (hS.sl (xs := ([⟨18446744073709551615⟩, ⟨5⟩] : List U64)) (by first | exact .here | exact .there (.here) | exact .there (.there (.here)) | exact .there (.there (.there (.here))) | exact .there (.there (.there (.there (.here)))) | exact .there (.there (.there (.there (.there (.here))))) | exact .there (.there (.there (.there (.there (.there (.here)))))) | exact .there (.there (.there (.there (.there (.there (.there (.here))))))) | exact .there (.there (.there (.there (.there (.there (.there (.there (.here)))))))) | exact .there (.there (.there (.there (.there (.there (.there (.there (.there (.here))))))))) | exact .there (.there (.there (.there (.there (.there (.there (.there (.there (.there (.here)))))))))) | exact .there (.there (.there (.there (.there (.there (.there (.there (.there (.there (.there (.here))))))))))) | exact .there (.there (.there (.there (.there (.there (.there (.there (.there (.there (.there (.there (.here)))))))))))))) (okl2 (by decide) (by decide))) rfl ?_))
  rintro _ w ⟨rfl, hw⟩; replace hS := hS.bel hw
  refine WL.gT 21 rfl rfl rfl (WL.op rfl (opW.boolT (by decide) (opW.eql rfl rfl ⟨rfl, rfl⟩) ?_))
  refine WL.op rfl (opW.pickT rfl rfl ?_)
  refine WL.op rfl (opW.moveB rfl ?_)
  refine WL.gT 26 rfl rfl rfl (WL.op rfl (opW.call (wsum_ok _ _ [] (SlR.nil _) (by intro x hx; cases hx)) rfl ?_))
  rintro _ w ⟨rfl, hw⟩; replace hS := hS.bel hw
  refine WL.gT 26 rfl rfl rfl (WL.op rfl (opW.boolT (by decide) (opW.eql rfl rfl ⟨rfl, rfl⟩) ?_))
  refine WL.op rfl (opW.pickT rfl rfl ?_)
  refine WL.op rfl (opW.assignB rfl ?_)
  refine WL.nil ?_
  refine thenQ_n (hK3 _ _ ?_)
  refine WC.ret ?_
  refine bodyQ_ret (.tmpB rfl .nil) ?_
  exact ⟨rfl, hS.old⟩

end Go.Fer
