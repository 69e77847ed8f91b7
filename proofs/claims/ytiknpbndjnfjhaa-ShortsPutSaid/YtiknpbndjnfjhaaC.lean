/- the chapter example; ShortsRise -/
import Derived.Test.YtiknpbndjnfjhaaB
set_option linter.all false
namespace Go.Fer
open Go Go.Proofs Go.RowKit

theorem lives01 (w0 : World) : Ret Try.prog 8 #[] w0 (fun r w' => r = .bool true ∧ Bel w0 w') := by
  refine Ret.enter (args := []) Try.func8 rfl Try.ntmps8 Try.results8 rfl ?_
  have hS := St.start w0
  refine WC.seq (fun K1 hK1 => ?_)
  refine WC.region ?_
  refine WL.op rfl (opW.assignB rfl ?_)
  refine WL.nil ?_
  refine thenQ_n (hK1 _ _ ?_)
  refine WC.seq (fun K2 hK2 => ?_)
  refine WC.region ?_
  refine WL.op rfl (opW.buildSl hS ([128, 0] : List UInt8) [.int .u8 128, .int .u8 0] rfl rfl rfl rfl (by decide) ?_)
  intro b11 w _ hS
  refine WL.op rfl (opW.call (get_short _ _ [128, 0] (hS.sl (by first | exact .here | exact .there (.here) | exact .there (.there (.here)) | exact .there (.there (.there (.here))) | exact .there (.there (.there (.there (.here)))) | exact .there (.there (.there (.there (.there (.here))))) | exact .there (.there (.there (.there (.there (.there (.here)))))) | exact .there (.there (.there (.there (.there (.there (.there (.here))))))) | exact .there (.there (.there (.there (.there (.there (.there (.there (.here)))))))) | exact .there (.there (.there (.there (.there (.there (.there (.there (.there (.here))))))))) | exact .there (.there (.there (.there (.there (.there (.there (.there (.there (.there (.here)))))))))) | exact .there (.there (.there (.there (.there (.there (.there (.there (.there (.there (.there (.here))))))))))) | exact .there (.there (.there (.there (.there (.there (.there (.there (.there (.there (.there (.there (.here))))))))))))))) rfl ?_)
  rintro _ w ⟨rfl, hw⟩; replace hS := hS.bel hw
  refine WL.op rfl (opW.moveV (v := .tuple #[.int .i64 (gs [128, 0] 0 0).1, .int .i64 (gs [128, 0] 0 0).2.1, .int .i64 (gs [128, 0] 0 0).2.2]) rfl ?_)
  refine WL.op rfl (opW.extract rfl rfl ?_)
  refine WL.op rfl (opW.extract rfl rfl ?_)
  refine WL.op rfl (opW.extract rfl rfl ?_)
  refine WL.op rfl (opW.assignI rfl ?_)
  refine WL.op rfl (opW.assignI rfl ?_)
  refine WL.op rfl (opW.assignI rfl ?_)
  refine WL.nil ?_
  refine thenQ_n (hK2 _ _ ?_)
  refine WC.seq (fun K3 hK3 => ?_)
  refine WC.region ?_
  refine WL.op rfl (opW.buildSl hS ([255, 255, 4] : List UInt8) [.int .u8 255, .int .u8 255, .int .u8 4] rfl rfl rfl rfl (by decide) ?_)
  intro b17 w _ hS
  refine WL.op rfl (opW.call (get_short _ _ [255, 255, 4] (hS.sl (by first | exact .here | exact .there (.here) | exact .there (.there (.here)) | exact .there (.there (.there (.here))) | exact .there (.there (.there (.there (.here)))) | exact .there (.there (.there (.there (.there (.here))))) | exact .there (.there (.there (.there (.there (.there (.here)))))) | exact .there (.there (.there (.there (.there (.there (.there (.here))))))) | exact .there (.there (.there (.there (.there (.there (.there (.there (.here)))))))) | exact .there (.there (.there (.there (.there (.there (.there (.there (.there (.here))))))))) | exact .there (.there (.there (.there (.there (.there (.there (.there (.there (.there (.here)))))))))) | exact .there (.there (.there (.there (.there (.there (.there (.there (.there (.there (.there (.here))))))))))) | exact .there (.there (.there (.there (.there (.there (.there (.there (.there (.there (.there (.there (.here))))))))))))))) rfl ?_)
  rintro _ w ⟨rfl, hw⟩; replace hS := hS.bel hw
  refine WL.op rfl (opW.moveV (v := .tuple #[.int .i64 (gs [255, 255, 4] 0 0).1, .int .i64 (gs [255, 255, 4] 0 0).2.1, .int .i64 (gs [255, 255, 4] 0 0).2.2]) rfl ?_)
  refine WL.op rfl (opW.extract rfl rfl ?_)
  refine WL.op rfl (opW.extract rfl rfl ?_)
  refine WL.op rfl (opW.extract rfl rfl ?_)
  refine WL.op rfl (opW.assignI rfl ?_)
  refine WL.op rfl (opW.assignI rfl ?_)
  refine WL.op rfl (opW.assignI rfl ?_)
  refine WL.nil ?_
  refine thenQ_n (hK3 _ _ ?_)
  refine WC.seq (fun K4 hK4 => ?_)
  refine WC.region ?_
  refine WL.op rfl (opW.buildSl hS ([255] : List UInt8) [.int .u8 255] rfl rfl rfl rfl (by decide) ?_)
  intro b23 w _ hS
  refine WL.op rfl (opW.call (get_short _ _ [255] (hS.sl (by first | exact .here | exact .there (.here) | exact .there (.there (.here)) | exact .there (.there (.there (.here))) | exact .there (.there (.there (.there (.here)))) | exact .there (.there (.there (.there (.there (.here))))) | exact .there (.there (.there (.there (.there (.there (.here)))))) | exact .there (.there (.there (.there (.there (.there (.there (.here))))))) | exact .there (.there (.there (.there (.there (.there (.there (.there (.here)))))))) | exact .there (.there (.there (.there (.there (.there (.there (.there (.there (.here))))))))) | exact .there (.there (.there (.there (.there (.there (.there (.there (.there (.there (.here)))))))))) | exact .there (.there (.there (.there (.there (.there (.there (.there (.there (.there (.there (.here))))))))))) | exact .there (.there (.there (.there (.there (.there (.there (.there (.there (.there (.there (.there (.here))))))))))))))) rfl ?_)
  rintro _ w ⟨rfl, hw⟩; replace hS := hS.bel hw
  refine WL.op rfl (opW.moveV (v := .tuple #[.int .i64 (gs [255] 0 0).1, .int .i64 (gs [255] 0 0).2.1, .int .i64 (gs [255] 0 0).2.2]) rfl ?_)
  refine WL.op rfl (opW.extract rfl rfl ?_)
  refine WL.op rfl (opW.extract rfl rfl ?_)
  refine WL.op rfl (opW.extract rfl rfl ?_)
  refine WL.op rfl (opW.assignI rfl ?_)
  refine WL.op rfl (opW.assignI rfl ?_)
  refine WL.op rfl (opW.assignI rfl ?_)
  refine WL.nil ?_
  refine thenQ_n (hK4 _ _ ?_)
  refine WC.seq (fun K5 hK5 => ?_)
  refine WC.region ?_
  refine WL.op rfl (opW.call (put_ok _ 0 (by decide)) rfl ?_)
  rintro v28 w ⟨hv28, hw⟩
  replace hS := hS.newOwn hw hv28.1 hv28.2
  refine WL.op rfl (opW.buildSl hS ([0] : List UInt8) [.int .u8 0] rfl rfl rfl rfl (by decide) ?_)
  intro b29 w _ hS
  refine WL.op rfl (opW.call (sameBytes_ok _ _ _ (shortB 0) ([0]) (hS.sl (by first | exact .here | exact .there (.here) | exact .there (.there (.here)) | exact .there (.there (.there (.here))) | exact .there (.there (.there (.there (.here)))) | exact .there (.there (.there (.there (.there (.here))))) | exact .there (.there (.there (.there (.there (.there (.here)))))) | exact .there (.there (.there (.there (.there (.there (.there (.here))))))) | exact .there (.there (.there (.there (.there (.there (.there (.there (.here)))))))) | exact .there (.there (.there (.there (.there (.there (.there (.there (.there (.here))))))))) | exact .there (.there (.there (.there (.there (.there (.there (.there (.there (.there (.here)))))))))) | exact .there (.there (.there (.there (.there (.there (.there (.there (.there (.there (.there (.here))))))))))) | exact .there (.there (.there (.there (.there (.there (.there (.there (.there (.there (.there (.there (.here)))))))))))))) (hS.sl (by first | exact .here | exact .there (.here) | exact .there (.there (.here)) | exact .there (.there (.there (.here))) | exact .there (.there (.there (.there (.here)))) | exact .there (.there (.there (.there (.there (.here))))) | exact .there (.there (.there (.there (.there (.there (.here)))))) | exact .there (.there (.there (.there (.there (.there (.there (.here))))))) | exact .there (.there (.there (.there (.there (.there (.there (.there (.here)))))))) | exact .there (.there (.there (.there (.there (.there (.there (.there (.there (.here))))))))) | exact .there (.there (.there (.there (.there (.there (.there (.there (.there (.there (.here)))))))))) | exact .there (.there (.there (.there (.there (.there (.there (.there (.there (.there (.there (.here))))))))))) | exact .there (.there (.there (.there (.there (.there (.there (.there (.there (.there (.there (.there (.here))))))))))))))) rfl ?_)
  rintro _ w ⟨rfl, hw⟩; replace hS := hS.bel hw
  rw [show decide ((shortB 0 : List UInt8) = [0]) = true from by decide +kernel]
  refine WL.op rfl (opW.moveB rfl ?_)
  refine WL.gT 31 rfl rfl rfl (WL.op rfl (opW.call (put_ok _ 128 (by decide)) rfl ?_))
  rintro v32 w ⟨hv32, hw⟩
  replace hS := hS.newOwn hw hv32.1 hv32.2
  refine WL.gT 31 rfl rfl rfl (WL.op rfl (opW.buildSl hS ([128, 1] : List UInt8) [.int .u8 128, .int .u8 1] rfl rfl rfl rfl (by decide) ?_))
  intro b33 w _ hS
  refine WL.gT 31 rfl rfl rfl (WL.op rfl (opW.call (sameBytes_ok _ _ _ (shortB 128) ([128, 1]) (hS.sl (by first | exact .here | exact .there (.here) | exact .there (.there (.here)) | exact .there (.there (.there (.here))) | exact .there (.there (.there (.there (.here)))) | exact .there (.there (.there (.there (.there (.here))))) | exact .there (.there (.there (.there (.there (.there (.here)))))) | exact .there (.there (.there (.there (.there (.there (.there (.here))))))) | exact .there (.there (.there (.there (.there (.there (.there (.there (.here)))))))) | exact .there (.there (.there (.there (.there (.there (.there (.there (.there (.here))))))))) | exact .there (.there (.there (.there (.there (.there (.there (.there (.there (.there (.here)))))))))) | exact .there (.there (.there (.there (.there (.there (.there (.there (.there (.there (.there (.here))))))))))) | exact .there (.there (.there (.there (.there (.there (.there (.there (.there (.there (.there (.there (.here)))))))))))))) (hS.sl (by first | exact .here | exact .there (.here) | exact .there (.there (.here)) | exact .there (.there (.there (.here))) | exact .there (.there (.there (.there (.here)))) | exact .there (.there (.there (.there (.there (.here))))) | exact .there (.there (.there (.there (.there (.there (.here)))))) | exact .there (.there (.there (.there (.there (.there (.there (.here))))))) | exact .there (.there (.there (.there (.there (.there (.there (.there (.here)))))))) | exact .there (.there (.there (.there (.there (.there (.there (.there (.there (.here))))))))) | exact .there (.there (.there (.there (.there (.there (.there (.there (.there (.there (.here)))))))))) | exact .there (.there (.there (.there (.there (.there (.there (.there (.there (.there (.there (.here))))))))))) | exact .there (.there (.there (.there (.there (.there (.there (.there (.there (.there (.there (.there (.here))))))))))))))) rfl ?_))
  rintro _ w ⟨rfl, hw⟩; replace hS := hS.bel hw
  rw [show decide ((shortB 128 : List UInt8) = [128, 1]) = true from by decide +kernel]
  refine WL.op rfl (opW.pickT rfl rfl ?_)
  refine WL.op rfl (opW.moveB rfl ?_)
  refine WL.gT 36 rfl rfl rfl (WL.op rfl (opW.call (put_ok _ 16384 (by decide)) rfl ?_))
  rintro v37 w ⟨hv37, hw⟩
  replace hS := hS.newOwn hw hv37.1 hv37.2
  refine WL.gT 36 rfl rfl rfl (WL.op rfl (opW.buildSl hS ([128, 128, 1] : List UInt8) [.int .u8 128, .int .u8 128, .int .u8 1] rfl rfl rfl rfl (by decide) ?_))
  intro b38 w _ hS
  refine WL.gT 36 rfl rfl rfl (WL.op rfl (opW.call (sameBytes_ok _ _ _ (shortB 16384) ([128, 128, 1]) (hS.sl (by first | exact .here | exact .there (.here) | exact .there (.there (.here)) | exact .there (.there (.there (.here))) | exact .there (.there (.there (.there (.here)))) | exact .there (.there (.there (.there (.there (.here))))) | exact .there (.there (.there (.there (.there (.there (.here)))))) | exact .there (.there (.there (.there (.there (.there (.there (.here))))))) | exact .there (.there (.there (.there (.there (.there (.there (.there (.here)))))))) | exact .there (.there (.there (.there (.there (.there (.there (.there (.there (.here))))))))) | exact .there (.there (.there (.there (.there (.there (.there (.there (.there (.there (.here)))))))))) | exact .there (.there (.there (.there (.there (.there (.there (.there (.there (.there (.there (.here))))))))))) | exact .there (.there (.there (.there (.there (.there (.there (.there (.there (.there (.there (.there (.here)))))))))))))) (hS.sl (by first | exact .here | exact .there (.here) | exact .there (.there (.here)) | exact .there (.there (.there (.here))) | exact .there (.there (.there (.there (.here)))) | exact .there (.there (.there (.there (.there (.here))))) | exact .there (.there (.there (.there (.there (.there (.here)))))) | exact .there (.there (.there (.there (.there (.there (.there (.here))))))) | exact .there (.there (.there (.there (.there (.there (.there (.there (.here)))))))) | exact .there (.there (.there (.there (.there (.there (.there (.there (.there (.here))))))))) | exact .there (.there (.there (.there (.there (.there (.there (.there (.there (.there (.here)))))))))) | exact .there (.there (.there (.there (.there (.there (.there (.there (.there (.there (.there (.here))))))))))) | exact .there (.there (.there (.there (.there (.there (.there (.there (.there (.there (.there (.there (.here))))))))))))))) rfl ?_))
  rintro _ w ⟨rfl, hw⟩; replace hS := hS.bel hw
  rw [show decide ((shortB 16384 : List UInt8) = [128, 128, 1]) = true from by decide +kernel]
  refine WL.op rfl (opW.pickT rfl rfl ?_)
  refine WL.op rfl (opW.moveB rfl ?_)
  refine WL.gT 41 rfl rfl rfl (WL.op rfl (opW.call (put_ok _ 65535 (by decide)) rfl ?_))
  rintro v42 w ⟨hv42, hw⟩
  replace hS := hS.newOwn hw hv42.1 hv42.2
  refine WL.gT 41 rfl rfl rfl (WL.op rfl (opW.buildSl hS ([255, 255, 3] : List UInt8) [.int .u8 255, .int .u8 255, .int .u8 3] rfl rfl rfl rfl (by decide) ?_))
  intro b43 w _ hS
  refine WL.gT 41 rfl rfl rfl (WL.op rfl (opW.call (sameBytes_ok _ _ _ (shortB 65535) ([255, 255, 3]) (hS.sl (by first | exact .here | exact .there (.here) | exact .there (.there (.here)) | exact .there (.there (.there (.here))) | exact .there (.there (.there (.there (.here)))) | exact .there (.there (.there (.there (.there (.here))))) | exact .there (.there (.there (.there (.there (.there (.here)))))) | exact .there (.there (.there (.there (.there (.there (.there (.here))))))) | exact .there (.there (.there (.there (.there (.there (.there (.there (.here)))))))) | exact .there (.there (.there (.there (.there (.there (.there (.there (.there (.here))))))))) | exact .there (.there (.there (.there (.there (.there (.there (.there (.there (.there (.here)))))))))) | exact .there (.there (.there (.there (.there (.there (.there (.there (.there (.there (.there (.here))))))))))) | exact .there (.there (.there (.there (.there (.there (.there (.there (.there (.there (.there (.there (.here)))))))))))))) (hS.sl (by first | exact .here | exact .there (.here) | exact .there (.there (.here)) | exact .there (.there (.there (.here))) | exact .there (.there (.there (.there (.here)))) | exact .there (.there (.there (.there (.there (.here))))) | exact .there (.there (.there (.there (.there (.there (.here)))))) | exact .there (.there (.there (.there (.there (.there (.there (.here))))))) | exact .there (.there (.there (.there (.there (.there (.there (.there (.here)))))))) | exact .there (.there (.there (.there (.there (.there (.there (.there (.there (.here))))))))) | exact .there (.there (.there (.there (.there (.there (.there (.there (.there (.there (.here)))))))))) | exact .there (.there (.there (.there (.there (.there (.there (.there (.there (.there (.there (.here))))))))))) | exact .there (.there (.there (.there (.there (.there (.there (.there (.there (.there (.there (.there (.here))))))))))))))) rfl ?_))
  rintro _ w ⟨rfl, hw⟩; replace hS := hS.bel hw
  rw [show decide ((shortB 65535 : List UInt8) = [255, 255, 3]) = true from by decide +kernel]
  refine WL.op rfl (opW.pickT rfl rfl ?_)
  refine WL.op rfl (opW.moveB rfl ?_)
  refine WL.gT 46 rfl rfl rfl (WL.op rfl (opW.moveI rfl ?_))
  refine WL.gT 46 rfl rfl rfl (WL.op rfl (opW.boolT (by decide +kernel) (opW.eql rfl rfl ⟨rfl, rfl⟩) ?_))
  refine WL.op rfl (opW.pickT rfl rfl ?_)
  refine WL.op rfl (opW.moveB rfl ?_)
  refine WL.gT 50 rfl rfl rfl (WL.op rfl (opW.moveI rfl ?_))
  refine WL.gT 50 rfl rfl rfl (WL.op rfl (opW.boolT (by decide +kernel) (opW.eql rfl rfl ⟨rfl, rfl⟩) ?_))
  refine WL.op rfl (opW.pickT rfl rfl ?_)
  refine WL.op rfl (opW.moveB rfl ?_)
  refine WL.gT 54 rfl rfl rfl (WL.op rfl (opW.moveI rfl ?_))
  refine WL.gT 54 rfl rfl rfl (WL.op rfl (opW.boolT (by decide +kernel) (opW.eql rfl rfl ⟨rfl, rfl⟩) ?_))
  refine WL.op rfl (opW.pickT rfl rfl ?_)
  refine WL.op rfl (opW.moveB rfl ?_)
  refine WL.gT 58 rfl rfl rfl (WL.op rfl (opW.call (put_le _ _ [] 258 4 (SlR.nil _) (by decide)) rfl ?_))
  rintro v59 w ⟨hv59, hw⟩
  replace hS := hS.newOwn hw hv59.1 hv59.2
  refine WL.gT 58 rfl rfl rfl (WL.op rfl (opW.buildSl hS ([2, 1, 0, 0] : List UInt8) [.int .u8 2, .int .u8 1, .int .u8 0, .int .u8 0] rfl rfl rfl rfl (by decide) ?_))
  intro b60 w _ hS
  refine WL.gT 58 rfl rfl rfl (WL.op rfl (opW.call (sameBytes_ok _ _ _ ([] ++ leB 258 (manyOf 4)) ([2, 1, 0, 0]) (hS.sl (by first | exact .here | exact .there (.here) | exact .there (.there (.here)) | exact .there (.there (.there (.here))) | exact .there (.there (.there (.there (.here)))) | exact .there (.there (.there (.there (.there (.here))))) | exact .there (.there (.there (.there (.there (.there (.here)))))) | exact .there (.there (.there (.there (.there (.there (.there (.here))))))) | exact .there (.there (.there (.there (.there (.there (.there (.there (.here)))))))) | exact .there (.there (.there (.there (.there (.there (.there (.there (.there (.here))))))))) | exact .there (.there (.there (.there (.there (.there (.there (.there (.there (.there (.here)))))))))) | exact .there (.there (.there (.there (.there (.there (.there (.there (.there (.there (.there (.here))))))))))) | exact .there (.there (.there (.there (.there (.there (.there (.there (.there (.there (.there (.there (.here)))))))))))))) (hS.sl (by first | exact .here | exact .there (.here) | exact .there (.there (.here)) | exact .there (.there (.there (.here))) | exact .there (.there (.there (.there (.here)))) | exact .there (.there (.there (.there (.there (.here))))) | exact .there (.there (.there (.there (.there (.there (.here)))))) | exact .there (.there (.there (.there (.there (.there (.there (.here))))))) | exact .there (.there (.there (.there (.there (.there (.there (.there (.here)))))))) | exact .there (.there (.there (.there (.there (.there (.there (.there (.there (.here))))))))) | exact .there (.there (.there (.there (.there (.there (.there (.there (.there (.there (.here)))))))))) | exact .there (.there (.there (.there (.there (.there (.there (.there (.there (.there (.there (.here))))))))))) | exact .there (.there (.there (.there (.there (.there (.there (.there (.there (.there (.there (.there (.here))))))))))))))) rfl ?_))
  rintro _ w ⟨rfl, hw⟩; replace hS := hS.bel hw
  rw [show decide (([] ++ leB 258 (manyOf 4) : List UInt8) = [2, 1, 0, 0]) = true from by decide +kernel]
  refine WL.op rfl (opW.pickT rfl rfl ?_)
  refine WL.op rfl (opW.assignB rfl ?_)
  refine WL.nil ?_
  refine thenQ_n (hK5 _ _ ?_)
  refine WC.ret ?_
  refine bodyQ_ret (.tmpB rfl .nil) ?_
  exact ⟨rfl, hS.old⟩

theorem shortB_mono {a b : Nat} (h : a ≤ b) : (shortB a).length ≤ (shortB b).length := by rw [len_shortB, len_shortB]; split <;> split <;> (try split) <;> (try split) <;> omega

theorem rise_walk (w0 : World) (a b : Nat) (ha : a ≤ 65535) (hb : b ≤ 65535) : Ret Try.prog 5 #[.int .u16 (a : Int), .int .u16 (b : Int)] w0 (fun r w' => r = .bool true ∧ Bel w0 w') := by
  refine Ret.enter (args := [.int .u16 (a : Int), .int .u16 (b : Int)]) Try.func5 rfl Try.ntmps5 Try.results5 rfl ?_
  have hS := St.start w0
  refine WC.seq (fun K1 hK1 => ?_)
  refine WC.region ?_
  refine WL.op rfl (opW.assignB rfl ?_)
  refine WL.nil ?_
  refine thenQ_n (hK1 _ _ ?_)
  refine WC.seq (fun K2 hK2 => ?_)
  refine WC.region ?_
  refine WL.op rfl (opW.moveI rfl ?_)
  refine WL.op rfl (opW.moveI rfl ?_)
  refine WL.op rfl (opW.minI rfl rfl (show _ = ((min a b : Nat) : Int) by split <;> omega) ?_)
  refine WL.op rfl (opW.conv rfl (wrap_i64 (by omega)) ?_)
  refine WL.op rfl (opW.call (put_ok _ (min a b) (by omega)) rfl ?_)
  rintro v16 w ⟨hv16, hw⟩
  replace hS := hS.newOwn hw hv16.1 hv16.2
  refine WL.op rfl (opW.lenV rfl (hS.sl (α := UInt8) (by first | exact .here | exact .there (.here) | exact .there (.there (.here)) | exact .there (.there (.there (.here))) | exact .there (.there (.there (.there (.here)))) | exact .there (.there (.there (.there (.there (.here))))) | exact .there (.there (.there (.there (.there (.there (.here)))))) | exact .there (.there (.there (.there (.there (.there (.there (.here))))))) | exact .there (.there (.there (.there (.there (.there (.there (.there (.here)))))))) | exact .there (.there (.there (.there (.there (.there (.there (.there (.there (.here))))))))) | exact .there (.there (.there (.there (.there (.there (.there (.there (.there (.there (.here)))))))))) | exact .there (.there (.there (.there (.there (.there (.there (.there (.there (.there (.there (.here))))))))))) | exact .there (.there (.there (.there (.there (.there (.there (.there (.there (.there (.there (.there (.here)))))))))))))) ?_)
  refine WL.op rfl (opW.assignI rfl ?_)
  refine WL.nil ?_
  refine thenQ_n (hK2 _ _ ?_)
  refine WC.seq (fun K3 hK3 => ?_)
  refine WC.region ?_
  refine WL.op rfl (opW.moveI rfl ?_)
  refine WL.op rfl (opW.moveI rfl ?_)
  refine WL.op rfl (opW.maxI rfl rfl (show _ = ((max a b : Nat) : Int) by split <;> omega) ?_)
  refine WL.op rfl (opW.conv rfl (wrap_i64 (by omega)) ?_)
  refine WL.op rfl (opW.call (put_ok _ (max a b) (by omega)) rfl ?_)
  rintro v22 w ⟨hv22, hw⟩
  replace hS := hS.newOwn hw hv22.1 hv22.2
  refine WL.op rfl (opW.lenV rfl (hS.sl (α := UInt8) (by first | exact .here | exact .there (.here) | exact .there (.there (.here)) | exact .there (.there (.there (.here))) | exact .there (.there (.there (.there (.here)))) | exact .there (.there (.there (.there (.there (.here))))) | exact .there (.there (.there (.there (.there (.there (.here)))))) | exact .there (.there (.there (.there (.there (.there (.there (.here))))))) | exact .there (.there (.there (.there (.there (.there (.there (.there (.here)))))))) | exact .there (.there (.there (.there (.there (.there (.there (.there (.there (.here))))))))) | exact .there (.there (.there (.there (.there (.there (.there (.there (.there (.there (.here)))))))))) | exact .there (.there (.there (.there (.there (.there (.there (.there (.there (.there (.there (.here))))))))))) | exact .there (.there (.there (.there (.there (.there (.there (.there (.there (.there (.there (.there (.here)))))))))))))) ?_)
  refine WL.op rfl (opW.assignI rfl ?_)
  refine WL.nil ?_
  refine thenQ_n (hK3 _ _ ?_)
  refine WC.seq (fun K4 hK4 => ?_)
  refine WC.region ?_
  refine WL.op rfl (opW.assignI rfl ?_)
  refine WL.nil ?_
  refine thenQ_n (hK4 _ _ ?_)
  refine WC.mid (fun f w => ∃ k : Nat, Fits [(0, .int .u16 (a : Int)), (1, .int .u16 (b : Int)), (5, .int .i64 ((shortB (min a b)).length : Int)), (6, .int .i64 ((shortB (max a b)).length : Int)), (7, .int .i64 (k : Int))] f ∧ St w0 [] w ∧ k = (if a < 128 then 1 else 2)) ?_ ?_
  ·
    refine WC.seq (fun K5 hK5 => ?_)
    refine WC.region ?_
    refine WL.op rfl (opW.moveI rfl ?_)
    refine WL.op rfl (opW.geq rfl rfl ?_)
    refine WL.nil ?_
    refine thenQ_n (hK5 _ _ ?_)
    refine WC.cond _ rfl (fun hc0 => ?_) (fun hc0 => ?_)
    ·
      have hr0 := hc0
      try simp only [decide_eq_true_eq, decide_eq_false_iff_not, Bool.and_eq_true, Bool.or_eq_true, Bool.and_eq_false_iff, Bool.or_eq_false_iff, Bool.not_eq_true', Bool.not_eq_false', Int.not_lt, Int.not_le] at hc0
      refine WC.region ?_
      refine WL.op rfl (opW.assignI rfl ?_)
      refine WL.nil ?_
      refine thenQ_n ?_
      first | exact ⟨2, ⟨rfl, rfl, rfl, rfl, rfl, trivial⟩, hS.sub (List.nil_sublist _), by rw [if_neg (by omega)]⟩ | exact ⟨1, ⟨rfl, rfl, rfl, rfl, rfl, trivial⟩, hS.sub (List.nil_sublist _), by rw [if_pos (by omega)]⟩
    ·
      have hr0 := hc0
      try simp only [decide_eq_true_eq, decide_eq_false_iff_not, Bool.and_eq_true, Bool.or_eq_true, Bool.and_eq_false_iff, Bool.or_eq_false_iff, Bool.not_eq_true', Bool.not_eq_false', Int.not_lt, Int.not_le] at hc0
      refine WC.skip ?_
      refine thenQ_n ?_
      first | exact ⟨2, ⟨rfl, rfl, rfl, rfl, rfl, trivial⟩, hS.sub (List.nil_sublist _), by rw [if_neg (by omega)]⟩ | exact ⟨1, ⟨rfl, rfl, rfl, rfl, rfl, trivial⟩, hS.sub (List.nil_sublist _), by rw [if_pos (by omega)]⟩
  ·
    rintro f w ⟨k, hfit, hS, hk⟩
    refine WC.fits _ hfit (fun g => ?_)
    clear hfit
    refine WC.mid (fun f w =>  Fits [(0, .int .u16 (a : Int)), (1, .int .u16 (b : Int)), (5, .int .i64 ((shortB (min a b)).length : Int)), (6, .int .i64 ((shortB (max a b)).length : Int)), (7, .int .i64 ((shortB a).length : Int))] f ∧ St w0 [] w) ?_ ?_
    ·
      refine WC.seq (fun K6 hK6 => ?_)
      refine WC.region ?_
      refine WL.op rfl (opW.moveI rfl ?_)
      refine WL.op rfl (opW.geq rfl rfl ?_)
      refine WL.nil ?_
      refine thenQ_n (hK6 _ _ ?_)
      refine WC.cond _ rfl (fun hc1 => ?_) (fun hc1 => ?_)
      ·
        have hr1 := hc1
        try simp only [decide_eq_true_eq, decide_eq_false_iff_not, Bool.and_eq_true, Bool.or_eq_true, Bool.and_eq_false_iff, Bool.or_eq_false_iff, Bool.not_eq_true', Bool.not_eq_false', Int.not_lt, Int.not_le] at hc1
        refine WC.region ?_
        refine WL.op rfl (opW.assignI rfl ?_)
        refine WL.nil ?_
        refine thenQ_n ?_
        first | exact ⟨⟨rfl, rfl, rfl, rfl, congrArg (Value.int .i64) (by rw [len_shortB, if_neg (by omega), if_neg (by omega)]; rfl), trivial⟩, hS⟩ | (subst hk; exact ⟨⟨rfl, rfl, rfl, rfl, congrArg (Value.int .i64) (by rw [len_shortB]; split <;> (try rw [if_pos (by omega)]) <;> rfl), trivial⟩, hS⟩)
      ·
        have hr1 := hc1
        try simp only [decide_eq_true_eq, decide_eq_false_iff_not, Bool.and_eq_true, Bool.or_eq_true, Bool.and_eq_false_iff, Bool.or_eq_false_iff, Bool.not_eq_true', Bool.not_eq_false', Int.not_lt, Int.not_le] at hc1
        refine WC.skip ?_
        refine thenQ_n ?_
        first | exact ⟨⟨rfl, rfl, rfl, rfl, congrArg (Value.int .i64) (by rw [len_shortB, if_neg (by omega), if_neg (by omega)]; rfl), trivial⟩, hS⟩ | (subst hk; exact ⟨⟨rfl, rfl, rfl, rfl, congrArg (Value.int .i64) (by rw [len_shortB]; split <;> (try rw [if_pos (by omega)]) <;> rfl), trivial⟩, hS⟩)
    ·
      rintro f w ⟨hfit, hS⟩
      refine WC.fits _ hfit (fun g => ?_)
      clear hfit
      refine WC.seq (fun K7 hK7 => ?_)
      refine WC.region ?_
      refine WL.op rfl (opW.moveI rfl ?_)
      refine WL.op rfl (opW.conv rfl (wrap_i64 (by omega)) ?_)
      refine WL.op rfl (opW.sub rfl rfl (wrap_i64 (by omega)) ?_)
      refine WL.op rfl (opW.call (put_short_err _ _ _ (by omega)) rfl ?_)
      rintro _ w ⟨rfl, hw⟩; replace hS := hS.bel hw
      refine WL.op rfl (opW.moveV (v := .tuple #[.slice none 0 0, .int .i64 1]) rfl ?_)
      refine WL.op rfl (opW.extract rfl rfl ?_)
      refine WL.op rfl (opW.extract rfl rfl ?_)
      refine WL.op rfl (opW.assignV rfl ?_)
      refine WL.op rfl (opW.assignI rfl ?_)
      refine WL.nil ?_
      refine thenQ_n (hK7 _ _ ?_)
      refine WC.seq (fun K8 hK8 => ?_)
      refine WC.region ?_
      refine WL.op rfl (opW.moveI rfl ?_)
      refine WL.op rfl (opW.conv rfl (wrap_i64 (by omega)) ?_)
      refine WL.op rfl (opW.add rfl rfl (wrap_i64 (by omega)) ?_)
      refine WL.op rfl (opW.call (put_short_err _ _ _ (by omega)) rfl ?_)
      rintro _ w ⟨rfl, hw⟩; replace hS := hS.bel hw
      refine WL.op rfl (opW.moveV (v := .tuple #[.slice none 0 0, .int .i64 1]) rfl ?_)
      refine WL.op rfl (opW.extract rfl rfl ?_)
      refine WL.op rfl (opW.extract rfl rfl ?_)
      refine WL.op rfl (opW.assignV rfl ?_)
      refine WL.op rfl (opW.assignI rfl ?_)
      refine WL.nil ?_
      refine thenQ_n (hK8 _ _ ?_)
      refine WC.seq (fun K9 hK9 => ?_)
      refine WC.region ?_
      refine WL.op rfl (opW.moveI rfl ?_)
      refine WL.op rfl (opW.moveI rfl ?_)
      refine WL.op rfl (opW.boolT (by have := shortB_mono (a := min a b) (b := max a b) (by omega); simpa using this) (opW.leq rfl rfl ⟨rfl, rfl⟩) ?_)
      refine WL.op rfl (opW.moveB rfl ?_)
      refine WL.gT 45 rfl rfl rfl (WL.op rfl (opW.moveI rfl ?_))
      refine WL.gT 45 rfl rfl rfl (WL.op rfl (opW.conv rfl (wrap_i64 (by omega)) ?_))
      refine WL.gT 45 rfl rfl rfl (WL.op rfl (opW.call (put_ok _ a (by omega)) rfl ?_))
      rintro v48 w ⟨hv48, hw⟩
      replace hS := hS.newOwn hw hv48.1 hv48.2
      refine WL.gT 45 rfl rfl rfl (WL.op rfl (opW.lenV rfl (hS.sl (α := UInt8) (by first | exact .here | exact .there (.here) | exact .there (.there (.here)) | exact .there (.there (.there (.here))) | exact .there (.there (.there (.there (.here)))) | exact .there (.there (.there (.there (.there (.here))))) | exact .there (.there (.there (.there (.there (.there (.here)))))) | exact .there (.there (.there (.there (.there (.there (.there (.here))))))) | exact .there (.there (.there (.there (.there (.there (.there (.there (.here)))))))) | exact .there (.there (.there (.there (.there (.there (.there (.there (.there (.here))))))))) | exact .there (.there (.there (.there (.there (.there (.there (.there (.there (.there (.here)))))))))) | exact .there (.there (.there (.there (.there (.there (.there (.there (.there (.there (.there (.here))))))))))) | exact .there (.there (.there (.there (.there (.there (.there (.there (.there (.there (.there (.there (.here)))))))))))))) ?_))
      refine WL.gT 45 rfl rfl rfl (WL.op rfl (opW.moveI rfl ?_))
      refine WL.gT 45 rfl rfl rfl (WL.op rfl (opW.boolT (by simp) (opW.eql rfl rfl ⟨rfl, rfl⟩) ?_))
      refine WL.op rfl (opW.pickT rfl rfl ?_)
      refine WL.op rfl (opW.moveB rfl ?_)
      refine WL.gT 53 rfl rfl rfl (WL.op rfl (opW.moveI rfl ?_))
      refine WL.gT 53 rfl rfl rfl (WL.op rfl (opW.boolT (by decide) (opW.eql rfl rfl ⟨rfl, rfl⟩) ?_))
      refine WL.op rfl (opW.pickT rfl rfl ?_)
      refine WL.op rfl (opW.moveB rfl ?_)
      refine WL.gT 57 rfl rfl rfl (WL.op rfl (opW.moveI rfl ?_))
      refine WL.gT 57 rfl rfl rfl (WL.op rfl (opW.boolT (by decide) (opW.eql rfl rfl ⟨rfl, rfl⟩) ?_))
      refine WL.op rfl (opW.pickT rfl rfl ?_)
      refine WL.op rfl (opW.moveB rfl ?_)
      refine WL.gT 61 rfl rfl rfl (WL.op rfl (opW.call (lives01 _) rfl ?_))
      rintro _ w ⟨rfl, hw⟩; replace hS := hS.bel hw
      refine WL.op rfl (opW.pickT rfl rfl ?_)
      refine WL.op rfl (opW.assignB rfl ?_)
      refine WL.nil ?_
      refine thenQ_n (hK9 _ _ ?_)
      refine WC.ret ?_
      refine bodyQ_ret (.tmpB rfl .nil) ?_
      exact ⟨rfl, hS.old⟩

end Go.Fer
