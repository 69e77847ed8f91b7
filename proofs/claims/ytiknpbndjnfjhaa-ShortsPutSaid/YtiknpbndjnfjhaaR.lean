/- the records -/
import Derived.Test.YtiknpbndjnfjhaaTypes
set_option linter.all false
namespace Go.Fer
open Go Go.Proofs Go.RowKit

structure Num where
  n : Int
  w : Nat
  many : Int
  deriving DecidableEq
def Num.parts (x : Num) : List (Array Value) := [#[.int .i64 x.n], #[.int .u64 (x.w : Int)], #[.int .i64 x.many]]
theorem Num.sizes (x : Num) : x.parts.map Array.size = [1, 1, 1] := by
  simp only [Num.parts, List.map, Enc.size_eq]; rfl
instance : Enc Num where
  enc x := joinA x.parts
  sz := 3
  pos := by omega
  size_eq x := by rw [joinA_size, Num.sizes]; rfl
  one x := joinA_one (all_cons (one_int _ _) (all_cons (one_int _ _) (all_cons (one_int _ _) all_nil)))
theorem Num.enc_eq (x : Num) : Enc.enc x = joinA x.parts := rfl
theorem Num.at_n (x : Num) : (Enc.enc x)[0]? = some (.int .i64 x.n) := joinA_at [] [#[.int .u64 (x.w : Int)], #[.int .i64 x.many]] _ (by rw [joinA_size]; simp only [List.map, Enc.size_eq]; rfl)
theorem Num.at_w (x : Num) : (Enc.enc x)[1]? = some (.int .u64 (x.w : Int)) := joinA_at [#[.int .i64 x.n]] [#[.int .i64 x.many]] _ (by rw [joinA_size]; simp only [List.map, Enc.size_eq]; rfl)
theorem Num.at_many (x : Num) : (Enc.enc x)[2]? = some (.int .i64 x.many) := joinA_at [#[.int .i64 x.n], #[.int .u64 (x.w : Int)]] [] _ (by rw [joinA_size]; simp only [List.map, Enc.size_eq]; rfl)
theorem Num.set_n (x : Num) (v : Int) : spl (Enc.enc x) 0 #[.int .i64 v] = Enc.enc { x with n := v } := by
  have h := spl_join [] [#[.int .u64 (x.w : Int)], #[.int .i64 x.many]] (#[.int .i64 x.n]) (#[.int .i64 v]) (by first | rfl | (rw [Enc.size_eq, Enc.size_eq]))
  rw [show (joinA []).size = 0 from (by rw [joinA_size]; simp only [List.map, Enc.size_eq]; rfl)] at h
  exact h
theorem Num.set_w (x : Num) (v : Nat) : spl (Enc.enc x) 1 #[.int .u64 (v : Int)] = Enc.enc { x with w := v } := by
  have h := spl_join [#[.int .i64 x.n]] [#[.int .i64 x.many]] (#[.int .u64 (x.w : Int)]) (#[.int .u64 (v : Int)]) (by first | rfl | (rw [Enc.size_eq, Enc.size_eq]))
  rw [show (joinA [#[.int .i64 x.n]]).size = 1 from (by rw [joinA_size]; simp only [List.map, Enc.size_eq]; rfl)] at h
  exact h
theorem Num.set_many (x : Num) (v : Int) : spl (Enc.enc x) 2 #[.int .i64 v] = Enc.enc { x with many := v } := by
  have h := spl_join [#[.int .i64 x.n], #[.int .u64 (x.w : Int)]] [] (#[.int .i64 x.many]) (#[.int .i64 v]) (by first | rfl | (rw [Enc.size_eq, Enc.size_eq]))
  rw [show (joinA [#[.int .i64 x.n], #[.int .u64 (x.w : Int)]]).size = 2 from (by rw [joinA_size]; simp only [List.map, Enc.size_eq]; rfl)] at h
  exact h
def Num.ok (w : World) (x : Num) : Prop := (-9223372036854775808 ≤ x.n ∧ x.n ≤ 9223372036854775807) ∧ (x.w ≤ 18446744073709551615) ∧ (-9223372036854775808 ≤ x.many ∧ x.many ≤ 9223372036854775807)
theorem Num.ok.bel {w w' : World} {x : Num} (hb : Bel w w') (h : Num.ok w x) : Num.ok w' x := by
  unfold Num.ok at h ⊢
  obtain ⟨g0, g1, g2⟩ := h
  exact ⟨(g0), (g1), (g2)⟩
theorem rdw_Num : RdW Try.prog 25 Num Num.ok := by
  intro H enc w fuel cs d ps hr
  obtain ⟨hend, fuel', hf⟩ := rdS Try.underlying25 inferInstance hr
  obtain ⟨d0, ps0, h0⟩ := hf 0 _ 3 0 1 rfl rfl rfl inferInstance
  obtain ⟨x0, e0, i0⟩ := rd_i64' inferInstance h0
  obtain ⟨d1, ps1, h1⟩ := hf 1 _ 23 1 1 rfl rfl rfl inferInstance
  obtain ⟨x1, e1, i1⟩ := rd_u64' inferInstance h1
  obtain ⟨d2, ps2, h2⟩ := hf 2 _ 3 2 1 rfl rfl rfl inferInstance
  obtain ⟨x2, e2, i2⟩ := rd_i64' inferInstance h2
  have k2 := cells_cut e2 hend
  have k1 := cells_cut e1 k2
  have k0 := cells_cut e0 k1
  refine ⟨⟨x0, x1, x2⟩, ?_, ⟨i0, i1, i2⟩⟩
  rw [Num.enc_eq]; simp only [Num.parts, joinA_toList_cons, joinA_nil]
  rw [List.drop_zero] at k0; rw [k0]; try simp
instance : EqT Try.prog 25 Num 2 where
  le := by omega
  run w d hd x y := by
    obtain ⟨d, rfl⟩ : ∃ d', d = d' + 1 := ⟨d - 1, by omega⟩
    have h := run_equal_fields (P := Try.prog) (w := w) (d := d) (xs := Enc.enc x) (ys := Enc.enc y) Try.underlying25 (by kernel_rfl) (run_eqFields_int (T := 3) (by omega) rfl rfl (by decide) (Num.at_n x) (Num.at_n y) (run_eqFields_int (T := 23) (by omega) rfl rfl (by decide) (Num.at_w x) (Num.at_w y) (run_eqFields_int (T := 3) (by omega) rfl rfl (by decide) (Num.at_many x) (Num.at_many y) run_eqFields_nil)))
    rw [h]; congr 1; rw [Bool.eq_iff_iff]; cases x; cases y; simp [Num.mk.injEq]; try (intros; simp_all [← UInt8.toNat_inj]; try omega)

end Go.Fer
