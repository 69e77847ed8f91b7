/- the records -/
import Derived.Test.YtahclnllhfodcaaB
set_option linter.all false
namespace Go.Fer
open Go Go.Proofs Go.RowKit

structure Budget where
  units : Nat
  price : Nat
  bad : Int
  deriving DecidableEq
def Budget.parts (x : Budget) : List (Array Value) := [#[.int .u64 (x.units : Int)], #[.int .u64 (x.price : Int)], #[.int .i64 x.bad]]
theorem Budget.sizes (x : Budget) : x.parts.map Array.size = [1, 1, 1] := by
  simp only [Budget.parts, List.map, Enc.size_eq]; rfl
instance : Enc Budget where
  enc x := joinA x.parts
  sz := 3
  pos := by omega
  size_eq x := by rw [joinA_size, Budget.sizes]; rfl
  one x := joinA_one (all_cons (one_int _ _) (all_cons (one_int _ _) (all_cons (one_int _ _) all_nil)))
theorem Budget.enc_eq (x : Budget) : Enc.enc x = joinA x.parts := rfl
theorem Budget.at_units (x : Budget) : (Enc.enc x)[0]? = some (.int .u64 (x.units : Int)) := joinA_at [] [#[.int .u64 (x.price : Int)], #[.int .i64 x.bad]] _ (by rw [joinA_size]; simp only [List.map, Enc.size_eq]; rfl)
theorem Budget.at_price (x : Budget) : (Enc.enc x)[1]? = some (.int .u64 (x.price : Int)) := joinA_at [#[.int .u64 (x.units : Int)]] [#[.int .i64 x.bad]] _ (by rw [joinA_size]; simp only [List.map, Enc.size_eq]; rfl)
theorem Budget.at_bad (x : Budget) : (Enc.enc x)[2]? = some (.int .i64 x.bad) := joinA_at [#[.int .u64 (x.units : Int)], #[.int .u64 (x.price : Int)]] [] _ (by rw [joinA_size]; simp only [List.map, Enc.size_eq]; rfl)
theorem Budget.set_units (x : Budget) (v : Nat) : spl (Enc.enc x) 0 #[.int .u64 (v : Int)] = Enc.enc { x with units := v } := by
  have h := spl_join [] [#[.int .u64 (x.price : Int)], #[.int .i64 x.bad]] (#[.int .u64 (x.units : Int)]) (#[.int .u64 (v : Int)]) (by first | rfl | (rw [Enc.size_eq, Enc.size_eq]))
  rw [show (joinA []).size = 0 from (by rw [joinA_size]; simp only [List.map, Enc.size_eq]; rfl)] at h
  exact h
theorem Budget.set_price (x : Budget) (v : Nat) : spl (Enc.enc x) 1 #[.int .u64 (v : Int)] = Enc.enc { x with price := v } := by
  have h := spl_join [#[.int .u64 (x.units : Int)]] [#[.int .i64 x.bad]] (#[.int .u64 (x.price : Int)]) (#[.int .u64 (v : Int)]) (by first | rfl | (rw [Enc.size_eq, Enc.size_eq]))
  rw [show (joinA [#[.int .u64 (x.units : Int)]]).size = 1 from (by rw [joinA_size]; simp only [List.map, Enc.size_eq]; rfl)] at h
  exact h
theorem Budget.set_bad (x : Budget) (v : Int) : spl (Enc.enc x) 2 #[.int .i64 v] = Enc.enc { x with bad := v } := by
  have h := spl_join [#[.int .u64 (x.units : Int)], #[.int .u64 (x.price : Int)]] [] (#[.int .i64 x.bad]) (#[.int .i64 v]) (by first | rfl | (rw [Enc.size_eq, Enc.size_eq]))
  rw [show (joinA [#[.int .u64 (x.units : Int)], #[.int .u64 (x.price : Int)]]).size = 2 from (by rw [joinA_size]; simp only [List.map, Enc.size_eq]; rfl)] at h
  exact h
def Budget.ok (w : World) (x : Budget) : Prop := (x.units ≤ 18446744073709551615) ∧ (x.price ≤ 18446744073709551615) ∧ (-9223372036854775808 ≤ x.bad ∧ x.bad ≤ 9223372036854775807)
theorem Budget.ok.bel {w w' : World} {x : Budget} (hb : Bel w w') (h : Budget.ok w x) : Budget.ok w' x := by
  unfold Budget.ok at h ⊢
  obtain ⟨g0, g1, g2⟩ := h
  exact ⟨(g0), (g1), (g2)⟩
theorem rdw_Budget : RdW Try.prog 24 Budget Budget.ok := by
  intro H enc w fuel cs d ps hr
  obtain ⟨hend, fuel', hf⟩ := rdS Try.underlying24 inferInstance hr
  obtain ⟨d0, ps0, h0⟩ := hf 0 _ 22 0 1 rfl rfl rfl inferInstance
  obtain ⟨x0, e0, i0⟩ := rd_u64' inferInstance h0
  obtain ⟨d1, ps1, h1⟩ := hf 1 _ 22 1 1 rfl rfl rfl inferInstance
  obtain ⟨x1, e1, i1⟩ := rd_u64' inferInstance h1
  obtain ⟨d2, ps2, h2⟩ := hf 2 _ 3 2 1 rfl rfl rfl inferInstance
  obtain ⟨x2, e2, i2⟩ := rd_i64' inferInstance h2
  have k2 := cells_cut e2 hend
  have k1 := cells_cut e1 k2
  have k0 := cells_cut e0 k1
  refine ⟨⟨x0, x1, x2⟩, ?_, ⟨i0, i1, i2⟩⟩
  rw [Budget.enc_eq]; simp only [Budget.parts, joinA_toList_cons, joinA_nil]
  rw [List.drop_zero] at k0; rw [k0]; try simp
instance : EqT Try.prog 24 Budget 2 where
  le := by omega
  run w d hd x y := by
    obtain ⟨d, rfl⟩ : ∃ d', d = d' + 1 := ⟨d - 1, by omega⟩
    have h := run_equal_fields (P := Try.prog) (w := w) (d := d) (xs := Enc.enc x) (ys := Enc.enc y) Try.underlying24 (by kernel_rfl) (run_eqFields_int (T := 22) (by omega) rfl rfl (by decide) (Budget.at_units x) (Budget.at_units y) (run_eqFields_int (T := 22) (by omega) rfl rfl (by decide) (Budget.at_price x) (Budget.at_price y) (run_eqFields_int (T := 3) (by omega) rfl rfl (by decide) (Budget.at_bad x) (Budget.at_bad y) run_eqFields_nil)))
    rw [h]; congr 1; rw [Bool.eq_iff_iff]; cases x; cases y; simp [Budget.mk.injEq]; try (intros; simp_all [← UInt8.toNat_inj]; try omega)

structure Payer where
  sigs : Int
  b : Budget
  deriving DecidableEq
def Payer.parts (x : Payer) : List (Array Value) := [#[.int .i64 x.sigs], Enc.enc x.b]
theorem Payer.sizes (x : Payer) : x.parts.map Array.size = [1, 3] := by
  simp only [Payer.parts, List.map, Enc.size_eq]; rfl
instance : Enc Payer where
  enc x := joinA x.parts
  sz := 4
  pos := by omega
  size_eq x := by rw [joinA_size, Payer.sizes]; rfl
  one x := joinA_one (all_cons (one_int _ _) (all_cons (Enc.one _) all_nil))
theorem Payer.enc_eq (x : Payer) : Enc.enc x = joinA x.parts := rfl
theorem Payer.at_sigs (x : Payer) : (Enc.enc x)[0]? = some (.int .i64 x.sigs) := joinA_at [] [Enc.enc x.b] _ (by rw [joinA_size]; simp only [List.map, Enc.size_eq]; rfl)
theorem Payer.ex_b (x : Payer) : (Enc.enc x).extract 1 (1 + 3) = Enc.enc x.b := joinA_ex [#[.int .i64 x.sigs]] [] _ (by rw [joinA_size]; simp only [List.map, Enc.size_eq]; rfl) (by rw [Enc.size_eq]; rfl)
theorem Payer.set_sigs (x : Payer) (v : Int) : spl (Enc.enc x) 0 #[.int .i64 v] = Enc.enc { x with sigs := v } := by
  have h := spl_join [] [Enc.enc x.b] (#[.int .i64 x.sigs]) (#[.int .i64 v]) (by first | rfl | (rw [Enc.size_eq, Enc.size_eq]))
  rw [show (joinA []).size = 0 from (by rw [joinA_size]; simp only [List.map, Enc.size_eq]; rfl)] at h
  exact h
theorem Payer.set_b (x : Payer) (v : Budget) : spl (Enc.enc x) 1 (Enc.enc v) = Enc.enc { x with b := v } := by
  have h := spl_join [#[.int .i64 x.sigs]] [] (Enc.enc x.b) (Enc.enc v) (by first | rfl | (rw [Enc.size_eq, Enc.size_eq]))
  rw [show (joinA [#[.int .i64 x.sigs]]).size = 1 from (by rw [joinA_size]; simp only [List.map, Enc.size_eq]; rfl)] at h
  exact h
theorem Payer.at_b_units (x : Payer) : (Enc.enc x)[1]? = some (.int .u64 (x.b.units : Int)) := at_of_ex (i := 0) (Payer.ex_b x) (Budget.at_units x.b) (by decide)
theorem Payer.at_b_price (x : Payer) : (Enc.enc x)[2]? = some (.int .u64 (x.b.price : Int)) := at_of_ex (i := 1) (Payer.ex_b x) (Budget.at_price x.b) (by decide)
theorem Payer.at_b_bad (x : Payer) : (Enc.enc x)[3]? = some (.int .i64 x.b.bad) := at_of_ex (i := 2) (Payer.ex_b x) (Budget.at_bad x.b) (by decide)
def Payer.ok (w : World) (x : Payer) : Prop := (-9223372036854775808 ≤ x.sigs ∧ x.sigs ≤ 9223372036854775807) ∧ (Budget.ok w x.b)
theorem Payer.ok.bel {w w' : World} {x : Payer} (hb : Bel w w') (h : Payer.ok w x) : Payer.ok w' x := by
  unfold Payer.ok at h ⊢
  obtain ⟨g0, g1⟩ := h
  exact ⟨(g0), (Budget.ok.bel hb g1)⟩
theorem rdw_Payer : RdW Try.prog 34 Payer Payer.ok := by
  intro H enc w fuel cs d ps hr
  obtain ⟨hend, fuel', hf⟩ := rdS Try.underlying34 inferInstance hr
  obtain ⟨d0, ps0, h0⟩ := hf 0 _ 3 0 1 rfl rfl rfl inferInstance
  obtain ⟨x0, e0, i0⟩ := rd_i64' inferInstance h0
  obtain ⟨d1, ps1, h1⟩ := hf 1 _ 24 1 3 rfl rfl rfl inferInstance
  obtain ⟨x1, e1, i1⟩ := rd_of rdw_Budget h1
  have k1 := cells_cut e1 hend
  have k0 := cells_cut e0 k1
  refine ⟨⟨x0, x1⟩, ?_, ⟨i0, i1⟩⟩
  rw [Payer.enc_eq]; simp only [Payer.parts, joinA_toList_cons, joinA_nil]
  rw [List.drop_zero] at k0; rw [k0]; try simp
instance : EqT Try.prog 34 Payer 3 where
  le := by omega
  run w d hd x y := by
    obtain ⟨d, rfl⟩ : ∃ d', d = d' + 1 := ⟨d - 1, by omega⟩
    have h := run_equal_fields (P := Try.prog) (w := w) (d := d) (xs := Enc.enc x) (ys := Enc.enc y) Try.underlying34 (by kernel_rfl) (run_eqFields_int (T := 3) (by omega) rfl rfl (by decide) (Payer.at_sigs x) (Payer.at_sigs y) (run_eqFields_agg (T := 24) (α := Budget) (by omega) rfl rfl (by decide) (Payer.ex_b x) (Payer.ex_b y) run_eqFields_nil))
    rw [h]; congr 1; rw [Bool.eq_iff_iff]; cases x; cases y; simp [Payer.mk.injEq]; try (intros; simp_all [← UInt8.toNat_inj]; try omega)

end Go.Fer
