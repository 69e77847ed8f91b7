/- the records -/
import Derived.Test.YtkklpbjgncpenaaTypes
set_option linter.all false
namespace Go.Fer
open Go Go.Proofs Go.RowKit

structure Act where
  what : UInt8
  g : Vector UInt8 64
  h : Vector UInt8 32
  deriving DecidableEq
def Act.parts (x : Act) : List (Array Value) := [#[.int .u8 x.what.toNat], Enc.enc x.g, Enc.enc x.h]
theorem Act.sizes (x : Act) : x.parts.map Array.size = [1, 64, 32] := by
  simp only [Act.parts, List.map, Enc.size_eq]; rfl
instance : Enc Act where
  enc x := joinA x.parts
  sz := 97
  pos := by omega
  size_eq x := by rw [joinA_size, Act.sizes]; rfl
  one x := joinA_one (all_cons (one_int _ _) (all_cons (Enc.one _) (all_cons (Enc.one _) all_nil)))
theorem Act.enc_eq (x : Act) : Enc.enc x = joinA x.parts := rfl
theorem Act.at_what (x : Act) : (Enc.enc x)[0]? = some (.int .u8 x.what.toNat) := joinA_at [] [Enc.enc x.g, Enc.enc x.h] _ (by rw [joinA_size]; simp only [List.map, Enc.size_eq]; rfl)
theorem Act.ex_g (x : Act) : (Enc.enc x).extract 1 (1 + 64) = Enc.enc x.g := joinA_ex [#[.int .u8 x.what.toNat]] [Enc.enc x.h] _ (by rw [joinA_size]; simp only [List.map, Enc.size_eq]; rfl) (by rw [Enc.size_eq]; rfl)
theorem Act.ex_h (x : Act) : (Enc.enc x).extract 65 (65 + 32) = Enc.enc x.h := joinA_ex [#[.int .u8 x.what.toNat], Enc.enc x.g] [] _ (by rw [joinA_size]; simp only [List.map, Enc.size_eq]; rfl) (by rw [Enc.size_eq]; rfl)
theorem Act.set_what (x : Act) (v : UInt8) : spl (Enc.enc x) 0 #[.int .u8 v.toNat] = Enc.enc { x with what := v } := by
  have h := spl_join [] [Enc.enc x.g, Enc.enc x.h] (#[.int .u8 x.what.toNat]) (#[.int .u8 v.toNat]) (by first | (rw [Enc.size_eq, Enc.size_eq]; done) | rfl)
  rw [show (joinA []).size = 0 from (by rw [joinA_size]; simp only [List.map, Enc.size_eq]; rfl)] at h
  exact h
theorem Act.set_g (x : Act) (v : Vector UInt8 64) : spl (Enc.enc x) 1 (Enc.enc v) = Enc.enc { x with g := v } := by
  have h := spl_join [#[.int .u8 x.what.toNat]] [Enc.enc x.h] (Enc.enc x.g) (Enc.enc v) (by first | (rw [Enc.size_eq, Enc.size_eq]; done) | rfl)
  rw [show (joinA [#[.int .u8 x.what.toNat]]).size = 1 from (by rw [joinA_size]; simp only [List.map, Enc.size_eq]; rfl)] at h
  exact h
theorem Act.set_h (x : Act) (v : Vector UInt8 32) : spl (Enc.enc x) 65 (Enc.enc v) = Enc.enc { x with h := v } := by
  have h := spl_join [#[.int .u8 x.what.toNat], Enc.enc x.g] [] (Enc.enc x.h) (Enc.enc v) (by first | (rw [Enc.size_eq, Enc.size_eq]; done) | rfl)
  rw [show (joinA [#[.int .u8 x.what.toNat], Enc.enc x.g]).size = 65 from (by rw [joinA_size]; simp only [List.map, Enc.size_eq]; rfl)] at h
  exact h
def Act.ok (w : World) (x : Act) : Prop := True
theorem Act.ok.bel {w w' : World} {x : Act} (hb : Bel w w') (h : Act.ok w x) : Act.ok w' x := trivial
theorem rdw_Act : RdW Try.prog 33 Act Act.ok := by
  intro H enc w fuel cs d ps hr
  obtain ⟨hend, fuel', hf⟩ := rdS Try.underlying33 inferInstance hr
  obtain ⟨d0, ps0, h0⟩ := hf 0 _ 5 0 1 rfl rfl rfl inferInstance
  obtain ⟨x0, e0⟩ := rd_u8' inferInstance h0
  obtain ⟨d1, ps1, h1⟩ := hf 1 _ 31 1 64 rfl rfl rfl inferInstance
  obtain ⟨x1, e1, i1⟩ := rd_of rdw_vec h1
  obtain ⟨d2, ps2, h2⟩ := hf 2 _ 24 65 32 rfl rfl rfl inferInstance
  obtain ⟨x2, e2, i2⟩ := rd_of rdw_vec h2
  have k2 := cells_cut e2 hend
  have k1 := cells_cut e1 k2
  have k0 := cells_cut e0 k1
  refine ⟨⟨x0, x1, x2⟩, ?_, trivial⟩
  rw [Act.enc_eq]; simp only [Act.parts, joinA_toList_cons, joinA_nil]
  rw [List.drop_zero] at k0; rw [k0]; try simp
instance : EqT Try.prog 33 Act 3 where
  le := by omega
  run w d hd x y := by
    obtain ⟨d, rfl⟩ : ∃ d', d = d' + 1 := ⟨d - 1, by omega⟩
    have h := run_equal_fields (P := Try.prog) (w := w) (d := d) (xs := Enc.enc x) (ys := Enc.enc y) Try.underlying33 (by kernel_rfl) (run_eqFields_int (T := 5) (by omega) rfl rfl (by decide) (Act.at_what x) (Act.at_what y) (run_eqFields_agg (T := 31) (α := Vector UInt8 64) (by omega) rfl rfl (by decide) (Act.ex_g x) (Act.ex_g y) (run_eqFields_agg (T := 24) (α := Vector UInt8 32) (by omega) rfl rfl (by decide) (Act.ex_h x) (Act.ex_h y) run_eqFields_nil)))
    rw [h]; congr 1; rw [Bool.eq_iff_iff]; cases x; cases y; simp [Act.mk.injEq]; try (intros; simp_all [← UInt8.toNat_inj]; try omega)

structure SeS where
  of : Option Nat
  all : Option Nat
def SeS.parts (x : SeS) : List (Array Value) := [#[.map x.of], #[.map x.all]]
theorem SeS.sizes (x : SeS) : x.parts.map Array.size = [1, 1] := by
  simp only [SeS.parts, List.map, Enc.size_eq]; rfl
instance : Enc SeS where
  enc x := joinA x.parts
  sz := 2
  pos := by omega
  size_eq x := by rw [joinA_size, SeS.sizes]; rfl
  one x := joinA_one (all_cons (one_map _) (all_cons (one_map _) all_nil))
theorem SeS.enc_eq (x : SeS) : Enc.enc x = joinA x.parts := rfl
theorem SeS.at_of (x : SeS) : (Enc.enc x)[0]? = some (.map x.of) := joinA_at [] [#[.map x.all]] _ (by rw [joinA_size]; simp only [List.map, Enc.size_eq]; rfl)
theorem SeS.at_all (x : SeS) : (Enc.enc x)[1]? = some (.map x.all) := joinA_at [#[.map x.of]] [] _ (by rw [joinA_size]; simp only [List.map, Enc.size_eq]; rfl)
theorem SeS.set_of (x : SeS) (v : Option Nat) : spl (Enc.enc x) 0 #[.map v] = Enc.enc { x with of := v } := by
  have h := spl_join [] [#[.map x.all]] (#[.map x.of]) (#[.map v]) (by first | (rw [Enc.size_eq, Enc.size_eq]; done) | rfl)
  rw [show (joinA []).size = 0 from (by rw [joinA_size]; simp only [List.map, Enc.size_eq]; rfl)] at h
  exact h
theorem SeS.set_all (x : SeS) (v : Option Nat) : spl (Enc.enc x) 1 #[.map v] = Enc.enc { x with all := v } := by
  have h := spl_join [#[.map x.of]] [] (#[.map x.all]) (#[.map v]) (by first | (rw [Enc.size_eq, Enc.size_eq]; done) | rfl)
  rw [show (joinA [#[.map x.of]]).size = 1 from (by rw [joinA_size]; simp only [List.map, Enc.size_eq]; rfl)] at h
  exact h

end Go.Fer
