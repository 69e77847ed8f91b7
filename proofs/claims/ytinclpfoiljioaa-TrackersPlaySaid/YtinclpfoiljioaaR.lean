/- the records -/
import Derived.Test.YtinclpfoiljioaaTypes
set_option linter.all false
namespace Go.Fer
open Go Go.Proofs Go.RowKit

abbrev Key := Vector UInt8 32

structure Limits where
  block : Nat
  account : Nat
  space : Nat
  deriving DecidableEq
def Limits.parts (x : Limits) : List (Array Value) := [#[.int .u64 (x.block : Int)], #[.int .u64 (x.account : Int)], #[.int .u64 (x.space : Int)]]
theorem Limits.sizes (x : Limits) : x.parts.map Array.size = [1, 1, 1] := by
  simp only [Limits.parts, List.map, Enc.size_eq]; rfl
instance : Enc Limits where
  enc x := joinA x.parts
  sz := 3
  pos := by omega
  size_eq x := by rw [joinA_size, Limits.sizes]; rfl
  one x := joinA_one (all_cons (one_int _ _) (all_cons (one_int _ _) (all_cons (one_int _ _) all_nil)))
theorem Limits.enc_eq (x : Limits) : Enc.enc x = joinA x.parts := rfl
theorem Limits.at_block (x : Limits) : (Enc.enc x)[0]? = some (.int .u64 (x.block : Int)) := joinA_at [] [#[.int .u64 (x.account : Int)], #[.int .u64 (x.space : Int)]] _ (by rw [joinA_size]; simp only [List.map, Enc.size_eq]; rfl)
theorem Limits.at_account (x : Limits) : (Enc.enc x)[1]? = some (.int .u64 (x.account : Int)) := joinA_at [#[.int .u64 (x.block : Int)]] [#[.int .u64 (x.space : Int)]] _ (by rw [joinA_size]; simp only [List.map, Enc.size_eq]; rfl)
theorem Limits.at_space (x : Limits) : (Enc.enc x)[2]? = some (.int .u64 (x.space : Int)) := joinA_at [#[.int .u64 (x.block : Int)], #[.int .u64 (x.account : Int)]] [] _ (by rw [joinA_size]; simp only [List.map, Enc.size_eq]; rfl)
theorem Limits.set_block (x : Limits) (v : Nat) : spl (Enc.enc x) 0 #[.int .u64 (v : Int)] = Enc.enc { x with block := v } := by
  have h := spl_join [] [#[.int .u64 (x.account : Int)], #[.int .u64 (x.space : Int)]] (#[.int .u64 (x.block : Int)]) (#[.int .u64 (v : Int)]) (by first | (rw [Enc.size_eq, Enc.size_eq]; done) | rfl)
  rw [show (joinA []).size = 0 from (by rw [joinA_size]; simp only [List.map, Enc.size_eq]; rfl)] at h
  exact h
theorem Limits.set_account (x : Limits) (v : Nat) : spl (Enc.enc x) 1 #[.int .u64 (v : Int)] = Enc.enc { x with account := v } := by
  have h := spl_join [#[.int .u64 (x.block : Int)]] [#[.int .u64 (x.space : Int)]] (#[.int .u64 (x.account : Int)]) (#[.int .u64 (v : Int)]) (by first | (rw [Enc.size_eq, Enc.size_eq]; done) | rfl)
  rw [show (joinA [#[.int .u64 (x.block : Int)]]).size = 1 from (by rw [joinA_size]; simp only [List.map, Enc.size_eq]; rfl)] at h
  exact h
theorem Limits.set_space (x : Limits) (v : Nat) : spl (Enc.enc x) 2 #[.int .u64 (v : Int)] = Enc.enc { x with space := v } := by
  have h := spl_join [#[.int .u64 (x.block : Int)], #[.int .u64 (x.account : Int)]] [] (#[.int .u64 (x.space : Int)]) (#[.int .u64 (v : Int)]) (by first | (rw [Enc.size_eq, Enc.size_eq]; done) | rfl)
  rw [show (joinA [#[.int .u64 (x.block : Int)], #[.int .u64 (x.account : Int)]]).size = 2 from (by rw [joinA_size]; simp only [List.map, Enc.size_eq]; rfl)] at h
  exact h
def Limits.ok (w : World) (x : Limits) : Prop := (x.block ≤ 18446744073709551615) ∧ (x.account ≤ 18446744073709551615) ∧ (x.space ≤ 18446744073709551615)
theorem Limits.ok.bel {w w' : World} {x : Limits} (hb : Bel w w') (h : Limits.ok w x) : Limits.ok w' x := by
  unfold Limits.ok at h ⊢
  obtain ⟨g0, g1, g2⟩ := h
  exact ⟨(g0), (g1), (g2)⟩
theorem rdw_Limits : RdW Try.prog 24 Limits Limits.ok := by
  intro H enc w fuel cs d ps hr
  obtain ⟨hend, fuel', hf⟩ := rdS Try.underlying24 inferInstance hr
  obtain ⟨d0, ps0, h0⟩ := hf 0 _ 22 0 1 rfl rfl rfl inferInstance
  obtain ⟨x0, e0, i0⟩ := rd_u64' inferInstance h0
  obtain ⟨d1, ps1, h1⟩ := hf 1 _ 22 1 1 rfl rfl rfl inferInstance
  obtain ⟨x1, e1, i1⟩ := rd_u64' inferInstance h1
  obtain ⟨d2, ps2, h2⟩ := hf 2 _ 22 2 1 rfl rfl rfl inferInstance
  obtain ⟨x2, e2, i2⟩ := rd_u64' inferInstance h2
  have k2 := cells_cut e2 hend
  have k1 := cells_cut e1 k2
  have k0 := cells_cut e0 k1
  refine ⟨⟨x0, x1, x2⟩, ?_, ⟨i0, i1, i2⟩⟩
  rw [Limits.enc_eq]; simp only [Limits.parts, joinA_toList_cons, joinA_nil]
  rw [List.drop_zero] at k0; rw [k0]; try simp
instance : EqT Try.prog 24 Limits 2 where
  le := by omega
  run w d hd x y := by
    obtain ⟨d, rfl⟩ : ∃ d', d = d' + 1 := ⟨d - 1, by omega⟩
    have h := run_equal_fields (P := Try.prog) (w := w) (d := d) (xs := Enc.enc x) (ys := Enc.enc y) Try.underlying24 (by kernel_rfl) (run_eqFields_int (T := 22) (by omega) rfl rfl (by decide) (Limits.at_block x) (Limits.at_block y) (run_eqFields_int (T := 22) (by omega) rfl rfl (by decide) (Limits.at_account x) (Limits.at_account y) (run_eqFields_int (T := 22) (by omega) rfl rfl (by decide) (Limits.at_space x) (Limits.at_space y) run_eqFields_nil)))
    rw [h]; congr 1; rw [Bool.eq_iff_iff]; cases x; cases y; simp [Limits.mk.injEq]; try (intros; simp_all [← UInt8.toNat_inj]; try omega)

structure Asked where
  cost : Nat
  space : Nat
  keys : SlV
  try_ : Bool
def Asked.parts (x : Asked) : List (Array Value) := [#[.int .u64 (x.cost : Int)], #[.int .u64 (x.space : Int)], #[x.keys.v], #[.bool x.try_]]
theorem Asked.sizes (x : Asked) : x.parts.map Array.size = [1, 1, 1, 1] := by
  simp only [Asked.parts, List.map, Enc.size_eq]; rfl
instance : Enc Asked where
  enc x := joinA x.parts
  sz := 4
  pos := by omega
  size_eq x := by rw [joinA_size, Asked.sizes]; rfl
  one x := joinA_one (all_cons (one_int _ _) (all_cons (one_int _ _) (all_cons (Enc.one (α := SlV) _) (all_cons (Enc.one (α := Bool) _) all_nil))))
theorem Asked.enc_eq (x : Asked) : Enc.enc x = joinA x.parts := rfl
theorem Asked.at_cost (x : Asked) : (Enc.enc x)[0]? = some (.int .u64 (x.cost : Int)) := joinA_at [] [#[.int .u64 (x.space : Int)], #[x.keys.v], #[.bool x.try_]] _ (by rw [joinA_size]; simp only [List.map, Enc.size_eq]; rfl)
theorem Asked.at_space (x : Asked) : (Enc.enc x)[1]? = some (.int .u64 (x.space : Int)) := joinA_at [#[.int .u64 (x.cost : Int)]] [#[x.keys.v], #[.bool x.try_]] _ (by rw [joinA_size]; simp only [List.map, Enc.size_eq]; rfl)
theorem Asked.at_keys (x : Asked) : (Enc.enc x)[2]? = some (x.keys.v) := joinA_at [#[.int .u64 (x.cost : Int)], #[.int .u64 (x.space : Int)]] [#[.bool x.try_]] _ (by rw [joinA_size]; simp only [List.map, Enc.size_eq]; rfl)
theorem Asked.at_try_ (x : Asked) : (Enc.enc x)[3]? = some (.bool x.try_) := joinA_at [#[.int .u64 (x.cost : Int)], #[.int .u64 (x.space : Int)], #[x.keys.v]] [] _ (by rw [joinA_size]; simp only [List.map, Enc.size_eq]; rfl)
theorem Asked.set_cost (x : Asked) (v : Nat) : spl (Enc.enc x) 0 #[.int .u64 (v : Int)] = Enc.enc { x with cost := v } := by
  have h := spl_join [] [#[.int .u64 (x.space : Int)], #[x.keys.v], #[.bool x.try_]] (#[.int .u64 (x.cost : Int)]) (#[.int .u64 (v : Int)]) (by first | (rw [Enc.size_eq, Enc.size_eq]; done) | rfl)
  rw [show (joinA []).size = 0 from (by rw [joinA_size]; simp only [List.map, Enc.size_eq]; rfl)] at h
  exact h
theorem Asked.set_space (x : Asked) (v : Nat) : spl (Enc.enc x) 1 #[.int .u64 (v : Int)] = Enc.enc { x with space := v } := by
  have h := spl_join [#[.int .u64 (x.cost : Int)]] [#[x.keys.v], #[.bool x.try_]] (#[.int .u64 (x.space : Int)]) (#[.int .u64 (v : Int)]) (by first | (rw [Enc.size_eq, Enc.size_eq]; done) | rfl)
  rw [show (joinA [#[.int .u64 (x.cost : Int)]]).size = 1 from (by rw [joinA_size]; simp only [List.map, Enc.size_eq]; rfl)] at h
  exact h
theorem Asked.set_keys (x : Asked) (v : SlV) : spl (Enc.enc x) 2 #[v.v] = Enc.enc { x with keys := v } := by
  have h := spl_join [#[.int .u64 (x.cost : Int)], #[.int .u64 (x.space : Int)]] [#[.bool x.try_]] (#[x.keys.v]) (#[v.v]) (by first | (rw [Enc.size_eq, Enc.size_eq]; done) | rfl)
  rw [show (joinA [#[.int .u64 (x.cost : Int)], #[.int .u64 (x.space : Int)]]).size = 2 from (by rw [joinA_size]; simp only [List.map, Enc.size_eq]; rfl)] at h
  exact h
theorem Asked.set_try_ (x : Asked) (v : Bool) : spl (Enc.enc x) 3 #[.bool v] = Enc.enc { x with try_ := v } := by
  have h := spl_join [#[.int .u64 (x.cost : Int)], #[.int .u64 (x.space : Int)], #[x.keys.v]] [] (#[.bool x.try_]) (#[.bool v]) (by first | (rw [Enc.size_eq, Enc.size_eq]; done) | rfl)
  rw [show (joinA [#[.int .u64 (x.cost : Int)], #[.int .u64 (x.space : Int)], #[x.keys.v]]).size = 3 from (by rw [joinA_size]; simp only [List.map, Enc.size_eq]; rfl)] at h
  exact h
def Asked.ok (w : World) (x : Asked) : Prop := (x.cost ≤ 18446744073709551615) ∧ (x.space ≤ 18446744073709551615) ∧ (∃ l : List (Vector UInt8 32), SlR w x.keys.v l ∧ ∀ e ∈ l, True)
theorem Asked.ok.bel {w w' : World} {x : Asked} (hb : Bel w w') (h : Asked.ok w x) : Asked.ok w' x := by
  unfold Asked.ok at h ⊢
  obtain ⟨g0, g1, ⟨l2, g2⟩⟩ := h
  exact ⟨(g0), (g1), (⟨_, g2.1.bel hb, fun e he => trivial⟩)⟩
theorem rdw_Asked : RdW Try.prog 36 Asked Asked.ok := by
  intro H enc w fuel cs d ps hr
  obtain ⟨hend, fuel', hf⟩ := rdS Try.underlying36 inferInstance hr
  obtain ⟨d0, ps0, h0⟩ := hf 0 _ 22 0 1 rfl rfl rfl inferInstance
  obtain ⟨x0, e0, i0⟩ := rd_u64' inferInstance h0
  obtain ⟨d1, ps1, h1⟩ := hf 1 _ 22 1 1 rfl rfl rfl inferInstance
  obtain ⟨x1, e1, i1⟩ := rd_u64' inferInstance h1
  obtain ⟨d2, ps2, h2⟩ := hf 2 _ 34 2 1 rfl rfl rfl inferInstance
  obtain ⟨x2, e2, i2⟩ := rd_slv (α := Vector UInt8 32) inferInstance rdw_vec inferInstance h2
  obtain ⟨d3, ps3, h3⟩ := hf 3 _ 4 3 1 rfl rfl rfl inferInstance
  obtain ⟨x3, e3⟩ := rd_bool' inferInstance h3
  have k3 := cells_cut e3 hend
  have k2 := cells_cut e2 k3
  have k1 := cells_cut e1 k2
  have k0 := cells_cut e0 k1
  refine ⟨⟨x0, x1, x2, x3⟩, ?_, ⟨i0, i1, i2⟩⟩
  rw [Asked.enc_eq]; simp only [Asked.parts, joinA_toList_cons, joinA_nil]
  rw [List.drop_zero] at k0; rw [k0]; try simp

structure TrS where
  limits : Limits
  block : Nat
  space : Nat
  of : Option Nat
def TrS.parts (x : TrS) : List (Array Value) := [Enc.enc x.limits, #[.int .u64 (x.block : Int)], #[.int .u64 (x.space : Int)], #[.map x.of]]
theorem TrS.sizes (x : TrS) : x.parts.map Array.size = [3, 1, 1, 1] := by
  simp only [TrS.parts, List.map, Enc.size_eq]; rfl
instance : Enc TrS where
  enc x := joinA x.parts
  sz := 6
  pos := by omega
  size_eq x := by rw [joinA_size, TrS.sizes]; rfl
  one x := joinA_one (all_cons (Enc.one _) (all_cons (one_int _ _) (all_cons (one_int _ _) (all_cons (one_map _) all_nil))))
theorem TrS.enc_eq (x : TrS) : Enc.enc x = joinA x.parts := rfl
theorem TrS.ex_limits (x : TrS) : (Enc.enc x).extract 0 (0 + 3) = Enc.enc x.limits := joinA_ex [] [#[.int .u64 (x.block : Int)], #[.int .u64 (x.space : Int)], #[.map x.of]] _ (by rw [joinA_size]; simp only [List.map, Enc.size_eq]; rfl) (by rw [Enc.size_eq]; rfl)
theorem TrS.at_block (x : TrS) : (Enc.enc x)[3]? = some (.int .u64 (x.block : Int)) := joinA_at [Enc.enc x.limits] [#[.int .u64 (x.space : Int)], #[.map x.of]] _ (by rw [joinA_size]; simp only [List.map, Enc.size_eq]; rfl)
theorem TrS.at_space (x : TrS) : (Enc.enc x)[4]? = some (.int .u64 (x.space : Int)) := joinA_at [Enc.enc x.limits, #[.int .u64 (x.block : Int)]] [#[.map x.of]] _ (by rw [joinA_size]; simp only [List.map, Enc.size_eq]; rfl)
theorem TrS.at_of (x : TrS) : (Enc.enc x)[5]? = some (.map x.of) := joinA_at [Enc.enc x.limits, #[.int .u64 (x.block : Int)], #[.int .u64 (x.space : Int)]] [] _ (by rw [joinA_size]; simp only [List.map, Enc.size_eq]; rfl)
theorem TrS.set_limits (x : TrS) (v : Limits) : spl (Enc.enc x) 0 (Enc.enc v) = Enc.enc { x with limits := v } := by
  have h := spl_join [] [#[.int .u64 (x.block : Int)], #[.int .u64 (x.space : Int)], #[.map x.of]] (Enc.enc x.limits) (Enc.enc v) (by first | (rw [Enc.size_eq, Enc.size_eq]; done) | rfl)
  rw [show (joinA []).size = 0 from (by rw [joinA_size]; simp only [List.map, Enc.size_eq]; rfl)] at h
  exact h
theorem TrS.set_block (x : TrS) (v : Nat) : spl (Enc.enc x) 3 #[.int .u64 (v : Int)] = Enc.enc { x with block := v } := by
  have h := spl_join [Enc.enc x.limits] [#[.int .u64 (x.space : Int)], #[.map x.of]] (#[.int .u64 (x.block : Int)]) (#[.int .u64 (v : Int)]) (by first | (rw [Enc.size_eq, Enc.size_eq]; done) | rfl)
  rw [show (joinA [Enc.enc x.limits]).size = 3 from (by rw [joinA_size]; simp only [List.map, Enc.size_eq]; rfl)] at h
  exact h
theorem TrS.set_space (x : TrS) (v : Nat) : spl (Enc.enc x) 4 #[.int .u64 (v : Int)] = Enc.enc { x with space := v } := by
  have h := spl_join [Enc.enc x.limits, #[.int .u64 (x.block : Int)]] [#[.map x.of]] (#[.int .u64 (x.space : Int)]) (#[.int .u64 (v : Int)]) (by first | (rw [Enc.size_eq, Enc.size_eq]; done) | rfl)
  rw [show (joinA [Enc.enc x.limits, #[.int .u64 (x.block : Int)]]).size = 4 from (by rw [joinA_size]; simp only [List.map, Enc.size_eq]; rfl)] at h
  exact h
theorem TrS.set_of (x : TrS) (v : Option Nat) : spl (Enc.enc x) 5 #[.map v] = Enc.enc { x with of := v } := by
  have h := spl_join [Enc.enc x.limits, #[.int .u64 (x.block : Int)], #[.int .u64 (x.space : Int)]] [] (#[.map x.of]) (#[.map v]) (by first | (rw [Enc.size_eq, Enc.size_eq]; done) | rfl)
  rw [show (joinA [Enc.enc x.limits, #[.int .u64 (x.block : Int)], #[.int .u64 (x.space : Int)]]).size = 5 from (by rw [joinA_size]; simp only [List.map, Enc.size_eq]; rfl)] at h
  exact h
theorem TrS.at_limits_block (x : TrS) : (Enc.enc x)[0]? = some (.int .u64 (x.limits.block : Int)) := at_of_ex (i := 0) (TrS.ex_limits x) (Limits.at_block x.limits) (by decide)
theorem TrS.at_limits_account (x : TrS) : (Enc.enc x)[1]? = some (.int .u64 (x.limits.account : Int)) := at_of_ex (i := 1) (TrS.ex_limits x) (Limits.at_account x.limits) (by decide)
theorem TrS.at_limits_space (x : TrS) : (Enc.enc x)[2]? = some (.int .u64 (x.limits.space : Int)) := at_of_ex (i := 2) (TrS.ex_limits x) (Limits.at_space x.limits) (by decide)

structure Added where
  cost : Nat
  space : Nat
  keys : SlV
def Added.parts (x : Added) : List (Array Value) := [#[.int .u64 (x.cost : Int)], #[.int .u64 (x.space : Int)], #[x.keys.v]]
theorem Added.sizes (x : Added) : x.parts.map Array.size = [1, 1, 1] := by
  simp only [Added.parts, List.map, Enc.size_eq]; rfl
instance : Enc Added where
  enc x := joinA x.parts
  sz := 3
  pos := by omega
  size_eq x := by rw [joinA_size, Added.sizes]; rfl
  one x := joinA_one (all_cons (one_int _ _) (all_cons (one_int _ _) (all_cons (Enc.one (α := SlV) _) all_nil)))
theorem Added.enc_eq (x : Added) : Enc.enc x = joinA x.parts := rfl
theorem Added.at_cost (x : Added) : (Enc.enc x)[0]? = some (.int .u64 (x.cost : Int)) := joinA_at [] [#[.int .u64 (x.space : Int)], #[x.keys.v]] _ (by rw [joinA_size]; simp only [List.map, Enc.size_eq]; rfl)
theorem Added.at_space (x : Added) : (Enc.enc x)[1]? = some (.int .u64 (x.space : Int)) := joinA_at [#[.int .u64 (x.cost : Int)]] [#[x.keys.v]] _ (by rw [joinA_size]; simp only [List.map, Enc.size_eq]; rfl)
theorem Added.at_keys (x : Added) : (Enc.enc x)[2]? = some (x.keys.v) := joinA_at [#[.int .u64 (x.cost : Int)], #[.int .u64 (x.space : Int)]] [] _ (by rw [joinA_size]; simp only [List.map, Enc.size_eq]; rfl)
theorem Added.set_cost (x : Added) (v : Nat) : spl (Enc.enc x) 0 #[.int .u64 (v : Int)] = Enc.enc { x with cost := v } := by
  have h := spl_join [] [#[.int .u64 (x.space : Int)], #[x.keys.v]] (#[.int .u64 (x.cost : Int)]) (#[.int .u64 (v : Int)]) (by first | (rw [Enc.size_eq, Enc.size_eq]; done) | rfl)
  rw [show (joinA []).size = 0 from (by rw [joinA_size]; simp only [List.map, Enc.size_eq]; rfl)] at h
  exact h
theorem Added.set_space (x : Added) (v : Nat) : spl (Enc.enc x) 1 #[.int .u64 (v : Int)] = Enc.enc { x with space := v } := by
  have h := spl_join [#[.int .u64 (x.cost : Int)]] [#[x.keys.v]] (#[.int .u64 (x.space : Int)]) (#[.int .u64 (v : Int)]) (by first | (rw [Enc.size_eq, Enc.size_eq]; done) | rfl)
  rw [show (joinA [#[.int .u64 (x.cost : Int)]]).size = 1 from (by rw [joinA_size]; simp only [List.map, Enc.size_eq]; rfl)] at h
  exact h
theorem Added.set_keys (x : Added) (v : SlV) : spl (Enc.enc x) 2 #[v.v] = Enc.enc { x with keys := v } := by
  have h := spl_join [#[.int .u64 (x.cost : Int)], #[.int .u64 (x.space : Int)]] [] (#[x.keys.v]) (#[v.v]) (by first | (rw [Enc.size_eq, Enc.size_eq]; done) | rfl)
  rw [show (joinA [#[.int .u64 (x.cost : Int)], #[.int .u64 (x.space : Int)]]).size = 2 from (by rw [joinA_size]; simp only [List.map, Enc.size_eq]; rfl)] at h
  exact h
def Added.ok (w : World) (x : Added) : Prop := (x.cost ≤ 18446744073709551615) ∧ (x.space ≤ 18446744073709551615) ∧ (∃ l : List (Vector UInt8 32), SlR w x.keys.v l ∧ ∀ e ∈ l, True)
theorem Added.ok.bel {w w' : World} {x : Added} (hb : Bel w w') (h : Added.ok w x) : Added.ok w' x := by
  unfold Added.ok at h ⊢
  obtain ⟨g0, g1, ⟨l2, g2⟩⟩ := h
  exact ⟨(g0), (g1), (⟨_, g2.1.bel hb, fun e he => trivial⟩)⟩
theorem rdw_Added : RdW Try.prog 57 Added Added.ok := by
  intro H enc w fuel cs d ps hr
  obtain ⟨hend, fuel', hf⟩ := rdS Try.underlying57 inferInstance hr
  obtain ⟨d0, ps0, h0⟩ := hf 0 _ 22 0 1 rfl rfl rfl inferInstance
  obtain ⟨x0, e0, i0⟩ := rd_u64' inferInstance h0
  obtain ⟨d1, ps1, h1⟩ := hf 1 _ 22 1 1 rfl rfl rfl inferInstance
  obtain ⟨x1, e1, i1⟩ := rd_u64' inferInstance h1
  obtain ⟨d2, ps2, h2⟩ := hf 2 _ 34 2 1 rfl rfl rfl inferInstance
  obtain ⟨x2, e2, i2⟩ := rd_slv (α := Vector UInt8 32) inferInstance rdw_vec inferInstance h2
  have k2 := cells_cut e2 hend
  have k1 := cells_cut e1 k2
  have k0 := cells_cut e0 k1
  refine ⟨⟨x0, x1, x2⟩, ?_, ⟨i0, i1, i2⟩⟩
  rw [Added.enc_eq]; simp only [Added.parts, joinA_toList_cons, joinA_nil]
  rw [List.drop_zero] at k0; rw [k0]; try simp

structure RfS where
  max : Limits
  l : SlV
def RfS.parts (x : RfS) : List (Array Value) := [Enc.enc x.max, #[x.l.v]]
theorem RfS.sizes (x : RfS) : x.parts.map Array.size = [3, 1] := by
  simp only [RfS.parts, List.map, Enc.size_eq]; rfl
instance : Enc RfS where
  enc x := joinA x.parts
  sz := 4
  pos := by omega
  size_eq x := by rw [joinA_size, RfS.sizes]; rfl
  one x := joinA_one (all_cons (Enc.one _) (all_cons (Enc.one (α := SlV) _) all_nil))
theorem RfS.enc_eq (x : RfS) : Enc.enc x = joinA x.parts := rfl
theorem RfS.ex_max (x : RfS) : (Enc.enc x).extract 0 (0 + 3) = Enc.enc x.max := joinA_ex [] [#[x.l.v]] _ (by rw [joinA_size]; simp only [List.map, Enc.size_eq]; rfl) (by rw [Enc.size_eq]; rfl)
theorem RfS.at_l (x : RfS) : (Enc.enc x)[3]? = some (x.l.v) := joinA_at [Enc.enc x.max] [] _ (by rw [joinA_size]; simp only [List.map, Enc.size_eq]; rfl)
theorem RfS.set_max (x : RfS) (v : Limits) : spl (Enc.enc x) 0 (Enc.enc v) = Enc.enc { x with max := v } := by
  have h := spl_join [] [#[x.l.v]] (Enc.enc x.max) (Enc.enc v) (by first | (rw [Enc.size_eq, Enc.size_eq]; done) | rfl)
  rw [show (joinA []).size = 0 from (by rw [joinA_size]; simp only [List.map, Enc.size_eq]; rfl)] at h
  exact h
theorem RfS.set_l (x : RfS) (v : SlV) : spl (Enc.enc x) 3 #[v.v] = Enc.enc { x with l := v } := by
  have h := spl_join [Enc.enc x.max] [] (#[x.l.v]) (#[v.v]) (by first | (rw [Enc.size_eq, Enc.size_eq]; done) | rfl)
  rw [show (joinA [Enc.enc x.max]).size = 3 from (by rw [joinA_size]; simp only [List.map, Enc.size_eq]; rfl)] at h
  exact h
theorem RfS.at_max_block (x : RfS) : (Enc.enc x)[0]? = some (.int .u64 (x.max.block : Int)) := at_of_ex (i := 0) (RfS.ex_max x) (Limits.at_block x.max) (by decide)
theorem RfS.at_max_account (x : RfS) : (Enc.enc x)[1]? = some (.int .u64 (x.max.account : Int)) := at_of_ex (i := 1) (RfS.ex_max x) (Limits.at_account x.max) (by decide)
theorem RfS.at_max_space (x : RfS) : (Enc.enc x)[2]? = some (.int .u64 (x.max.space : Int)) := at_of_ex (i := 2) (RfS.ex_max x) (Limits.at_space x.max) (by decide)
def RfS.ok (w : World) (x : RfS) : Prop := (Limits.ok w x.max) ∧ (∃ l : List (Added), SlR w x.l.v l ∧ ∀ e ∈ l, Added.ok w e)
theorem RfS.ok.bel {w w' : World} {x : RfS} (hb : Bel w w') (h : RfS.ok w x) : RfS.ok w' x := by
  unfold RfS.ok at h ⊢
  obtain ⟨g0, ⟨l1, g1⟩⟩ := h
  exact ⟨(Limits.ok.bel hb g0), (⟨_, g1.1.bel hb, fun e he => (Added.ok.bel hb (g1.2 e he))⟩)⟩
theorem rdw_RfS : RdW Try.prog 53 RfS RfS.ok := by
  intro H enc w fuel cs d ps hr
  obtain ⟨hend, fuel', hf⟩ := rdS Try.underlying53 inferInstance hr
  obtain ⟨d0, ps0, h0⟩ := hf 0 _ 24 0 3 rfl rfl rfl inferInstance
  obtain ⟨x0, e0, i0⟩ := rd_of rdw_Limits h0
  obtain ⟨d1, ps1, h1⟩ := hf 1 _ 51 3 1 rfl rfl rfl inferInstance
  obtain ⟨x1, e1, i1⟩ := rd_slv (α := Added) inferInstance rdw_Added inferInstance h1
  have k1 := cells_cut e1 hend
  have k0 := cells_cut e0 k1
  refine ⟨⟨x0, x1⟩, ?_, ⟨i0, i1⟩⟩
  rw [RfS.enc_eq]; simp only [RfS.parts, joinA_toList_cons, joinA_nil]
  rw [List.drop_zero] at k0; rw [k0]; try simp

def Asked.okz (w : World) (x : Asked) : Prop := (x.cost ≤ 18446744073709551615) ∧ (x.space ≤ 18446744073709551615) ∧ (∃ l : List (Vector UInt8 32), SlR w x.keys.v l ∧ l.length * 32 ≤ 140737488351232 ∧ ∀ e ∈ l, True)
theorem Asked.okz.bel {w w' : World} {x : Asked} (hb : Bel w w') (h : Asked.okz w x) : Asked.okz w' x := by
  unfold Asked.okz at h ⊢
  obtain ⟨g0, g1, ⟨l2, g2⟩⟩ := h
  exact ⟨g0, g1, (⟨_, g2.1.bel hb, g2.2.1, fun e he => trivial⟩)⟩
theorem rdz_Asked : RdZ Try.prog 36 Asked Asked.okz := by
  intro H enc w fuel cs d ps hr hz
  obtain ⟨hend, fuel', hf⟩ := rdSZ Try.underlying36 inferInstance hr hz
  obtain ⟨d0, ps0, h0, u0⟩ := hf 0 _ 22 0 1 rfl rfl rfl inferInstance
  obtain ⟨x0, e0, i0⟩ := rd_u64' inferInstance h0
  obtain ⟨d1, ps1, h1, u1⟩ := hf 1 _ 22 1 1 rfl rfl rfl inferInstance
  obtain ⟨x1, e1, i1⟩ := rd_u64' inferInstance h1
  obtain ⟨d2, ps2, h2, u2⟩ := hf 2 _ 34 2 1 rfl rfl rfl inferInstance
  obtain ⟨x2, e2, i2⟩ := rd_slvZ (α := Vector UInt8 32) inferInstance rdw_vec.z inferInstance inferInstance h2 u2
  obtain ⟨d3, ps3, h3, u3⟩ := hf 3 _ 4 3 1 rfl rfl rfl inferInstance
  obtain ⟨x3, e3⟩ := rd_bool' inferInstance h3
  have k3 := cells_cut e3 hend
  have k2 := cells_cut e2 k3
  have k1 := cells_cut e1 k2
  have k0 := cells_cut e0 k1
  refine ⟨⟨x0, x1, x2, x3⟩, ?_, ⟨i0, i1, i2⟩⟩
  rw [Asked.enc_eq]; simp only [Asked.parts, joinA_toList_cons, joinA_nil]
  rw [List.drop_zero] at k0; rw [k0]; try simp

end Go.Fer
