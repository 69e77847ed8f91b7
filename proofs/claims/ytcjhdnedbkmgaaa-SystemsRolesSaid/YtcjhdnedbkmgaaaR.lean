/- the records -/
import Derived.Test.YtcjhdnedbkmgaaaTypes
import Derived.Test.YtcjhdnedbkmgaaaWords
set_option linter.all false
namespace Go.Fer
open Go Go.Proofs Go.RowKit

abbrev Key := Vector UInt8 32

structure Account where
  coins : Nat
  owner : Vector UInt8 32
  space : Nat
  deriving DecidableEq
def Account.parts (x : Account) : List (Array Value) := [#[.int .u64 (x.coins : Int)], Enc.enc x.owner, #[.int .u64 (x.space : Int)]]
theorem Account.sizes (x : Account) : x.parts.map Array.size = [1, 32, 1] := by
  simp only [Account.parts, List.map, Enc.size_eq]; rfl
instance : Enc Account where
  enc x := joinA x.parts
  sz := 34
  pos := by omega
  size_eq x := by rw [joinA_size, Account.sizes]; rfl
  one x := joinA_one (all_cons (one_int _ _) (all_cons (Enc.one _) (all_cons (one_int _ _) all_nil)))
theorem Account.enc_eq (x : Account) : Enc.enc x = joinA x.parts := rfl
theorem Account.at_coins (x : Account) : (Enc.enc x)[0]? = some (.int .u64 (x.coins : Int)) := joinA_at [] [Enc.enc x.owner, #[.int .u64 (x.space : Int)]] _ (by rw [joinA_size]; simp only [List.map, Enc.size_eq]; rfl)
theorem Account.ex_owner (x : Account) : (Enc.enc x).extract 1 (1 + 32) = Enc.enc x.owner := joinA_ex [#[.int .u64 (x.coins : Int)]] [#[.int .u64 (x.space : Int)]] _ (by rw [joinA_size]; simp only [List.map, Enc.size_eq]; rfl) (by rw [Enc.size_eq]; rfl)
theorem Account.at_space (x : Account) : (Enc.enc x)[33]? = some (.int .u64 (x.space : Int)) := joinA_at [#[.int .u64 (x.coins : Int)], Enc.enc x.owner] [] _ (by rw [joinA_size]; simp only [List.map, Enc.size_eq]; rfl)
theorem Account.set_coins (x : Account) (v : Nat) : spl (Enc.enc x) 0 #[.int .u64 (v : Int)] = Enc.enc { x with coins := v } := by
  have h := spl_join [] [Enc.enc x.owner, #[.int .u64 (x.space : Int)]] (#[.int .u64 (x.coins : Int)]) (#[.int .u64 (v : Int)]) (by first | (rw [Enc.size_eq, Enc.size_eq]; done) | rfl)
  rw [show (joinA []).size = 0 from (by rw [joinA_size]; simp only [List.map, Enc.size_eq]; rfl)] at h
  exact h
theorem Account.set_owner (x : Account) (v : Vector UInt8 32) : spl (Enc.enc x) 1 (Enc.enc v) = Enc.enc { x with owner := v } := by
  have h := spl_join [#[.int .u64 (x.coins : Int)]] [#[.int .u64 (x.space : Int)]] (Enc.enc x.owner) (Enc.enc v) (by first | (rw [Enc.size_eq, Enc.size_eq]; done) | rfl)
  rw [show (joinA [#[.int .u64 (x.coins : Int)]]).size = 1 from (by rw [joinA_size]; simp only [List.map, Enc.size_eq]; rfl)] at h
  exact h
theorem Account.set_space (x : Account) (v : Nat) : spl (Enc.enc x) 33 #[.int .u64 (v : Int)] = Enc.enc { x with space := v } := by
  have h := spl_join [#[.int .u64 (x.coins : Int)], Enc.enc x.owner] [] (#[.int .u64 (x.space : Int)]) (#[.int .u64 (v : Int)]) (by first | (rw [Enc.size_eq, Enc.size_eq]; done) | rfl)
  rw [show (joinA [#[.int .u64 (x.coins : Int)], Enc.enc x.owner]).size = 33 from (by rw [joinA_size]; simp only [List.map, Enc.size_eq]; rfl)] at h
  exact h
def Account.ok (w : World) (x : Account) : Prop := (x.coins ≤ 18446744073709551615) ∧ (x.space ≤ 18446744073709551615)
theorem Account.ok.bel {w w' : World} {x : Account} (hb : Bel w w') (h : Account.ok w x) : Account.ok w' x := by
  unfold Account.ok at h ⊢
  obtain ⟨g0, g1⟩ := h
  exact ⟨(g0), (g1)⟩
theorem rdw_Account : RdW Try.prog 48 Account Account.ok := by
  intro H enc w fuel cs d ps hr
  obtain ⟨hend, fuel', hf⟩ := rdS Try.underlying48 inferInstance hr
  obtain ⟨d0, ps0, h0⟩ := hf 0 _ 33 0 1 rfl rfl rfl inferInstance
  obtain ⟨x0, e0, i0⟩ := rd_u64' inferInstance h0
  obtain ⟨d1, ps1, h1⟩ := hf 1 _ 46 1 32 rfl rfl rfl inferInstance
  obtain ⟨x1, e1, i1⟩ := rd_of rdw_vec h1
  obtain ⟨d2, ps2, h2⟩ := hf 2 _ 33 33 1 rfl rfl rfl inferInstance
  obtain ⟨x2, e2, i2⟩ := rd_u64' inferInstance h2
  have k2 := cells_cut e2 hend
  have k1 := cells_cut e1 k2
  have k0 := cells_cut e0 k1
  refine ⟨⟨x0, x1, x2⟩, ?_, ⟨i0, i2⟩⟩
  rw [Account.enc_eq]; simp only [Account.parts, joinA_toList_cons, joinA_nil]
  rw [List.drop_zero] at k0; rw [k0]; try simp
instance : EqT Try.prog 48 Account 3 where
  le := by omega
  run w d hd x y := by
    obtain ⟨d, rfl⟩ : ∃ d', d = d' + 1 := ⟨d - 1, by omega⟩
    have h := run_equal_fields (P := Try.prog) (w := w) (d := d) (xs := Enc.enc x) (ys := Enc.enc y) Try.underlying48 (by kernel_rfl) (run_eqFields_int (T := 33) (by omega) rfl rfl (by decide) (Account.at_coins x) (Account.at_coins y) (run_eqFields_agg (T := 46) (α := Vector UInt8 32) (by omega) rfl rfl (by decide) (Account.ex_owner x) (Account.ex_owner y) (run_eqFields_int (T := 33) (by omega) rfl rfl (by decide) (Account.at_space x) (Account.at_space y) run_eqFields_nil)))
    rw [h]; congr 1; rw [Bool.eq_iff_iff]; cases x; cases y; simp [Account.mk.injEq]; try (intros; simp_all [← UInt8.toNat_inj]; try omega)
    all_goals (try simp only [Int.ofNat_inj, Int.natCast_inj])

structure Role where
  key : Vector UInt8 32
  signs : Bool
  writes : Bool
  deriving DecidableEq
def Role.parts (x : Role) : List (Array Value) := [Enc.enc x.key, #[.bool x.signs], #[.bool x.writes]]
theorem Role.sizes (x : Role) : x.parts.map Array.size = [32, 1, 1] := by
  simp only [Role.parts, List.map, Enc.size_eq]; rfl
instance : Enc Role where
  enc x := joinA x.parts
  sz := 34
  pos := by omega
  size_eq x := by rw [joinA_size, Role.sizes]; rfl
  one x := joinA_one (all_cons (Enc.one _) (all_cons (Enc.one (α := Bool) _) (all_cons (Enc.one (α := Bool) _) all_nil)))
theorem Role.enc_eq (x : Role) : Enc.enc x = joinA x.parts := rfl
theorem Role.ex_key (x : Role) : (Enc.enc x).extract 0 (0 + 32) = Enc.enc x.key := joinA_ex [] [#[.bool x.signs], #[.bool x.writes]] _ (by rw [joinA_size]; simp only [List.map, Enc.size_eq]; rfl) (by rw [Enc.size_eq]; rfl)
theorem Role.at_signs (x : Role) : (Enc.enc x)[32]? = some (.bool x.signs) := joinA_at [Enc.enc x.key] [#[.bool x.writes]] _ (by rw [joinA_size]; simp only [List.map, Enc.size_eq]; rfl)
theorem Role.at_writes (x : Role) : (Enc.enc x)[33]? = some (.bool x.writes) := joinA_at [Enc.enc x.key, #[.bool x.signs]] [] _ (by rw [joinA_size]; simp only [List.map, Enc.size_eq]; rfl)
theorem Role.set_key (x : Role) (v : Vector UInt8 32) : spl (Enc.enc x) 0 (Enc.enc v) = Enc.enc { x with key := v } := by
  have h := spl_join [] [#[.bool x.signs], #[.bool x.writes]] (Enc.enc x.key) (Enc.enc v) (by first | (rw [Enc.size_eq, Enc.size_eq]; done) | rfl)
  rw [show (joinA []).size = 0 from (by rw [joinA_size]; simp only [List.map, Enc.size_eq]; rfl)] at h
  exact h
theorem Role.set_signs (x : Role) (v : Bool) : spl (Enc.enc x) 32 #[.bool v] = Enc.enc { x with signs := v } := by
  have h := spl_join [Enc.enc x.key] [#[.bool x.writes]] (#[.bool x.signs]) (#[.bool v]) (by first | (rw [Enc.size_eq, Enc.size_eq]; done) | rfl)
  rw [show (joinA [Enc.enc x.key]).size = 32 from (by rw [joinA_size]; simp only [List.map, Enc.size_eq]; rfl)] at h
  exact h
theorem Role.set_writes (x : Role) (v : Bool) : spl (Enc.enc x) 33 #[.bool v] = Enc.enc { x with writes := v } := by
  have h := spl_join [Enc.enc x.key, #[.bool x.signs]] [] (#[.bool x.writes]) (#[.bool v]) (by first | (rw [Enc.size_eq, Enc.size_eq]; done) | rfl)
  rw [show (joinA [Enc.enc x.key, #[.bool x.signs]]).size = 33 from (by rw [joinA_size]; simp only [List.map, Enc.size_eq]; rfl)] at h
  exact h
def Role.ok (w : World) (x : Role) : Prop := True
theorem Role.ok.bel {w w' : World} {x : Role} (hb : Bel w w') (h : Role.ok w x) : Role.ok w' x := trivial
theorem rdw_Role : RdW Try.prog 50 Role Role.ok := by
  intro H enc w fuel cs d ps hr
  obtain ⟨hend, fuel', hf⟩ := rdS Try.underlying50 inferInstance hr
  obtain ⟨d0, ps0, h0⟩ := hf 0 _ 46 0 32 rfl rfl rfl inferInstance
  obtain ⟨x0, e0, i0⟩ := rd_of rdw_vec h0
  obtain ⟨d1, ps1, h1⟩ := hf 1 _ 4 32 1 rfl rfl rfl inferInstance
  obtain ⟨x1, e1⟩ := rd_bool' inferInstance h1
  obtain ⟨d2, ps2, h2⟩ := hf 2 _ 4 33 1 rfl rfl rfl inferInstance
  obtain ⟨x2, e2⟩ := rd_bool' inferInstance h2
  have k2 := cells_cut e2 hend
  have k1 := cells_cut e1 k2
  have k0 := cells_cut e0 k1
  refine ⟨⟨x0, x1, x2⟩, ?_, trivial⟩
  rw [Role.enc_eq]; simp only [Role.parts, joinA_toList_cons, joinA_nil]
  rw [List.drop_zero] at k0; rw [k0]; try simp
instance : EqT Try.prog 50 Role 3 where
  le := by omega
  run w d hd x y := by
    obtain ⟨d, rfl⟩ : ∃ d', d = d' + 1 := ⟨d - 1, by omega⟩
    have h := run_equal_fields (P := Try.prog) (w := w) (d := d) (xs := Enc.enc x) (ys := Enc.enc y) Try.underlying50 (by kernel_rfl) (run_eqFields_agg (T := 46) (α := Vector UInt8 32) (by omega) rfl rfl (by decide) (Role.ex_key x) (Role.ex_key y) (run_eqFields_bool (T := 4) (by omega) rfl rfl (by decide) (Role.at_signs x) (Role.at_signs y) (run_eqFields_bool (T := 4) (by omega) rfl rfl (by decide) (Role.at_writes x) (Role.at_writes y) run_eqFields_nil)))
    rw [h]; congr 1; rw [Bool.eq_iff_iff]; cases x; cases y; simp [Role.mk.injEq]; try (intros; simp_all [← UInt8.toNat_inj]; try omega)
    all_goals (try simp only [Int.ofNat_inj, Int.natCast_inj])

structure Instr where
  program : UInt8
  accounts : SlV
  data : SlV
def Instr.parts (x : Instr) : List (Array Value) := [#[.int .u8 x.program.toNat], #[x.accounts.v], #[x.data.v]]
theorem Instr.sizes (x : Instr) : x.parts.map Array.size = [1, 1, 1] := by
  simp only [Instr.parts, List.map, Enc.size_eq]; rfl
instance : Enc Instr where
  enc x := joinA x.parts
  sz := 3
  pos := by omega
  size_eq x := by rw [joinA_size, Instr.sizes]; rfl
  one x := joinA_one (all_cons (one_int _ _) (all_cons (Enc.one (α := SlV) _) (all_cons (Enc.one (α := SlV) _) all_nil)))
theorem Instr.enc_eq (x : Instr) : Enc.enc x = joinA x.parts := rfl
theorem Instr.at_program (x : Instr) : (Enc.enc x)[0]? = some (.int .u8 x.program.toNat) := joinA_at [] [#[x.accounts.v], #[x.data.v]] _ (by rw [joinA_size]; simp only [List.map, Enc.size_eq]; rfl)
theorem Instr.at_accounts (x : Instr) : (Enc.enc x)[1]? = some (x.accounts.v) := joinA_at [#[.int .u8 x.program.toNat]] [#[x.data.v]] _ (by rw [joinA_size]; simp only [List.map, Enc.size_eq]; rfl)
theorem Instr.at_data (x : Instr) : (Enc.enc x)[2]? = some (x.data.v) := joinA_at [#[.int .u8 x.program.toNat], #[x.accounts.v]] [] _ (by rw [joinA_size]; simp only [List.map, Enc.size_eq]; rfl)
theorem Instr.set_program (x : Instr) (v : UInt8) : spl (Enc.enc x) 0 #[.int .u8 v.toNat] = Enc.enc { x with program := v } := by
  have h := spl_join [] [#[x.accounts.v], #[x.data.v]] (#[.int .u8 x.program.toNat]) (#[.int .u8 v.toNat]) (by first | (rw [Enc.size_eq, Enc.size_eq]; done) | rfl)
  rw [show (joinA []).size = 0 from (by rw [joinA_size]; simp only [List.map, Enc.size_eq]; rfl)] at h
  exact h
theorem Instr.set_accounts (x : Instr) (v : SlV) : spl (Enc.enc x) 1 #[v.v] = Enc.enc { x with accounts := v } := by
  have h := spl_join [#[.int .u8 x.program.toNat]] [#[x.data.v]] (#[x.accounts.v]) (#[v.v]) (by first | (rw [Enc.size_eq, Enc.size_eq]; done) | rfl)
  rw [show (joinA [#[.int .u8 x.program.toNat]]).size = 1 from (by rw [joinA_size]; simp only [List.map, Enc.size_eq]; rfl)] at h
  exact h
theorem Instr.set_data (x : Instr) (v : SlV) : spl (Enc.enc x) 2 #[v.v] = Enc.enc { x with data := v } := by
  have h := spl_join [#[.int .u8 x.program.toNat], #[x.accounts.v]] [] (#[x.data.v]) (#[v.v]) (by first | (rw [Enc.size_eq, Enc.size_eq]; done) | rfl)
  rw [show (joinA [#[.int .u8 x.program.toNat], #[x.accounts.v]]).size = 2 from (by rw [joinA_size]; simp only [List.map, Enc.size_eq]; rfl)] at h
  exact h
def Instr.ok (w : World) (x : Instr) : Prop := (∃ l : List (UInt8), SlR w x.accounts.v l ∧ ∀ e ∈ l, True) ∧ (∃ l : List (UInt8), SlR w x.data.v l ∧ ∀ e ∈ l, True)
theorem Instr.ok.bel {w w' : World} {x : Instr} (hb : Bel w w') (h : Instr.ok w x) : Instr.ok w' x := by
  unfold Instr.ok at h ⊢
  obtain ⟨⟨l0, g0⟩, ⟨l1, g1⟩⟩ := h
  exact ⟨(⟨_, g0.1.bel hb, fun e he => trivial⟩), (⟨_, g1.1.bel hb, fun e he => trivial⟩)⟩
theorem rdw_Instr : RdW Try.prog 26 Instr Instr.ok := by
  intro H enc w fuel cs d ps hr
  obtain ⟨hend, fuel', hf⟩ := rdS Try.underlying26 inferInstance hr
  obtain ⟨d0, ps0, h0⟩ := hf 0 _ 5 0 1 rfl rfl rfl inferInstance
  obtain ⟨x0, e0⟩ := rd_u8' inferInstance h0
  obtain ⟨d1, ps1, h1⟩ := hf 1 _ 24 1 1 rfl rfl rfl inferInstance
  obtain ⟨x1, e1, i1⟩ := rd_slv (α := UInt8) inferInstance rdw_u8 inferInstance h1
  obtain ⟨d2, ps2, h2⟩ := hf 2 _ 24 2 1 rfl rfl rfl inferInstance
  obtain ⟨x2, e2, i2⟩ := rd_slv (α := UInt8) inferInstance rdw_u8 inferInstance h2
  have k2 := cells_cut e2 hend
  have k1 := cells_cut e1 k2
  have k0 := cells_cut e0 k1
  refine ⟨⟨x0, x1, x2⟩, ?_, ⟨i1, i2⟩⟩
  rw [Instr.enc_eq]; simp only [Instr.parts, joinA_toList_cons, joinA_nil]
  rw [List.drop_zero] at k0; rw [k0]; try simp

structure Ask where
  tag : Nat
  coins : Nat
  space : Nat
  owner : Vector UInt8 32
  deriving DecidableEq
def Ask.parts (x : Ask) : List (Array Value) := [#[.int .u64 (x.tag : Int)], #[.int .u64 (x.coins : Int)], #[.int .u64 (x.space : Int)], Enc.enc x.owner]
theorem Ask.sizes (x : Ask) : x.parts.map Array.size = [1, 1, 1, 32] := by
  simp only [Ask.parts, List.map, Enc.size_eq]; rfl
instance : Enc Ask where
  enc x := joinA x.parts
  sz := 35
  pos := by omega
  size_eq x := by rw [joinA_size, Ask.sizes]; rfl
  one x := joinA_one (all_cons (one_int _ _) (all_cons (one_int _ _) (all_cons (one_int _ _) (all_cons (Enc.one _) all_nil))))
theorem Ask.enc_eq (x : Ask) : Enc.enc x = joinA x.parts := rfl
theorem Ask.at_tag (x : Ask) : (Enc.enc x)[0]? = some (.int .u64 (x.tag : Int)) := joinA_at [] [#[.int .u64 (x.coins : Int)], #[.int .u64 (x.space : Int)], Enc.enc x.owner] _ (by rw [joinA_size]; simp only [List.map, Enc.size_eq]; rfl)
theorem Ask.at_coins (x : Ask) : (Enc.enc x)[1]? = some (.int .u64 (x.coins : Int)) := joinA_at [#[.int .u64 (x.tag : Int)]] [#[.int .u64 (x.space : Int)], Enc.enc x.owner] _ (by rw [joinA_size]; simp only [List.map, Enc.size_eq]; rfl)
theorem Ask.at_space (x : Ask) : (Enc.enc x)[2]? = some (.int .u64 (x.space : Int)) := joinA_at [#[.int .u64 (x.tag : Int)], #[.int .u64 (x.coins : Int)]] [Enc.enc x.owner] _ (by rw [joinA_size]; simp only [List.map, Enc.size_eq]; rfl)
theorem Ask.ex_owner (x : Ask) : (Enc.enc x).extract 3 (3 + 32) = Enc.enc x.owner := joinA_ex [#[.int .u64 (x.tag : Int)], #[.int .u64 (x.coins : Int)], #[.int .u64 (x.space : Int)]] [] _ (by rw [joinA_size]; simp only [List.map, Enc.size_eq]; rfl) (by rw [Enc.size_eq]; rfl)
theorem Ask.set_tag (x : Ask) (v : Nat) : spl (Enc.enc x) 0 #[.int .u64 (v : Int)] = Enc.enc { x with tag := v } := by
  have h := spl_join [] [#[.int .u64 (x.coins : Int)], #[.int .u64 (x.space : Int)], Enc.enc x.owner] (#[.int .u64 (x.tag : Int)]) (#[.int .u64 (v : Int)]) (by first | (rw [Enc.size_eq, Enc.size_eq]; done) | rfl)
  rw [show (joinA []).size = 0 from (by rw [joinA_size]; simp only [List.map, Enc.size_eq]; rfl)] at h
  exact h
theorem Ask.set_coins (x : Ask) (v : Nat) : spl (Enc.enc x) 1 #[.int .u64 (v : Int)] = Enc.enc { x with coins := v } := by
  have h := spl_join [#[.int .u64 (x.tag : Int)]] [#[.int .u64 (x.space : Int)], Enc.enc x.owner] (#[.int .u64 (x.coins : Int)]) (#[.int .u64 (v : Int)]) (by first | (rw [Enc.size_eq, Enc.size_eq]; done) | rfl)
  rw [show (joinA [#[.int .u64 (x.tag : Int)]]).size = 1 from (by rw [joinA_size]; simp only [List.map, Enc.size_eq]; rfl)] at h
  exact h
theorem Ask.set_space (x : Ask) (v : Nat) : spl (Enc.enc x) 2 #[.int .u64 (v : Int)] = Enc.enc { x with space := v } := by
  have h := spl_join [#[.int .u64 (x.tag : Int)], #[.int .u64 (x.coins : Int)]] [Enc.enc x.owner] (#[.int .u64 (x.space : Int)]) (#[.int .u64 (v : Int)]) (by first | (rw [Enc.size_eq, Enc.size_eq]; done) | rfl)
  rw [show (joinA [#[.int .u64 (x.tag : Int)], #[.int .u64 (x.coins : Int)]]).size = 2 from (by rw [joinA_size]; simp only [List.map, Enc.size_eq]; rfl)] at h
  exact h
theorem Ask.set_owner (x : Ask) (v : Vector UInt8 32) : spl (Enc.enc x) 3 (Enc.enc v) = Enc.enc { x with owner := v } := by
  have h := spl_join [#[.int .u64 (x.tag : Int)], #[.int .u64 (x.coins : Int)], #[.int .u64 (x.space : Int)]] [] (Enc.enc x.owner) (Enc.enc v) (by first | (rw [Enc.size_eq, Enc.size_eq]; done) | rfl)
  rw [show (joinA [#[.int .u64 (x.tag : Int)], #[.int .u64 (x.coins : Int)], #[.int .u64 (x.space : Int)]]).size = 3 from (by rw [joinA_size]; simp only [List.map, Enc.size_eq]; rfl)] at h
  exact h
def Ask.ok (w : World) (x : Ask) : Prop := (x.tag ≤ 18446744073709551615) ∧ (x.coins ≤ 18446744073709551615) ∧ (x.space ≤ 18446744073709551615)
theorem Ask.ok.bel {w w' : World} {x : Ask} (hb : Bel w w') (h : Ask.ok w x) : Ask.ok w' x := by
  unfold Ask.ok at h ⊢
  obtain ⟨g0, g1, g2⟩ := h
  exact ⟨(g0), (g1), (g2)⟩
theorem rdw_Ask : RdW Try.prog 63 Ask Ask.ok := by
  intro H enc w fuel cs d ps hr
  obtain ⟨hend, fuel', hf⟩ := rdS Try.underlying63 inferInstance hr
  obtain ⟨d0, ps0, h0⟩ := hf 0 _ 33 0 1 rfl rfl rfl inferInstance
  obtain ⟨x0, e0, i0⟩ := rd_u64' inferInstance h0
  obtain ⟨d1, ps1, h1⟩ := hf 1 _ 33 1 1 rfl rfl rfl inferInstance
  obtain ⟨x1, e1, i1⟩ := rd_u64' inferInstance h1
  obtain ⟨d2, ps2, h2⟩ := hf 2 _ 33 2 1 rfl rfl rfl inferInstance
  obtain ⟨x2, e2, i2⟩ := rd_u64' inferInstance h2
  obtain ⟨d3, ps3, h3⟩ := hf 3 _ 46 3 32 rfl rfl rfl inferInstance
  obtain ⟨x3, e3, i3⟩ := rd_of rdw_vec h3
  have k3 := cells_cut e3 hend
  have k2 := cells_cut e2 k3
  have k1 := cells_cut e1 k2
  have k0 := cells_cut e0 k1
  refine ⟨⟨x0, x1, x2, x3⟩, ?_, ⟨i0, i1, i2⟩⟩
  rw [Ask.enc_eq]; simp only [Ask.parts, joinA_toList_cons, joinA_nil]
  rw [List.drop_zero] at k0; rw [k0]; try simp
instance : EqT Try.prog 63 Ask 3 where
  le := by omega
  run w d hd x y := by
    obtain ⟨d, rfl⟩ : ∃ d', d = d' + 1 := ⟨d - 1, by omega⟩
    have h := run_equal_fields (P := Try.prog) (w := w) (d := d) (xs := Enc.enc x) (ys := Enc.enc y) Try.underlying63 (by kernel_rfl) (run_eqFields_int (T := 33) (by omega) rfl rfl (by decide) (Ask.at_tag x) (Ask.at_tag y) (run_eqFields_int (T := 33) (by omega) rfl rfl (by decide) (Ask.at_coins x) (Ask.at_coins y) (run_eqFields_int (T := 33) (by omega) rfl rfl (by decide) (Ask.at_space x) (Ask.at_space y) (run_eqFields_agg (T := 46) (α := Vector UInt8 32) (by omega) rfl rfl (by decide) (Ask.ex_owner x) (Ask.ex_owner y) run_eqFields_nil))))
    rw [h]; congr 1; rw [Bool.eq_iff_iff]; cases x; cases y; simp [Ask.mk.injEq]; try (intros; simp_all [← UInt8.toNat_inj]; try omega)
    all_goals (try simp only [Int.ofNat_inj, Int.natCast_inj])

structure Cut where
  b : SlV
def Cut.parts (x : Cut) : List (Array Value) := [#[x.b.v]]
theorem Cut.sizes (x : Cut) : x.parts.map Array.size = [1] := by
  simp only [Cut.parts, List.map, Enc.size_eq]; rfl
instance : Enc Cut where
  enc x := joinA x.parts
  sz := 1
  pos := by omega
  size_eq x := by rw [joinA_size, Cut.sizes]; rfl
  one x := joinA_one (all_cons (Enc.one (α := SlV) _) all_nil)
theorem Cut.enc_eq (x : Cut) : Enc.enc x = joinA x.parts := rfl
theorem Cut.at_b (x : Cut) : (Enc.enc x)[0]? = some (x.b.v) := joinA_at [] [] _ (by rw [joinA_size]; simp only [List.map, Enc.size_eq]; rfl)
theorem Cut.set_b (x : Cut) (v : SlV) : spl (Enc.enc x) 0 #[v.v] = Enc.enc { x with b := v } := by
  have h := spl_join [] [] (#[x.b.v]) (#[v.v]) (by first | (rw [Enc.size_eq, Enc.size_eq]; done) | rfl)
  rw [show (joinA []).size = 0 from (by rw [joinA_size]; simp only [List.map, Enc.size_eq]; rfl)] at h
  exact h
def Cut.ok (w : World) (x : Cut) : Prop := (∃ l : List (UInt8), SlR w x.b.v l ∧ ∀ e ∈ l, True)
theorem Cut.ok.bel {w w' : World} {x : Cut} (hb : Bel w w') (h : Cut.ok w x) : Cut.ok w' x := by
  unfold Cut.ok at h ⊢
  obtain ⟨l0, g0⟩ := h
  exact (⟨_, g0.1.bel hb, fun e he => trivial⟩)
theorem rdw_Cut : RdW Try.prog 93 Cut Cut.ok := by
  intro H enc w fuel cs d ps hr
  obtain ⟨hend, fuel', hf⟩ := rdS Try.underlying93 inferInstance hr
  obtain ⟨d0, ps0, h0⟩ := hf 0 _ 24 0 1 rfl rfl rfl inferInstance
  obtain ⟨x0, e0, i0⟩ := rd_slv (α := UInt8) inferInstance rdw_u8 inferInstance h0
  have k0 := cells_cut e0 hend
  refine ⟨⟨x0⟩, ?_, i0⟩
  rw [Cut.enc_eq]; simp only [Cut.parts, joinA_toList_cons, joinA_nil]
  rw [List.drop_zero] at k0; rw [k0]; try simp

structure PairS where
  first : Option Addr
  second : Option Addr
def PairS.parts (x : PairS) : List (Array Value) := [#[.pointer x.first], #[.pointer x.second]]
theorem PairS.sizes (x : PairS) : x.parts.map Array.size = [1, 1] := by
  simp only [PairS.parts, List.map, Enc.size_eq]; rfl
instance : Enc PairS where
  enc x := joinA x.parts
  sz := 2
  pos := by omega
  size_eq x := by rw [joinA_size, PairS.sizes]; rfl
  one x := joinA_one (all_cons (one_ptr _) (all_cons (one_ptr _) all_nil))
theorem PairS.enc_eq (x : PairS) : Enc.enc x = joinA x.parts := rfl
theorem PairS.at_first (x : PairS) : (Enc.enc x)[0]? = some (.pointer x.first) := joinA_at [] [#[.pointer x.second]] _ (by rw [joinA_size]; simp only [List.map, Enc.size_eq]; rfl)
theorem PairS.at_second (x : PairS) : (Enc.enc x)[1]? = some (.pointer x.second) := joinA_at [#[.pointer x.first]] [] _ (by rw [joinA_size]; simp only [List.map, Enc.size_eq]; rfl)
theorem PairS.set_first (x : PairS) (v : Option Addr) : spl (Enc.enc x) 0 #[.pointer v] = Enc.enc { x with first := v } := by
  have h := spl_join [] [#[.pointer x.second]] (#[.pointer x.first]) (#[.pointer v]) (by first | (rw [Enc.size_eq, Enc.size_eq]; done) | rfl)
  rw [show (joinA []).size = 0 from (by rw [joinA_size]; simp only [List.map, Enc.size_eq]; rfl)] at h
  exact h
theorem PairS.set_second (x : PairS) (v : Option Addr) : spl (Enc.enc x) 1 #[.pointer v] = Enc.enc { x with second := v } := by
  have h := spl_join [#[.pointer x.first]] [] (#[.pointer x.second]) (#[.pointer v]) (by first | (rw [Enc.size_eq, Enc.size_eq]; done) | rfl)
  rw [show (joinA [#[.pointer x.first]]).size = 1 from (by rw [joinA_size]; simp only [List.map, Enc.size_eq]; rfl)] at h
  exact h

structure RAsk where
  tag : Nat
  coins : Nat
  space : Nat
  owner : Vector UInt8 32
  deriving DecidableEq
def RAsk.parts (x : RAsk) : List (Array Value) := [#[.int .u64 (x.tag : Int)], #[.int .u64 (x.coins : Int)], #[.int .u64 (x.space : Int)], Enc.enc x.owner]
theorem RAsk.sizes (x : RAsk) : x.parts.map Array.size = [1, 1, 1, 32] := by
  simp only [RAsk.parts, List.map, Enc.size_eq]; rfl
instance : Enc RAsk where
  enc x := joinA x.parts
  sz := 35
  pos := by omega
  size_eq x := by rw [joinA_size, RAsk.sizes]; rfl
  one x := joinA_one (all_cons (one_int _ _) (all_cons (one_int _ _) (all_cons (one_int _ _) (all_cons (Enc.one _) all_nil))))
theorem RAsk.enc_eq (x : RAsk) : Enc.enc x = joinA x.parts := rfl
theorem RAsk.at_tag (x : RAsk) : (Enc.enc x)[0]? = some (.int .u64 (x.tag : Int)) := joinA_at [] [#[.int .u64 (x.coins : Int)], #[.int .u64 (x.space : Int)], Enc.enc x.owner] _ (by rw [joinA_size]; simp only [List.map, Enc.size_eq]; rfl)
theorem RAsk.at_coins (x : RAsk) : (Enc.enc x)[1]? = some (.int .u64 (x.coins : Int)) := joinA_at [#[.int .u64 (x.tag : Int)]] [#[.int .u64 (x.space : Int)], Enc.enc x.owner] _ (by rw [joinA_size]; simp only [List.map, Enc.size_eq]; rfl)
theorem RAsk.at_space (x : RAsk) : (Enc.enc x)[2]? = some (.int .u64 (x.space : Int)) := joinA_at [#[.int .u64 (x.tag : Int)], #[.int .u64 (x.coins : Int)]] [Enc.enc x.owner] _ (by rw [joinA_size]; simp only [List.map, Enc.size_eq]; rfl)
theorem RAsk.ex_owner (x : RAsk) : (Enc.enc x).extract 3 (3 + 32) = Enc.enc x.owner := joinA_ex [#[.int .u64 (x.tag : Int)], #[.int .u64 (x.coins : Int)], #[.int .u64 (x.space : Int)]] [] _ (by rw [joinA_size]; simp only [List.map, Enc.size_eq]; rfl) (by rw [Enc.size_eq]; rfl)
theorem RAsk.set_tag (x : RAsk) (v : Nat) : spl (Enc.enc x) 0 #[.int .u64 (v : Int)] = Enc.enc { x with tag := v } := by
  have h := spl_join [] [#[.int .u64 (x.coins : Int)], #[.int .u64 (x.space : Int)], Enc.enc x.owner] (#[.int .u64 (x.tag : Int)]) (#[.int .u64 (v : Int)]) (by first | (rw [Enc.size_eq, Enc.size_eq]; done) | rfl)
  rw [show (joinA []).size = 0 from (by rw [joinA_size]; simp only [List.map, Enc.size_eq]; rfl)] at h
  exact h
theorem RAsk.set_coins (x : RAsk) (v : Nat) : spl (Enc.enc x) 1 #[.int .u64 (v : Int)] = Enc.enc { x with coins := v } := by
  have h := spl_join [#[.int .u64 (x.tag : Int)]] [#[.int .u64 (x.space : Int)], Enc.enc x.owner] (#[.int .u64 (x.coins : Int)]) (#[.int .u64 (v : Int)]) (by first | (rw [Enc.size_eq, Enc.size_eq]; done) | rfl)
  rw [show (joinA [#[.int .u64 (x.tag : Int)]]).size = 1 from (by rw [joinA_size]; simp only [List.map, Enc.size_eq]; rfl)] at h
  exact h
theorem RAsk.set_space (x : RAsk) (v : Nat) : spl (Enc.enc x) 2 #[.int .u64 (v : Int)] = Enc.enc { x with space := v } := by
  have h := spl_join [#[.int .u64 (x.tag : Int)], #[.int .u64 (x.coins : Int)]] [Enc.enc x.owner] (#[.int .u64 (x.space : Int)]) (#[.int .u64 (v : Int)]) (by first | (rw [Enc.size_eq, Enc.size_eq]; done) | rfl)
  rw [show (joinA [#[.int .u64 (x.tag : Int)], #[.int .u64 (x.coins : Int)]]).size = 2 from (by rw [joinA_size]; simp only [List.map, Enc.size_eq]; rfl)] at h
  exact h
theorem RAsk.set_owner (x : RAsk) (v : Vector UInt8 32) : spl (Enc.enc x) 3 (Enc.enc v) = Enc.enc { x with owner := v } := by
  have h := spl_join [#[.int .u64 (x.tag : Int)], #[.int .u64 (x.coins : Int)], #[.int .u64 (x.space : Int)]] [] (Enc.enc x.owner) (Enc.enc v) (by first | (rw [Enc.size_eq, Enc.size_eq]; done) | rfl)
  rw [show (joinA [#[.int .u64 (x.tag : Int)], #[.int .u64 (x.coins : Int)], #[.int .u64 (x.space : Int)]]).size = 3 from (by rw [joinA_size]; simp only [List.map, Enc.size_eq]; rfl)] at h
  exact h
def RAsk.ok (w : World) (x : RAsk) : Prop := (x.tag ≤ 18446744073709551615) ∧ (x.coins ≤ 18446744073709551615) ∧ (x.space ≤ 18446744073709551615)
theorem RAsk.ok.bel {w w' : World} {x : RAsk} (hb : Bel w w') (h : RAsk.ok w x) : RAsk.ok w' x := by
  unfold RAsk.ok at h ⊢
  obtain ⟨g0, g1, g2⟩ := h
  exact ⟨(g0), (g1), (g2)⟩
theorem rdw_RAsk : RdW Try.prog 75 RAsk RAsk.ok := by
  intro H enc w fuel cs d ps hr
  obtain ⟨hend, fuel', hf⟩ := rdS Try.underlying75 inferInstance hr
  obtain ⟨d0, ps0, h0⟩ := hf 0 _ 33 0 1 rfl rfl rfl inferInstance
  obtain ⟨x0, e0, i0⟩ := rd_u64' inferInstance h0
  obtain ⟨d1, ps1, h1⟩ := hf 1 _ 33 1 1 rfl rfl rfl inferInstance
  obtain ⟨x1, e1, i1⟩ := rd_u64' inferInstance h1
  obtain ⟨d2, ps2, h2⟩ := hf 2 _ 33 2 1 rfl rfl rfl inferInstance
  obtain ⟨x2, e2, i2⟩ := rd_u64' inferInstance h2
  obtain ⟨d3, ps3, h3⟩ := hf 3 _ 46 3 32 rfl rfl rfl inferInstance
  obtain ⟨x3, e3, i3⟩ := rd_of rdw_vec h3
  have k3 := cells_cut e3 hend
  have k2 := cells_cut e2 k3
  have k1 := cells_cut e1 k2
  have k0 := cells_cut e0 k1
  refine ⟨⟨x0, x1, x2, x3⟩, ?_, ⟨i0, i1, i2⟩⟩
  rw [RAsk.enc_eq]; simp only [RAsk.parts, joinA_toList_cons, joinA_nil]
  rw [List.drop_zero] at k0; rw [k0]; try simp
instance : EqT Try.prog 75 RAsk 3 where
  le := by omega
  run w d hd x y := by
    obtain ⟨d, rfl⟩ : ∃ d', d = d' + 1 := ⟨d - 1, by omega⟩
    have h := run_equal_fields (P := Try.prog) (w := w) (d := d) (xs := Enc.enc x) (ys := Enc.enc y) Try.underlying75 (by kernel_rfl) (run_eqFields_int (T := 33) (by omega) rfl rfl (by decide) (RAsk.at_tag x) (RAsk.at_tag y) (run_eqFields_int (T := 33) (by omega) rfl rfl (by decide) (RAsk.at_coins x) (RAsk.at_coins y) (run_eqFields_int (T := 33) (by omega) rfl rfl (by decide) (RAsk.at_space x) (RAsk.at_space y) (run_eqFields_agg (T := 46) (α := Vector UInt8 32) (by omega) rfl rfl (by decide) (RAsk.ex_owner x) (RAsk.ex_owner y) run_eqFields_nil))))
    rw [h]; congr 1; rw [Bool.eq_iff_iff]; cases x; cases y; simp [RAsk.mk.injEq]; try (intros; simp_all [← UInt8.toNat_inj]; try omega)
    all_goals (try simp only [Int.ofNat_inj, Int.natCast_inj])

structure LAsk where
  l : SlV
  r : SlV
  in_ : Instr
def LAsk.parts (x : LAsk) : List (Array Value) := [#[x.l.v], #[x.r.v], Enc.enc x.in_]
theorem LAsk.sizes (x : LAsk) : x.parts.map Array.size = [1, 1, 3] := by
  simp only [LAsk.parts, List.map, Enc.size_eq]; rfl
instance : Enc LAsk where
  enc x := joinA x.parts
  sz := 5
  pos := by omega
  size_eq x := by rw [joinA_size, LAsk.sizes]; rfl
  one x := joinA_one (all_cons (Enc.one (α := SlV) _) (all_cons (Enc.one (α := SlV) _) (all_cons (Enc.one _) all_nil)))
theorem LAsk.enc_eq (x : LAsk) : Enc.enc x = joinA x.parts := rfl
theorem LAsk.at_l (x : LAsk) : (Enc.enc x)[0]? = some (x.l.v) := joinA_at [] [#[x.r.v], Enc.enc x.in_] _ (by rw [joinA_size]; simp only [List.map, Enc.size_eq]; rfl)
theorem LAsk.at_r (x : LAsk) : (Enc.enc x)[1]? = some (x.r.v) := joinA_at [#[x.l.v]] [Enc.enc x.in_] _ (by rw [joinA_size]; simp only [List.map, Enc.size_eq]; rfl)
theorem LAsk.ex_in_ (x : LAsk) : (Enc.enc x).extract 2 (2 + 3) = Enc.enc x.in_ := joinA_ex [#[x.l.v], #[x.r.v]] [] _ (by rw [joinA_size]; simp only [List.map, Enc.size_eq]; rfl) (by rw [Enc.size_eq]; rfl)
theorem LAsk.set_l (x : LAsk) (v : SlV) : spl (Enc.enc x) 0 #[v.v] = Enc.enc { x with l := v } := by
  have h := spl_join [] [#[x.r.v], Enc.enc x.in_] (#[x.l.v]) (#[v.v]) (by first | (rw [Enc.size_eq, Enc.size_eq]; done) | rfl)
  rw [show (joinA []).size = 0 from (by rw [joinA_size]; simp only [List.map, Enc.size_eq]; rfl)] at h
  exact h
theorem LAsk.set_r (x : LAsk) (v : SlV) : spl (Enc.enc x) 1 #[v.v] = Enc.enc { x with r := v } := by
  have h := spl_join [#[x.l.v]] [Enc.enc x.in_] (#[x.r.v]) (#[v.v]) (by first | (rw [Enc.size_eq, Enc.size_eq]; done) | rfl)
  rw [show (joinA [#[x.l.v]]).size = 1 from (by rw [joinA_size]; simp only [List.map, Enc.size_eq]; rfl)] at h
  exact h
theorem LAsk.set_in_ (x : LAsk) (v : Instr) : spl (Enc.enc x) 2 (Enc.enc v) = Enc.enc { x with in_ := v } := by
  have h := spl_join [#[x.l.v], #[x.r.v]] [] (Enc.enc x.in_) (Enc.enc v) (by first | (rw [Enc.size_eq, Enc.size_eq]; done) | rfl)
  rw [show (joinA [#[x.l.v], #[x.r.v]]).size = 2 from (by rw [joinA_size]; simp only [List.map, Enc.size_eq]; rfl)] at h
  exact h
theorem LAsk.at_in__program (x : LAsk) : (Enc.enc x)[2]? = some (.int .u8 x.in_.program.toNat) := at_of_ex (i := 0) (LAsk.ex_in_ x) (Instr.at_program x.in_) (by decide)
theorem LAsk.at_in__accounts (x : LAsk) : (Enc.enc x)[3]? = some (x.in_.accounts.v) := at_of_ex (i := 1) (LAsk.ex_in_ x) (Instr.at_accounts x.in_) (by decide)
theorem LAsk.at_in__data (x : LAsk) : (Enc.enc x)[4]? = some (x.in_.data.v) := at_of_ex (i := 2) (LAsk.ex_in_ x) (Instr.at_data x.in_) (by decide)
def LAsk.ok (w : World) (x : LAsk) : Prop := (∃ l : List (Account), SlR w x.l.v l ∧ ∀ e ∈ l, Account.ok w e) ∧ (∃ l : List (Role), SlR w x.r.v l ∧ ∀ e ∈ l, Role.ok w e) ∧ (Instr.ok w x.in_)
theorem LAsk.ok.bel {w w' : World} {x : LAsk} (hb : Bel w w') (h : LAsk.ok w x) : LAsk.ok w' x := by
  unfold LAsk.ok at h ⊢
  obtain ⟨⟨l0, g0⟩, ⟨l1, g1⟩, g2⟩ := h
  exact ⟨(⟨_, g0.1.bel hb, fun e he => (Account.ok.bel hb (g0.2 e he))⟩), (⟨_, g1.1.bel hb, fun e he => (Role.ok.bel hb (g1.2 e he))⟩), (Instr.ok.bel hb g2)⟩
theorem rdw_LAsk : RdW Try.prog 28 LAsk LAsk.ok := by
  intro H enc w fuel cs d ps hr
  obtain ⟨hend, fuel', hf⟩ := rdS Try.underlying28 inferInstance hr
  obtain ⟨d0, ps0, h0⟩ := hf 0 _ 22 0 1 rfl rfl rfl inferInstance
  obtain ⟨x0, e0, i0⟩ := rd_slv (α := Account) inferInstance rdw_Account inferInstance h0
  obtain ⟨d1, ps1, h1⟩ := hf 1 _ 23 1 1 rfl rfl rfl inferInstance
  obtain ⟨x1, e1, i1⟩ := rd_slv (α := Role) inferInstance rdw_Role inferInstance h1
  obtain ⟨d2, ps2, h2⟩ := hf 2 _ 26 2 3 rfl rfl rfl inferInstance
  obtain ⟨x2, e2, i2⟩ := rd_of rdw_Instr h2
  have k2 := cells_cut e2 hend
  have k1 := cells_cut e1 k2
  have k0 := cells_cut e0 k1
  refine ⟨⟨x0, x1, x2⟩, ?_, ⟨i0, i1, i2⟩⟩
  rw [LAsk.enc_eq]; simp only [LAsk.parts, joinA_toList_cons, joinA_nil]
  rw [List.drop_zero] at k0; rw [k0]; try simp

end Go.Fer
