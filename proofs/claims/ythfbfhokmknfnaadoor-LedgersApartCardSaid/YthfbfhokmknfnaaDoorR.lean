/- the records -/
import Derived.Test.YthfbfhokmknfnaaDoorTypes
import Derived.Test.YthfbfhokmknfnaaDoorWords
set_option linter.all false
namespace Go.Fer
open Go Go.Proofs Go.RowKit

abbrev Key := Vector UInt8 32

theorem sq1 {p : Prop} [Decidable p] : (decide p = true) = p := decide_eq_true_eq
theorem sq2 {p : Prop} [Decidable p] : decide p = false ↔ ¬ p := decide_eq_false_iff_not
theorem sq3 (a b : Bool) : ((a && b) = true) = (a = true ∧ b = true) := Bool.and_eq_true a b
theorem sq4 (a b : Bool) : ((a || b) = true) = (a = true ∨ b = true) := Bool.or_eq_true a b
theorem sq5 (a b : Bool) : (a && b) = false ↔ a = false ∨ b = false := Bool.and_eq_false_iff
theorem sq6 (a b : Bool) : (a || b) = false ↔ a = false ∧ b = false := Bool.or_eq_false_iff
theorem sq7 (b : Bool) : ((!b) = true) = (b = false) := Bool.not_eq_true' b
theorem sq8 (b : Bool) : ((!b) = false) = (b = true) := Bool.not_eq_false' b
theorem sq9 {a b : Int} : ¬ a < b ↔ b ≤ a := Int.not_lt
theorem sq0 {a b : Int} : ¬ a ≤ b ↔ b < a := Int.not_le
theorem su1 (l : List Ent) : List.Sublist [] l := List.nil_sublist l
theorem su2 (l : List Ent) : List.Sublist l l := List.Sublist.refl l
theorem su3 {l m : List Ent} {a : Ent} (h : List.Sublist l m) : List.Sublist (a :: l) (a :: m) := List.Sublist.cons₂ a h
theorem su4 {l m : List Ent} {a : Ent} (h : List.Sublist l m) : List.Sublist l (a :: m) := List.Sublist.cons a h

structure Account where
 coins : Nat
 owner : Vector UInt8 32
 space : Nat
 deriving DecidableEq
def Account.parts (x : Account) : List (Array Value) := [#[.int .u64 (x.coins : Int)], Enc.enc x.owner, #[.int .u64 (x.space : Int)]]
theorem Account.sizes (x : Account) : x.parts.map Array.size = [1, 32, 1] := by
 simp only [Account.parts, List.map, Enc.size_eq]; rfl
instance : Enc Account where
 enc x := joinA x.parts
 sz := 34
 pos := by omega
 size_eq x := by rw [joinA_size, Account.sizes]; rfl
 one x := joinA_one (all_cons (one_int _ _) (all_cons (Enc.one _) (all_cons (one_int _ _) all_nil)))
theorem Account.enc_eq (x : Account) : Enc.enc x = joinA x.parts := rfl
theorem Account.at_coins (x : Account) : (Enc.enc x)[0]? = some (.int .u64 (x.coins : Int)) := joinA_at [] [Enc.enc x.owner, #[.int .u64 (x.space : Int)]] _ (by rw [joinA_size]; simp only [List.map, Enc.size_eq]; rfl)
theorem Account.ex_owner (x : Account) : (Enc.enc x).extract 1 (1 + 32) = Enc.enc x.owner := joinA_ex [#[.int .u64 (x.coins : Int)]] [#[.int .u64 (x.space : Int)]] _ (by rw [joinA_size]; simp only [List.map, Enc.size_eq]; rfl) (by rw [Enc.size_eq]; rfl)
theorem Account.at_space (x : Account) : (Enc.enc x)[33]? = some (.int .u64 (x.space : Int)) := joinA_at [#[.int .u64 (x.coins : Int)], Enc.enc x.owner] [] _ (by rw [joinA_size]; simp only [List.map, Enc.size_eq]; rfl)
theorem Account.set_coins (x : Account) (v : Nat) : spl (Enc.enc x) 0 #[.int .u64 (v : Int)] = Enc.enc { x with coins := v } := by
 have h := spl_join [] [Enc.enc x.owner, #[.int .u64 (x.space : Int)]] (#[.int .u64 (x.coins : Int)]) (#[.int .u64 (v : Int)]) (by first | (rw [Enc.size_eq, Enc.size_eq]; done) | rfl)
 rw [show (joinA []).size = 0 from (by rw [joinA_size]; simp only [List.map, Enc.size_eq]; rfl)] at h
 exact h
theorem Account.set_owner (x : Account) (v : Vector UInt8 32) : spl (Enc.enc x) 1 (Enc.enc v) = Enc.enc { x with owner := v } := by
 have h := spl_join [#[.int .u64 (x.coins : Int)]] [#[.int .u64 (x.space : Int)]] (Enc.enc x.owner) (Enc.enc v) (by first | (rw [Enc.size_eq, Enc.size_eq]; done) | rfl)
 rw [show (joinA [#[.int .u64 (x.coins : Int)]]).size = 1 from (by rw [joinA_size]; simp only [List.map, Enc.size_eq]; rfl)] at h
 exact h
theorem Account.set_space (x : Account) (v : Nat) : spl (Enc.enc x) 33 #[.int .u64 (v : Int)] = Enc.enc { x with space := v } := by
 have h := spl_join [#[.int .u64 (x.coins : Int)], Enc.enc x.owner] [] (#[.int .u64 (x.space : Int)]) (#[.int .u64 (v : Int)]) (by first | (rw [Enc.size_eq, Enc.size_eq]; done) | rfl)
 rw [show (joinA [#[.int .u64 (x.coins : Int)], Enc.enc x.owner]).size = 33 from (by rw [joinA_size]; simp only [List.map, Enc.size_eq]; rfl)] at h
 exact h
def Account.ok (w : World) (x : Account) : Prop := (x.coins ≤ 18446744073709551615) ∧ (x.space ≤ 18446744073709551615)
theorem Account.ok.bel {w w' : World} {x : Account} (hb : Bel w w') (h : Account.ok w x) : Account.ok w' x := by
 unfold Account.ok at h ⊢
 obtain ⟨g0, g1⟩ := h
 exact ⟨(g0), (g1)⟩
theorem rdw_Account : RdW Tryd.prog 64 Account Account.ok := by
 intro H enc w fuel cs d ps hr
 obtain ⟨hend, fuel', hf⟩ := rdS Tryd.underlying64 inferInstance hr
 obtain ⟨d0, ps0, h0⟩ := hf 0 _ 32 0 1 rfl rfl rfl inferInstance
 obtain ⟨x0, e0, i0⟩ := rd_u64' inferInstance h0
 obtain ⟨d1, ps1, h1⟩ := hf 1 _ 57 1 32 rfl rfl rfl inferInstance
 obtain ⟨x1, e1, i1⟩ := rd_of rdw_vec h1
 obtain ⟨d2, ps2, h2⟩ := hf 2 _ 32 33 1 rfl rfl rfl inferInstance
 obtain ⟨x2, e2, i2⟩ := rd_u64' inferInstance h2
 have k2 := cells_cut e2 hend
 have k1 := cells_cut e1 k2
 have k0 := cells_cut e0 k1
 refine ⟨⟨x0, x1, x2⟩, ?_, ⟨i0, i2⟩⟩
 rw [Account.enc_eq]; simp only [Account.parts, joinA_toList_cons, joinA_nil]
 rw [List.drop_zero] at k0; rw [k0]; try simp
instance : EqT Tryd.prog 64 Account 3 where
 le := by omega
 run w d hd x y := by
  obtain ⟨d, rfl⟩ : ∃ d', d = d' + 1 := ⟨d - 1, by omega⟩
  have h := run_equal_fields (P := Tryd.prog) (w := w) (d := d) (xs := Enc.enc x) (ys := Enc.enc y) Tryd.underlying64 (by kernel_rfl) (run_eqFields_int (T := 32) (by omega) rfl rfl (by decide) (Account.at_coins x) (Account.at_coins y) (run_eqFields_agg (T := 57) (α := Vector UInt8 32) (by omega) rfl rfl (by decide) (Account.ex_owner x) (Account.ex_owner y) (run_eqFields_int (T := 32) (by omega) rfl rfl (by decide) (Account.at_space x) (Account.at_space y) run_eqFields_nil)))
  rw [h]; refine congrArg (fun b => Result.ok b w) ?_; rw [Bool.eq_iff_iff]; cases x; cases y; simp [Account.mk.injEq]; try (intros; simp_all [← UInt8.toNat_inj]; try omega)
  all_goals (try simp only [Int.ofNat_inj, Int.natCast_inj])

structure Role where
 key : Vector UInt8 32
 signs : Bool
 writes : Bool
 deriving DecidableEq
def Role.parts (x : Role) : List (Array Value) := [Enc.enc x.key, #[.bool x.signs], #[.bool x.writes]]
theorem Role.sizes (x : Role) : x.parts.map Array.size = [32, 1, 1] := by
 simp only [Role.parts, List.map, Enc.size_eq]; rfl
instance : Enc Role where
 enc x := joinA x.parts
 sz := 34
 pos := by omega
 size_eq x := by rw [joinA_size, Role.sizes]; rfl
 one x := joinA_one (all_cons (Enc.one _) (all_cons (Enc.one (α := Bool) _) (all_cons (Enc.one (α := Bool) _) all_nil)))
theorem Role.enc_eq (x : Role) : Enc.enc x = joinA x.parts := rfl
theorem Role.ex_key (x : Role) : (Enc.enc x).extract 0 (0 + 32) = Enc.enc x.key := joinA_ex [] [#[.bool x.signs], #[.bool x.writes]] _ (by rw [joinA_size]; simp only [List.map, Enc.size_eq]; rfl) (by rw [Enc.size_eq]; rfl)
theorem Role.at_signs (x : Role) : (Enc.enc x)[32]? = some (.bool x.signs) := joinA_at [Enc.enc x.key] [#[.bool x.writes]] _ (by rw [joinA_size]; simp only [List.map, Enc.size_eq]; rfl)
theorem Role.at_writes (x : Role) : (Enc.enc x)[33]? = some (.bool x.writes) := joinA_at [Enc.enc x.key, #[.bool x.signs]] [] _ (by rw [joinA_size]; simp only [List.map, Enc.size_eq]; rfl)
theorem Role.set_key (x : Role) (v : Vector UInt8 32) : spl (Enc.enc x) 0 (Enc.enc v) = Enc.enc { x with key := v } := by
 have h := spl_join [] [#[.bool x.signs], #[.bool x.writes]] (Enc.enc x.key) (Enc.enc v) (by first | (rw [Enc.size_eq, Enc.size_eq]; done) | rfl)
 rw [show (joinA []).size = 0 from (by rw [joinA_size]; simp only [List.map, Enc.size_eq]; rfl)] at h
 exact h
theorem Role.set_signs (x : Role) (v : Bool) : spl (Enc.enc x) 32 #[.bool v] = Enc.enc { x with signs := v } := by
 have h := spl_join [Enc.enc x.key] [#[.bool x.writes]] (#[.bool x.signs]) (#[.bool v]) (by first | (rw [Enc.size_eq, Enc.size_eq]; done) | rfl)
 rw [show (joinA [Enc.enc x.key]).size = 32 from (by rw [joinA_size]; simp only [List.map, Enc.size_eq]; rfl)] at h
 exact h
theorem Role.set_writes (x : Role) (v : Bool) : spl (Enc.enc x) 33 #[.bool v] = Enc.enc { x with writes := v } := by
 have h := spl_join [Enc.enc x.key, #[.bool x.signs]] [] (#[.bool x.writes]) (#[.bool v]) (by first | (rw [Enc.size_eq, Enc.size_eq]; done) | rfl)
 rw [show (joinA [Enc.enc x.key, #[.bool x.signs]]).size = 33 from (by rw [joinA_size]; simp only [List.map, Enc.size_eq]; rfl)] at h
 exact h
def Role.ok (w : World) (x : Role) : Prop := True
theorem Role.ok.bel {w w' : World} {x : Role} (hb : Bel w w') (h : Role.ok w x) : Role.ok w' x := trivial
theorem rdw_Role : RdW Tryd.prog 96 Role Role.ok := by
 intro H enc w fuel cs d ps hr
 obtain ⟨hend, fuel', hf⟩ := rdS Tryd.underlying96 inferInstance hr
 obtain ⟨d0, ps0, h0⟩ := hf 0 _ 57 0 32 rfl rfl rfl inferInstance
 obtain ⟨x0, e0, i0⟩ := rd_of rdw_vec h0
 obtain ⟨d1, ps1, h1⟩ := hf 1 _ 4 32 1 rfl rfl rfl inferInstance
 obtain ⟨x1, e1⟩ := rd_bool' inferInstance h1
 obtain ⟨d2, ps2, h2⟩ := hf 2 _ 4 33 1 rfl rfl rfl inferInstance
 obtain ⟨x2, e2⟩ := rd_bool' inferInstance h2
 have k2 := cells_cut e2 hend
 have k1 := cells_cut e1 k2
 have k0 := cells_cut e0 k1
 refine ⟨⟨x0, x1, x2⟩, ?_, trivial⟩
 rw [Role.enc_eq]; simp only [Role.parts, joinA_toList_cons, joinA_nil]
 rw [List.drop_zero] at k0; rw [k0]; try simp
instance : EqT Tryd.prog 96 Role 3 where
 le := by omega
 run w d hd x y := by
  obtain ⟨d, rfl⟩ : ∃ d', d = d' + 1 := ⟨d - 1, by omega⟩
  have h := run_equal_fields (P := Tryd.prog) (w := w) (d := d) (xs := Enc.enc x) (ys := Enc.enc y) Tryd.underlying96 (by kernel_rfl) (run_eqFields_agg (T := 57) (α := Vector UInt8 32) (by omega) rfl rfl (by decide) (Role.ex_key x) (Role.ex_key y) (run_eqFields_bool (T := 4) (by omega) rfl rfl (by decide) (Role.at_signs x) (Role.at_signs y) (run_eqFields_bool (T := 4) (by omega) rfl rfl (by decide) (Role.at_writes x) (Role.at_writes y) run_eqFields_nil)))
  rw [h]; refine congrArg (fun b => Result.ok b w) ?_; rw [Bool.eq_iff_iff]; cases x; cases y; simp [Role.mk.injEq]; try (intros; simp_all [← UInt8.toNat_inj]; try omega)
  all_goals (try simp only [Int.ofNat_inj, Int.natCast_inj])

structure Instr where
 program : UInt8
 accounts : SlV
 data : SlV
def Instr.parts (x : Instr) : List (Array Value) := [#[.int .u8 x.program.toNat], #[x.accounts.v], #[x.data.v]]
theorem Instr.sizes (x : Instr) : x.parts.map Array.size = [1, 1, 1] := by
 simp only [Instr.parts, List.map, Enc.size_eq]; rfl
instance : Enc Instr where
 enc x := joinA x.parts
 sz := 3
 pos := by omega
 size_eq x := by rw [joinA_size, Instr.sizes]; rfl
 one x := joinA_one (all_cons (one_int _ _) (all_cons (Enc.one (α := SlV) _) (all_cons (Enc.one (α := SlV) _) all_nil)))
theorem Instr.enc_eq (x : Instr) : Enc.enc x = joinA x.parts := rfl
theorem Instr.at_program (x : Instr) : (Enc.enc x)[0]? = some (.int .u8 x.program.toNat) := joinA_at [] [#[x.accounts.v], #[x.data.v]] _ (by rw [joinA_size]; simp only [List.map, Enc.size_eq]; rfl)
theorem Instr.at_accounts (x : Instr) : (Enc.enc x)[1]? = some (x.accounts.v) := joinA_at [#[.int .u8 x.program.toNat]] [#[x.data.v]] _ (by rw [joinA_size]; simp only [List.map, Enc.size_eq]; rfl)
theorem Instr.at_data (x : Instr) : (Enc.enc x)[2]? = some (x.data.v) := joinA_at [#[.int .u8 x.program.toNat], #[x.accounts.v]] [] _ (by rw [joinA_size]; simp only [List.map, Enc.size_eq]; rfl)
theorem Instr.set_program (x : Instr) (v : UInt8) : spl (Enc.enc x) 0 #[.int .u8 v.toNat] = Enc.enc { x with program := v } := by
 have h := spl_join [] [#[x.accounts.v], #[x.data.v]] (#[.int .u8 x.program.toNat]) (#[.int .u8 v.toNat]) (by first | (rw [Enc.size_eq, Enc.size_eq]; done) | rfl)
 rw [show (joinA []).size = 0 from (by rw [joinA_size]; simp only [List.map, Enc.size_eq]; rfl)] at h
 exact h
theorem Instr.set_accounts (x : Instr) (v : SlV) : spl (Enc.enc x) 1 #[v.v] = Enc.enc { x with accounts := v } := by
 have h := spl_join [#[.int .u8 x.program.toNat]] [#[x.data.v]] (#[x.accounts.v]) (#[v.v]) (by first | (rw [Enc.size_eq, Enc.size_eq]; done) | rfl)
 rw [show (joinA [#[.int .u8 x.program.toNat]]).size = 1 from (by rw [joinA_size]; simp only [List.map, Enc.size_eq]; rfl)] at h
 exact h
theorem Instr.set_data (x : Instr) (v : SlV) : spl (Enc.enc x) 2 #[v.v] = Enc.enc { x with data := v } := by
 have h := spl_join [#[.int .u8 x.program.toNat], #[x.accounts.v]] [] (#[x.data.v]) (#[v.v]) (by first | (rw [Enc.size_eq, Enc.size_eq]; done) | rfl)
 rw [show (joinA [#[.int .u8 x.program.toNat], #[x.accounts.v]]).size = 2 from (by rw [joinA_size]; simp only [List.map, Enc.size_eq]; rfl)] at h
 exact h
def Instr.ok (w : World) (x : Instr) : Prop := (∃ l : List (UInt8), SlR w x.accounts.v l ∧ ∀ e ∈ l, True) ∧ (∃ l : List (UInt8), SlR w x.data.v l ∧ ∀ e ∈ l, True)
theorem Instr.ok.bel {w w' : World} {x : Instr} (hb : Bel w w') (h : Instr.ok w x) : Instr.ok w' x := by
 unfold Instr.ok at h ⊢
 obtain ⟨⟨l0, g0⟩, ⟨l1, g1⟩⟩ := h
 exact ⟨(⟨_, g0.1.bel hb, fun e he => trivial⟩), (⟨_, g1.1.bel hb, fun e he => trivial⟩)⟩
theorem rdw_Instr : RdW Tryd.prog 102 Instr Instr.ok := by
 intro H enc w fuel cs d ps hr
 obtain ⟨hend, fuel', hf⟩ := rdS Tryd.underlying102 inferInstance hr
 obtain ⟨d0, ps0, h0⟩ := hf 0 _ 5 0 1 rfl rfl rfl inferInstance
 obtain ⟨x0, e0⟩ := rd_u8' inferInstance h0
 obtain ⟨d1, ps1, h1⟩ := hf 1 _ 39 1 1 rfl rfl rfl inferInstance
 obtain ⟨x1, e1, i1⟩ := rd_slv (α := UInt8) inferInstance rdw_u8 inferInstance h1
 obtain ⟨d2, ps2, h2⟩ := hf 2 _ 39 2 1 rfl rfl rfl inferInstance
 obtain ⟨x2, e2, i2⟩ := rd_slv (α := UInt8) inferInstance rdw_u8 inferInstance h2
 have k2 := cells_cut e2 hend
 have k1 := cells_cut e1 k2
 have k0 := cells_cut e0 k1
 refine ⟨⟨x0, x1, x2⟩, ?_, ⟨i1, i2⟩⟩
 rw [Instr.enc_eq]; simp only [Instr.parts, joinA_toList_cons, joinA_nil]
 rw [List.drop_zero] at k0; rw [k0]; try simp

structure Ask where
 tag : Nat
 coins : Nat
 space : Nat
 owner : Vector UInt8 32
 deriving DecidableEq
def Ask.parts (x : Ask) : List (Array Value) := [#[.int .u64 (x.tag : Int)], #[.int .u64 (x.coins : Int)], #[.int .u64 (x.space : Int)], Enc.enc x.owner]
theorem Ask.sizes (x : Ask) : x.parts.map Array.size = [1, 1, 1, 32] := by
 simp only [Ask.parts, List.map, Enc.size_eq]; rfl
instance : Enc Ask where
 enc x := joinA x.parts
 sz := 35
 pos := by omega
 size_eq x := by rw [joinA_size, Ask.sizes]; rfl
 one x := joinA_one (all_cons (one_int _ _) (all_cons (one_int _ _) (all_cons (one_int _ _) (all_cons (Enc.one _) all_nil))))
theorem Ask.enc_eq (x : Ask) : Enc.enc x = joinA x.parts := rfl
theorem Ask.at_tag (x : Ask) : (Enc.enc x)[0]? = some (.int .u64 (x.tag : Int)) := joinA_at [] [#[.int .u64 (x.coins : Int)], #[.int .u64 (x.space : Int)], Enc.enc x.owner] _ (by rw [joinA_size]; simp only [List.map, Enc.size_eq]; rfl)
theorem Ask.at_coins (x : Ask) : (Enc.enc x)[1]? = some (.int .u64 (x.coins : Int)) := joinA_at [#[.int .u64 (x.tag : Int)]] [#[.int .u64 (x.space : Int)], Enc.enc x.owner] _ (by rw [joinA_size]; simp only [List.map, Enc.size_eq]; rfl)
theorem Ask.at_space (x : Ask) : (Enc.enc x)[2]? = some (.int .u64 (x.space : Int)) := joinA_at [#[.int .u64 (x.tag : Int)], #[.int .u64 (x.coins : Int)]] [Enc.enc x.owner] _ (by rw [joinA_size]; simp only [List.map, Enc.size_eq]; rfl)
theorem Ask.ex_owner (x : Ask) : (Enc.enc x).extract 3 (3 + 32) = Enc.enc x.owner := joinA_ex [#[.int .u64 (x.tag : Int)], #[.int .u64 (x.coins : Int)], #[.int .u64 (x.space : Int)]] [] _ (by rw [joinA_size]; simp only [List.map, Enc.size_eq]; rfl) (by rw [Enc.size_eq]; rfl)
theorem Ask.set_tag (x : Ask) (v : Nat) : spl (Enc.enc x) 0 #[.int .u64 (v : Int)] = Enc.enc { x with tag := v } := by
 have h := spl_join [] [#[.int .u64 (x.coins : Int)], #[.int .u64 (x.space : Int)], Enc.enc x.owner] (#[.int .u64 (x.tag : Int)]) (#[.int .u64 (v : Int)]) (by first | (rw [Enc.size_eq, Enc.size_eq]; done) | rfl)
 rw [show (joinA []).size = 0 from (by rw [joinA_size]; simp only [List.map, Enc.size_eq]; rfl)] at h
 exact h
theorem Ask.set_coins (x : Ask) (v : Nat) : spl (Enc.enc x) 1 #[.int .u64 (v : Int)] = Enc.enc { x with coins := v } := by
 have h := spl_join [#[.int .u64 (x.tag : Int)]] [#[.int .u64 (x.space : Int)], Enc.enc x.owner] (#[.int .u64 (x.coins : Int)]) (#[.int .u64 (v : Int)]) (by first | (rw [Enc.size_eq, Enc.size_eq]; done) | rfl)
 rw [show (joinA [#[.int .u64 (x.tag : Int)]]).size = 1 from (by rw [joinA_size]; simp only [List.map, Enc.size_eq]; rfl)] at h
 exact h
theorem Ask.set_space (x : Ask) (v : Nat) : spl (Enc.enc x) 2 #[.int .u64 (v : Int)] = Enc.enc { x with space := v } := by
 have h := spl_join [#[.int .u64 (x.tag : Int)], #[.int .u64 (x.coins : Int)]] [Enc.enc x.owner] (#[.int .u64 (x.space : Int)]) (#[.int .u64 (v : Int)]) (by first | (rw [Enc.size_eq, Enc.size_eq]; done) | rfl)
 rw [show (joinA [#[.int .u64 (x.tag : Int)], #[.int .u64 (x.coins : Int)]]).size = 2 from (by rw [joinA_size]; simp only [List.map, Enc.size_eq]; rfl)] at h
 exact h
theorem Ask.set_owner (x : Ask) (v : Vector UInt8 32) : spl (Enc.enc x) 3 (Enc.enc v) = Enc.enc { x with owner := v } := by
 have h := spl_join [#[.int .u64 (x.tag : Int)], #[.int .u64 (x.coins : Int)], #[.int .u64 (x.space : Int)]] [] (Enc.enc x.owner) (Enc.enc v) (by first | (rw [Enc.size_eq, Enc.size_eq]; done) | rfl)
 rw [show (joinA [#[.int .u64 (x.tag : Int)], #[.int .u64 (x.coins : Int)], #[.int .u64 (x.space : Int)]]).size = 3 from (by rw [joinA_size]; simp only [List.map, Enc.size_eq]; rfl)] at h
 exact h
def Ask.ok (w : World) (x : Ask) : Prop := (x.tag ≤ 18446744073709551615) ∧ (x.coins ≤ 18446744073709551615) ∧ (x.space ≤ 18446744073709551615)
theorem Ask.ok.bel {w w' : World} {x : Ask} (hb : Bel w w') (h : Ask.ok w x) : Ask.ok w' x := by
 unfold Ask.ok at h ⊢
 obtain ⟨g0, g1, g2⟩ := h
 exact ⟨(g0), (g1), (g2)⟩
theorem rdw_Ask : RdW Tryd.prog 161 Ask Ask.ok := by
 intro H enc w fuel cs d ps hr
 obtain ⟨hend, fuel', hf⟩ := rdS Tryd.underlying161 inferInstance hr
 obtain ⟨d0, ps0, h0⟩ := hf 0 _ 32 0 1 rfl rfl rfl inferInstance
 obtain ⟨x0, e0, i0⟩ := rd_u64' inferInstance h0
 obtain ⟨d1, ps1, h1⟩ := hf 1 _ 32 1 1 rfl rfl rfl inferInstance
 obtain ⟨x1, e1, i1⟩ := rd_u64' inferInstance h1
 obtain ⟨d2, ps2, h2⟩ := hf 2 _ 32 2 1 rfl rfl rfl inferInstance
 obtain ⟨x2, e2, i2⟩ := rd_u64' inferInstance h2
 obtain ⟨d3, ps3, h3⟩ := hf 3 _ 57 3 32 rfl rfl rfl inferInstance
 obtain ⟨x3, e3, i3⟩ := rd_of rdw_vec h3
 have k3 := cells_cut e3 hend
 have k2 := cells_cut e2 k3
 have k1 := cells_cut e1 k2
 have k0 := cells_cut e0 k1
 refine ⟨⟨x0, x1, x2, x3⟩, ?_, ⟨i0, i1, i2⟩⟩
 rw [Ask.enc_eq]; simp only [Ask.parts, joinA_toList_cons, joinA_nil]
 rw [List.drop_zero] at k0; rw [k0]; try simp
instance : EqT Tryd.prog 161 Ask 3 where
 le := by omega
 run w d hd x y := by
  obtain ⟨d, rfl⟩ : ∃ d', d = d' + 1 := ⟨d - 1, by omega⟩
  have h := run_equal_fields (P := Tryd.prog) (w := w) (d := d) (xs := Enc.enc x) (ys := Enc.enc y) Tryd.underlying161 (by kernel_rfl) (run_eqFields_int (T := 32) (by omega) rfl rfl (by decide) (Ask.at_tag x) (Ask.at_tag y) (run_eqFields_int (T := 32) (by omega) rfl rfl (by decide) (Ask.at_coins x) (Ask.at_coins y) (run_eqFields_int (T := 32) (by omega) rfl rfl (by decide) (Ask.at_space x) (Ask.at_space y) (run_eqFields_agg (T := 57) (α := Vector UInt8 32) (by omega) rfl rfl (by decide) (Ask.ex_owner x) (Ask.ex_owner y) run_eqFields_nil))))
  rw [h]; refine congrArg (fun b => Result.ok b w) ?_; rw [Bool.eq_iff_iff]; cases x; cases y; simp [Ask.mk.injEq]; try (intros; simp_all [← UInt8.toNat_inj]; try omega)
  all_goals (try simp only [Int.ofNat_inj, Int.natCast_inj])

structure Cut where
 b : SlV
def Cut.parts (x : Cut) : List (Array Value) := [#[x.b.v]]
theorem Cut.sizes (x : Cut) : x.parts.map Array.size = [1] := by
 simp only [Cut.parts, List.map, Enc.size_eq]; rfl
instance : Enc Cut where
 enc x := joinA x.parts
 sz := 1
 pos := by omega
 size_eq x := by rw [joinA_size, Cut.sizes]; rfl
 one x := joinA_one (all_cons (Enc.one (α := SlV) _) all_nil)
theorem Cut.enc_eq (x : Cut) : Enc.enc x = joinA x.parts := rfl
theorem Cut.at_b (x : Cut) : (Enc.enc x)[0]? = some (x.b.v) := joinA_at [] [] _ (by rw [joinA_size]; simp only [List.map, Enc.size_eq]; rfl)
theorem Cut.set_b (x : Cut) (v : SlV) : spl (Enc.enc x) 0 #[v.v] = Enc.enc { x with b := v } := by
 have h := spl_join [] [] (#[x.b.v]) (#[v.v]) (by first | (rw [Enc.size_eq, Enc.size_eq]; done) | rfl)
 rw [show (joinA []).size = 0 from (by rw [joinA_size]; simp only [List.map, Enc.size_eq]; rfl)] at h
 exact h
def Cut.ok (w : World) (x : Cut) : Prop := (∃ l : List (UInt8), SlR w x.b.v l ∧ ∀ e ∈ l, True)
theorem Cut.ok.bel {w w' : World} {x : Cut} (hb : Bel w w') (h : Cut.ok w x) : Cut.ok w' x := by
 unfold Cut.ok at h ⊢
 obtain ⟨l0, g0⟩ := h
 exact (⟨_, g0.1.bel hb, fun e he => trivial⟩)
theorem rdw_Cut : RdW Tryd.prog 174 Cut Cut.ok := by
 intro H enc w fuel cs d ps hr
 obtain ⟨hend, fuel', hf⟩ := rdS Tryd.underlying174 inferInstance hr
 obtain ⟨d0, ps0, h0⟩ := hf 0 _ 39 0 1 rfl rfl rfl inferInstance
 obtain ⟨x0, e0, i0⟩ := rd_slv (α := UInt8) inferInstance rdw_u8 inferInstance h0
 have k0 := cells_cut e0 hend
 refine ⟨⟨x0⟩, ?_, i0⟩
 rw [Cut.enc_eq]; simp only [Cut.parts, joinA_toList_cons, joinA_nil]
 rw [List.drop_zero] at k0; rw [k0]; try simp

structure PairS where
 first : Option Addr
 second : Option Addr
def PairS.parts (x : PairS) : List (Array Value) := [#[.pointer x.first], #[.pointer x.second]]
theorem PairS.sizes (x : PairS) : x.parts.map Array.size = [1, 1] := by
 simp only [PairS.parts, List.map, Enc.size_eq]; rfl
instance : Enc PairS where
 enc x := joinA x.parts
 sz := 2
 pos := by omega
 size_eq x := by rw [joinA_size, PairS.sizes]; rfl
 one x := joinA_one (all_cons (one_ptr _) (all_cons (one_ptr _) all_nil))
theorem PairS.enc_eq (x : PairS) : Enc.enc x = joinA x.parts := rfl
theorem PairS.at_first (x : PairS) : (Enc.enc x)[0]? = some (.pointer x.first) := joinA_at [] [#[.pointer x.second]] _ (by rw [joinA_size]; simp only [List.map, Enc.size_eq]; rfl)
theorem PairS.at_second (x : PairS) : (Enc.enc x)[1]? = some (.pointer x.second) := joinA_at [#[.pointer x.first]] [] _ (by rw [joinA_size]; simp only [List.map, Enc.size_eq]; rfl)
theorem PairS.set_first (x : PairS) (v : Option Addr) : spl (Enc.enc x) 0 #[.pointer v] = Enc.enc { x with first := v } := by
 have h := spl_join [] [#[.pointer x.second]] (#[.pointer x.first]) (#[.pointer v]) (by first | (rw [Enc.size_eq, Enc.size_eq]; done) | rfl)
 rw [show (joinA []).size = 0 from (by rw [joinA_size]; simp only [List.map, Enc.size_eq]; rfl)] at h
 exact h
theorem PairS.set_second (x : PairS) (v : Option Addr) : spl (Enc.enc x) 1 #[.pointer v] = Enc.enc { x with second := v } := by
 have h := spl_join [#[.pointer x.first]] [] (#[.pointer x.second]) (#[.pointer v]) (by first | (rw [Enc.size_eq, Enc.size_eq]; done) | rfl)
 rw [show (joinA [#[.pointer x.first]]).size = 1 from (by rw [joinA_size]; simp only [List.map, Enc.size_eq]; rfl)] at h
 exact h

structure Header where
 signers : UInt8
 readSigned : UInt8
 readOther : UInt8
 deriving DecidableEq
def Header.parts (x : Header) : List (Array Value) := [#[.int .u8 x.signers.toNat], #[.int .u8 x.readSigned.toNat], #[.int .u8 x.readOther.toNat]]
theorem Header.sizes (x : Header) : x.parts.map Array.size = [1, 1, 1] := by
 simp only [Header.parts, List.map, Enc.size_eq]; rfl
instance : Enc Header where
 enc x := joinA x.parts
 sz := 3
 pos := by omega
 size_eq x := by rw [joinA_size, Header.sizes]; rfl
 one x := joinA_one (all_cons (one_int _ _) (all_cons (one_int _ _) (all_cons (one_int _ _) all_nil)))
theorem Header.enc_eq (x : Header) : Enc.enc x = joinA x.parts := rfl
theorem Header.at_signers (x : Header) : (Enc.enc x)[0]? = some (.int .u8 x.signers.toNat) := joinA_at [] [#[.int .u8 x.readSigned.toNat], #[.int .u8 x.readOther.toNat]] _ (by rw [joinA_size]; simp only [List.map, Enc.size_eq]; rfl)
theorem Header.at_readSigned (x : Header) : (Enc.enc x)[1]? = some (.int .u8 x.readSigned.toNat) := joinA_at [#[.int .u8 x.signers.toNat]] [#[.int .u8 x.readOther.toNat]] _ (by rw [joinA_size]; simp only [List.map, Enc.size_eq]; rfl)
theorem Header.at_readOther (x : Header) : (Enc.enc x)[2]? = some (.int .u8 x.readOther.toNat) := joinA_at [#[.int .u8 x.signers.toNat], #[.int .u8 x.readSigned.toNat]] [] _ (by rw [joinA_size]; simp only [List.map, Enc.size_eq]; rfl)
theorem Header.set_signers (x : Header) (v : UInt8) : spl (Enc.enc x) 0 #[.int .u8 v.toNat] = Enc.enc { x with signers := v } := by
 have h := spl_join [] [#[.int .u8 x.readSigned.toNat], #[.int .u8 x.readOther.toNat]] (#[.int .u8 x.signers.toNat]) (#[.int .u8 v.toNat]) (by first | (rw [Enc.size_eq, Enc.size_eq]; done) | rfl)
 rw [show (joinA []).size = 0 from (by rw [joinA_size]; simp only [List.map, Enc.size_eq]; rfl)] at h
 exact h
theorem Header.set_readSigned (x : Header) (v : UInt8) : spl (Enc.enc x) 1 #[.int .u8 v.toNat] = Enc.enc { x with readSigned := v } := by
 have h := spl_join [#[.int .u8 x.signers.toNat]] [#[.int .u8 x.readOther.toNat]] (#[.int .u8 x.readSigned.toNat]) (#[.int .u8 v.toNat]) (by first | (rw [Enc.size_eq, Enc.size_eq]; done) | rfl)
 rw [show (joinA [#[.int .u8 x.signers.toNat]]).size = 1 from (by rw [joinA_size]; simp only [List.map, Enc.size_eq]; rfl)] at h
 exact h
theorem Header.set_readOther (x : Header) (v : UInt8) : spl (Enc.enc x) 2 #[.int .u8 v.toNat] = Enc.enc { x with readOther := v } := by
 have h := spl_join [#[.int .u8 x.signers.toNat], #[.int .u8 x.readSigned.toNat]] [] (#[.int .u8 x.readOther.toNat]) (#[.int .u8 v.toNat]) (by first | (rw [Enc.size_eq, Enc.size_eq]; done) | rfl)
 rw [show (joinA [#[.int .u8 x.signers.toNat], #[.int .u8 x.readSigned.toNat]]).size = 2 from (by rw [joinA_size]; simp only [List.map, Enc.size_eq]; rfl)] at h
 exact h
def Header.ok (w : World) (x : Header) : Prop := True
theorem Header.ok.bel {w w' : World} {x : Header} (hb : Bel w w') (h : Header.ok w x) : Header.ok w' x := trivial
theorem rdw_Header : RdW Tryd.prog 42 Header Header.ok := by
 intro H enc w fuel cs d ps hr
 obtain ⟨hend, fuel', hf⟩ := rdS Tryd.underlying42 inferInstance hr
 obtain ⟨d0, ps0, h0⟩ := hf 0 _ 5 0 1 rfl rfl rfl inferInstance
 obtain ⟨x0, e0⟩ := rd_u8' inferInstance h0
 obtain ⟨d1, ps1, h1⟩ := hf 1 _ 5 1 1 rfl rfl rfl inferInstance
 obtain ⟨x1, e1⟩ := rd_u8' inferInstance h1
 obtain ⟨d2, ps2, h2⟩ := hf 2 _ 5 2 1 rfl rfl rfl inferInstance
 obtain ⟨x2, e2⟩ := rd_u8' inferInstance h2
 have k2 := cells_cut e2 hend
 have k1 := cells_cut e1 k2
 have k0 := cells_cut e0 k1
 refine ⟨⟨x0, x1, x2⟩, ?_, trivial⟩
 rw [Header.enc_eq]; simp only [Header.parts, joinA_toList_cons, joinA_nil]
 rw [List.drop_zero] at k0; rw [k0]; try simp
instance : EqT Tryd.prog 42 Header 2 where
 le := by omega
 run w d hd x y := by
  obtain ⟨d, rfl⟩ : ∃ d', d = d' + 1 := ⟨d - 1, by omega⟩
  have h := run_equal_fields (P := Tryd.prog) (w := w) (d := d) (xs := Enc.enc x) (ys := Enc.enc y) Tryd.underlying42 (by kernel_rfl) (run_eqFields_int (T := 5) (by omega) rfl rfl (by decide) (Header.at_signers x) (Header.at_signers y) (run_eqFields_int (T := 5) (by omega) rfl rfl (by decide) (Header.at_readSigned x) (Header.at_readSigned y) (run_eqFields_int (T := 5) (by omega) rfl rfl (by decide) (Header.at_readOther x) (Header.at_readOther y) run_eqFields_nil)))
  rw [h]; refine congrArg (fun b => Result.ok b w) ?_; rw [Bool.eq_iff_iff]; cases x; cases y; simp [Header.mk.injEq]; try (intros; simp_all [← UInt8.toNat_inj]; try omega)
  all_goals (try simp only [Int.ofNat_inj, Int.natCast_inj])

structure Lookup where
 table : Vector UInt8 32
 writes : SlV
 reads : SlV
def Lookup.parts (x : Lookup) : List (Array Value) := [Enc.enc x.table, #[x.writes.v], #[x.reads.v]]
theorem Lookup.sizes (x : Lookup) : x.parts.map Array.size = [32, 1, 1] := by
 simp only [Lookup.parts, List.map, Enc.size_eq]; rfl
instance : Enc Lookup where
 enc x := joinA x.parts
 sz := 34
 pos := by omega
 size_eq x := by rw [joinA_size, Lookup.sizes]; rfl
 one x := joinA_one (all_cons (Enc.one _) (all_cons (Enc.one (α := SlV) _) (all_cons (Enc.one (α := SlV) _) all_nil)))
theorem Lookup.enc_eq (x : Lookup) : Enc.enc x = joinA x.parts := rfl
theorem Lookup.ex_table (x : Lookup) : (Enc.enc x).extract 0 (0 + 32) = Enc.enc x.table := joinA_ex [] [#[x.writes.v], #[x.reads.v]] _ (by rw [joinA_size]; simp only [List.map, Enc.size_eq]; rfl) (by rw [Enc.size_eq]; rfl)
theorem Lookup.at_writes (x : Lookup) : (Enc.enc x)[32]? = some (x.writes.v) := joinA_at [Enc.enc x.table] [#[x.reads.v]] _ (by rw [joinA_size]; simp only [List.map, Enc.size_eq]; rfl)
theorem Lookup.at_reads (x : Lookup) : (Enc.enc x)[33]? = some (x.reads.v) := joinA_at [Enc.enc x.table, #[x.writes.v]] [] _ (by rw [joinA_size]; simp only [List.map, Enc.size_eq]; rfl)
theorem Lookup.set_table (x : Lookup) (v : Vector UInt8 32) : spl (Enc.enc x) 0 (Enc.enc v) = Enc.enc { x with table := v } := by
 have h := spl_join [] [#[x.writes.v], #[x.reads.v]] (Enc.enc x.table) (Enc.enc v) (by first | (rw [Enc.size_eq, Enc.size_eq]; done) | rfl)
 rw [show (joinA []).size = 0 from (by rw [joinA_size]; simp only [List.map, Enc.size_eq]; rfl)] at h
 exact h
theorem Lookup.set_writes (x : Lookup) (v : SlV) : spl (Enc.enc x) 32 #[v.v] = Enc.enc { x with writes := v } := by
 have h := spl_join [Enc.enc x.table] [#[x.reads.v]] (#[x.writes.v]) (#[v.v]) (by first | (rw [Enc.size_eq, Enc.size_eq]; done) | rfl)
 rw [show (joinA [Enc.enc x.table]).size = 32 from (by rw [joinA_size]; simp only [List.map, Enc.size_eq]; rfl)] at h
 exact h
theorem Lookup.set_reads (x : Lookup) (v : SlV) : spl (Enc.enc x) 33 #[v.v] = Enc.enc { x with reads := v } := by
 have h := spl_join [Enc.enc x.table, #[x.writes.v]] [] (#[x.reads.v]) (#[v.v]) (by first | (rw [Enc.size_eq, Enc.size_eq]; done) | rfl)
 rw [show (joinA [Enc.enc x.table, #[x.writes.v]]).size = 33 from (by rw [joinA_size]; simp only [List.map, Enc.size_eq]; rfl)] at h
 exact h
def Lookup.ok (w : World) (x : Lookup) : Prop := (∃ l : List (UInt8), SlR w x.writes.v l ∧ ∀ e ∈ l, True) ∧ (∃ l : List (UInt8), SlR w x.reads.v l ∧ ∀ e ∈ l, True)
theorem Lookup.ok.bel {w w' : World} {x : Lookup} (hb : Bel w w') (h : Lookup.ok w x) : Lookup.ok w' x := by
 unfold Lookup.ok at h ⊢
 obtain ⟨⟨l0, g0⟩, ⟨l1, g1⟩⟩ := h
 exact ⟨(⟨_, g0.1.bel hb, fun e he => trivial⟩), (⟨_, g1.1.bel hb, fun e he => trivial⟩)⟩
theorem rdw_Lookup : RdW Tryd.prog 115 Lookup Lookup.ok := by
 intro H enc w fuel cs d ps hr
 obtain ⟨hend, fuel', hf⟩ := rdS Tryd.underlying115 inferInstance hr
 obtain ⟨d0, ps0, h0⟩ := hf 0 _ 57 0 32 rfl rfl rfl inferInstance
 obtain ⟨x0, e0, i0⟩ := rd_of rdw_vec h0
 obtain ⟨d1, ps1, h1⟩ := hf 1 _ 39 32 1 rfl rfl rfl inferInstance
 obtain ⟨x1, e1, i1⟩ := rd_slv (α := UInt8) inferInstance rdw_u8 inferInstance h1
 obtain ⟨d2, ps2, h2⟩ := hf 2 _ 39 33 1 rfl rfl rfl inferInstance
 obtain ⟨x2, e2, i2⟩ := rd_slv (α := UInt8) inferInstance rdw_u8 inferInstance h2
 have k2 := cells_cut e2 hend
 have k1 := cells_cut e1 k2
 have k0 := cells_cut e0 k1
 refine ⟨⟨x0, x1, x2⟩, ?_, ⟨i1, i2⟩⟩
 rw [Lookup.enc_eq]; simp only [Lookup.parts, joinA_toList_cons, joinA_nil]
 rw [List.drop_zero] at k0; rw [k0]; try simp

structure Message where
 v0 : Bool
 header : Header
 keys : SlV
 recent : Vector UInt8 32
 instrs : SlV
 lookups : SlV
def Message.parts (x : Message) : List (Array Value) := [#[.bool x.v0], Enc.enc x.header, #[x.keys.v], Enc.enc x.recent, #[x.instrs.v], #[x.lookups.v]]
theorem Message.sizes (x : Message) : x.parts.map Array.size = [1, 3, 1, 32, 1, 1] := by
 simp only [Message.parts, List.map, Enc.size_eq]; rfl
instance : Enc Message where
 enc x := joinA x.parts
 sz := 39
 pos := by omega
 size_eq x := by rw [joinA_size, Message.sizes]; rfl
 one x := joinA_one (all_cons (Enc.one (α := Bool) _) (all_cons (Enc.one _) (all_cons (Enc.one (α := SlV) _) (all_cons (Enc.one _) (all_cons (Enc.one (α := SlV) _) (all_cons (Enc.one (α := SlV) _) all_nil))))))
theorem Message.enc_eq (x : Message) : Enc.enc x = joinA x.parts := rfl
theorem Message.at_v0 (x : Message) : (Enc.enc x)[0]? = some (.bool x.v0) := joinA_at [] [Enc.enc x.header, #[x.keys.v], Enc.enc x.recent, #[x.instrs.v], #[x.lookups.v]] _ (by rw [joinA_size]; simp only [List.map, Enc.size_eq]; rfl)
theorem Message.ex_header (x : Message) : (Enc.enc x).extract 1 (1 + 3) = Enc.enc x.header := joinA_ex [#[.bool x.v0]] [#[x.keys.v], Enc.enc x.recent, #[x.instrs.v], #[x.lookups.v]] _ (by rw [joinA_size]; simp only [List.map, Enc.size_eq]; rfl) (by rw [Enc.size_eq]; rfl)
theorem Message.at_keys (x : Message) : (Enc.enc x)[4]? = some (x.keys.v) := joinA_at [#[.bool x.v0], Enc.enc x.header] [Enc.enc x.recent, #[x.instrs.v], #[x.lookups.v]] _ (by rw [joinA_size]; simp only [List.map, Enc.size_eq]; rfl)
theorem Message.ex_recent (x : Message) : (Enc.enc x).extract 5 (5 + 32) = Enc.enc x.recent := joinA_ex [#[.bool x.v0], Enc.enc x.header, #[x.keys.v]] [#[x.instrs.v], #[x.lookups.v]] _ (by rw [joinA_size]; simp only [List.map, Enc.size_eq]; rfl) (by rw [Enc.size_eq]; rfl)
theorem Message.at_instrs (x : Message) : (Enc.enc x)[37]? = some (x.instrs.v) := joinA_at [#[.bool x.v0], Enc.enc x.header, #[x.keys.v], Enc.enc x.recent] [#[x.lookups.v]] _ (by rw [joinA_size]; simp only [List.map, Enc.size_eq]; rfl)
theorem Message.at_lookups (x : Message) : (Enc.enc x)[38]? = some (x.lookups.v) := joinA_at [#[.bool x.v0], Enc.enc x.header, #[x.keys.v], Enc.enc x.recent, #[x.instrs.v]] [] _ (by rw [joinA_size]; simp only [List.map, Enc.size_eq]; rfl)
theorem Message.set_v0 (x : Message) (v : Bool) : spl (Enc.enc x) 0 #[.bool v] = Enc.enc { x with v0 := v } := by
 have h := spl_join [] [Enc.enc x.header, #[x.keys.v], Enc.enc x.recent, #[x.instrs.v], #[x.lookups.v]] (#[.bool x.v0]) (#[.bool v]) (by first | (rw [Enc.size_eq, Enc.size_eq]; done) | rfl)
 rw [show (joinA []).size = 0 from (by rw [joinA_size]; simp only [List.map, Enc.size_eq]; rfl)] at h
 exact h
theorem Message.set_header (x : Message) (v : Header) : spl (Enc.enc x) 1 (Enc.enc v) = Enc.enc { x with header := v } := by
 have h := spl_join [#[.bool x.v0]] [#[x.keys.v], Enc.enc x.recent, #[x.instrs.v], #[x.lookups.v]] (Enc.enc x.header) (Enc.enc v) (by first | (rw [Enc.size_eq, Enc.size_eq]; done) | rfl)
 rw [show (joinA [#[.bool x.v0]]).size = 1 from (by rw [joinA_size]; simp only [List.map, Enc.size_eq]; rfl)] at h
 exact h
theorem Message.set_keys (x : Message) (v : SlV) : spl (Enc.enc x) 4 #[v.v] = Enc.enc { x with keys := v } := by
 have h := spl_join [#[.bool x.v0], Enc.enc x.header] [Enc.enc x.recent, #[x.instrs.v], #[x.lookups.v]] (#[x.keys.v]) (#[v.v]) (by first | (rw [Enc.size_eq, Enc.size_eq]; done) | rfl)
 rw [show (joinA [#[.bool x.v0], Enc.enc x.header]).size = 4 from (by rw [joinA_size]; simp only [List.map, Enc.size_eq]; rfl)] at h
 exact h
theorem Message.set_recent (x : Message) (v : Vector UInt8 32) : spl (Enc.enc x) 5 (Enc.enc v) = Enc.enc { x with recent := v } := by
 have h := spl_join [#[.bool x.v0], Enc.enc x.header, #[x.keys.v]] [#[x.instrs.v], #[x.lookups.v]] (Enc.enc x.recent) (Enc.enc v) (by first | (rw [Enc.size_eq, Enc.size_eq]; done) | rfl)
 rw [show (joinA [#[.bool x.v0], Enc.enc x.header, #[x.keys.v]]).size = 5 from (by rw [joinA_size]; simp only [List.map, Enc.size_eq]; rfl)] at h
 exact h
theorem Message.set_instrs (x : Message) (v : SlV) : spl (Enc.enc x) 37 #[v.v] = Enc.enc { x with instrs := v } := by
 have h := spl_join [#[.bool x.v0], Enc.enc x.header, #[x.keys.v], Enc.enc x.recent] [#[x.lookups.v]] (#[x.instrs.v]) (#[v.v]) (by first | (rw [Enc.size_eq, Enc.size_eq]; done) | rfl)
 rw [show (joinA [#[.bool x.v0], Enc.enc x.header, #[x.keys.v], Enc.enc x.recent]).size = 37 from (by rw [joinA_size]; simp only [List.map, Enc.size_eq]; rfl)] at h
 exact h
theorem Message.set_lookups (x : Message) (v : SlV) : spl (Enc.enc x) 38 #[v.v] = Enc.enc { x with lookups := v } := by
 have h := spl_join [#[.bool x.v0], Enc.enc x.header, #[x.keys.v], Enc.enc x.recent, #[x.instrs.v]] [] (#[x.lookups.v]) (#[v.v]) (by first | (rw [Enc.size_eq, Enc.size_eq]; done) | rfl)
 rw [show (joinA [#[.bool x.v0], Enc.enc x.header, #[x.keys.v], Enc.enc x.recent, #[x.instrs.v]]).size = 38 from (by rw [joinA_size]; simp only [List.map, Enc.size_eq]; rfl)] at h
 exact h
theorem Message.at_header_signers (x : Message) : (Enc.enc x)[1]? = some (.int .u8 x.header.signers.toNat) := at_of_ex (i := 0) (Message.ex_header x) (Header.at_signers x.header) (by decide)
theorem Message.at_header_readSigned (x : Message) : (Enc.enc x)[2]? = some (.int .u8 x.header.readSigned.toNat) := at_of_ex (i := 1) (Message.ex_header x) (Header.at_readSigned x.header) (by decide)
theorem Message.at_header_readOther (x : Message) : (Enc.enc x)[3]? = some (.int .u8 x.header.readOther.toNat) := at_of_ex (i := 2) (Message.ex_header x) (Header.at_readOther x.header) (by decide)
def Message.ok (w : World) (x : Message) : Prop := (Header.ok w x.header) ∧ (∃ l : List (Vector UInt8 32), SlR w x.keys.v l ∧ ∀ e ∈ l, True) ∧ (∃ l : List (Instr), SlR w x.instrs.v l ∧ ∀ e ∈ l, Instr.ok w e) ∧ (∃ l : List (Lookup), SlR w x.lookups.v l ∧ ∀ e ∈ l, Lookup.ok w e)
theorem Message.ok.bel {w w' : World} {x : Message} (hb : Bel w w') (h : Message.ok w x) : Message.ok w' x := by
 unfold Message.ok at h ⊢
 obtain ⟨g0, ⟨l1, g1⟩, ⟨l2, g2⟩, ⟨l3, g3⟩⟩ := h
 exact ⟨(Header.ok.bel hb g0), (⟨_, g1.1.bel hb, fun e he => trivial⟩), (⟨_, g2.1.bel hb, fun e he => (Instr.ok.bel hb (g2.2 e he))⟩), (⟨_, g3.1.bel hb, fun e he => (Lookup.ok.bel hb (g3.2 e he))⟩)⟩
theorem rdw_Message : RdW Tryd.prog 49 Message Message.ok := by
 intro H enc w fuel cs d ps hr
 obtain ⟨hend, fuel', hf⟩ := rdS Tryd.underlying49 inferInstance hr
 obtain ⟨d0, ps0, h0⟩ := hf 0 _ 4 0 1 rfl rfl rfl inferInstance
 obtain ⟨x0, e0⟩ := rd_bool' inferInstance h0
 obtain ⟨d1, ps1, h1⟩ := hf 1 _ 42 1 3 rfl rfl rfl inferInstance
 obtain ⟨x1, e1, i1⟩ := rd_of rdw_Header h1
 obtain ⟨d2, ps2, h2⟩ := hf 2 _ 43 4 1 rfl rfl rfl inferInstance
 obtain ⟨x2, e2, i2⟩ := rd_slv (α := Vector UInt8 32) inferInstance rdw_vec inferInstance h2
 obtain ⟨d3, ps3, h3⟩ := hf 3 _ 45 5 32 rfl rfl rfl inferInstance
 obtain ⟨x3, e3, i3⟩ := rd_of rdw_vec h3
 obtain ⟨d4, ps4, h4⟩ := hf 4 _ 46 37 1 rfl rfl rfl inferInstance
 obtain ⟨x4, e4, i4⟩ := rd_slv (α := Instr) inferInstance rdw_Instr inferInstance h4
 obtain ⟨d5, ps5, h5⟩ := hf 5 _ 47 38 1 rfl rfl rfl inferInstance
 obtain ⟨x5, e5, i5⟩ := rd_slv (α := Lookup) inferInstance rdw_Lookup inferInstance h5
 have k5 := cells_cut e5 hend
 have k4 := cells_cut e4 k5
 have k3 := cells_cut e3 k4
 have k2 := cells_cut e2 k3
 have k1 := cells_cut e1 k2
 have k0 := cells_cut e0 k1
 refine ⟨⟨x0, x1, x2, x3, x4, x5⟩, ?_, ⟨i1, i2, i4, i5⟩⟩
 rw [Message.enc_eq]; simp only [Message.parts, joinA_toList_cons, joinA_nil]
 rw [List.drop_zero] at k0; rw [k0]; try simp

structure Tx where
 sigs : SlV
 m : Message
def Tx.parts (x : Tx) : List (Array Value) := [#[x.sigs.v], Enc.enc x.m]
theorem Tx.sizes (x : Tx) : x.parts.map Array.size = [1, 39] := by
 simp only [Tx.parts, List.map, Enc.size_eq]; rfl
instance : Enc Tx where
 enc x := joinA x.parts
 sz := 40
 pos := by omega
 size_eq x := by rw [joinA_size, Tx.sizes]; rfl
 one x := joinA_one (all_cons (Enc.one (α := SlV) _) (all_cons (Enc.one _) all_nil))
theorem Tx.enc_eq (x : Tx) : Enc.enc x = joinA x.parts := rfl
theorem Tx.at_sigs (x : Tx) : (Enc.enc x)[0]? = some (x.sigs.v) := joinA_at [] [Enc.enc x.m] _ (by rw [joinA_size]; simp only [List.map, Enc.size_eq]; rfl)
theorem Tx.ex_m (x : Tx) : (Enc.enc x).extract 1 (1 + 39) = Enc.enc x.m := joinA_ex [#[x.sigs.v]] [] _ (by rw [joinA_size]; simp only [List.map, Enc.size_eq]; rfl) (by rw [Enc.size_eq]; rfl)
theorem Tx.set_sigs (x : Tx) (v : SlV) : spl (Enc.enc x) 0 #[v.v] = Enc.enc { x with sigs := v } := by
 have h := spl_join [] [Enc.enc x.m] (#[x.sigs.v]) (#[v.v]) (by first | (rw [Enc.size_eq, Enc.size_eq]; done) | rfl)
 rw [show (joinA []).size = 0 from (by rw [joinA_size]; simp only [List.map, Enc.size_eq]; rfl)] at h
 exact h
theorem Tx.set_m (x : Tx) (v : Message) : spl (Enc.enc x) 1 (Enc.enc v) = Enc.enc { x with m := v } := by
 have h := spl_join [#[x.sigs.v]] [] (Enc.enc x.m) (Enc.enc v) (by first | (rw [Enc.size_eq, Enc.size_eq]; done) | rfl)
 rw [show (joinA [#[x.sigs.v]]).size = 1 from (by rw [joinA_size]; simp only [List.map, Enc.size_eq]; rfl)] at h
 exact h
theorem Tx.at_m_v0 (x : Tx) : (Enc.enc x)[1]? = some (.bool x.m.v0) := at_of_ex (i := 0) (Tx.ex_m x) (Message.at_v0 x.m) (by decide)
theorem Tx.at_m_keys (x : Tx) : (Enc.enc x)[5]? = some (x.m.keys.v) := at_of_ex (i := 4) (Tx.ex_m x) (Message.at_keys x.m) (by decide)
theorem Tx.at_m_instrs (x : Tx) : (Enc.enc x)[38]? = some (x.m.instrs.v) := at_of_ex (i := 37) (Tx.ex_m x) (Message.at_instrs x.m) (by decide)
theorem Tx.at_m_lookups (x : Tx) : (Enc.enc x)[39]? = some (x.m.lookups.v) := at_of_ex (i := 38) (Tx.ex_m x) (Message.at_lookups x.m) (by decide)
def Tx.ok (w : World) (x : Tx) : Prop := (∃ l : List (Vector UInt8 64), SlR w x.sigs.v l ∧ ∀ e ∈ l, True) ∧ (Message.ok w x.m)
theorem Tx.ok.bel {w w' : World} {x : Tx} (hb : Bel w w') (h : Tx.ok w x) : Tx.ok w' x := by
 unfold Tx.ok at h ⊢
 obtain ⟨⟨l0, g0⟩, g1⟩ := h
 exact ⟨(⟨_, g0.1.bel hb, fun e he => trivial⟩), (Message.ok.bel hb g1)⟩
theorem rdw_Tx : RdW Tryd.prog 51 Tx Tx.ok := by
 intro H enc w fuel cs d ps hr
 obtain ⟨hend, fuel', hf⟩ := rdS Tryd.underlying51 inferInstance hr
 obtain ⟨d0, ps0, h0⟩ := hf 0 _ 40 0 1 rfl rfl rfl inferInstance
 obtain ⟨x0, e0, i0⟩ := rd_slv (α := Vector UInt8 64) inferInstance rdw_vec inferInstance h0
 obtain ⟨d1, ps1, h1⟩ := hf 1 _ 49 1 39 rfl rfl rfl inferInstance
 obtain ⟨x1, e1, i1⟩ := rd_of rdw_Message h1
 have k1 := cells_cut e1 hend
 have k0 := cells_cut e0 k1
 refine ⟨⟨x0, x1⟩, ?_, ⟨i0, i1⟩⟩
 rw [Tx.enc_eq]; simp only [Tx.parts, joinA_toList_cons, joinA_nil]
 rw [List.drop_zero] at k0; rw [k0]; try simp

structure Budget where
 units : Nat
 price : Nat
 bad : Int
 deriving DecidableEq
def Budget.parts (x : Budget) : List (Array Value) := [#[.int .u64 (x.units : Int)], #[.int .u64 (x.price : Int)], #[.int .i64 x.bad]]
theorem Budget.sizes (x : Budget) : x.parts.map Array.size = [1, 1, 1] := by
 simp only [Budget.parts, List.map, Enc.size_eq]; rfl
instance : Enc Budget where
 enc x := joinA x.parts
 sz := 3
 pos := by omega
 size_eq x := by rw [joinA_size, Budget.sizes]; rfl
 one x := joinA_one (all_cons (one_int _ _) (all_cons (one_int _ _) (all_cons (one_int _ _) all_nil)))
theorem Budget.enc_eq (x : Budget) : Enc.enc x = joinA x.parts := rfl
theorem Budget.at_units (x : Budget) : (Enc.enc x)[0]? = some (.int .u64 (x.units : Int)) := joinA_at [] [#[.int .u64 (x.price : Int)], #[.int .i64 x.bad]] _ (by rw [joinA_size]; simp only [List.map, Enc.size_eq]; rfl)
theorem Budget.at_price (x : Budget) : (Enc.enc x)[1]? = some (.int .u64 (x.price : Int)) := joinA_at [#[.int .u64 (x.units : Int)]] [#[.int .i64 x.bad]] _ (by rw [joinA_size]; simp only [List.map, Enc.size_eq]; rfl)
theorem Budget.at_bad (x : Budget) : (Enc.enc x)[2]? = some (.int .i64 x.bad) := joinA_at [#[.int .u64 (x.units : Int)], #[.int .u64 (x.price : Int)]] [] _ (by rw [joinA_size]; simp only [List.map, Enc.size_eq]; rfl)
theorem Budget.set_units (x : Budget) (v : Nat) : spl (Enc.enc x) 0 #[.int .u64 (v : Int)] = Enc.enc { x with units := v } := by
 have h := spl_join [] [#[.int .u64 (x.price : Int)], #[.int .i64 x.bad]] (#[.int .u64 (x.units : Int)]) (#[.int .u64 (v : Int)]) (by first | (rw [Enc.size_eq, Enc.size_eq]; done) | rfl)
 rw [show (joinA []).size = 0 from (by rw [joinA_size]; simp only [List.map, Enc.size_eq]; rfl)] at h
 exact h
theorem Budget.set_price (x : Budget) (v : Nat) : spl (Enc.enc x) 1 #[.int .u64 (v : Int)] = Enc.enc { x with price := v } := by
 have h := spl_join [#[.int .u64 (x.units : Int)]] [#[.int .i64 x.bad]] (#[.int .u64 (x.price : Int)]) (#[.int .u64 (v : Int)]) (by first | (rw [Enc.size_eq, Enc.size_eq]; done) | rfl)
 rw [show (joinA [#[.int .u64 (x.units : Int)]]).size = 1 from (by rw [joinA_size]; simp only [List.map, Enc.size_eq]; rfl)] at h
 exact h
theorem Budget.set_bad (x : Budget) (v : Int) : spl (Enc.enc x) 2 #[.int .i64 v] = Enc.enc { x with bad := v } := by
 have h := spl_join [#[.int .u64 (x.units : Int)], #[.int .u64 (x.price : Int)]] [] (#[.int .i64 x.bad]) (#[.int .i64 v]) (by first | (rw [Enc.size_eq, Enc.size_eq]; done) | rfl)
 rw [show (joinA [#[.int .u64 (x.units : Int)], #[.int .u64 (x.price : Int)]]).size = 2 from (by rw [joinA_size]; simp only [List.map, Enc.size_eq]; rfl)] at h
 exact h
def Budget.ok (w : World) (x : Budget) : Prop := (x.units ≤ 18446744073709551615) ∧ (x.price ≤ 18446744073709551615) ∧ (-9223372036854775808 ≤ x.bad ∧ x.bad ≤ 9223372036854775807)
theorem Budget.ok.bel {w w' : World} {x : Budget} (hb : Bel w w') (h : Budget.ok w x) : Budget.ok w' x := by
 unfold Budget.ok at h ⊢
 obtain ⟨g0, g1, g2⟩ := h
 exact ⟨(g0), (g1), (g2)⟩
theorem rdw_Budget : RdW Tryd.prog 54 Budget Budget.ok := by
 intro H enc w fuel cs d ps hr
 obtain ⟨hend, fuel', hf⟩ := rdS Tryd.underlying54 inferInstance hr
 obtain ⟨d0, ps0, h0⟩ := hf 0 _ 32 0 1 rfl rfl rfl inferInstance
 obtain ⟨x0, e0, i0⟩ := rd_u64' inferInstance h0
 obtain ⟨d1, ps1, h1⟩ := hf 1 _ 32 1 1 rfl rfl rfl inferInstance
 obtain ⟨x1, e1, i1⟩ := rd_u64' inferInstance h1
 obtain ⟨d2, ps2, h2⟩ := hf 2 _ 3 2 1 rfl rfl rfl inferInstance
 obtain ⟨x2, e2, i2⟩ := rd_i64' inferInstance h2
 have k2 := cells_cut e2 hend
 have k1 := cells_cut e1 k2
 have k0 := cells_cut e0 k1
 refine ⟨⟨x0, x1, x2⟩, ?_, ⟨i0, i1, i2⟩⟩
 rw [Budget.enc_eq]; simp only [Budget.parts, joinA_toList_cons, joinA_nil]
 rw [List.drop_zero] at k0; rw [k0]; try simp
instance : EqT Tryd.prog 54 Budget 2 where
 le := by omega
 run w d hd x y := by
  obtain ⟨d, rfl⟩ : ∃ d', d = d' + 1 := ⟨d - 1, by omega⟩
  have h := run_equal_fields (P := Tryd.prog) (w := w) (d := d) (xs := Enc.enc x) (ys := Enc.enc y) Tryd.underlying54 (by kernel_rfl) (run_eqFields_int (T := 32) (by omega) rfl rfl (by decide) (Budget.at_units x) (Budget.at_units y) (run_eqFields_int (T := 32) (by omega) rfl rfl (by decide) (Budget.at_price x) (Budget.at_price y) (run_eqFields_int (T := 3) (by omega) rfl rfl (by decide) (Budget.at_bad x) (Budget.at_bad y) run_eqFields_nil)))
  rw [h]; refine congrArg (fun b => Result.ok b w) ?_; rw [Bool.eq_iff_iff]; cases x; cases y; simp [Budget.mk.injEq]; try (intros; simp_all [← UInt8.toNat_inj]; try omega)
  all_goals (try simp only [Int.ofNat_inj, Int.natCast_inj])

structure Ready where
 bytes : SlV
 tx : Tx
 roles : SlV
 budget : Budget
 fee : Nat
 cost : Nat
 priority : Nat
def Ready.parts (x : Ready) : List (Array Value) := [#[x.bytes.v], Enc.enc x.tx, #[x.roles.v], Enc.enc x.budget, #[.int .u64 (x.fee : Int)], #[.int .u64 (x.cost : Int)], #[.int .u64 (x.priority : Int)]]
theorem Ready.sizes (x : Ready) : x.parts.map Array.size = [1, 40, 1, 3, 1, 1, 1] := by
 simp only [Ready.parts, List.map, Enc.size_eq]; rfl
instance : Enc Ready where
 enc x := joinA x.parts
 sz := 48
 pos := by omega
 size_eq x := by rw [joinA_size, Ready.sizes]; rfl
 one x := joinA_one (all_cons (Enc.one (α := SlV) _) (all_cons (Enc.one _) (all_cons (Enc.one (α := SlV) _) (all_cons (Enc.one _) (all_cons (one_int _ _) (all_cons (one_int _ _) (all_cons (one_int _ _) all_nil)))))))
theorem Ready.enc_eq (x : Ready) : Enc.enc x = joinA x.parts := rfl
theorem Ready.at_bytes (x : Ready) : (Enc.enc x)[0]? = some (x.bytes.v) := joinA_at [] [Enc.enc x.tx, #[x.roles.v], Enc.enc x.budget, #[.int .u64 (x.fee : Int)], #[.int .u64 (x.cost : Int)], #[.int .u64 (x.priority : Int)]] _ (by rw [joinA_size]; simp only [List.map, Enc.size_eq]; rfl)
theorem Ready.ex_tx (x : Ready) : (Enc.enc x).extract 1 (1 + 40) = Enc.enc x.tx := joinA_ex [#[x.bytes.v]] [#[x.roles.v], Enc.enc x.budget, #[.int .u64 (x.fee : Int)], #[.int .u64 (x.cost : Int)], #[.int .u64 (x.priority : Int)]] _ (by rw [joinA_size]; simp only [List.map, Enc.size_eq]; rfl) (by rw [Enc.size_eq]; rfl)
theorem Ready.at_roles (x : Ready) : (Enc.enc x)[41]? = some (x.roles.v) := joinA_at [#[x.bytes.v], Enc.enc x.tx] [Enc.enc x.budget, #[.int .u64 (x.fee : Int)], #[.int .u64 (x.cost : Int)], #[.int .u64 (x.priority : Int)]] _ (by rw [joinA_size]; simp only [List.map, Enc.size_eq]; rfl)
theorem Ready.ex_budget (x : Ready) : (Enc.enc x).extract 42 (42 + 3) = Enc.enc x.budget := joinA_ex [#[x.bytes.v], Enc.enc x.tx, #[x.roles.v]] [#[.int .u64 (x.fee : Int)], #[.int .u64 (x.cost : Int)], #[.int .u64 (x.priority : Int)]] _ (by rw [joinA_size]; simp only [List.map, Enc.size_eq]; rfl) (by rw [Enc.size_eq]; rfl)
theorem Ready.at_fee (x : Ready) : (Enc.enc x)[45]? = some (.int .u64 (x.fee : Int)) := joinA_at [#[x.bytes.v], Enc.enc x.tx, #[x.roles.v], Enc.enc x.budget] [#[.int .u64 (x.cost : Int)], #[.int .u64 (x.priority : Int)]] _ (by rw [joinA_size]; simp only [List.map, Enc.size_eq]; rfl)
theorem Ready.at_cost (x : Ready) : (Enc.enc x)[46]? = some (.int .u64 (x.cost : Int)) := joinA_at [#[x.bytes.v], Enc.enc x.tx, #[x.roles.v], Enc.enc x.budget, #[.int .u64 (x.fee : Int)]] [#[.int .u64 (x.priority : Int)]] _ (by rw [joinA_size]; simp only [List.map, Enc.size_eq]; rfl)
theorem Ready.at_priority (x : Ready) : (Enc.enc x)[47]? = some (.int .u64 (x.priority : Int)) := joinA_at [#[x.bytes.v], Enc.enc x.tx, #[x.roles.v], Enc.enc x.budget, #[.int .u64 (x.fee : Int)], #[.int .u64 (x.cost : Int)]] [] _ (by rw [joinA_size]; simp only [List.map, Enc.size_eq]; rfl)
theorem Ready.set_bytes (x : Ready) (v : SlV) : spl (Enc.enc x) 0 #[v.v] = Enc.enc { x with bytes := v } := by
 have h := spl_join [] [Enc.enc x.tx, #[x.roles.v], Enc.enc x.budget, #[.int .u64 (x.fee : Int)], #[.int .u64 (x.cost : Int)], #[.int .u64 (x.priority : Int)]] (#[x.bytes.v]) (#[v.v]) (by first | (rw [Enc.size_eq, Enc.size_eq]; done) | rfl)
 rw [show (joinA []).size = 0 from (by rw [joinA_size]; simp only [List.map, Enc.size_eq]; rfl)] at h
 exact h
theorem Ready.set_tx (x : Ready) (v : Tx) : spl (Enc.enc x) 1 (Enc.enc v) = Enc.enc { x with tx := v } := by
 have h := spl_join [#[x.bytes.v]] [#[x.roles.v], Enc.enc x.budget, #[.int .u64 (x.fee : Int)], #[.int .u64 (x.cost : Int)], #[.int .u64 (x.priority : Int)]] (Enc.enc x.tx) (Enc.enc v) (by first | (rw [Enc.size_eq, Enc.size_eq]; done) | rfl)
 rw [show (joinA [#[x.bytes.v]]).size = 1 from (by rw [joinA_size]; simp only [List.map, Enc.size_eq]; rfl)] at h
 exact h
theorem Ready.set_roles (x : Ready) (v : SlV) : spl (Enc.enc x) 41 #[v.v] = Enc.enc { x with roles := v } := by
 have h := spl_join [#[x.bytes.v], Enc.enc x.tx] [Enc.enc x.budget, #[.int .u64 (x.fee : Int)], #[.int .u64 (x.cost : Int)], #[.int .u64 (x.priority : Int)]] (#[x.roles.v]) (#[v.v]) (by first | (rw [Enc.size_eq, Enc.size_eq]; done) | rfl)
 rw [show (joinA [#[x.bytes.v], Enc.enc x.tx]).size = 41 from (by rw [joinA_size]; simp only [List.map, Enc.size_eq]; rfl)] at h
 exact h
theorem Ready.set_budget (x : Ready) (v : Budget) : spl (Enc.enc x) 42 (Enc.enc v) = Enc.enc { x with budget := v } := by
 have h := spl_join [#[x.bytes.v], Enc.enc x.tx, #[x.roles.v]] [#[.int .u64 (x.fee : Int)], #[.int .u64 (x.cost : Int)], #[.int .u64 (x.priority : Int)]] (Enc.enc x.budget) (Enc.enc v) (by first | (rw [Enc.size_eq, Enc.size_eq]; done) | rfl)
 rw [show (joinA [#[x.bytes.v], Enc.enc x.tx, #[x.roles.v]]).size = 42 from (by rw [joinA_size]; simp only [List.map, Enc.size_eq]; rfl)] at h
 exact h
theorem Ready.set_fee (x : Ready) (v : Nat) : spl (Enc.enc x) 45 #[.int .u64 (v : Int)] = Enc.enc { x with fee := v } := by
 have h := spl_join [#[x.bytes.v], Enc.enc x.tx, #[x.roles.v], Enc.enc x.budget] [#[.int .u64 (x.cost : Int)], #[.int .u64 (x.priority : Int)]] (#[.int .u64 (x.fee : Int)]) (#[.int .u64 (v : Int)]) (by first | (rw [Enc.size_eq, Enc.size_eq]; done) | rfl)
 rw [show (joinA [#[x.bytes.v], Enc.enc x.tx, #[x.roles.v], Enc.enc x.budget]).size = 45 from (by rw [joinA_size]; simp only [List.map, Enc.size_eq]; rfl)] at h
 exact h
theorem Ready.set_cost (x : Ready) (v : Nat) : spl (Enc.enc x) 46 #[.int .u64 (v : Int)] = Enc.enc { x with cost := v } := by
 have h := spl_join [#[x.bytes.v], Enc.enc x.tx, #[x.roles.v], Enc.enc x.budget, #[.int .u64 (x.fee : Int)]] [#[.int .u64 (x.priority : Int)]] (#[.int .u64 (x.cost : Int)]) (#[.int .u64 (v : Int)]) (by first | (rw [Enc.size_eq, Enc.size_eq]; done) | rfl)
 rw [show (joinA [#[x.bytes.v], Enc.enc x.tx, #[x.roles.v], Enc.enc x.budget, #[.int .u64 (x.fee : Int)]]).size = 46 from (by rw [joinA_size]; simp only [List.map, Enc.size_eq]; rfl)] at h
 exact h
theorem Ready.set_priority (x : Ready) (v : Nat) : spl (Enc.enc x) 47 #[.int .u64 (v : Int)] = Enc.enc { x with priority := v } := by
 have h := spl_join [#[x.bytes.v], Enc.enc x.tx, #[x.roles.v], Enc.enc x.budget, #[.int .u64 (x.fee : Int)], #[.int .u64 (x.cost : Int)]] [] (#[.int .u64 (x.priority : Int)]) (#[.int .u64 (v : Int)]) (by first | (rw [Enc.size_eq, Enc.size_eq]; done) | rfl)
 rw [show (joinA [#[x.bytes.v], Enc.enc x.tx, #[x.roles.v], Enc.enc x.budget, #[.int .u64 (x.fee : Int)], #[.int .u64 (x.cost : Int)]]).size = 47 from (by rw [joinA_size]; simp only [List.map, Enc.size_eq]; rfl)] at h
 exact h
theorem Ready.at_tx_sigs (x : Ready) : (Enc.enc x)[1]? = some (x.tx.sigs.v) := at_of_ex (i := 0) (Ready.ex_tx x) (Tx.at_sigs x.tx) (by decide)
theorem Ready.at_budget_units (x : Ready) : (Enc.enc x)[42]? = some (.int .u64 (x.budget.units : Int)) := at_of_ex (i := 0) (Ready.ex_budget x) (Budget.at_units x.budget) (by decide)
theorem Ready.at_budget_price (x : Ready) : (Enc.enc x)[43]? = some (.int .u64 (x.budget.price : Int)) := at_of_ex (i := 1) (Ready.ex_budget x) (Budget.at_price x.budget) (by decide)
theorem Ready.at_budget_bad (x : Ready) : (Enc.enc x)[44]? = some (.int .i64 x.budget.bad) := at_of_ex (i := 2) (Ready.ex_budget x) (Budget.at_bad x.budget) (by decide)
def Ready.ok (w : World) (x : Ready) : Prop := (∃ l : List (UInt8), SlR w x.bytes.v l ∧ ∀ e ∈ l, True) ∧ (Tx.ok w x.tx) ∧ (∃ l : List (Role), SlR w x.roles.v l ∧ ∀ e ∈ l, Role.ok w e) ∧ (Budget.ok w x.budget) ∧ (x.fee ≤ 18446744073709551615) ∧ (x.cost ≤ 18446744073709551615) ∧ (x.priority ≤ 18446744073709551615)
theorem Ready.ok.bel {w w' : World} {x : Ready} (hb : Bel w w') (h : Ready.ok w x) : Ready.ok w' x := by
 unfold Ready.ok at h ⊢
 obtain ⟨⟨l0, g0⟩, g1, ⟨l2, g2⟩, g3, g4, g5, g6⟩ := h
 exact ⟨(⟨_, g0.1.bel hb, fun e he => trivial⟩), (Tx.ok.bel hb g1), (⟨_, g2.1.bel hb, fun e he => (Role.ok.bel hb (g2.2 e he))⟩), (Budget.ok.bel hb g3), (g4), (g5), (g6)⟩
theorem rdw_Ready : RdW Tryd.prog 56 Ready Ready.ok := by
 intro H enc w fuel cs d ps hr
 obtain ⟨hend, fuel', hf⟩ := rdS Tryd.underlying56 inferInstance hr
 obtain ⟨d0, ps0, h0⟩ := hf 0 _ 39 0 1 rfl rfl rfl inferInstance
 obtain ⟨x0, e0, i0⟩ := rd_slv (α := UInt8) inferInstance rdw_u8 inferInstance h0
 obtain ⟨d1, ps1, h1⟩ := hf 1 _ 51 1 40 rfl rfl rfl inferInstance
 obtain ⟨x1, e1, i1⟩ := rd_of rdw_Tx h1
 obtain ⟨d2, ps2, h2⟩ := hf 2 _ 52 41 1 rfl rfl rfl inferInstance
 obtain ⟨x2, e2, i2⟩ := rd_slv (α := Role) inferInstance rdw_Role inferInstance h2
 obtain ⟨d3, ps3, h3⟩ := hf 3 _ 54 42 3 rfl rfl rfl inferInstance
 obtain ⟨x3, e3, i3⟩ := rd_of rdw_Budget h3
 obtain ⟨d4, ps4, h4⟩ := hf 4 _ 32 45 1 rfl rfl rfl inferInstance
 obtain ⟨x4, e4, i4⟩ := rd_u64' inferInstance h4
 obtain ⟨d5, ps5, h5⟩ := hf 5 _ 32 46 1 rfl rfl rfl inferInstance
 obtain ⟨x5, e5, i5⟩ := rd_u64' inferInstance h5
 obtain ⟨d6, ps6, h6⟩ := hf 6 _ 32 47 1 rfl rfl rfl inferInstance
 obtain ⟨x6, e6, i6⟩ := rd_u64' inferInstance h6
 have k6 := cells_cut e6 hend
 have k5 := cells_cut e5 k6
 have k4 := cells_cut e4 k5
 have k3 := cells_cut e3 k4
 have k2 := cells_cut e2 k3
 have k1 := cells_cut e1 k2
 have k0 := cells_cut e0 k1
 refine ⟨⟨x0, x1, x2, x3, x4, x5, x6⟩, ?_, ⟨i0, i1, i2, i3, i4, i5, i6⟩⟩
 rw [Ready.enc_eq]; simp only [Ready.parts, joinA_toList_cons, joinA_nil]
 rw [List.drop_zero] at k0; rw [k0]; try simp

structure Holding where
 key : Vector UInt8 32
 account : Account
 deriving DecidableEq
def Holding.parts (x : Holding) : List (Array Value) := [Enc.enc x.key, Enc.enc x.account]
theorem Holding.sizes (x : Holding) : x.parts.map Array.size = [32, 34] := by
 simp only [Holding.parts, List.map, Enc.size_eq]; rfl
instance : Enc Holding where
 enc x := joinA x.parts
 sz := 66
 pos := by omega
 size_eq x := by rw [joinA_size, Holding.sizes]; rfl
 one x := joinA_one (all_cons (Enc.one _) (all_cons (Enc.one _) all_nil))
theorem Holding.enc_eq (x : Holding) : Enc.enc x = joinA x.parts := rfl
theorem Holding.ex_key (x : Holding) : (Enc.enc x).extract 0 (0 + 32) = Enc.enc x.key := joinA_ex [] [Enc.enc x.account] _ (by rw [joinA_size]; simp only [List.map, Enc.size_eq]; rfl) (by rw [Enc.size_eq]; rfl)
theorem Holding.ex_account (x : Holding) : (Enc.enc x).extract 32 (32 + 34) = Enc.enc x.account := joinA_ex [Enc.enc x.key] [] _ (by rw [joinA_size]; simp only [List.map, Enc.size_eq]; rfl) (by rw [Enc.size_eq]; rfl)
theorem Holding.set_key (x : Holding) (v : Vector UInt8 32) : spl (Enc.enc x) 0 (Enc.enc v) = Enc.enc { x with key := v } := by
 have h := spl_join [] [Enc.enc x.account] (Enc.enc x.key) (Enc.enc v) (by first | (rw [Enc.size_eq, Enc.size_eq]; done) | rfl)
 rw [show (joinA []).size = 0 from (by rw [joinA_size]; simp only [List.map, Enc.size_eq]; rfl)] at h
 exact h
theorem Holding.set_account (x : Holding) (v : Account) : spl (Enc.enc x) 32 (Enc.enc v) = Enc.enc { x with account := v } := by
 have h := spl_join [Enc.enc x.key] [] (Enc.enc x.account) (Enc.enc v) (by first | (rw [Enc.size_eq, Enc.size_eq]; done) | rfl)
 rw [show (joinA [Enc.enc x.key]).size = 32 from (by rw [joinA_size]; simp only [List.map, Enc.size_eq]; rfl)] at h
 exact h
theorem Holding.at_account_coins (x : Holding) : (Enc.enc x)[32]? = some (.int .u64 (x.account.coins : Int)) := at_of_ex (i := 0) (Holding.ex_account x) (Account.at_coins x.account) (by decide)
theorem Holding.at_account_space (x : Holding) : (Enc.enc x)[65]? = some (.int .u64 (x.account.space : Int)) := at_of_ex (i := 33) (Holding.ex_account x) (Account.at_space x.account) (by decide)
def Holding.ok (w : World) (x : Holding) : Prop := (Account.ok w x.account)
theorem Holding.ok.bel {w w' : World} {x : Holding} (hb : Bel w w') (h : Holding.ok w x) : Holding.ok w' x := by
 unfold Holding.ok at h ⊢
 have g0 := h
 exact (Account.ok.bel hb g0)
theorem rdw_Holding : RdW Tryd.prog 66 Holding Holding.ok := by
 intro H enc w fuel cs d ps hr
 obtain ⟨hend, fuel', hf⟩ := rdS Tryd.underlying66 inferInstance hr
 obtain ⟨d0, ps0, h0⟩ := hf 0 _ 57 0 32 rfl rfl rfl inferInstance
 obtain ⟨x0, e0, i0⟩ := rd_of rdw_vec h0
 obtain ⟨d1, ps1, h1⟩ := hf 1 _ 64 32 34 rfl rfl rfl inferInstance
 obtain ⟨x1, e1, i1⟩ := rd_of rdw_Account h1
 have k1 := cells_cut e1 hend
 have k0 := cells_cut e0 k1
 refine ⟨⟨x0, x1⟩, ?_, i1⟩
 rw [Holding.enc_eq]; simp only [Holding.parts, joinA_toList_cons, joinA_nil]
 rw [List.drop_zero] at k0; rw [k0]; try simp
instance : EqT Tryd.prog 66 Holding 4 where
 le := by omega
 run w d hd x y := by
  obtain ⟨d, rfl⟩ : ∃ d', d = d' + 1 := ⟨d - 1, by omega⟩
  have h := run_equal_fields (P := Tryd.prog) (w := w) (d := d) (xs := Enc.enc x) (ys := Enc.enc y) Tryd.underlying66 (by kernel_rfl) (run_eqFields_agg (T := 57) (α := Vector UInt8 32) (by omega) rfl rfl (by decide) (Holding.ex_key x) (Holding.ex_key y) (run_eqFields_agg (T := 64) (α := Account) (by omega) rfl rfl (by decide) (Holding.ex_account x) (Holding.ex_account y) run_eqFields_nil))
  rw [h]; refine congrArg (fun b => Result.ok b w) ?_; rw [Bool.eq_iff_iff]; cases x; cases y; simp [Holding.mk.injEq]; try (intros; simp_all [← UInt8.toNat_inj]; try omega)
  all_goals (try simp only [Int.ofNat_inj, Int.natCast_inj])

structure Outcome where
 fail : Int
 at_ : Int
 units : Nat
 fee : Nat
 space : Nat
 changed : SlV
def Outcome.parts (x : Outcome) : List (Array Value) := [#[.int .i64 x.fail], #[.int .i64 x.at_], #[.int .u64 (x.units : Int)], #[.int .u64 (x.fee : Int)], #[.int .u64 (x.space : Int)], #[x.changed.v]]
theorem Outcome.sizes (x : Outcome) : x.parts.map Array.size = [1, 1, 1, 1, 1, 1] := by
 simp only [Outcome.parts, List.map, Enc.size_eq]; rfl
instance : Enc Outcome where
 enc x := joinA x.parts
 sz := 6
 pos := by omega
 size_eq x := by rw [joinA_size, Outcome.sizes]; rfl
 one x := joinA_one (all_cons (one_int _ _) (all_cons (one_int _ _) (all_cons (one_int _ _) (all_cons (one_int _ _) (all_cons (one_int _ _) (all_cons (Enc.one (α := SlV) _) all_nil))))))
theorem Outcome.enc_eq (x : Outcome) : Enc.enc x = joinA x.parts := rfl
theorem Outcome.at_fail (x : Outcome) : (Enc.enc x)[0]? = some (.int .i64 x.fail) := joinA_at [] [#[.int .i64 x.at_], #[.int .u64 (x.units : Int)], #[.int .u64 (x.fee : Int)], #[.int .u64 (x.space : Int)], #[x.changed.v]] _ (by rw [joinA_size]; simp only [List.map, Enc.size_eq]; rfl)
theorem Outcome.at_at_ (x : Outcome) : (Enc.enc x)[1]? = some (.int .i64 x.at_) := joinA_at [#[.int .i64 x.fail]] [#[.int .u64 (x.units : Int)], #[.int .u64 (x.fee : Int)], #[.int .u64 (x.space : Int)], #[x.changed.v]] _ (by rw [joinA_size]; simp only [List.map, Enc.size_eq]; rfl)
theorem Outcome.at_units (x : Outcome) : (Enc.enc x)[2]? = some (.int .u64 (x.units : Int)) := joinA_at [#[.int .i64 x.fail], #[.int .i64 x.at_]] [#[.int .u64 (x.fee : Int)], #[.int .u64 (x.space : Int)], #[x.changed.v]] _ (by rw [joinA_size]; simp only [List.map, Enc.size_eq]; rfl)
theorem Outcome.at_fee (x : Outcome) : (Enc.enc x)[3]? = some (.int .u64 (x.fee : Int)) := joinA_at [#[.int .i64 x.fail], #[.int .i64 x.at_], #[.int .u64 (x.units : Int)]] [#[.int .u64 (x.space : Int)], #[x.changed.v]] _ (by rw [joinA_size]; simp only [List.map, Enc.size_eq]; rfl)
theorem Outcome.at_space (x : Outcome) : (Enc.enc x)[4]? = some (.int .u64 (x.space : Int)) := joinA_at [#[.int .i64 x.fail], #[.int .i64 x.at_], #[.int .u64 (x.units : Int)], #[.int .u64 (x.fee : Int)]] [#[x.changed.v]] _ (by rw [joinA_size]; simp only [List.map, Enc.size_eq]; rfl)
theorem Outcome.at_changed (x : Outcome) : (Enc.enc x)[5]? = some (x.changed.v) := joinA_at [#[.int .i64 x.fail], #[.int .i64 x.at_], #[.int .u64 (x.units : Int)], #[.int .u64 (x.fee : Int)], #[.int .u64 (x.space : Int)]] [] _ (by rw [joinA_size]; simp only [List.map, Enc.size_eq]; rfl)
theorem Outcome.set_fail (x : Outcome) (v : Int) : spl (Enc.enc x) 0 #[.int .i64 v] = Enc.enc { x with fail := v } := by
 have h := spl_join [] [#[.int .i64 x.at_], #[.int .u64 (x.units : Int)], #[.int .u64 (x.fee : Int)], #[.int .u64 (x.space : Int)], #[x.changed.v]] (#[.int .i64 x.fail]) (#[.int .i64 v]) (by first | (rw [Enc.size_eq, Enc.size_eq]; done) | rfl)
 rw [show (joinA []).size = 0 from (by rw [joinA_size]; simp only [List.map, Enc.size_eq]; rfl)] at h
 exact h
theorem Outcome.set_at_ (x : Outcome) (v : Int) : spl (Enc.enc x) 1 #[.int .i64 v] = Enc.enc { x with at_ := v } := by
 have h := spl_join [#[.int .i64 x.fail]] [#[.int .u64 (x.units : Int)], #[.int .u64 (x.fee : Int)], #[.int .u64 (x.space : Int)], #[x.changed.v]] (#[.int .i64 x.at_]) (#[.int .i64 v]) (by first | (rw [Enc.size_eq, Enc.size_eq]; done) | rfl)
 rw [show (joinA [#[.int .i64 x.fail]]).size = 1 from (by rw [joinA_size]; simp only [List.map, Enc.size_eq]; rfl)] at h
 exact h
theorem Outcome.set_units (x : Outcome) (v : Nat) : spl (Enc.enc x) 2 #[.int .u64 (v : Int)] = Enc.enc { x with units := v } := by
 have h := spl_join [#[.int .i64 x.fail], #[.int .i64 x.at_]] [#[.int .u64 (x.fee : Int)], #[.int .u64 (x.space : Int)], #[x.changed.v]] (#[.int .u64 (x.units : Int)]) (#[.int .u64 (v : Int)]) (by first | (rw [Enc.size_eq, Enc.size_eq]; done) | rfl)
 rw [show (joinA [#[.int .i64 x.fail], #[.int .i64 x.at_]]).size = 2 from (by rw [joinA_size]; simp only [List.map, Enc.size_eq]; rfl)] at h
 exact h
theorem Outcome.set_fee (x : Outcome) (v : Nat) : spl (Enc.enc x) 3 #[.int .u64 (v : Int)] = Enc.enc { x with fee := v } := by
 have h := spl_join [#[.int .i64 x.fail], #[.int .i64 x.at_], #[.int .u64 (x.units : Int)]] [#[.int .u64 (x.space : Int)], #[x.changed.v]] (#[.int .u64 (x.fee : Int)]) (#[.int .u64 (v : Int)]) (by first | (rw [Enc.size_eq, Enc.size_eq]; done) | rfl)
 rw [show (joinA [#[.int .i64 x.fail], #[.int .i64 x.at_], #[.int .u64 (x.units : Int)]]).size = 3 from (by rw [joinA_size]; simp only [List.map, Enc.size_eq]; rfl)] at h
 exact h
theorem Outcome.set_space (x : Outcome) (v : Nat) : spl (Enc.enc x) 4 #[.int .u64 (v : Int)] = Enc.enc { x with space := v } := by
 have h := spl_join [#[.int .i64 x.fail], #[.int .i64 x.at_], #[.int .u64 (x.units : Int)], #[.int .u64 (x.fee : Int)]] [#[x.changed.v]] (#[.int .u64 (x.space : Int)]) (#[.int .u64 (v : Int)]) (by first | (rw [Enc.size_eq, Enc.size_eq]; done) | rfl)
 rw [show (joinA [#[.int .i64 x.fail], #[.int .i64 x.at_], #[.int .u64 (x.units : Int)], #[.int .u64 (x.fee : Int)]]).size = 4 from (by rw [joinA_size]; simp only [List.map, Enc.size_eq]; rfl)] at h
 exact h
theorem Outcome.set_changed (x : Outcome) (v : SlV) : spl (Enc.enc x) 5 #[v.v] = Enc.enc { x with changed := v } := by
 have h := spl_join [#[.int .i64 x.fail], #[.int .i64 x.at_], #[.int .u64 (x.units : Int)], #[.int .u64 (x.fee : Int)], #[.int .u64 (x.space : Int)]] [] (#[x.changed.v]) (#[v.v]) (by first | (rw [Enc.size_eq, Enc.size_eq]; done) | rfl)
 rw [show (joinA [#[.int .i64 x.fail], #[.int .i64 x.at_], #[.int .u64 (x.units : Int)], #[.int .u64 (x.fee : Int)], #[.int .u64 (x.space : Int)]]).size = 5 from (by rw [joinA_size]; simp only [List.map, Enc.size_eq]; rfl)] at h
 exact h
def Outcome.ok (w : World) (x : Outcome) : Prop := (-9223372036854775808 ≤ x.fail ∧ x.fail ≤ 9223372036854775807) ∧ (-9223372036854775808 ≤ x.at_ ∧ x.at_ ≤ 9223372036854775807) ∧ (x.units ≤ 18446744073709551615) ∧ (x.fee ≤ 18446744073709551615) ∧ (x.space ≤ 18446744073709551615) ∧ (∃ l : List (Holding), SlR w x.changed.v l ∧ ∀ e ∈ l, Holding.ok w e)
theorem Outcome.ok.bel {w w' : World} {x : Outcome} (hb : Bel w w') (h : Outcome.ok w x) : Outcome.ok w' x := by
 unfold Outcome.ok at h ⊢
 obtain ⟨g0, g1, g2, g3, g4, ⟨l5, g5⟩⟩ := h
 exact ⟨(g0), (g1), (g2), (g3), (g4), (⟨_, g5.1.bel hb, fun e he => (Holding.ok.bel hb (g5.2 e he))⟩)⟩
theorem rdw_Outcome : RdW Tryd.prog 59 Outcome Outcome.ok := by
 intro H enc w fuel cs d ps hr
 obtain ⟨hend, fuel', hf⟩ := rdS Tryd.underlying59 inferInstance hr
 obtain ⟨d0, ps0, h0⟩ := hf 0 _ 33 0 1 rfl rfl rfl inferInstance
 obtain ⟨x0, e0, i0⟩ := rd_i64' inferInstance h0
 obtain ⟨d1, ps1, h1⟩ := hf 1 _ 3 1 1 rfl rfl rfl inferInstance
 obtain ⟨x1, e1, i1⟩ := rd_i64' inferInstance h1
 obtain ⟨d2, ps2, h2⟩ := hf 2 _ 32 2 1 rfl rfl rfl inferInstance
 obtain ⟨x2, e2, i2⟩ := rd_u64' inferInstance h2
 obtain ⟨d3, ps3, h3⟩ := hf 3 _ 32 3 1 rfl rfl rfl inferInstance
 obtain ⟨x3, e3, i3⟩ := rd_u64' inferInstance h3
 obtain ⟨d4, ps4, h4⟩ := hf 4 _ 32 4 1 rfl rfl rfl inferInstance
 obtain ⟨x4, e4, i4⟩ := rd_u64' inferInstance h4
 obtain ⟨d5, ps5, h5⟩ := hf 5 _ 22 5 1 rfl rfl rfl inferInstance
 obtain ⟨x5, e5, i5⟩ := rd_slv (α := Holding) inferInstance rdw_Holding inferInstance h5
 have k5 := cells_cut e5 hend
 have k4 := cells_cut e4 k5
 have k3 := cells_cut e3 k4
 have k2 := cells_cut e2 k3
 have k1 := cells_cut e1 k2
 have k0 := cells_cut e0 k1
 refine ⟨⟨x0, x1, x2, x3, x4, x5⟩, ?_, ⟨i0, i1, i2, i3, i4, i5⟩⟩
 rw [Outcome.enc_eq]; simp only [Outcome.parts, joinA_toList_cons, joinA_nil]
 rw [List.drop_zero] at k0; rw [k0]; try simp

structure Running where
 r : Ready
 l : SlV
 units : Nat
 space : Nat
def Running.parts (x : Running) : List (Array Value) := [Enc.enc x.r, #[x.l.v], #[.int .u64 (x.units : Int)], #[.int .u64 (x.space : Int)]]
theorem Running.sizes (x : Running) : x.parts.map Array.size = [48, 1, 1, 1] := by
 simp only [Running.parts, List.map, Enc.size_eq]; rfl
instance : Enc Running where
 enc x := joinA x.parts
 sz := 51
 pos := by omega
 size_eq x := by rw [joinA_size, Running.sizes]; rfl
 one x := joinA_one (all_cons (Enc.one _) (all_cons (Enc.one (α := SlV) _) (all_cons (one_int _ _) (all_cons (one_int _ _) all_nil))))
theorem Running.enc_eq (x : Running) : Enc.enc x = joinA x.parts := rfl
theorem Running.ex_r (x : Running) : (Enc.enc x).extract 0 (0 + 48) = Enc.enc x.r := joinA_ex [] [#[x.l.v], #[.int .u64 (x.units : Int)], #[.int .u64 (x.space : Int)]] _ (by rw [joinA_size]; simp only [List.map, Enc.size_eq]; rfl) (by rw [Enc.size_eq]; rfl)
theorem Running.at_l (x : Running) : (Enc.enc x)[48]? = some (x.l.v) := joinA_at [Enc.enc x.r] [#[.int .u64 (x.units : Int)], #[.int .u64 (x.space : Int)]] _ (by rw [joinA_size]; simp only [List.map, Enc.size_eq]; rfl)
theorem Running.at_units (x : Running) : (Enc.enc x)[49]? = some (.int .u64 (x.units : Int)) := joinA_at [Enc.enc x.r, #[x.l.v]] [#[.int .u64 (x.space : Int)]] _ (by rw [joinA_size]; simp only [List.map, Enc.size_eq]; rfl)
theorem Running.at_space (x : Running) : (Enc.enc x)[50]? = some (.int .u64 (x.space : Int)) := joinA_at [Enc.enc x.r, #[x.l.v], #[.int .u64 (x.units : Int)]] [] _ (by rw [joinA_size]; simp only [List.map, Enc.size_eq]; rfl)
theorem Running.set_r (x : Running) (v : Ready) : spl (Enc.enc x) 0 (Enc.enc v) = Enc.enc { x with r := v } := by
 have h := spl_join [] [#[x.l.v], #[.int .u64 (x.units : Int)], #[.int .u64 (x.space : Int)]] (Enc.enc x.r) (Enc.enc v) (by first | (rw [Enc.size_eq, Enc.size_eq]; done) | rfl)
 rw [show (joinA []).size = 0 from (by rw [joinA_size]; simp only [List.map, Enc.size_eq]; rfl)] at h
 exact h
theorem Running.set_l (x : Running) (v : SlV) : spl (Enc.enc x) 48 #[v.v] = Enc.enc { x with l := v } := by
 have h := spl_join [Enc.enc x.r] [#[.int .u64 (x.units : Int)], #[.int .u64 (x.space : Int)]] (#[x.l.v]) (#[v.v]) (by first | (rw [Enc.size_eq, Enc.size_eq]; done) | rfl)
 rw [show (joinA [Enc.enc x.r]).size = 48 from (by rw [joinA_size]; simp only [List.map, Enc.size_eq]; rfl)] at h
 exact h
theorem Running.set_units (x : Running) (v : Nat) : spl (Enc.enc x) 49 #[.int .u64 (v : Int)] = Enc.enc { x with units := v } := by
 have h := spl_join [Enc.enc x.r, #[x.l.v]] [#[.int .u64 (x.space : Int)]] (#[.int .u64 (x.units : Int)]) (#[.int .u64 (v : Int)]) (by first | (rw [Enc.size_eq, Enc.size_eq]; done) | rfl)
 rw [show (joinA [Enc.enc x.r, #[x.l.v]]).size = 49 from (by rw [joinA_size]; simp only [List.map, Enc.size_eq]; rfl)] at h
 exact h
theorem Running.set_space (x : Running) (v : Nat) : spl (Enc.enc x) 50 #[.int .u64 (v : Int)] = Enc.enc { x with space := v } := by
 have h := spl_join [Enc.enc x.r, #[x.l.v], #[.int .u64 (x.units : Int)]] [] (#[.int .u64 (x.space : Int)]) (#[.int .u64 (v : Int)]) (by first | (rw [Enc.size_eq, Enc.size_eq]; done) | rfl)
 rw [show (joinA [Enc.enc x.r, #[x.l.v], #[.int .u64 (x.units : Int)]]).size = 50 from (by rw [joinA_size]; simp only [List.map, Enc.size_eq]; rfl)] at h
 exact h
theorem Running.at_r_bytes (x : Running) : (Enc.enc x)[0]? = some (x.r.bytes.v) := at_of_ex (i := 0) (Running.ex_r x) (Ready.at_bytes x.r) (by decide)
theorem Running.at_r_roles (x : Running) : (Enc.enc x)[41]? = some (x.r.roles.v) := at_of_ex (i := 41) (Running.ex_r x) (Ready.at_roles x.r) (by decide)
theorem Running.at_r_fee (x : Running) : (Enc.enc x)[45]? = some (.int .u64 (x.r.fee : Int)) := at_of_ex (i := 45) (Running.ex_r x) (Ready.at_fee x.r) (by decide)
theorem Running.at_r_cost (x : Running) : (Enc.enc x)[46]? = some (.int .u64 (x.r.cost : Int)) := at_of_ex (i := 46) (Running.ex_r x) (Ready.at_cost x.r) (by decide)
theorem Running.at_r_priority (x : Running) : (Enc.enc x)[47]? = some (.int .u64 (x.r.priority : Int)) := at_of_ex (i := 47) (Running.ex_r x) (Ready.at_priority x.r) (by decide)
def Running.ok (w : World) (x : Running) : Prop := (Ready.ok w x.r) ∧ (∃ l : List (Account), SlR w x.l.v l ∧ ∀ e ∈ l, Account.ok w e) ∧ (x.units ≤ 18446744073709551615) ∧ (x.space ≤ 18446744073709551615)
theorem Running.ok.bel {w w' : World} {x : Running} (hb : Bel w w') (h : Running.ok w x) : Running.ok w' x := by
 unfold Running.ok at h ⊢
 obtain ⟨g0, ⟨l1, g1⟩, g2, g3⟩ := h
 exact ⟨(Ready.ok.bel hb g0), (⟨_, g1.1.bel hb, fun e he => (Account.ok.bel hb (g1.2 e he))⟩), (g2), (g3)⟩
theorem rdw_Running : RdW Tryd.prog 107 Running Running.ok := by
 intro H enc w fuel cs d ps hr
 obtain ⟨hend, fuel', hf⟩ := rdS Tryd.underlying107 inferInstance hr
 obtain ⟨d0, ps0, h0⟩ := hf 0 _ 56 0 48 rfl rfl rfl inferInstance
 obtain ⟨x0, e0, i0⟩ := rd_of rdw_Ready h0
 obtain ⟨d1, ps1, h1⟩ := hf 1 _ 69 48 1 rfl rfl rfl inferInstance
 obtain ⟨x1, e1, i1⟩ := rd_slv (α := Account) inferInstance rdw_Account inferInstance h1
 obtain ⟨d2, ps2, h2⟩ := hf 2 _ 32 49 1 rfl rfl rfl inferInstance
 obtain ⟨x2, e2, i2⟩ := rd_u64' inferInstance h2
 obtain ⟨d3, ps3, h3⟩ := hf 3 _ 32 50 1 rfl rfl rfl inferInstance
 obtain ⟨x3, e3, i3⟩ := rd_u64' inferInstance h3
 have k3 := cells_cut e3 hend
 have k2 := cells_cut e2 k3
 have k1 := cells_cut e1 k2
 have k0 := cells_cut e0 k1
 refine ⟨⟨x0, x1, x2, x3⟩, ?_, ⟨i0, i1, i2, i3⟩⟩
 rw [Running.enc_eq]; simp only [Running.parts, joinA_toList_cons, joinA_nil]
 rw [List.drop_zero] at k0; rw [k0]; try simp

end Go.Fer
