/- the records -/
import Derived.Test.YtmiacbnmifejdaaTypes
set_option linter.all false
namespace Go.Fer
open Go Go.Proofs Go.RowKit

structure Header where
  signers : UInt8
  readSigned : UInt8
  readOther : UInt8
  deriving DecidableEq
def Header.parts (x : Header) : List (Array Value) := [#[.int .u8 x.signers.toNat], #[.int .u8 x.readSigned.toNat], #[.int .u8 x.readOther.toNat]]
theorem Header.sizes (x : Header) : x.parts.map Array.size = [1, 1, 1] := by
  simp only [Header.parts, List.map, Enc.size_eq]; rfl
instance : Enc Header where
  enc x := joinA x.parts
  sz := 3
  pos := by omega
  size_eq x := by rw [joinA_size, Header.sizes]; rfl
  one x := joinA_one (all_cons (one_int _ _) (all_cons (one_int _ _) (all_cons (one_int _ _) all_nil)))
theorem Header.enc_eq (x : Header) : Enc.enc x = joinA x.parts := rfl
theorem Header.at_signers (x : Header) : (Enc.enc x)[0]? = some (.int .u8 x.signers.toNat) := joinA_at [] [#[.int .u8 x.readSigned.toNat], #[.int .u8 x.readOther.toNat]] _ (by rw [joinA_size]; simp only [List.map, Enc.size_eq]; rfl)
theorem Header.at_readSigned (x : Header) : (Enc.enc x)[1]? = some (.int .u8 x.readSigned.toNat) := joinA_at [#[.int .u8 x.signers.toNat]] [#[.int .u8 x.readOther.toNat]] _ (by rw [joinA_size]; simp only [List.map, Enc.size_eq]; rfl)
theorem Header.at_readOther (x : Header) : (Enc.enc x)[2]? = some (.int .u8 x.readOther.toNat) := joinA_at [#[.int .u8 x.signers.toNat], #[.int .u8 x.readSigned.toNat]] [] _ (by rw [joinA_size]; simp only [List.map, Enc.size_eq]; rfl)
theorem Header.set_signers (x : Header) (v : UInt8) : spl (Enc.enc x) 0 #[.int .u8 v.toNat] = Enc.enc { x with signers := v } := by
  have h := spl_join [] [#[.int .u8 x.readSigned.toNat], #[.int .u8 x.readOther.toNat]] (#[.int .u8 x.signers.toNat]) (#[.int .u8 v.toNat]) (by first | (rw [Enc.size_eq, Enc.size_eq]; done) | rfl)
  rw [show (joinA []).size = 0 from (by rw [joinA_size]; simp only [List.map, Enc.size_eq]; rfl)] at h
  exact h
theorem Header.set_readSigned (x : Header) (v : UInt8) : spl (Enc.enc x) 1 #[.int .u8 v.toNat] = Enc.enc { x with readSigned := v } := by
  have h := spl_join [#[.int .u8 x.signers.toNat]] [#[.int .u8 x.readOther.toNat]] (#[.int .u8 x.readSigned.toNat]) (#[.int .u8 v.toNat]) (by first | (rw [Enc.size_eq, Enc.size_eq]; done) | rfl)
  rw [show (joinA [#[.int .u8 x.signers.toNat]]).size = 1 from (by rw [joinA_size]; simp only [List.map, Enc.size_eq]; rfl)] at h
  exact h
theorem Header.set_readOther (x : Header) (v : UInt8) : spl (Enc.enc x) 2 #[.int .u8 v.toNat] = Enc.enc { x with readOther := v } := by
  have h := spl_join [#[.int .u8 x.signers.toNat], #[.int .u8 x.readSigned.toNat]] [] (#[.int .u8 x.readOther.toNat]) (#[.int .u8 v.toNat]) (by first | (rw [Enc.size_eq, Enc.size_eq]; done) | rfl)
  rw [show (joinA [#[.int .u8 x.signers.toNat], #[.int .u8 x.readSigned.toNat]]).size = 2 from (by rw [joinA_size]; simp only [List.map, Enc.size_eq]; rfl)] at h
  exact h
def Header.ok (w : World) (x : Header) : Prop := True
theorem Header.ok.bel {w w' : World} {x : Header} (hb : Bel w w') (h : Header.ok w x) : Header.ok w' x := trivial
theorem rdw_Header : RdW Try.prog 24 Header Header.ok := by
  intro H enc w fuel cs d ps hr
  obtain ⟨hend, fuel', hf⟩ := rdS Try.underlying24 inferInstance hr
  obtain ⟨d0, ps0, h0⟩ := hf 0 _ 5 0 1 rfl rfl rfl inferInstance
  obtain ⟨x0, e0⟩ := rd_u8' inferInstance h0
  obtain ⟨d1, ps1, h1⟩ := hf 1 _ 5 1 1 rfl rfl rfl inferInstance
  obtain ⟨x1, e1⟩ := rd_u8' inferInstance h1
  obtain ⟨d2, ps2, h2⟩ := hf 2 _ 5 2 1 rfl rfl rfl inferInstance
  obtain ⟨x2, e2⟩ := rd_u8' inferInstance h2
  have k2 := cells_cut e2 hend
  have k1 := cells_cut e1 k2
  have k0 := cells_cut e0 k1
  refine ⟨⟨x0, x1, x2⟩, ?_, trivial⟩
  rw [Header.enc_eq]; simp only [Header.parts, joinA_toList_cons, joinA_nil]
  rw [List.drop_zero] at k0; rw [k0]; try simp
instance : EqT Try.prog 24 Header 2 where
  le := by omega
  run w d hd x y := by
    obtain ⟨d, rfl⟩ : ∃ d', d = d' + 1 := ⟨d - 1, by omega⟩
    have h := run_equal_fields (P := Try.prog) (w := w) (d := d) (xs := Enc.enc x) (ys := Enc.enc y) Try.underlying24 (by kernel_rfl) (run_eqFields_int (T := 5) (by omega) rfl rfl (by decide) (Header.at_signers x) (Header.at_signers y) (run_eqFields_int (T := 5) (by omega) rfl rfl (by decide) (Header.at_readSigned x) (Header.at_readSigned y) (run_eqFields_int (T := 5) (by omega) rfl rfl (by decide) (Header.at_readOther x) (Header.at_readOther y) run_eqFields_nil)))
    rw [h]; refine congrArg (fun b => Result.ok b w) ?_; rw [Bool.eq_iff_iff]; cases x; cases y; simp [Header.mk.injEq]; try (intros; simp_all [← UInt8.toNat_inj]; try omega)
    all_goals (try simp only [Int.ofNat_inj, Int.natCast_inj])

structure Instr where
  program : UInt8
  accounts : SlV
  data : SlV
def Instr.parts (x : Instr) : List (Array Value) := [#[.int .u8 x.program.toNat], #[x.accounts.v], #[x.data.v]]
theorem Instr.sizes (x : Instr) : x.parts.map Array.size = [1, 1, 1] := by
  simp only [Instr.parts, List.map, Enc.size_eq]; rfl
instance : Enc Instr where
  enc x := joinA x.parts
  sz := 3
  pos := by omega
  size_eq x := by rw [joinA_size, Instr.sizes]; rfl
  one x := joinA_one (all_cons (one_int _ _) (all_cons (Enc.one (α := SlV) _) (all_cons (Enc.one (α := SlV) _) all_nil)))
theorem Instr.enc_eq (x : Instr) : Enc.enc x = joinA x.parts := rfl
theorem Instr.at_program (x : Instr) : (Enc.enc x)[0]? = some (.int .u8 x.program.toNat) := joinA_at [] [#[x.accounts.v], #[x.data.v]] _ (by rw [joinA_size]; simp only [List.map, Enc.size_eq]; rfl)
theorem Instr.at_accounts (x : Instr) : (Enc.enc x)[1]? = some (x.accounts.v) := joinA_at [#[.int .u8 x.program.toNat]] [#[x.data.v]] _ (by rw [joinA_size]; simp only [List.map, Enc.size_eq]; rfl)
theorem Instr.at_data (x : Instr) : (Enc.enc x)[2]? = some (x.data.v) := joinA_at [#[.int .u8 x.program.toNat], #[x.accounts.v]] [] _ (by rw [joinA_size]; simp only [List.map, Enc.size_eq]; rfl)
theorem Instr.set_program (x : Instr) (v : UInt8) : spl (Enc.enc x) 0 #[.int .u8 v.toNat] = Enc.enc { x with program := v } := by
  have h := spl_join [] [#[x.accounts.v], #[x.data.v]] (#[.int .u8 x.program.toNat]) (#[.int .u8 v.toNat]) (by first | (rw [Enc.size_eq, Enc.size_eq]; done) | rfl)
  rw [show (joinA []).size = 0 from (by rw [joinA_size]; simp only [List.map, Enc.size_eq]; rfl)] at h
  exact h
theorem Instr.set_accounts (x : Instr) (v : SlV) : spl (Enc.enc x) 1 #[v.v] = Enc.enc { x with accounts := v } := by
  have h := spl_join [#[.int .u8 x.program.toNat]] [#[x.data.v]] (#[x.accounts.v]) (#[v.v]) (by first | (rw [Enc.size_eq, Enc.size_eq]; done) | rfl)
  rw [show (joinA [#[.int .u8 x.program.toNat]]).size = 1 from (by rw [joinA_size]; simp only [List.map, Enc.size_eq]; rfl)] at h
  exact h
theorem Instr.set_data (x : Instr) (v : SlV) : spl (Enc.enc x) 2 #[v.v] = Enc.enc { x with data := v } := by
  have h := spl_join [#[.int .u8 x.program.toNat], #[x.accounts.v]] [] (#[x.data.v]) (#[v.v]) (by first | (rw [Enc.size_eq, Enc.size_eq]; done) | rfl)
  rw [show (joinA [#[.int .u8 x.program.toNat], #[x.accounts.v]]).size = 2 from (by rw [joinA_size]; simp only [List.map, Enc.size_eq]; rfl)] at h
  exact h
def Instr.ok (w : World) (x : Instr) : Prop := (∃ l : List (UInt8), SlR w x.accounts.v l ∧ ∀ e ∈ l, True) ∧ (∃ l : List (UInt8), SlR w x.data.v l ∧ ∀ e ∈ l, True)
theorem Instr.ok.bel {w w' : World} {x : Instr} (hb : Bel w w') (h : Instr.ok w x) : Instr.ok w' x := by
  unfold Instr.ok at h ⊢
  obtain ⟨⟨l0, g0⟩, ⟨l1, g1⟩⟩ := h
  exact ⟨(⟨_, g0.1.bel hb, fun e he => trivial⟩), (⟨_, g1.1.bel hb, fun e he => trivial⟩)⟩
theorem rdw_Instr : RdW Try.prog 90 Instr Instr.ok := by
  intro H enc w fuel cs d ps hr
  obtain ⟨hend, fuel', hf⟩ := rdS Try.underlying90 inferInstance hr
  obtain ⟨d0, ps0, h0⟩ := hf 0 _ 5 0 1 rfl rfl rfl inferInstance
  obtain ⟨x0, e0⟩ := rd_u8' inferInstance h0
  obtain ⟨d1, ps1, h1⟩ := hf 1 _ 37 1 1 rfl rfl rfl inferInstance
  obtain ⟨x1, e1, i1⟩ := rd_slv (α := UInt8) inferInstance rdw_u8 inferInstance h1
  obtain ⟨d2, ps2, h2⟩ := hf 2 _ 37 2 1 rfl rfl rfl inferInstance
  obtain ⟨x2, e2, i2⟩ := rd_slv (α := UInt8) inferInstance rdw_u8 inferInstance h2
  have k2 := cells_cut e2 hend
  have k1 := cells_cut e1 k2
  have k0 := cells_cut e0 k1
  refine ⟨⟨x0, x1, x2⟩, ?_, ⟨i1, i2⟩⟩
  rw [Instr.enc_eq]; simp only [Instr.parts, joinA_toList_cons, joinA_nil]
  rw [List.drop_zero] at k0; rw [k0]; try simp

structure Lookup where
  table : Vector UInt8 32
  writes : SlV
  reads : SlV
def Lookup.parts (x : Lookup) : List (Array Value) := [Enc.enc x.table, #[x.writes.v], #[x.reads.v]]
theorem Lookup.sizes (x : Lookup) : x.parts.map Array.size = [32, 1, 1] := by
  simp only [Lookup.parts, List.map, Enc.size_eq]; rfl
instance : Enc Lookup where
  enc x := joinA x.parts
  sz := 34
  pos := by omega
  size_eq x := by rw [joinA_size, Lookup.sizes]; rfl
  one x := joinA_one (all_cons (Enc.one _) (all_cons (Enc.one (α := SlV) _) (all_cons (Enc.one (α := SlV) _) all_nil)))
theorem Lookup.enc_eq (x : Lookup) : Enc.enc x = joinA x.parts := rfl
theorem Lookup.ex_table (x : Lookup) : (Enc.enc x).extract 0 (0 + 32) = Enc.enc x.table := joinA_ex [] [#[x.writes.v], #[x.reads.v]] _ (by rw [joinA_size]; simp only [List.map, Enc.size_eq]; rfl) (by rw [Enc.size_eq]; rfl)
theorem Lookup.at_writes (x : Lookup) : (Enc.enc x)[32]? = some (x.writes.v) := joinA_at [Enc.enc x.table] [#[x.reads.v]] _ (by rw [joinA_size]; simp only [List.map, Enc.size_eq]; rfl)
theorem Lookup.at_reads (x : Lookup) : (Enc.enc x)[33]? = some (x.reads.v) := joinA_at [Enc.enc x.table, #[x.writes.v]] [] _ (by rw [joinA_size]; simp only [List.map, Enc.size_eq]; rfl)
theorem Lookup.set_table (x : Lookup) (v : Vector UInt8 32) : spl (Enc.enc x) 0 (Enc.enc v) = Enc.enc { x with table := v } := by
  have h := spl_join [] [#[x.writes.v], #[x.reads.v]] (Enc.enc x.table) (Enc.enc v) (by first | (rw [Enc.size_eq, Enc.size_eq]; done) | rfl)
  rw [show (joinA []).size = 0 from (by rw [joinA_size]; simp only [List.map, Enc.size_eq]; rfl)] at h
  exact h
theorem Lookup.set_writes (x : Lookup) (v : SlV) : spl (Enc.enc x) 32 #[v.v] = Enc.enc { x with writes := v } := by
  have h := spl_join [Enc.enc x.table] [#[x.reads.v]] (#[x.writes.v]) (#[v.v]) (by first | (rw [Enc.size_eq, Enc.size_eq]; done) | rfl)
  rw [show (joinA [Enc.enc x.table]).size = 32 from (by rw [joinA_size]; simp only [List.map, Enc.size_eq]; rfl)] at h
  exact h
theorem Lookup.set_reads (x : Lookup) (v : SlV) : spl (Enc.enc x) 33 #[v.v] = Enc.enc { x with reads := v } := by
  have h := spl_join [Enc.enc x.table, #[x.writes.v]] [] (#[x.reads.v]) (#[v.v]) (by first | (rw [Enc.size_eq, Enc.size_eq]; done) | rfl)
  rw [show (joinA [Enc.enc x.table, #[x.writes.v]]).size = 33 from (by rw [joinA_size]; simp only [List.map, Enc.size_eq]; rfl)] at h
  exact h
def Lookup.ok (w : World) (x : Lookup) : Prop := (∃ l : List (UInt8), SlR w x.writes.v l ∧ ∀ e ∈ l, True) ∧ (∃ l : List (UInt8), SlR w x.reads.v l ∧ ∀ e ∈ l, True)
theorem Lookup.ok.bel {w w' : World} {x : Lookup} (hb : Bel w w') (h : Lookup.ok w x) : Lookup.ok w' x := by
  unfold Lookup.ok at h ⊢
  obtain ⟨⟨l0, g0⟩, ⟨l1, g1⟩⟩ := h
  exact ⟨(⟨_, g0.1.bel hb, fun e he => trivial⟩), (⟨_, g1.1.bel hb, fun e he => trivial⟩)⟩
theorem rdw_Lookup : RdW Try.prog 92 Lookup Lookup.ok := by
  intro H enc w fuel cs d ps hr
  obtain ⟨hend, fuel', hf⟩ := rdS Try.underlying92 inferInstance hr
  obtain ⟨d0, ps0, h0⟩ := hf 0 _ 58 0 32 rfl rfl rfl inferInstance
  obtain ⟨x0, e0, i0⟩ := rd_of rdw_vec h0
  obtain ⟨d1, ps1, h1⟩ := hf 1 _ 37 32 1 rfl rfl rfl inferInstance
  obtain ⟨x1, e1, i1⟩ := rd_slv (α := UInt8) inferInstance rdw_u8 inferInstance h1
  obtain ⟨d2, ps2, h2⟩ := hf 2 _ 37 33 1 rfl rfl rfl inferInstance
  obtain ⟨x2, e2, i2⟩ := rd_slv (α := UInt8) inferInstance rdw_u8 inferInstance h2
  have k2 := cells_cut e2 hend
  have k1 := cells_cut e1 k2
  have k0 := cells_cut e0 k1
  refine ⟨⟨x0, x1, x2⟩, ?_, ⟨i1, i2⟩⟩
  rw [Lookup.enc_eq]; simp only [Lookup.parts, joinA_toList_cons, joinA_nil]
  rw [List.drop_zero] at k0; rw [k0]; try simp

structure Message where
  v0 : Bool
  header : Header
  keys : SlV
  recent : Vector UInt8 32
  instrs : SlV
  lookups : SlV
def Message.parts (x : Message) : List (Array Value) := [#[.bool x.v0], Enc.enc x.header, #[x.keys.v], Enc.enc x.recent, #[x.instrs.v], #[x.lookups.v]]
theorem Message.sizes (x : Message) : x.parts.map Array.size = [1, 3, 1, 32, 1, 1] := by
  simp only [Message.parts, List.map, Enc.size_eq]; rfl
instance : Enc Message where
  enc x := joinA x.parts
  sz := 39
  pos := by omega
  size_eq x := by rw [joinA_size, Message.sizes]; rfl
  one x := joinA_one (all_cons (Enc.one (α := Bool) _) (all_cons (Enc.one _) (all_cons (Enc.one (α := SlV) _) (all_cons (Enc.one _) (all_cons (Enc.one (α := SlV) _) (all_cons (Enc.one (α := SlV) _) all_nil))))))
theorem Message.enc_eq (x : Message) : Enc.enc x = joinA x.parts := rfl
theorem Message.at_v0 (x : Message) : (Enc.enc x)[0]? = some (.bool x.v0) := joinA_at [] [Enc.enc x.header, #[x.keys.v], Enc.enc x.recent, #[x.instrs.v], #[x.lookups.v]] _ (by rw [joinA_size]; simp only [List.map, Enc.size_eq]; rfl)
theorem Message.ex_header (x : Message) : (Enc.enc x).extract 1 (1 + 3) = Enc.enc x.header := joinA_ex [#[.bool x.v0]] [#[x.keys.v], Enc.enc x.recent, #[x.instrs.v], #[x.lookups.v]] _ (by rw [joinA_size]; simp only [List.map, Enc.size_eq]; rfl) (by rw [Enc.size_eq]; rfl)
theorem Message.at_keys (x : Message) : (Enc.enc x)[4]? = some (x.keys.v) := joinA_at [#[.bool x.v0], Enc.enc x.header] [Enc.enc x.recent, #[x.instrs.v], #[x.lookups.v]] _ (by rw [joinA_size]; simp only [List.map, Enc.size_eq]; rfl)
theorem Message.ex_recent (x : Message) : (Enc.enc x).extract 5 (5 + 32) = Enc.enc x.recent := joinA_ex [#[.bool x.v0], Enc.enc x.header, #[x.keys.v]] [#[x.instrs.v], #[x.lookups.v]] _ (by rw [joinA_size]; simp only [List.map, Enc.size_eq]; rfl) (by rw [Enc.size_eq]; rfl)
theorem Message.at_instrs (x : Message) : (Enc.enc x)[37]? = some (x.instrs.v) := joinA_at [#[.bool x.v0], Enc.enc x.header, #[x.keys.v], Enc.enc x.recent] [#[x.lookups.v]] _ (by rw [joinA_size]; simp only [List.map, Enc.size_eq]; rfl)
theorem Message.at_lookups (x : Message) : (Enc.enc x)[38]? = some (x.lookups.v) := joinA_at [#[.bool x.v0], Enc.enc x.header, #[x.keys.v], Enc.enc x.recent, #[x.instrs.v]] [] _ (by rw [joinA_size]; simp only [List.map, Enc.size_eq]; rfl)
theorem Message.set_v0 (x : Message) (v : Bool) : spl (Enc.enc x) 0 #[.bool v] = Enc.enc { x with v0 := v } := by
  have h := spl_join [] [Enc.enc x.header, #[x.keys.v], Enc.enc x.recent, #[x.instrs.v], #[x.lookups.v]] (#[.bool x.v0]) (#[.bool v]) (by first | (rw [Enc.size_eq, Enc.size_eq]; done) | rfl)
  rw [show (joinA []).size = 0 from (by rw [joinA_size]; simp only [List.map, Enc.size_eq]; rfl)] at h
  exact h
theorem Message.set_header (x : Message) (v : Header) : spl (Enc.enc x) 1 (Enc.enc v) = Enc.enc { x with header := v } := by
  have h := spl_join [#[.bool x.v0]] [#[x.keys.v], Enc.enc x.recent, #[x.instrs.v], #[x.lookups.v]] (Enc.enc x.header) (Enc.enc v) (by first | (rw [Enc.size_eq, Enc.size_eq]; done) | rfl)
  rw [show (joinA [#[.bool x.v0]]).size = 1 from (by rw [joinA_size]; simp only [List.map, Enc.size_eq]; rfl)] at h
  exact h
theorem Message.set_keys (x : Message) (v : SlV) : spl (Enc.enc x) 4 #[v.v] = Enc.enc { x with keys := v } := by
  have h := spl_join [#[.bool x.v0], Enc.enc x.header] [Enc.enc x.recent, #[x.instrs.v], #[x.lookups.v]] (#[x.keys.v]) (#[v.v]) (by first | (rw [Enc.size_eq, Enc.size_eq]; done) | rfl)
  rw [show (joinA [#[.bool x.v0], Enc.enc x.header]).size = 4 from (by rw [joinA_size]; simp only [List.map, Enc.size_eq]; rfl)] at h
  exact h
theorem Message.set_recent (x : Message) (v : Vector UInt8 32) : spl (Enc.enc x) 5 (Enc.enc v) = Enc.enc { x with recent := v } := by
  have h := spl_join [#[.bool x.v0], Enc.enc x.header, #[x.keys.v]] [#[x.instrs.v], #[x.lookups.v]] (Enc.enc x.recent) (Enc.enc v) (by first | (rw [Enc.size_eq, Enc.size_eq]; done) | rfl)
  rw [show (joinA [#[.bool x.v0], Enc.enc x.header, #[x.keys.v]]).size = 5 from (by rw [joinA_size]; simp only [List.map, Enc.size_eq]; rfl)] at h
  exact h
theorem Message.set_instrs (x : Message) (v : SlV) : spl (Enc.enc x) 37 #[v.v] = Enc.enc { x with instrs := v } := by
  have h := spl_join [#[.bool x.v0], Enc.enc x.header, #[x.keys.v], Enc.enc x.recent] [#[x.lookups.v]] (#[x.instrs.v]) (#[v.v]) (by first | (rw [Enc.size_eq, Enc.size_eq]; done) | rfl)
  rw [show (joinA [#[.bool x.v0], Enc.enc x.header, #[x.keys.v], Enc.enc x.recent]).size = 37 from (by rw [joinA_size]; simp only [List.map, Enc.size_eq]; rfl)] at h
  exact h
theorem Message.set_lookups (x : Message) (v : SlV) : spl (Enc.enc x) 38 #[v.v] = Enc.enc { x with lookups := v } := by
  have h := spl_join [#[.bool x.v0], Enc.enc x.header, #[x.keys.v], Enc.enc x.recent, #[x.instrs.v]] [] (#[x.lookups.v]) (#[v.v]) (by first | (rw [Enc.size_eq, Enc.size_eq]; done) | rfl)
  rw [show (joinA [#[.bool x.v0], Enc.enc x.header, #[x.keys.v], Enc.enc x.recent, #[x.instrs.v]]).size = 38 from (by rw [joinA_size]; simp only [List.map, Enc.size_eq]; rfl)] at h
  exact h
theorem Message.at_header_signers (x : Message) : (Enc.enc x)[1]? = some (.int .u8 x.header.signers.toNat) := at_of_ex (i := 0) (Message.ex_header x) (Header.at_signers x.header) (by decide)
theorem Message.at_header_readSigned (x : Message) : (Enc.enc x)[2]? = some (.int .u8 x.header.readSigned.toNat) := at_of_ex (i := 1) (Message.ex_header x) (Header.at_readSigned x.header) (by decide)
theorem Message.at_header_readOther (x : Message) : (Enc.enc x)[3]? = some (.int .u8 x.header.readOther.toNat) := at_of_ex (i := 2) (Message.ex_header x) (Header.at_readOther x.header) (by decide)
def Message.ok (w : World) (x : Message) : Prop := (Header.ok w x.header) ∧ (∃ l : List (Vector UInt8 32), SlR w x.keys.v l ∧ ∀ e ∈ l, True) ∧ (∃ l : List (Instr), SlR w x.instrs.v l ∧ ∀ e ∈ l, Instr.ok w e) ∧ (∃ l : List (Lookup), SlR w x.lookups.v l ∧ ∀ e ∈ l, Lookup.ok w e)
theorem Message.ok.bel {w w' : World} {x : Message} (hb : Bel w w') (h : Message.ok w x) : Message.ok w' x := by
  unfold Message.ok at h ⊢
  obtain ⟨g0, ⟨l1, g1⟩, ⟨l2, g2⟩, ⟨l3, g3⟩⟩ := h
  exact ⟨(Header.ok.bel hb g0), (⟨_, g1.1.bel hb, fun e he => trivial⟩), (⟨_, g2.1.bel hb, fun e he => (Instr.ok.bel hb (g2.2 e he))⟩), (⟨_, g3.1.bel hb, fun e he => (Lookup.ok.bel hb (g3.2 e he))⟩)⟩
theorem rdw_Message : RdW Try.prog 31 Message Message.ok := by
  intro H enc w fuel cs d ps hr
  obtain ⟨hend, fuel', hf⟩ := rdS Try.underlying31 inferInstance hr
  obtain ⟨d0, ps0, h0⟩ := hf 0 _ 4 0 1 rfl rfl rfl inferInstance
  obtain ⟨x0, e0⟩ := rd_bool' inferInstance h0
  obtain ⟨d1, ps1, h1⟩ := hf 1 _ 24 1 3 rfl rfl rfl inferInstance
  obtain ⟨x1, e1, i1⟩ := rd_of rdw_Header h1
  obtain ⟨d2, ps2, h2⟩ := hf 2 _ 25 4 1 rfl rfl rfl inferInstance
  obtain ⟨x2, e2, i2⟩ := rd_slv (α := Vector UInt8 32) inferInstance rdw_vec inferInstance h2
  obtain ⟨d3, ps3, h3⟩ := hf 3 _ 27 5 32 rfl rfl rfl inferInstance
  obtain ⟨x3, e3, i3⟩ := rd_of rdw_vec h3
  obtain ⟨d4, ps4, h4⟩ := hf 4 _ 28 37 1 rfl rfl rfl inferInstance
  obtain ⟨x4, e4, i4⟩ := rd_slv (α := Instr) inferInstance rdw_Instr inferInstance h4
  obtain ⟨d5, ps5, h5⟩ := hf 5 _ 29 38 1 rfl rfl rfl inferInstance
  obtain ⟨x5, e5, i5⟩ := rd_slv (α := Lookup) inferInstance rdw_Lookup inferInstance h5
  have k5 := cells_cut e5 hend
  have k4 := cells_cut e4 k5
  have k3 := cells_cut e3 k4
  have k2 := cells_cut e2 k3
  have k1 := cells_cut e1 k2
  have k0 := cells_cut e0 k1
  refine ⟨⟨x0, x1, x2, x3, x4, x5⟩, ?_, ⟨i1, i2, i4, i5⟩⟩
  rw [Message.enc_eq]; simp only [Message.parts, joinA_toList_cons, joinA_nil]
  rw [List.drop_zero] at k0; rw [k0]; try simp

structure Tx where
  sigs : SlV
  m : Message
def Tx.parts (x : Tx) : List (Array Value) := [#[x.sigs.v], Enc.enc x.m]
theorem Tx.sizes (x : Tx) : x.parts.map Array.size = [1, 39] := by
  simp only [Tx.parts, List.map, Enc.size_eq]; rfl
instance : Enc Tx where
  enc x := joinA x.parts
  sz := 40
  pos := by omega
  size_eq x := by rw [joinA_size, Tx.sizes]; rfl
  one x := joinA_one (all_cons (Enc.one (α := SlV) _) (all_cons (Enc.one _) all_nil))
theorem Tx.enc_eq (x : Tx) : Enc.enc x = joinA x.parts := rfl
theorem Tx.at_sigs (x : Tx) : (Enc.enc x)[0]? = some (x.sigs.v) := joinA_at [] [Enc.enc x.m] _ (by rw [joinA_size]; simp only [List.map, Enc.size_eq]; rfl)
theorem Tx.ex_m (x : Tx) : (Enc.enc x).extract 1 (1 + 39) = Enc.enc x.m := joinA_ex [#[x.sigs.v]] [] _ (by rw [joinA_size]; simp only [List.map, Enc.size_eq]; rfl) (by rw [Enc.size_eq]; rfl)
theorem Tx.set_sigs (x : Tx) (v : SlV) : spl (Enc.enc x) 0 #[v.v] = Enc.enc { x with sigs := v } := by
  have h := spl_join [] [Enc.enc x.m] (#[x.sigs.v]) (#[v.v]) (by first | (rw [Enc.size_eq, Enc.size_eq]; done) | rfl)
  rw [show (joinA []).size = 0 from (by rw [joinA_size]; simp only [List.map, Enc.size_eq]; rfl)] at h
  exact h
theorem Tx.set_m (x : Tx) (v : Message) : spl (Enc.enc x) 1 (Enc.enc v) = Enc.enc { x with m := v } := by
  have h := spl_join [#[x.sigs.v]] [] (Enc.enc x.m) (Enc.enc v) (by first | (rw [Enc.size_eq, Enc.size_eq]; done) | rfl)
  rw [show (joinA [#[x.sigs.v]]).size = 1 from (by rw [joinA_size]; simp only [List.map, Enc.size_eq]; rfl)] at h
  exact h
theorem Tx.at_m_v0 (x : Tx) : (Enc.enc x)[1]? = some (.bool x.m.v0) := at_of_ex (i := 0) (Tx.ex_m x) (Message.at_v0 x.m) (by decide)
theorem Tx.at_m_keys (x : Tx) : (Enc.enc x)[5]? = some (x.m.keys.v) := at_of_ex (i := 4) (Tx.ex_m x) (Message.at_keys x.m) (by decide)
theorem Tx.at_m_instrs (x : Tx) : (Enc.enc x)[38]? = some (x.m.instrs.v) := at_of_ex (i := 37) (Tx.ex_m x) (Message.at_instrs x.m) (by decide)
theorem Tx.at_m_lookups (x : Tx) : (Enc.enc x)[39]? = some (x.m.lookups.v) := at_of_ex (i := 38) (Tx.ex_m x) (Message.at_lookups x.m) (by decide)
def Tx.ok (w : World) (x : Tx) : Prop := (∃ l : List (Vector UInt8 64), SlR w x.sigs.v l ∧ ∀ e ∈ l, True) ∧ (Message.ok w x.m)
theorem Tx.ok.bel {w w' : World} {x : Tx} (hb : Bel w w') (h : Tx.ok w x) : Tx.ok w' x := by
  unfold Tx.ok at h ⊢
  obtain ⟨⟨l0, g0⟩, g1⟩ := h
  exact ⟨(⟨_, g0.1.bel hb, fun e he => trivial⟩), (Message.ok.bel hb g1)⟩
theorem rdw_Tx : RdW Try.prog 33 Tx Tx.ok := by
  intro H enc w fuel cs d ps hr
  obtain ⟨hend, fuel', hf⟩ := rdS Try.underlying33 inferInstance hr
  obtain ⟨d0, ps0, h0⟩ := hf 0 _ 22 0 1 rfl rfl rfl inferInstance
  obtain ⟨x0, e0, i0⟩ := rd_slv (α := Vector UInt8 64) inferInstance rdw_vec inferInstance h0
  obtain ⟨d1, ps1, h1⟩ := hf 1 _ 31 1 39 rfl rfl rfl inferInstance
  obtain ⟨x1, e1, i1⟩ := rd_of rdw_Message h1
  have k1 := cells_cut e1 hend
  have k0 := cells_cut e0 k1
  refine ⟨⟨x0, x1⟩, ?_, ⟨i0, i1⟩⟩
  rw [Tx.enc_eq]; simp only [Tx.parts, joinA_toList_cons, joinA_nil]
  rw [List.drop_zero] at k0; rw [k0]; try simp

def Instr.okz (w : World) (x : Instr) : Prop := (∃ l : List (UInt8), SlR w x.accounts.v l ∧ l.length * 1 ≤ 140737488351232 ∧ ∀ e ∈ l, True) ∧ (∃ l : List (UInt8), SlR w x.data.v l ∧ l.length * 1 ≤ 140737488351232 ∧ ∀ e ∈ l, True)
theorem Instr.okz.bel {w w' : World} {x : Instr} (hb : Bel w w') (h : Instr.okz w x) : Instr.okz w' x := by
  unfold Instr.okz at h ⊢
  obtain ⟨⟨l1, g1⟩, ⟨l2, g2⟩⟩ := h
  exact ⟨(⟨_, g1.1.bel hb, g1.2.1, fun e he => trivial⟩), (⟨_, g2.1.bel hb, g2.2.1, fun e he => trivial⟩)⟩
theorem rdz_Instr : RdZ Try.prog 90 Instr Instr.okz := by
  intro H enc w fuel cs d ps hr hz
  obtain ⟨hend, fuel', hf⟩ := rdSZ Try.underlying90 inferInstance hr hz
  obtain ⟨d0, ps0, h0, u0⟩ := hf 0 _ 5 0 1 rfl rfl rfl inferInstance
  obtain ⟨x0, e0⟩ := rd_u8' inferInstance h0
  obtain ⟨d1, ps1, h1, u1⟩ := hf 1 _ 37 1 1 rfl rfl rfl inferInstance
  obtain ⟨x1, e1, i1⟩ := rd_slvZ (α := UInt8) inferInstance rdw_u8.z inferInstance inferInstance h1 u1
  obtain ⟨d2, ps2, h2, u2⟩ := hf 2 _ 37 2 1 rfl rfl rfl inferInstance
  obtain ⟨x2, e2, i2⟩ := rd_slvZ (α := UInt8) inferInstance rdw_u8.z inferInstance inferInstance h2 u2
  have k2 := cells_cut e2 hend
  have k1 := cells_cut e1 k2
  have k0 := cells_cut e0 k1
  refine ⟨⟨x0, x1, x2⟩, ?_, ⟨i1, i2⟩⟩
  rw [Instr.enc_eq]; simp only [Instr.parts, joinA_toList_cons, joinA_nil]
  rw [List.drop_zero] at k0; rw [k0]; try simp

def Lookup.okz (w : World) (x : Lookup) : Prop := (∃ l : List (UInt8), SlR w x.writes.v l ∧ l.length * 1 ≤ 140737488351232 ∧ ∀ e ∈ l, True) ∧ (∃ l : List (UInt8), SlR w x.reads.v l ∧ l.length * 1 ≤ 140737488351232 ∧ ∀ e ∈ l, True)
theorem Lookup.okz.bel {w w' : World} {x : Lookup} (hb : Bel w w') (h : Lookup.okz w x) : Lookup.okz w' x := by
  unfold Lookup.okz at h ⊢
  obtain ⟨⟨l1, g1⟩, ⟨l2, g2⟩⟩ := h
  exact ⟨(⟨_, g1.1.bel hb, g1.2.1, fun e he => trivial⟩), (⟨_, g2.1.bel hb, g2.2.1, fun e he => trivial⟩)⟩
theorem rdz_Lookup : RdZ Try.prog 92 Lookup Lookup.okz := by
  intro H enc w fuel cs d ps hr hz
  obtain ⟨hend, fuel', hf⟩ := rdSZ Try.underlying92 inferInstance hr hz
  obtain ⟨d0, ps0, h0, u0⟩ := hf 0 _ 58 0 32 rfl rfl rfl inferInstance
  obtain ⟨x0, e0, i0⟩ := rd_of rdw_vec h0
  obtain ⟨d1, ps1, h1, u1⟩ := hf 1 _ 37 32 1 rfl rfl rfl inferInstance
  obtain ⟨x1, e1, i1⟩ := rd_slvZ (α := UInt8) inferInstance rdw_u8.z inferInstance inferInstance h1 u1
  obtain ⟨d2, ps2, h2, u2⟩ := hf 2 _ 37 33 1 rfl rfl rfl inferInstance
  obtain ⟨x2, e2, i2⟩ := rd_slvZ (α := UInt8) inferInstance rdw_u8.z inferInstance inferInstance h2 u2
  have k2 := cells_cut e2 hend
  have k1 := cells_cut e1 k2
  have k0 := cells_cut e0 k1
  refine ⟨⟨x0, x1, x2⟩, ?_, ⟨i1, i2⟩⟩
  rw [Lookup.enc_eq]; simp only [Lookup.parts, joinA_toList_cons, joinA_nil]
  rw [List.drop_zero] at k0; rw [k0]; try simp

def Message.okz (w : World) (x : Message) : Prop := (Header.ok w x.header) ∧ (∃ l : List (Vector UInt8 32), SlR w x.keys.v l ∧ l.length * 32 ≤ 140737488351232 ∧ ∀ e ∈ l, True) ∧ (∃ l : List (Instr), SlR w x.instrs.v l ∧ l.length * 56 ≤ 140737488351232 ∧ ∀ e ∈ l, Instr.okz w e) ∧ (∃ l : List (Lookup), SlR w x.lookups.v l ∧ l.length * 80 ≤ 140737488351232 ∧ ∀ e ∈ l, Lookup.okz w e)
theorem Message.okz.bel {w w' : World} {x : Message} (hb : Bel w w') (h : Message.okz w x) : Message.okz w' x := by
  unfold Message.okz at h ⊢
  obtain ⟨g1, ⟨l2, g2⟩, ⟨l4, g4⟩, ⟨l5, g5⟩⟩ := h
  exact ⟨(Header.ok.bel hb g1), (⟨_, g2.1.bel hb, g2.2.1, fun e he => trivial⟩), (⟨_, g4.1.bel hb, g4.2.1, fun e he => Instr.okz.bel hb (g4.2.2 e he)⟩), (⟨_, g5.1.bel hb, g5.2.1, fun e he => Lookup.okz.bel hb (g5.2.2 e he)⟩)⟩
theorem rdz_Message : RdZ Try.prog 31 Message Message.okz := by
  intro H enc w fuel cs d ps hr hz
  obtain ⟨hend, fuel', hf⟩ := rdSZ Try.underlying31 inferInstance hr hz
  obtain ⟨d0, ps0, h0, u0⟩ := hf 0 _ 4 0 1 rfl rfl rfl inferInstance
  obtain ⟨x0, e0⟩ := rd_bool' inferInstance h0
  obtain ⟨d1, ps1, h1, u1⟩ := hf 1 _ 24 1 3 rfl rfl rfl inferInstance
  obtain ⟨x1, e1, i1⟩ := rd_of rdw_Header h1
  obtain ⟨d2, ps2, h2, u2⟩ := hf 2 _ 25 4 1 rfl rfl rfl inferInstance
  obtain ⟨x2, e2, i2⟩ := rd_slvZ (α := Vector UInt8 32) inferInstance rdw_vec.z inferInstance inferInstance h2 u2
  obtain ⟨d3, ps3, h3, u3⟩ := hf 3 _ 27 5 32 rfl rfl rfl inferInstance
  obtain ⟨x3, e3, i3⟩ := rd_of rdw_vec h3
  obtain ⟨d4, ps4, h4, u4⟩ := hf 4 _ 28 37 1 rfl rfl rfl inferInstance
  obtain ⟨x4, e4, i4⟩ := rd_slvZ (α := Instr) inferInstance rdz_Instr inferInstance inferInstance h4 u4
  obtain ⟨d5, ps5, h5, u5⟩ := hf 5 _ 29 38 1 rfl rfl rfl inferInstance
  obtain ⟨x5, e5, i5⟩ := rd_slvZ (α := Lookup) inferInstance rdz_Lookup inferInstance inferInstance h5 u5
  have k5 := cells_cut e5 hend
  have k4 := cells_cut e4 k5
  have k3 := cells_cut e3 k4
  have k2 := cells_cut e2 k3
  have k1 := cells_cut e1 k2
  have k0 := cells_cut e0 k1
  refine ⟨⟨x0, x1, x2, x3, x4, x5⟩, ?_, ⟨i1, i2, i4, i5⟩⟩
  rw [Message.enc_eq]; simp only [Message.parts, joinA_toList_cons, joinA_nil]
  rw [List.drop_zero] at k0; rw [k0]; try simp

def Tx.okz (w : World) (x : Tx) : Prop := (∃ l : List (Vector UInt8 64), SlR w x.sigs.v l ∧ l.length * 64 ≤ 140737488351232 ∧ ∀ e ∈ l, True) ∧ (Message.okz w x.m)
theorem Tx.okz.bel {w w' : World} {x : Tx} (hb : Bel w w') (h : Tx.okz w x) : Tx.okz w' x := by
  unfold Tx.okz at h ⊢
  obtain ⟨⟨l0, g0⟩, g1⟩ := h
  exact ⟨(⟨_, g0.1.bel hb, g0.2.1, fun e he => trivial⟩), (Message.okz.bel hb g1)⟩
theorem rdz_Tx : RdZ Try.prog 33 Tx Tx.okz := by
  intro H enc w fuel cs d ps hr hz
  obtain ⟨hend, fuel', hf⟩ := rdSZ Try.underlying33 inferInstance hr hz
  obtain ⟨d0, ps0, h0, u0⟩ := hf 0 _ 22 0 1 rfl rfl rfl inferInstance
  obtain ⟨x0, e0, i0⟩ := rd_slvZ (α := Vector UInt8 64) inferInstance rdw_vec.z inferInstance inferInstance h0 u0
  obtain ⟨d1, ps1, h1, u1⟩ := hf 1 _ 31 1 39 rfl rfl rfl inferInstance
  obtain ⟨x1, e1, i1⟩ := rd_ofZ rdz_Message h1 u1
  have k1 := cells_cut e1 hend
  have k0 := cells_cut e0 k1
  refine ⟨⟨x0, x1⟩, ?_, ⟨i0, i1⟩⟩
  rw [Tx.enc_eq]; simp only [Tx.parts, joinA_toList_cons, joinA_nil]
  rw [List.drop_zero] at k0; rw [k0]; try simp

def lenV (v : Value) : Nat := match v with | .slice _ n _ => n | _ => 0
theorem lenV_eq {α : Type} [Enc α] {w : World} {v : Value} {xs : List α} (h : SlR w v xs) : lenV v = xs.length := by obtain ⟨a, c, rfl⟩ := h.eq; rfl
/-- how many bytes of data instructions have -/
def dataL (l : List Instr) : Nat := (l.map fun i => lenV i.data.v).sum
theorem dataL_step {l : List Instr} {k : Nat} (hk : k < l.length) : dataL (l.take (k + 1)) = dataL (l.take k) + lenV l[k].data.v := by
  unfold dataL; rw [List.take_succ_eq_append_getElem hk, List.map_append, List.sum_append]; simp

end Go.Fer
