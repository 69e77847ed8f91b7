/- the records -/
import Derived.Test.YtpaeddbfidmjbaaTypes
set_option linter.all false
namespace Go.Fer
open Go Go.Proofs Go.RowKit

abbrev Key := Vector UInt8 32

structure Lookup where
  table : Vector UInt8 32
  writes : SlV
  reads : SlV
def Lookup.parts (x : Lookup) : List (Array Value) := [Enc.enc x.table, #[x.writes.v], #[x.reads.v]]
theorem Lookup.sizes (x : Lookup) : x.parts.map Array.size = [32, 1, 1] := by
  simp only [Lookup.parts, List.map, Enc.size_eq]; rfl
instance : Enc Lookup where
  enc x := joinA x.parts
  sz := 34
  pos := by omega
  size_eq x := by rw [joinA_size, Lookup.sizes]; rfl
  one x := joinA_one (all_cons (Enc.one _) (all_cons (Enc.one (α := SlV) _) (all_cons (Enc.one (α := SlV) _) all_nil)))
theorem Lookup.enc_eq (x : Lookup) : Enc.enc x = joinA x.parts := rfl
theorem Lookup.ex_table (x : Lookup) : (Enc.enc x).extract 0 (0 + 32) = Enc.enc x.table := joinA_ex [] [#[x.writes.v], #[x.reads.v]] _ (by rw [joinA_size]; simp only [List.map, Enc.size_eq]; rfl) (by rw [Enc.size_eq]; rfl)
theorem Lookup.at_writes (x : Lookup) : (Enc.enc x)[32]? = some (x.writes.v) := joinA_at [Enc.enc x.table] [#[x.reads.v]] _ (by rw [joinA_size]; simp only [List.map, Enc.size_eq]; rfl)
theorem Lookup.at_reads (x : Lookup) : (Enc.enc x)[33]? = some (x.reads.v) := joinA_at [Enc.enc x.table, #[x.writes.v]] [] _ (by rw [joinA_size]; simp only [List.map, Enc.size_eq]; rfl)
theorem Lookup.set_table (x : Lookup) (v : Vector UInt8 32) : spl (Enc.enc x) 0 (Enc.enc v) = Enc.enc { x with table := v } := by
  have h := spl_join [] [#[x.writes.v], #[x.reads.v]] (Enc.enc x.table) (Enc.enc v) (by first | (rw [Enc.size_eq, Enc.size_eq]; done) | rfl)
  rw [show (joinA []).size = 0 from (by rw [joinA_size]; simp only [List.map, Enc.size_eq]; rfl)] at h
  exact h
theorem Lookup.set_writes (x : Lookup) (v : SlV) : spl (Enc.enc x) 32 #[v.v] = Enc.enc { x with writes := v } := by
  have h := spl_join [Enc.enc x.table] [#[x.reads.v]] (#[x.writes.v]) (#[v.v]) (by first | (rw [Enc.size_eq, Enc.size_eq]; done) | rfl)
  rw [show (joinA [Enc.enc x.table]).size = 32 from (by rw [joinA_size]; simp only [List.map, Enc.size_eq]; rfl)] at h
  exact h
theorem Lookup.set_reads (x : Lookup) (v : SlV) : spl (Enc.enc x) 33 #[v.v] = Enc.enc { x with reads := v } := by
  have h := spl_join [Enc.enc x.table, #[x.writes.v]] [] (#[x.reads.v]) (#[v.v]) (by first | (rw [Enc.size_eq, Enc.size_eq]; done) | rfl)
  rw [show (joinA [Enc.enc x.table, #[x.writes.v]]).size = 33 from (by rw [joinA_size]; simp only [List.map, Enc.size_eq]; rfl)] at h
  exact h
def Lookup.ok (w : World) (x : Lookup) : Prop := (∃ l : List (UInt8), SlR w x.writes.v l ∧ ∀ e ∈ l, True) ∧ (∃ l : List (UInt8), SlR w x.reads.v l ∧ ∀ e ∈ l, True)
theorem Lookup.ok.bel {w w' : World} {x : Lookup} (hb : Bel w w') (h : Lookup.ok w x) : Lookup.ok w' x := by
  unfold Lookup.ok at h ⊢
  obtain ⟨⟨l0, g0⟩, ⟨l1, g1⟩⟩ := h
  exact ⟨(⟨_, g0.1.bel hb, fun e he => trivial⟩), (⟨_, g1.1.bel hb, fun e he => trivial⟩)⟩
theorem rdw_Lookup : RdW Try.prog 45 Lookup Lookup.ok := by
  intro H enc w fuel cs d ps hr
  obtain ⟨hend, fuel', hf⟩ := rdS Try.underlying45 inferInstance hr
  obtain ⟨d0, ps0, h0⟩ := hf 0 _ 36 0 32 rfl rfl rfl inferInstance
  obtain ⟨x0, e0, i0⟩ := rd_of rdw_vec h0
  obtain ⟨d1, ps1, h1⟩ := hf 1 _ 43 32 1 rfl rfl rfl inferInstance
  obtain ⟨x1, e1, i1⟩ := rd_slv (α := UInt8) inferInstance rdw_u8 inferInstance h1
  obtain ⟨d2, ps2, h2⟩ := hf 2 _ 43 33 1 rfl rfl rfl inferInstance
  obtain ⟨x2, e2, i2⟩ := rd_slv (α := UInt8) inferInstance rdw_u8 inferInstance h2
  have k2 := cells_cut e2 hend
  have k1 := cells_cut e1 k2
  have k0 := cells_cut e0 k1
  refine ⟨⟨x0, x1, x2⟩, ?_, ⟨i1, i2⟩⟩
  rw [Lookup.enc_eq]; simp only [Lookup.parts, joinA_toList_cons, joinA_nil]
  rw [List.drop_zero] at k0; rw [k0]; try simp

structure Act where
  kind : UInt8
  table : Vector UInt8 32
  keys : SlV
  l : SlV
def Act.parts (x : Act) : List (Array Value) := [#[.int .u8 x.kind.toNat], Enc.enc x.table, #[x.keys.v], #[x.l.v]]
theorem Act.sizes (x : Act) : x.parts.map Array.size = [1, 32, 1, 1] := by
  simp only [Act.parts, List.map, Enc.size_eq]; rfl
instance : Enc Act where
  enc x := joinA x.parts
  sz := 35
  pos := by omega
  size_eq x := by rw [joinA_size, Act.sizes]; rfl
  one x := joinA_one (all_cons (one_int _ _) (all_cons (Enc.one _) (all_cons (Enc.one (α := SlV) _) (all_cons (Enc.one (α := SlV) _) all_nil))))
theorem Act.enc_eq (x : Act) : Enc.enc x = joinA x.parts := rfl
theorem Act.at_kind (x : Act) : (Enc.enc x)[0]? = some (.int .u8 x.kind.toNat) := joinA_at [] [Enc.enc x.table, #[x.keys.v], #[x.l.v]] _ (by rw [joinA_size]; simp only [List.map, Enc.size_eq]; rfl)
theorem Act.ex_table (x : Act) : (Enc.enc x).extract 1 (1 + 32) = Enc.enc x.table := joinA_ex [#[.int .u8 x.kind.toNat]] [#[x.keys.v], #[x.l.v]] _ (by rw [joinA_size]; simp only [List.map, Enc.size_eq]; rfl) (by rw [Enc.size_eq]; rfl)
theorem Act.at_keys (x : Act) : (Enc.enc x)[33]? = some (x.keys.v) := joinA_at [#[.int .u8 x.kind.toNat], Enc.enc x.table] [#[x.l.v]] _ (by rw [joinA_size]; simp only [List.map, Enc.size_eq]; rfl)
theorem Act.at_l (x : Act) : (Enc.enc x)[34]? = some (x.l.v) := joinA_at [#[.int .u8 x.kind.toNat], Enc.enc x.table, #[x.keys.v]] [] _ (by rw [joinA_size]; simp only [List.map, Enc.size_eq]; rfl)
theorem Act.set_kind (x : Act) (v : UInt8) : spl (Enc.enc x) 0 #[.int .u8 v.toNat] = Enc.enc { x with kind := v } := by
  have h := spl_join [] [Enc.enc x.table, #[x.keys.v], #[x.l.v]] (#[.int .u8 x.kind.toNat]) (#[.int .u8 v.toNat]) (by first | (rw [Enc.size_eq, Enc.size_eq]; done) | rfl)
  rw [show (joinA []).size = 0 from (by rw [joinA_size]; simp only [List.map, Enc.size_eq]; rfl)] at h
  exact h
theorem Act.set_table (x : Act) (v : Vector UInt8 32) : spl (Enc.enc x) 1 (Enc.enc v) = Enc.enc { x with table := v } := by
  have h := spl_join [#[.int .u8 x.kind.toNat]] [#[x.keys.v], #[x.l.v]] (Enc.enc x.table) (Enc.enc v) (by first | (rw [Enc.size_eq, Enc.size_eq]; done) | rfl)
  rw [show (joinA [#[.int .u8 x.kind.toNat]]).size = 1 from (by rw [joinA_size]; simp only [List.map, Enc.size_eq]; rfl)] at h
  exact h
theorem Act.set_keys (x : Act) (v : SlV) : spl (Enc.enc x) 33 #[v.v] = Enc.enc { x with keys := v } := by
  have h := spl_join [#[.int .u8 x.kind.toNat], Enc.enc x.table] [#[x.l.v]] (#[x.keys.v]) (#[v.v]) (by first | (rw [Enc.size_eq, Enc.size_eq]; done) | rfl)
  rw [show (joinA [#[.int .u8 x.kind.toNat], Enc.enc x.table]).size = 33 from (by rw [joinA_size]; simp only [List.map, Enc.size_eq]; rfl)] at h
  exact h
theorem Act.set_l (x : Act) (v : SlV) : spl (Enc.enc x) 34 #[v.v] = Enc.enc { x with l := v } := by
  have h := spl_join [#[.int .u8 x.kind.toNat], Enc.enc x.table, #[x.keys.v]] [] (#[x.l.v]) (#[v.v]) (by first | (rw [Enc.size_eq, Enc.size_eq]; done) | rfl)
  rw [show (joinA [#[.int .u8 x.kind.toNat], Enc.enc x.table, #[x.keys.v]]).size = 34 from (by rw [joinA_size]; simp only [List.map, Enc.size_eq]; rfl)] at h
  exact h
def Act.ok (w : World) (x : Act) : Prop := (∃ l : List (Vector UInt8 32), SlR w x.keys.v l ∧ ∀ e ∈ l, True) ∧ (∃ l : List (Lookup), SlR w x.l.v l ∧ ∀ e ∈ l, Lookup.ok w e)
theorem Act.ok.bel {w w' : World} {x : Act} (hb : Bel w w') (h : Act.ok w x) : Act.ok w' x := by
  unfold Act.ok at h ⊢
  obtain ⟨⟨l0, g0⟩, ⟨l1, g1⟩⟩ := h
  exact ⟨(⟨_, g0.1.bel hb, fun e he => trivial⟩), (⟨_, g1.1.bel hb, fun e he => (Lookup.ok.bel hb (g1.2 e he))⟩)⟩
theorem rdw_Act : RdW Try.prog 38 Act Act.ok := by
  intro H enc w fuel cs d ps hr
  obtain ⟨hend, fuel', hf⟩ := rdS Try.underlying38 inferInstance hr
  obtain ⟨d0, ps0, h0⟩ := hf 0 _ 5 0 1 rfl rfl rfl inferInstance
  obtain ⟨x0, e0⟩ := rd_u8' inferInstance h0
  obtain ⟨d1, ps1, h1⟩ := hf 1 _ 36 1 32 rfl rfl rfl inferInstance
  obtain ⟨x1, e1, i1⟩ := rd_of rdw_vec h1
  obtain ⟨d2, ps2, h2⟩ := hf 2 _ 29 33 1 rfl rfl rfl inferInstance
  obtain ⟨x2, e2, i2⟩ := rd_slv (α := Vector UInt8 32) inferInstance rdw_vec inferInstance h2
  obtain ⟨d3, ps3, h3⟩ := hf 3 _ 23 34 1 rfl rfl rfl inferInstance
  obtain ⟨x3, e3, i3⟩ := rd_slv (α := Lookup) inferInstance rdw_Lookup inferInstance h3
  have k3 := cells_cut e3 hend
  have k2 := cells_cut e2 k3
  have k1 := cells_cut e1 k2
  have k0 := cells_cut e0 k1
  refine ⟨⟨x0, x1, x2, x3⟩, ?_, ⟨i2, i3⟩⟩
  rw [Act.enc_eq]; simp only [Act.parts, joinA_toList_cons, joinA_nil]
  rw [List.drop_zero] at k0; rw [k0]; try simp

structure TbS where
  of : Option Nat
def TbS.parts (x : TbS) : List (Array Value) := [#[.map x.of]]
theorem TbS.sizes (x : TbS) : x.parts.map Array.size = [1] := by
  simp only [TbS.parts, List.map, Enc.size_eq]; rfl
instance : Enc TbS where
  enc x := joinA x.parts
  sz := 1
  pos := by omega
  size_eq x := by rw [joinA_size, TbS.sizes]; rfl
  one x := joinA_one (all_cons (one_map _) all_nil)
theorem TbS.enc_eq (x : TbS) : Enc.enc x = joinA x.parts := rfl
theorem TbS.at_of (x : TbS) : (Enc.enc x)[0]? = some (.map x.of) := joinA_at [] [] _ (by rw [joinA_size]; simp only [List.map, Enc.size_eq]; rfl)
theorem TbS.set_of (x : TbS) (v : Option Nat) : spl (Enc.enc x) 0 #[.map v] = Enc.enc { x with of := v } := by
  have h := spl_join [] [] (#[.map x.of]) (#[.map v]) (by first | (rw [Enc.size_eq, Enc.size_eq]; done) | rfl)
  rw [show (joinA []).size = 0 from (by rw [joinA_size]; simp only [List.map, Enc.size_eq]; rfl)] at h
  exact h

def Lookup.okz (w : World) (x : Lookup) : Prop := (∃ l : List (UInt8), SlR w x.writes.v l ∧ l.length * 1 ≤ 140737488351232 ∧ ∀ e ∈ l, True) ∧ (∃ l : List (UInt8), SlR w x.reads.v l ∧ l.length * 1 ≤ 140737488351232 ∧ ∀ e ∈ l, True)
theorem Lookup.okz.bel {w w' : World} {x : Lookup} (hb : Bel w w') (h : Lookup.okz w x) : Lookup.okz w' x := by
  unfold Lookup.okz at h ⊢
  obtain ⟨⟨l1, g1⟩, ⟨l2, g2⟩⟩ := h
  exact ⟨(⟨_, g1.1.bel hb, g1.2.1, fun e he => trivial⟩), (⟨_, g2.1.bel hb, g2.2.1, fun e he => trivial⟩)⟩
theorem rdz_Lookup : RdZ Try.prog 45 Lookup Lookup.okz := by
  intro H enc w fuel cs d ps hr hz
  obtain ⟨hend, fuel', hf⟩ := rdSZ Try.underlying45 inferInstance hr hz
  obtain ⟨d0, ps0, h0, u0⟩ := hf 0 _ 36 0 32 rfl rfl rfl inferInstance
  obtain ⟨x0, e0, i0⟩ := rd_of rdw_vec h0
  obtain ⟨d1, ps1, h1, u1⟩ := hf 1 _ 43 32 1 rfl rfl rfl inferInstance
  obtain ⟨x1, e1, i1⟩ := rd_slvZ (α := UInt8) inferInstance rdw_u8.z inferInstance inferInstance h1 u1
  obtain ⟨d2, ps2, h2, u2⟩ := hf 2 _ 43 33 1 rfl rfl rfl inferInstance
  obtain ⟨x2, e2, i2⟩ := rd_slvZ (α := UInt8) inferInstance rdw_u8.z inferInstance inferInstance h2 u2
  have k2 := cells_cut e2 hend
  have k1 := cells_cut e1 k2
  have k0 := cells_cut e0 k1
  refine ⟨⟨x0, x1, x2⟩, ?_, ⟨i1, i2⟩⟩
  rw [Lookup.enc_eq]; simp only [Lookup.parts, joinA_toList_cons, joinA_nil]
  rw [List.drop_zero] at k0; rw [k0]; try simp

def Act.okz (w : World) (x : Act) : Prop := (∃ l : List (Vector UInt8 32), SlR w x.keys.v l ∧ l.length * 32 ≤ 140737488351232 ∧ ∀ e ∈ l, True) ∧ (∃ l : List (Lookup), SlR w x.l.v l ∧ l.length * 80 ≤ 140737488351232 ∧ ∀ e ∈ l, Lookup.okz w e)
theorem Act.okz.bel {w w' : World} {x : Act} (hb : Bel w w') (h : Act.okz w x) : Act.okz w' x := by
  unfold Act.okz at h ⊢
  obtain ⟨⟨l2, g2⟩, ⟨l3, g3⟩⟩ := h
  exact ⟨(⟨_, g2.1.bel hb, g2.2.1, fun e he => trivial⟩), (⟨_, g3.1.bel hb, g3.2.1, fun e he => Lookup.okz.bel hb (g3.2.2 e he)⟩)⟩
theorem rdz_Act : RdZ Try.prog 38 Act Act.okz := by
  intro H enc w fuel cs d ps hr hz
  obtain ⟨hend, fuel', hf⟩ := rdSZ Try.underlying38 inferInstance hr hz
  obtain ⟨d0, ps0, h0, u0⟩ := hf 0 _ 5 0 1 rfl rfl rfl inferInstance
  obtain ⟨x0, e0⟩ := rd_u8' inferInstance h0
  obtain ⟨d1, ps1, h1, u1⟩ := hf 1 _ 36 1 32 rfl rfl rfl inferInstance
  obtain ⟨x1, e1, i1⟩ := rd_of rdw_vec h1
  obtain ⟨d2, ps2, h2, u2⟩ := hf 2 _ 29 33 1 rfl rfl rfl inferInstance
  obtain ⟨x2, e2, i2⟩ := rd_slvZ (α := Vector UInt8 32) inferInstance rdw_vec.z inferInstance inferInstance h2 u2
  obtain ⟨d3, ps3, h3, u3⟩ := hf 3 _ 23 34 1 rfl rfl rfl inferInstance
  obtain ⟨x3, e3, i3⟩ := rd_slvZ (α := Lookup) inferInstance rdz_Lookup inferInstance inferInstance h3 u3
  have k3 := cells_cut e3 hend
  have k2 := cells_cut e2 k3
  have k1 := cells_cut e1 k2
  have k0 := cells_cut e0 k1
  refine ⟨⟨x0, x1, x2, x3⟩, ?_, ⟨i2, i3⟩⟩
  rw [Act.enc_eq]; simp only [Act.parts, joinA_toList_cons, joinA_nil]
  rw [List.drop_zero] at k0; rw [k0]; try simp

end Go.Fer
