/- the records -/
import Derived.Test.YtppgmnljciakhaaTypes
import Derived.Test.YtppgmnljciakhaaTails
set_option linter.all false
namespace Go.Fer
open Go Go.Proofs Go.RowKit

structure Ring where
  l : SlV
  from_ : Int
  many : Int
def Ring.parts (x : Ring) : List (Array Value) := [#[x.l.v], #[.int .i64 x.from_], #[.int .i64 x.many]]
theorem Ring.sizes (x : Ring) : x.parts.map Array.size = [1, 1, 1] := by
  simp only [Ring.parts, List.map, Enc.size_eq]; rfl
instance : Enc Ring where
  enc x := joinA x.parts
  sz := 3
  pos := by omega
  size_eq x := by rw [joinA_size, Ring.sizes]; rfl
  one x := joinA_one (all_cons (Enc.one (α := SlV) _) (all_cons (one_int _ _) (all_cons (one_int _ _) all_nil)))
theorem Ring.enc_eq (x : Ring) : Enc.enc x = joinA x.parts := rfl
theorem Ring.at_l (x : Ring) : (Enc.enc x)[0]? = some (x.l.v) := joinA_at [] [#[.int .i64 x.from_], #[.int .i64 x.many]] _ (by rw [joinA_size]; simp only [List.map, Enc.size_eq]; rfl)
theorem Ring.at_from_ (x : Ring) : (Enc.enc x)[1]? = some (.int .i64 x.from_) := joinA_at [#[x.l.v]] [#[.int .i64 x.many]] _ (by rw [joinA_size]; simp only [List.map, Enc.size_eq]; rfl)
theorem Ring.at_many (x : Ring) : (Enc.enc x)[2]? = some (.int .i64 x.many) := joinA_at [#[x.l.v], #[.int .i64 x.from_]] [] _ (by rw [joinA_size]; simp only [List.map, Enc.size_eq]; rfl)
theorem Ring.set_l (x : Ring) (v : SlV) : spl (Enc.enc x) 0 #[v.v] = Enc.enc { x with l := v } := by
  have h := spl_join [] [#[.int .i64 x.from_], #[.int .i64 x.many]] (#[x.l.v]) (#[v.v]) (by first | (rw [Enc.size_eq, Enc.size_eq]; done) | rfl)
  rw [show (joinA []).size = 0 from (by rw [joinA_size]; simp only [List.map, Enc.size_eq]; rfl)] at h
  exact h
theorem Ring.set_from_ (x : Ring) (v : Int) : spl (Enc.enc x) 1 #[.int .i64 v] = Enc.enc { x with from_ := v } := by
  have h := spl_join [#[x.l.v]] [#[.int .i64 x.many]] (#[.int .i64 x.from_]) (#[.int .i64 v]) (by first | (rw [Enc.size_eq, Enc.size_eq]; done) | rfl)
  rw [show (joinA [#[x.l.v]]).size = 1 from (by rw [joinA_size]; simp only [List.map, Enc.size_eq]; rfl)] at h
  exact h
theorem Ring.set_many (x : Ring) (v : Int) : spl (Enc.enc x) 2 #[.int .i64 v] = Enc.enc { x with many := v } := by
  have h := spl_join [#[x.l.v], #[.int .i64 x.from_]] [] (#[.int .i64 x.many]) (#[.int .i64 v]) (by first | (rw [Enc.size_eq, Enc.size_eq]; done) | rfl)
  rw [show (joinA [#[x.l.v], #[.int .i64 x.from_]]).size = 2 from (by rw [joinA_size]; simp only [List.map, Enc.size_eq]; rfl)] at h
  exact h

structure LaS where
  lanes : SlV
  count : SlV
def LaS.parts (x : LaS) : List (Array Value) := [#[x.lanes.v], #[x.count.v]]
theorem LaS.sizes (x : LaS) : x.parts.map Array.size = [1, 1] := by
  simp only [LaS.parts, List.map, Enc.size_eq]; rfl
instance : Enc LaS where
  enc x := joinA x.parts
  sz := 2
  pos := by omega
  size_eq x := by rw [joinA_size, LaS.sizes]; rfl
  one x := joinA_one (all_cons (Enc.one (α := SlV) _) (all_cons (Enc.one (α := SlV) _) all_nil))
theorem LaS.enc_eq (x : LaS) : Enc.enc x = joinA x.parts := rfl
theorem LaS.at_lanes (x : LaS) : (Enc.enc x)[0]? = some (x.lanes.v) := joinA_at [] [#[x.count.v]] _ (by rw [joinA_size]; simp only [List.map, Enc.size_eq]; rfl)
theorem LaS.at_count (x : LaS) : (Enc.enc x)[1]? = some (x.count.v) := joinA_at [#[x.lanes.v]] [] _ (by rw [joinA_size]; simp only [List.map, Enc.size_eq]; rfl)
theorem LaS.set_lanes (x : LaS) (v : SlV) : spl (Enc.enc x) 0 #[v.v] = Enc.enc { x with lanes := v } := by
  have h := spl_join [] [#[x.count.v]] (#[x.lanes.v]) (#[v.v]) (by first | (rw [Enc.size_eq, Enc.size_eq]; done) | rfl)
  rw [show (joinA []).size = 0 from (by rw [joinA_size]; simp only [List.map, Enc.size_eq]; rfl)] at h
  exact h
theorem LaS.set_count (x : LaS) (v : SlV) : spl (Enc.enc x) 1 #[v.v] = Enc.enc { x with count := v } := by
  have h := spl_join [#[x.lanes.v]] [] (#[x.count.v]) (#[v.v]) (by first | (rw [Enc.size_eq, Enc.size_eq]; done) | rfl)
  rw [show (joinA [#[x.lanes.v]]).size = 1 from (by rw [joinA_size]; simp only [List.map, Enc.size_eq]; rfl)] at h
  exact h

structure RLa where
  l : SlV
def RLa.parts (x : RLa) : List (Array Value) := [#[x.l.v]]
theorem RLa.sizes (x : RLa) : x.parts.map Array.size = [1] := by
  simp only [RLa.parts, List.map, Enc.size_eq]; rfl
instance : Enc RLa where
  enc x := joinA x.parts
  sz := 1
  pos := by omega
  size_eq x := by rw [joinA_size, RLa.sizes]; rfl
  one x := joinA_one (all_cons (Enc.one (α := SlV) _) all_nil)
theorem RLa.enc_eq (x : RLa) : Enc.enc x = joinA x.parts := rfl
theorem RLa.at_l (x : RLa) : (Enc.enc x)[0]? = some (x.l.v) := joinA_at [] [] _ (by rw [joinA_size]; simp only [List.map, Enc.size_eq]; rfl)
theorem RLa.set_l (x : RLa) (v : SlV) : spl (Enc.enc x) 0 #[v.v] = Enc.enc { x with l := v } := by
  have h := spl_join [] [] (#[x.l.v]) (#[v.v]) (by first | (rw [Enc.size_eq, Enc.size_eq]; done) | rfl)
  rw [show (joinA []).size = 0 from (by rw [joinA_size]; simp only [List.map, Enc.size_eq]; rfl)] at h
  exact h

structure Act where
  pop : Bool
  worker : Int
  batch : SlV
def Act.parts (x : Act) : List (Array Value) := [#[.bool x.pop], #[.int .i64 x.worker], #[x.batch.v]]
theorem Act.sizes (x : Act) : x.parts.map Array.size = [1, 1, 1] := by
  simp only [Act.parts, List.map, Enc.size_eq]; rfl
instance : Enc Act where
  enc x := joinA x.parts
  sz := 3
  pos := by omega
  size_eq x := by rw [joinA_size, Act.sizes]; rfl
  one x := joinA_one (all_cons (Enc.one (α := Bool) _) (all_cons (one_int _ _) (all_cons (Enc.one (α := SlV) _) all_nil)))
theorem Act.enc_eq (x : Act) : Enc.enc x = joinA x.parts := rfl
theorem Act.at_pop (x : Act) : (Enc.enc x)[0]? = some (.bool x.pop) := joinA_at [] [#[.int .i64 x.worker], #[x.batch.v]] _ (by rw [joinA_size]; simp only [List.map, Enc.size_eq]; rfl)
theorem Act.at_worker (x : Act) : (Enc.enc x)[1]? = some (.int .i64 x.worker) := joinA_at [#[.bool x.pop]] [#[x.batch.v]] _ (by rw [joinA_size]; simp only [List.map, Enc.size_eq]; rfl)
theorem Act.at_batch (x : Act) : (Enc.enc x)[2]? = some (x.batch.v) := joinA_at [#[.bool x.pop], #[.int .i64 x.worker]] [] _ (by rw [joinA_size]; simp only [List.map, Enc.size_eq]; rfl)
theorem Act.set_pop (x : Act) (v : Bool) : spl (Enc.enc x) 0 #[.bool v] = Enc.enc { x with pop := v } := by
  have h := spl_join [] [#[.int .i64 x.worker], #[x.batch.v]] (#[.bool x.pop]) (#[.bool v]) (by first | (rw [Enc.size_eq, Enc.size_eq]; done) | rfl)
  rw [show (joinA []).size = 0 from (by rw [joinA_size]; simp only [List.map, Enc.size_eq]; rfl)] at h
  exact h
theorem Act.set_worker (x : Act) (v : Int) : spl (Enc.enc x) 1 #[.int .i64 v] = Enc.enc { x with worker := v } := by
  have h := spl_join [#[.bool x.pop]] [#[x.batch.v]] (#[.int .i64 x.worker]) (#[.int .i64 v]) (by first | (rw [Enc.size_eq, Enc.size_eq]; done) | rfl)
  rw [show (joinA [#[.bool x.pop]]).size = 1 from (by rw [joinA_size]; simp only [List.map, Enc.size_eq]; rfl)] at h
  exact h
theorem Act.set_batch (x : Act) (v : SlV) : spl (Enc.enc x) 2 #[v.v] = Enc.enc { x with batch := v } := by
  have h := spl_join [#[.bool x.pop], #[.int .i64 x.worker]] [] (#[x.batch.v]) (#[v.v]) (by first | (rw [Enc.size_eq, Enc.size_eq]; done) | rfl)
  rw [show (joinA [#[.bool x.pop], #[.int .i64 x.worker]]).size = 2 from (by rw [joinA_size]; simp only [List.map, Enc.size_eq]; rfl)] at h
  exact h
def Act.ok (w : World) (x : Act) : Prop := (-9223372036854775808 ≤ x.worker ∧ x.worker ≤ 9223372036854775807) ∧ (∃ l : List (I64), SlR w x.batch.v l ∧ ∀ e ∈ l, -9223372036854775808 ≤ e.n ∧ e.n ≤ 9223372036854775807)
theorem Act.ok.bel {w w' : World} {x : Act} (hb : Bel w w') (h : Act.ok w x) : Act.ok w' x := by
  unfold Act.ok at h ⊢
  obtain ⟨g0, ⟨l1, g1⟩⟩ := h
  exact ⟨(g0), (⟨_, g1.1.bel hb, fun e he => g1.2 e he⟩)⟩
theorem rdw_Act : RdW Try.prog 34 Act Act.ok := by
  intro H enc w fuel cs d ps hr
  obtain ⟨hend, fuel', hf⟩ := rdS Try.underlying34 inferInstance hr
  obtain ⟨d0, ps0, h0⟩ := hf 0 _ 4 0 1 rfl rfl rfl inferInstance
  obtain ⟨x0, e0⟩ := rd_bool' inferInstance h0
  obtain ⟨d1, ps1, h1⟩ := hf 1 _ 3 1 1 rfl rfl rfl inferInstance
  obtain ⟨x1, e1, i1⟩ := rd_i64' inferInstance h1
  obtain ⟨d2, ps2, h2⟩ := hf 2 _ 32 2 1 rfl rfl rfl inferInstance
  obtain ⟨x2, e2, i2⟩ := rd_slv (α := I64) inferInstance rdw_i64 inferInstance h2
  have k2 := cells_cut e2 hend
  have k1 := cells_cut e1 k2
  have k0 := cells_cut e0 k1
  refine ⟨⟨x0, x1, x2⟩, ?_, ⟨i1, i2⟩⟩
  rw [Act.enc_eq]; simp only [Act.parts, joinA_toList_cons, joinA_nil]
  rw [List.drop_zero] at k0; rw [k0]; try simp

def Act.okz (w : World) (x : Act) : Prop := (-9223372036854775808 ≤ x.worker ∧ x.worker ≤ 9223372036854775807) ∧ (∃ l : List (I64), SlR w x.batch.v l ∧ l.length * 8 ≤ 140737488351232 ∧ ∀ e ∈ l, -9223372036854775808 ≤ e.n ∧ e.n ≤ 9223372036854775807)
theorem Act.okz.bel {w w' : World} {x : Act} (hb : Bel w w') (h : Act.okz w x) : Act.okz w' x := by
  unfold Act.okz at h ⊢
  obtain ⟨g1, ⟨l2, g2⟩⟩ := h
  exact ⟨g1, (⟨_, g2.1.bel hb, g2.2.1, fun e he => g2.2.2 e he⟩)⟩
theorem rdz_Act : RdZ Try.prog 34 Act Act.okz := by
  intro H enc w fuel cs d ps hr hz
  obtain ⟨hend, fuel', hf⟩ := rdSZ Try.underlying34 inferInstance hr hz
  obtain ⟨d0, ps0, h0, u0⟩ := hf 0 _ 4 0 1 rfl rfl rfl inferInstance
  obtain ⟨x0, e0⟩ := rd_bool' inferInstance h0
  obtain ⟨d1, ps1, h1, u1⟩ := hf 1 _ 3 1 1 rfl rfl rfl inferInstance
  obtain ⟨x1, e1, i1⟩ := rd_i64' inferInstance h1
  obtain ⟨d2, ps2, h2, u2⟩ := hf 2 _ 32 2 1 rfl rfl rfl inferInstance
  obtain ⟨x2, e2, i2⟩ := rd_slvZ (α := I64) inferInstance rdw_i64.z inferInstance inferInstance h2 u2
  have k2 := cells_cut e2 hend
  have k1 := cells_cut e1 k2
  have k0 := cells_cut e0 k1
  refine ⟨⟨x0, x1, x2⟩, ?_, ⟨i1, i2⟩⟩
  rw [Act.enc_eq]; simp only [Act.parts, joinA_toList_cons, joinA_nil]
  rw [List.drop_zero] at k0; rw [k0]; try simp

end Go.Fer
