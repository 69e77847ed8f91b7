/- what a transaction holds; the store -/
import Derived.Test.YthfbfhokmknfnaaDoorA
set_option linter.all false
namespace Go.Fer
open Go Go.Proofs Go.RowKit

def Instr.okz (w : World) (x : Instr) : Prop := (∃ l : List (UInt8), SlR w x.accounts.v l ∧ l.length * 1 ≤ 140737488351232 ∧ ∀ e ∈ l, True) ∧ (∃ l : List (UInt8), SlR w x.data.v l ∧ l.length * 1 ≤ 140737488351232 ∧ ∀ e ∈ l, True)
theorem Instr.okz.bel {w w' : World} {x : Instr} (hb : Bel w w') (h : Instr.okz w x) : Instr.okz w' x := by
 unfold Instr.okz at h ⊢
 obtain ⟨⟨l1, g1⟩, ⟨l2, g2⟩⟩ := h
 exact ⟨(⟨_, g1.1.bel hb, g1.2.1, fun e he => trivial⟩), (⟨_, g2.1.bel hb, g2.2.1, fun e he => trivial⟩)⟩
theorem rdz_Instr : RdZ Tryd.prog 102 Instr Instr.okz := by
 intro H enc w fuel cs d ps hr hz
 obtain ⟨hend, fuel', hf⟩ := rdSZ Tryd.underlying102 inferInstance hr hz
 obtain ⟨d0, ps0, h0, u0⟩ := hf 0 _ 5 0 1 rfl rfl rfl inferInstance
 obtain ⟨x0, e0⟩ := rd_u8' inferInstance h0
 obtain ⟨d1, ps1, h1, u1⟩ := hf 1 _ 39 1 1 rfl rfl rfl inferInstance
 obtain ⟨x1, e1, i1⟩ := rd_slvZ (α := UInt8) inferInstance rdw_u8.z inferInstance inferInstance h1 u1
 obtain ⟨d2, ps2, h2, u2⟩ := hf 2 _ 39 2 1 rfl rfl rfl inferInstance
 obtain ⟨x2, e2, i2⟩ := rd_slvZ (α := UInt8) inferInstance rdw_u8.z inferInstance inferInstance h2 u2
 have k2 := cells_cut e2 hend
 have k1 := cells_cut e1 k2
 have k0 := cells_cut e0 k1
 refine ⟨⟨x0, x1, x2⟩, ?_, ⟨i1, i2⟩⟩
 rw [Instr.enc_eq]; simp only [Instr.parts, joinA_toList_cons, joinA_nil]
 rw [List.drop_zero] at k0; rw [k0]; try simp

def Lookup.okz (w : World) (x : Lookup) : Prop := (∃ l : List (UInt8), SlR w x.writes.v l ∧ l.length * 1 ≤ 140737488351232 ∧ ∀ e ∈ l, True) ∧ (∃ l : List (UInt8), SlR w x.reads.v l ∧ l.length * 1 ≤ 140737488351232 ∧ ∀ e ∈ l, True)
theorem Lookup.okz.bel {w w' : World} {x : Lookup} (hb : Bel w w') (h : Lookup.okz w x) : Lookup.okz w' x := by
 unfold Lookup.okz at h ⊢
 obtain ⟨⟨l1, g1⟩, ⟨l2, g2⟩⟩ := h
 exact ⟨(⟨_, g1.1.bel hb, g1.2.1, fun e he => trivial⟩), (⟨_, g2.1.bel hb, g2.2.1, fun e he => trivial⟩)⟩
theorem rdz_Lookup : RdZ Tryd.prog 115 Lookup Lookup.okz := by
 intro H enc w fuel cs d ps hr hz
 obtain ⟨hend, fuel', hf⟩ := rdSZ Tryd.underlying115 inferInstance hr hz
 obtain ⟨d0, ps0, h0, u0⟩ := hf 0 _ 57 0 32 rfl rfl rfl inferInstance
 obtain ⟨x0, e0, i0⟩ := rd_of rdw_vec h0
 obtain ⟨d1, ps1, h1, u1⟩ := hf 1 _ 39 32 1 rfl rfl rfl inferInstance
 obtain ⟨x1, e1, i1⟩ := rd_slvZ (α := UInt8) inferInstance rdw_u8.z inferInstance inferInstance h1 u1
 obtain ⟨d2, ps2, h2, u2⟩ := hf 2 _ 39 33 1 rfl rfl rfl inferInstance
 obtain ⟨x2, e2, i2⟩ := rd_slvZ (α := UInt8) inferInstance rdw_u8.z inferInstance inferInstance h2 u2
 have k2 := cells_cut e2 hend
 have k1 := cells_cut e1 k2
 have k0 := cells_cut e0 k1
 refine ⟨⟨x0, x1, x2⟩, ?_, ⟨i1, i2⟩⟩
 rw [Lookup.enc_eq]; simp only [Lookup.parts, joinA_toList_cons, joinA_nil]
 rw [List.drop_zero] at k0; rw [k0]; try simp

def Message.okz (w : World) (x : Message) : Prop := (Header.ok w x.header) ∧ (∃ l : List (Vector UInt8 32), SlR w x.keys.v l ∧ l.length * 32 ≤ 140737488351232 ∧ ∀ e ∈ l, True) ∧ (∃ l : List (Instr), SlR w x.instrs.v l ∧ l.length * 56 ≤ 140737488351232 ∧ ∀ e ∈ l, Instr.okz w e) ∧ (∃ l : List (Lookup), SlR w x.lookups.v l ∧ l.length * 80 ≤ 140737488351232 ∧ ∀ e ∈ l, Lookup.okz w e)
theorem Message.okz.bel {w w' : World} {x : Message} (hb : Bel w w') (h : Message.okz w x) : Message.okz w' x := by
 unfold Message.okz at h ⊢
 obtain ⟨g1, ⟨l2, g2⟩, ⟨l4, g4⟩, ⟨l5, g5⟩⟩ := h
 exact ⟨(Header.ok.bel hb g1), (⟨_, g2.1.bel hb, g2.2.1, fun e he => trivial⟩), (⟨_, g4.1.bel hb, g4.2.1, fun e he => Instr.okz.bel hb (g4.2.2 e he)⟩), (⟨_, g5.1.bel hb, g5.2.1, fun e he => Lookup.okz.bel hb (g5.2.2 e he)⟩)⟩
theorem rdz_Message : RdZ Tryd.prog 49 Message Message.okz := by
 intro H enc w fuel cs d ps hr hz
 obtain ⟨hend, fuel', hf⟩ := rdSZ Tryd.underlying49 inferInstance hr hz
 obtain ⟨d0, ps0, h0, u0⟩ := hf 0 _ 4 0 1 rfl rfl rfl inferInstance
 obtain ⟨x0, e0⟩ := rd_bool' inferInstance h0
 obtain ⟨d1, ps1, h1, u1⟩ := hf 1 _ 42 1 3 rfl rfl rfl inferInstance
 obtain ⟨x1, e1, i1⟩ := rd_of rdw_Header h1
 obtain ⟨d2, ps2, h2, u2⟩ := hf 2 _ 43 4 1 rfl rfl rfl inferInstance
 obtain ⟨x2, e2, i2⟩ := rd_slvZ (α := Vector UInt8 32) inferInstance rdw_vec.z inferInstance inferInstance h2 u2
 obtain ⟨d3, ps3, h3, u3⟩ := hf 3 _ 45 5 32 rfl rfl rfl inferInstance
 obtain ⟨x3, e3, i3⟩ := rd_of rdw_vec h3
 obtain ⟨d4, ps4, h4, u4⟩ := hf 4 _ 46 37 1 rfl rfl rfl inferInstance
 obtain ⟨x4, e4, i4⟩ := rd_slvZ (α := Instr) inferInstance rdz_Instr inferInstance inferInstance h4 u4
 obtain ⟨d5, ps5, h5, u5⟩ := hf 5 _ 47 38 1 rfl rfl rfl inferInstance
 obtain ⟨x5, e5, i5⟩ := rd_slvZ (α := Lookup) inferInstance rdz_Lookup inferInstance inferInstance h5 u5
 have k5 := cells_cut e5 hend
 have k4 := cells_cut e4 k5
 have k3 := cells_cut e3 k4
 have k2 := cells_cut e2 k3
 have k1 := cells_cut e1 k2
 have k0 := cells_cut e0 k1
 refine ⟨⟨x0, x1, x2, x3, x4, x5⟩, ?_, ⟨i1, i2, i4, i5⟩⟩
 rw [Message.enc_eq]; simp only [Message.parts, joinA_toList_cons, joinA_nil]
 rw [List.drop_zero] at k0; rw [k0]; try simp

def Tx.okz (w : World) (x : Tx) : Prop := (∃ l : List (Vector UInt8 64), SlR w x.sigs.v l ∧ l.length * 64 ≤ 140737488351232 ∧ ∀ e ∈ l, True) ∧ (Message.okz w x.m)
theorem Tx.okz.bel {w w' : World} {x : Tx} (hb : Bel w w') (h : Tx.okz w x) : Tx.okz w' x := by
 unfold Tx.okz at h ⊢
 obtain ⟨⟨l0, g0⟩, g1⟩ := h
 exact ⟨(⟨_, g0.1.bel hb, g0.2.1, fun e he => trivial⟩), (Message.okz.bel hb g1)⟩
theorem rdz_Tx : RdZ Tryd.prog 51 Tx Tx.okz := by
 intro H enc w fuel cs d ps hr hz
 obtain ⟨hend, fuel', hf⟩ := rdSZ Tryd.underlying51 inferInstance hr hz
 obtain ⟨d0, ps0, h0, u0⟩ := hf 0 _ 40 0 1 rfl rfl rfl inferInstance
 obtain ⟨x0, e0, i0⟩ := rd_slvZ (α := Vector UInt8 64) inferInstance rdw_vec.z inferInstance inferInstance h0 u0
 obtain ⟨d1, ps1, h1, u1⟩ := hf 1 _ 49 1 39 rfl rfl rfl inferInstance
 obtain ⟨x1, e1, i1⟩ := rd_ofZ rdz_Message h1 u1
 have k1 := cells_cut e1 hend
 have k0 := cells_cut e0 k1
 refine ⟨⟨x0, x1⟩, ?_, ⟨i0, i1⟩⟩
 rw [Tx.enc_eq]; simp only [Tx.parts, joinA_toList_cons, joinA_nil]
 rw [List.drop_zero] at k0; rw [k0]; try simp

def Ready.okz (w : World) (x : Ready) : Prop := (∃ l : List (UInt8), SlR w x.bytes.v l ∧ l.length * 1 ≤ 140737488351232 ∧ ∀ e ∈ l, True) ∧ (Tx.okz w x.tx) ∧ (∃ l : List (Role), SlR w x.roles.v l ∧ l.length * 34 ≤ 140737488351232 ∧ ∀ e ∈ l, Role.ok w e) ∧ (Budget.ok w x.budget) ∧ (x.fee ≤ 18446744073709551615) ∧ (x.cost ≤ 18446744073709551615) ∧ (x.priority ≤ 18446744073709551615)
theorem Ready.okz.bel {w w' : World} {x : Ready} (hb : Bel w w') (h : Ready.okz w x) : Ready.okz w' x := by
 unfold Ready.okz at h ⊢
 obtain ⟨⟨l0, g0⟩, g1, ⟨l2, g2⟩, g3, g4, g5, g6⟩ := h
 exact ⟨(⟨_, g0.1.bel hb, g0.2.1, fun e he => trivial⟩), (Tx.okz.bel hb g1), (⟨_, g2.1.bel hb, g2.2.1, fun e he => Role.ok.bel hb (g2.2.2 e he)⟩), (Budget.ok.bel hb g3), g4, g5, g6⟩
theorem rdz_Ready : RdZ Tryd.prog 56 Ready Ready.okz := by
 intro H enc w fuel cs d ps hr hz
 obtain ⟨hend, fuel', hf⟩ := rdSZ Tryd.underlying56 inferInstance hr hz
 obtain ⟨d0, ps0, h0, u0⟩ := hf 0 _ 39 0 1 rfl rfl rfl inferInstance
 obtain ⟨x0, e0, i0⟩ := rd_slvZ (α := UInt8) inferInstance rdw_u8.z inferInstance inferInstance h0 u0
 obtain ⟨d1, ps1, h1, u1⟩ := hf 1 _ 51 1 40 rfl rfl rfl inferInstance
 obtain ⟨x1, e1, i1⟩ := rd_ofZ rdz_Tx h1 u1
 obtain ⟨d2, ps2, h2, u2⟩ := hf 2 _ 52 41 1 rfl rfl rfl inferInstance
 obtain ⟨x2, e2, i2⟩ := rd_slvZ (α := Role) inferInstance rdw_Role.z inferInstance inferInstance h2 u2
 obtain ⟨d3, ps3, h3, u3⟩ := hf 3 _ 54 42 3 rfl rfl rfl inferInstance
 obtain ⟨x3, e3, i3⟩ := rd_of rdw_Budget h3
 obtain ⟨d4, ps4, h4, u4⟩ := hf 4 _ 32 45 1 rfl rfl rfl inferInstance
 obtain ⟨x4, e4, i4⟩ := rd_u64' inferInstance h4
 obtain ⟨d5, ps5, h5, u5⟩ := hf 5 _ 32 46 1 rfl rfl rfl inferInstance
 obtain ⟨x5, e5, i5⟩ := rd_u64' inferInstance h5
 obtain ⟨d6, ps6, h6, u6⟩ := hf 6 _ 32 47 1 rfl rfl rfl inferInstance
 obtain ⟨x6, e6, i6⟩ := rd_u64' inferInstance h6
 have k6 := cells_cut e6 hend
 have k5 := cells_cut e5 k6
 have k4 := cells_cut e4 k5
 have k3 := cells_cut e3 k4
 have k2 := cells_cut e2 k3
 have k1 := cells_cut e1 k2
 have k0 := cells_cut e0 k1
 refine ⟨⟨x0, x1, x2, x3, x4, x5, x6⟩, ?_, ⟨i0, i1, i2, i3, i4, i5, i6⟩⟩
 rw [Ready.enc_eq]; simp only [Ready.parts, joinA_toList_cons, joinA_nil]
 rw [List.drop_zero] at k0; rw [k0]; try simp

structure StS where
 of : Option Nat
def StS.parts (x : StS) : List (Array Value) := [#[.map x.of]]
theorem StS.sizes (x : StS) : x.parts.map Array.size = [1] := by
 simp only [StS.parts, List.map, Enc.size_eq]; rfl
instance : Enc StS where
 enc x := joinA x.parts
 sz := 1
 pos := by omega
 size_eq x := by rw [joinA_size, StS.sizes]; rfl
 one x := joinA_one (all_cons (one_map _) all_nil)
theorem StS.enc_eq (x : StS) : Enc.enc x = joinA x.parts := rfl
theorem StS.at_of (x : StS) : (Enc.enc x)[0]? = some (.map x.of) := joinA_at [] [] _ (by rw [joinA_size]; simp only [List.map, Enc.size_eq]; rfl)
theorem StS.set_of (x : StS) (v : Option Nat) : spl (Enc.enc x) 0 #[.map v] = Enc.enc { x with of := v } := by
 have h := spl_join [] [] (#[.map x.of]) (#[.map v]) (by first | (rw [Enc.size_eq, Enc.size_eq]; done) | rfl)
 rw [show (joinA []).size = 0 from (by rw [joinA_size]; simp only [List.map, Enc.size_eq]; rfl)] at h
 exact h

theorem Instr.okz.ok {w : World} {x : Instr} (h : Instr.okz w x) : Instr.ok w x := by
 obtain ⟨⟨la, h1, _, h2⟩, ⟨lb, h3, _, h4⟩⟩ := h
 exact ⟨⟨la, h1, h2⟩, ⟨lb, h3, h4⟩⟩
def lenV (v : Value) : Nat := match v with | .slice _ n _ => n | _ => 0
theorem lenV_eq {α : Type} [Enc α] {w : World} {v : Value} {xs : List α} (h : SlR w v xs) : lenV v = xs.length := by obtain ⟨a, c, rfl⟩ := h.eq; rfl
def insN (l : List Instr) : Nat := (l.map fun i => lenV i.accounts.v + lenV i.data.v).sum
def lksN (l : List Lookup) : Nat := (l.map fun i => lenV i.writes.v + lenV i.reads.v).sum
theorem insN_step {l : List Instr} {k : Nat} (hk : k < l.length) : insN (l.take (k + 1)) = insN (l.take k) + (lenV l[k].accounts.v + lenV l[k].data.v) := by
 unfold insN; rw [List.take_succ_eq_append_getElem hk, List.map_append, List.sum_append]; simp
theorem lksN_step {l : List Lookup} {k : Nat} (hk : k < l.length) : lksN (l.take (k + 1)) = lksN (l.take k) + (lenV l[k].writes.v + lenV l[k].reads.v) := by
 unfold lksN; rw [List.take_succ_eq_append_getElem hk, List.map_append, List.sum_append]; simp
theorem Ready.at_ins (x : Ready) : (Enc.enc x)[39]? = some x.tx.m.instrs.v := at_of_ex (i := 38) (Ready.ex_tx x) (Tx.at_m_instrs x.tx) (by decide)
theorem Ready.at_sigs (x : Ready) : (Enc.enc x)[1]? = some x.tx.sigs.v := at_of_ex (i := 0) (Ready.ex_tx x) (Tx.at_sigs x.tx) (by decide)
theorem Ready.at_keys (x : Ready) : (Enc.enc x)[6]? = some x.tx.m.keys.v := at_of_ex (i := 5) (Ready.ex_tx x) (Tx.at_m_keys x.tx) (by decide)
theorem Ready.at_lks (x : Ready) : (Enc.enc x)[40]? = some x.tx.m.lookups.v := at_of_ex (i := 39) (Ready.ex_tx x) (Tx.at_m_lookups x.tx) (by decide)
/-- what a transaction holds -/
structure RIs (w : World) (R : Ready) (bs : List UInt8) (sg : List (Vector UInt8 64)) (ks : List Key) (ins : List Instr) (lks : List Lookup) (r : List Role) : Prop where
 fb : SlR w R.bytes.v bs
 lb : bs.length ≤ 140737488351232
 fs : SlR w R.tx.sigs.v sg
 ls : sg.length ≤ 140737488351232
 fk : SlR w R.tx.m.keys.v ks
 lk : ks.length ≤ 140737488351232
 fi : SlR w R.tx.m.instrs.v ins
 li : ins.length ≤ 140737488351232
 oi : ∀ e ∈ ins, Instr.okz w e
 fl : SlR w R.tx.m.lookups.v lks
 ll : lks.length ≤ 140737488351232
 ol : ∀ e ∈ lks, Lookup.okz w e
 fr : SlR w R.roles.v r
 lr : r.length ≤ 140737488351232
 bu : R.budget.units ≤ 18446744073709551615
 fee : R.fee ≤ 18446744073709551615
 bad : -9223372036854775808 ≤ R.budget.bad ∧ R.budget.bad ≤ 9223372036854775807
theorem RIs.bel {w w' : World} {R : Ready} {bs : List UInt8} {sg : List (Vector UInt8 64)} {ks : List Key} {ins : List Instr} {lks : List Lookup} {r : List Role} (h : RIs w R bs sg ks ins lks r) (hb : Bel w w') : RIs w' R bs sg ks ins lks r :=
 ⟨h.fb.bel hb, h.lb, h.fs.bel hb, h.ls, h.fk.bel hb, h.lk, h.fi.bel hb, h.li, fun e he => (h.oi e he).bel hb, h.fl.bel hb, h.ll, fun e he => (h.ol e he).bel hb, h.fr.bel hb, h.lr, h.bu, h.fee, h.bad⟩
theorem mul_le1 {n b m : Nat} (hb : 1 ≤ b) (h : n * b ≤ m) : n ≤ m := Nat.le_trans (Nat.le_mul_of_pos_right n hb) h
theorem Ready.okz.is {w : World} {R : Ready} (h : R.okz w) : ∃ bs sg ks ins lks r, RIs w R bs sg ks ins lks r := by
 obtain ⟨⟨bs, b1, b2, _⟩, ⟨⟨sg, s1, s2, _⟩, _, ⟨ks, k1, k2, _⟩, ⟨ins, i1, i2, i3⟩, ⟨lks, l1, l2, l3⟩⟩, ⟨r, r1, r2, _⟩, ⟨bu, _, bad⟩, fee, _, _⟩ := h
 exact ⟨bs, sg, ks, ins, lks, r, b1, mul_le1 (by decide) b2, s1, mul_le1 (by decide) s2, k1, mul_le1 (by decide) k2, i1, mul_le1 (by decide) i2, i3, l1, mul_le1 (by decide) l2, l3, r1, mul_le1 (by decide) r2, bu, fee, bad⟩
def baseN (bs : List UInt8) (sg : List (Vector UInt8 64)) (ks : List Key) (ins : List Instr) (lks : List Lookup) (r : List Role) : Nat := bs.length + r.length + sg.length + ks.length + ins.length + lks.length
/-- not more than is gone through -/
structure Small (bs : List UInt8) (sg : List (Vector UInt8 64)) (ks : List Key) (ins : List Instr) (lks : List Lookup) (r : List Role) : Prop where
 all : baseN bs sg ks ins lks r + insN ins + lksN lks ≤ 10000
 i : ins.length ≤ 200
 r : r.length ≤ 300

end Go.Fer
