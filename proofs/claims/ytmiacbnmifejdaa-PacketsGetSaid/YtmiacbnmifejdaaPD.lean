/- a packet, plainly -/
import Derived.Test.YtmiacbnmifejdaaG2
import Derived.Test.YtmiacbnmifejdaaV
set_option linter.all false
namespace Go.Fer
open Go Go.Proofs Go.RowKit

structure TC where
  sigs : List (Vector UInt8 64)
  m : MC
deriving DecidableEq
def IsT (w : World) (t : Tx) (x : TC) (ins : List Instr) (lks : List Lookup) : Prop := SlR w t.sigs.v x.sigs ∧ IsM w t.m x.m ins lks
theorem IsT.bel {w w' : World} {t : Tx} {x : TC} {ins : List Instr} {lks : List Lookup} (h : IsT w t x ins lks) (hb : Bel w w') : IsT w' t x ins lks := ⟨h.1.bel hb, h.2.bel hb⟩
def sigB (l : List (Vector UInt8 64)) : List UInt8 := l.flatMap Vector.toList
def ptB (x : TC) : List UInt8 := (shortB x.sigs.length ++ sigB x.sigs) ++ putF x.m
def ptE (x : TC) : Int := if mayF x.m = true then (if 1232 < (ptB x).length then 3 else 0) else 1
def ptL (x : TC) : List UInt8 := if ptE x = 0 then ptB x else []
theorem sigB_len (l : List (Vector UInt8 64)) (k : Nat) : (sigB (l.take k)).length = 64 * min k l.length := by
  unfold sigB
  induction l generalizing k with
  | nil => simp
  | cons x l ih =>
    cases k with
    | zero => simp
    | succ k => have := ih k; simp only [List.take_succ_cons, List.flatMap_cons, List.length_append, Vector.length_toList, List.length_cons] at this ⊢; omega
theorem sigB_all (l : List (Vector UInt8 64)) : (sigB l).length = 64 * l.length := by have := sigB_len l l.length; rw [List.take_length] at this; omega
theorem sigB_step {l : List (Vector UInt8 64)} {k : Nat} (hk : k < l.length) : sigB (l.take (k + 1)) = sigB (l.take k) ++ l[k].toList := fm_step _ hk
theorem ptB_len (x : TC) : (ptB x).length ≤ 48 + 64 * x.sigs.length + 80 * x.m.size := by
  have h1 := shortB_le x.sigs.length; have h2 := sigB_all x.sigs; have h3 := putF_len x.m
  unfold ptB; simp only [List.length_append]; omega
/-- so many signatures off bytes -/
def chunk (k : Nat) (ys : List UInt8) : List (Vector UInt8 64) := (List.range k).map fun i => vecOf 64 ((ys.drop (64 * i)).take 64)
theorem chunk_len (k : Nat) (ys : List UInt8) : (chunk k ys).length = k := by simp [chunk]
theorem chunk_succ (k : Nat) (ys : List UInt8) : chunk (k + 1) ys = chunk k ys ++ [vecOf 64 ((ys.drop (64 * k)).take 64)] := by simp [chunk, List.range_succ]
def zTC : TC := ⟨[], zMC⟩
/-- the transaction that bytes begin with, how many they are, the error -/
def gtF (xs : List UInt8) : TC × Nat × Int :=
  if (gs xs 0 0).2.2 = 0 then
    (if xs.length - (gs xs 0 0).2.1.toNat < 64 * (gs xs 0 0).1.toNat then (zTC, 0, 5) else
      if (getF (xs.drop ((gs xs 0 0).2.1.toNat + 64 * (gs xs 0 0).1.toNat))).2.2 = 0 then
        (⟨chunk (gs xs 0 0).1.toNat (xs.drop (gs xs 0 0).2.1.toNat), (getF (xs.drop ((gs xs 0 0).2.1.toNat + 64 * (gs xs 0 0).1.toNat))).1⟩, (gs xs 0 0).2.1.toNat + 64 * (gs xs 0 0).1.toNat + (getF (xs.drop ((gs xs 0 0).2.1.toNat + 64 * (gs xs 0 0).1.toNat))).2.1, 0)
      else (zTC, 0, (getF (xs.drop ((gs xs 0 0).2.1.toNat + 64 * (gs xs 0 0).1.toNat))).2.2))
  else (zTC, 0, (gs xs 0 0).2.2)
def whF (xs : List UInt8) : TC × Int := if 1232 < xs.length then (zTC, 3) else if (gtF xs).2.2 = 0 then (if (gtF xs).2.1 < xs.length then (zTC, 4) else ((gtF xs).1, 0)) else (zTC, (gtF xs).2.2)
/-- a transaction that was got, all its own -/
def GotT (t : Tx) (is : List Instr) (ls : List Lookup) (x : TC) : Prop := GotM t.m is ls x.m
def gotTL (t : Tx) (is : List Instr) (ls : List Lookup) (x : TC) : List Ent := ownE t.sigs.v 62 x.sigs :: gotL t.m is ls x.m
def gotTR (w0 : World) (xs : List UInt8) (u : Value) (w' : World) : Prop := ∃ (t : Tx) (is : List Instr) (ls : List Lookup), u = .tuple #[.agg (Enc.enc t), .int .i64 ((gtF xs).2.1 : Int), .int .i64 (gtF xs).2.2] ∧ GotT t is ls (gtF xs).1 ∧ St w0 (gotTL t is ls (gtF xs).1) w'
def gotWR (w0 : World) (xs : List UInt8) (u : Value) (w' : World) : Prop := ∃ (t : Tx) (is : List Instr) (ls : List Lookup), u = .tuple #[.agg (Enc.enc t), .int .i64 (whF xs).2] ∧ GotT t is ls (whF xs).1 ∧ St w0 (gotTL t is ls (whF xs).1) w'
theorem zGotM : GotM (⟨false, ⟨0, 0, 0⟩, ⟨none, 0, 0⟩, vz 32, ⟨none, 0, 0⟩, ⟨none, 0, 0⟩⟩ : Message) [] [] zMC := ⟨rfl, rfl, rfl, rfl, rfl, rfl, rfl, (show (0 : Nat) < 65536 by decide), (show (0 : Nat) < 65536 by decide), (show (0 : Nat) < 65536 by decide)⟩
theorem zGotTL {w0 w : World} (hS : St w0 [] w) : St w0 (gotTL (⟨⟨none, 0, 0⟩, ⟨false, ⟨0, 0, 0⟩, ⟨none, 0, 0⟩, vz 32, ⟨none, 0, 0⟩, ⟨none, 0, 0⟩⟩⟩ : Tx) [] [] zTC) w :=
  St.nilOwn (St.nilOwn ((St.nilOwn (hS.b2New) 92).b2New.nilOwn 90) 58) 62
theorem gtF_e {xs : List UInt8} (h : (gs xs 0 0).2.2 ≠ 0) : gtF xs = (zTC, 0, (gs xs 0 0).2.2) := by unfold gtF; rw [if_neg h]
theorem gtF_short {xs : List UInt8} (h : (gs xs 0 0).2.2 = 0) (h2 : xs.length - (gs xs 0 0).2.1.toNat < 64 * (gs xs 0 0).1.toNat) : gtF xs = (zTC, 0, 5) := by unfold gtF; rw [if_pos h, if_pos h2]
theorem gtF_m {xs : List UInt8} {c : MC} {t : Nat} {e : Int} (h : (gs xs 0 0).2.2 = 0) (h2 : ¬ xs.length - (gs xs 0 0).2.1.toNat < 64 * (gs xs 0 0).1.toNat) (hG : getF (xs.drop ((gs xs 0 0).2.1.toNat + 64 * (gs xs 0 0).1.toNat)) = (c, t, e)) :
    gtF xs = if e = 0 then (⟨chunk (gs xs 0 0).1.toNat (xs.drop (gs xs 0 0).2.1.toNat), c⟩, (gs xs 0 0).2.1.toNat + 64 * (gs xs 0 0).1.toNat + t, 0) else (zTC, 0, e) := by
  unfold gtF; rw [if_pos h, if_neg h2, hG]

theorem tx_zero : (joinA [#[.slice none 0 0], joinA [#[.bool false], joinA [#[.int .u8 0], #[.int .u8 0], #[.int .u8 0]], #[.slice none 0 0], (Array.replicate 32 (.int .u8 0)), #[.slice none 0 0], #[.slice none 0 0]]]) = Enc.enc (⟨⟨none, 0, 0⟩, ⟨false, ⟨0, 0, 0⟩, ⟨none, 0, 0⟩, vz 32, ⟨none, 0, 0⟩, ⟨none, 0, 0⟩⟩⟩ : Tx) := by
  simp only [Tx.enc_eq, Tx.parts, enc_vz, Message.enc_eq, Message.parts, Header.enc_eq, Header.parts]; rfl

end Go.Fer
