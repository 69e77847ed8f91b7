/- reading a message -/
import Derived.Test.YtmiacbnmifejdaaE
set_option linter.all false
namespace Go.Fer
open Go Go.Proofs Go.RowKit

theorem spl_in {cs v : Array Value} {o n i : Nat} (h1 : i + v.size ≤ n) (h2 : o + n ≤ cs.size) : spl cs (o + i) v = spl cs o (spl (cs.extract o (o + n)) i v) := by
  have hx : (cs.extract o (o + n)).size = n := by simp; omega
  have hs : (spl (cs.extract o (o + n)) i v).size = n := by unfold spl; simp; omega
  apply Array.ext_getElem?
  intro j
  rw [spl_get cs v (o + i) (by omega) j, spl_get cs _ o (by omega) j, hs]
  by_cases h : o ≤ j ∧ j < o + n
  · rw [if_pos h, spl_get _ v i (by omega) (j - o)]
    by_cases h3 : o + i ≤ j ∧ j < o + i + v.size
    · rw [if_pos h3, if_pos (by omega)]; congr 1; omega
    · rw [if_neg h3, if_neg (by omega), Array.getElem?_extract, if_pos (by omega)]; congr 1; omega
  · rw [if_neg h, if_neg (by omega)]
theorem Message.set_h0 (x : Message) (v : UInt8) : spl (Enc.enc x) 1 #[.int .u8 v.toNat] = Enc.enc { x with header := { x.header with signers := v } } := by
  have h := spl_in (cs := Enc.enc x) (v := #[Value.int .u8 v.toNat]) (o := 1) (n := 3) (i := 0) (show 0 + 1 ≤ 3 by decide) (by rw [Enc.size_eq]; decide)
  rw [Message.ex_header, Header.set_signers, Message.set_header] at h
  exact h
theorem Message.set_h1 (x : Message) (v : UInt8) : spl (Enc.enc x) 2 #[.int .u8 v.toNat] = Enc.enc { x with header := { x.header with readSigned := v } } := by
  have h := spl_in (cs := Enc.enc x) (v := #[Value.int .u8 v.toNat]) (o := 1) (n := 3) (i := 1) (show 1 + 1 ≤ 3 by decide) (by rw [Enc.size_eq]; decide)
  rw [Message.ex_header, Header.set_readSigned, Message.set_header] at h
  exact h
theorem Message.set_h2 (x : Message) (v : UInt8) : spl (Enc.enc x) 3 #[.int .u8 v.toNat] = Enc.enc { x with header := { x.header with readOther := v } } := by
  have h := spl_in (cs := Enc.enc x) (v := #[Value.int .u8 v.toNat]) (o := 1) (n := 3) (i := 2) (show 2 + 1 ≤ 3 by decide) (by rw [Enc.size_eq]; decide)
  rw [Message.ex_header, Header.set_readOther, Message.set_header] at h
  exact h
theorem rFirst_e1 {xs : List UInt8} {s : RS} {e : Int} (h : (rByte xs s).2 = .error e) : (rFirst xs s).2 = .error e := by
  unfold rFirst; simp only [h]; split <;> simp only [rByte_e]
theorem rFirst_e2 {xs : List UInt8} {s : RS} {a : Nat} (h : (rByte xs s).2 = .ok a) (h2 : 128 < (rByte xs s).1.toNat) : (rFirst xs s).2 = .error 4 := by
  unfold rFirst; simp only [h, if_pos h2]; rw [if_neg (by omega)]
theorem rFirst_e3 {xs : List UInt8} {s : RS} {a : Nat} {e : Int} (h : (rByte xs s).2 = .ok a) (h2 : (rByte xs s).1.toNat = 128) (h3 : (rByte xs (.ok a)).2 = .error e) : (rFirst xs s).2 = .error e := by
  unfold rFirst; simp only [h, if_pos h2]; rw [if_neg (by omega), h3]
theorem rFirst_new {xs : List UInt8} {s : RS} {a a' : Nat} (h : (rByte xs s).2 = .ok a) (h2 : (rByte xs s).1.toNat = 128) (h3 : (rByte xs (.ok a)).2 = .ok a') : rFirst xs s = (((rByte xs (.ok a)).1, true), .ok a') := by
  unfold rFirst; simp only [h, if_pos h2]; rw [if_neg (by omega), h3]
theorem rFirst_old {xs : List UInt8} {s : RS} {a : Nat} (h : (rByte xs s).2 = .ok a) (h2 : (rByte xs s).1.toNat < 128) : rFirst xs s = (((rByte xs s).1, false), .ok a) := by
  unfold rFirst; simp only [h]; rw [if_neg (show ¬ (rByte xs s).1.toNat = 128 by omega), if_neg (show ¬ 128 < (rByte xs s).1.toNat by omega)]
theorem rMsg_e {xs : List UInt8} {s : RS} {e : Int} (h : (rFirst xs s).2 = .error e) : (rMsg xs s).2 = .error e := by
  unfold rMsg; simp only [h, rByte_e, rAll_e, rKey_e, ite_self]
/-- a message that was read, with its lists, all its own -/
def GotM (m : Message) (is : List Instr) (ls : List Lookup) (c : MC) : Prop :=
  m.v0 = c.v0 ∧ m.header = c.h ∧ m.recent = c.recent ∧ is.length = c.ins.length ∧ is.map (·.program) = c.ins.map (·.1) ∧ ls.length = c.lks.length ∧ ls.map (·.table) = c.lks.map (·.1) ∧ c.keys.length < 65536 ∧ c.ins.length < 65536 ∧ c.lks.length < 65536
def gotL (m : Message) (is : List Instr) (ls : List Lookup) (c : MC) : List Ent :=
  [ownE m.keys.v 58 c.keys, ownE m.instrs.v 90 is, b2E (zipI is c.ins), ownE m.lookups.v 92 ls, b2E (zipL ls c.lks)]

theorem mg_zero : (joinA [#[.bool false], joinA [#[.int .u8 0], #[.int .u8 0], #[.int .u8 0]], #[.slice none 0 0], (Array.replicate 32 (.int .u8 0)), #[.slice none 0 0], #[.slice none 0 0]]) = Enc.enc (⟨false, ⟨0, 0, 0⟩, ⟨none, 0, 0⟩, vz 32, ⟨none, 0, 0⟩, ⟨none, 0, 0⟩⟩ : Message) := by
  simp only [Message.enc_eq, Message.parts, enc_vz, Header.enc_eq, Header.parts]; rfl

set_option maxRecDepth 20000 in
set_option maxHeartbeats 4000000 in
theorem rd_message (wb w0 : World) (S : List Ent) (p : Nat) (bs : SlV) (xs : List UInt8) (a : Nat) (hb : SlR wb bs.v xs) (hxl : xs.length ≤ 1000000000) (ha : a ≤ xs.length) (hS0 : St wb (rdE p bs a :: S) w0) : RetP Try.prog 62 #[.pointer (some ⟨p, 0, none⟩)] w0 (fun u w' => ∃ (m : Message) (is : List Instr) (ls : List Lookup) (a' : Nat), u = .agg (Enc.enc m) ∧ GotM m is ls (rMsg xs (.ok a)).1 ∧ (rMsg xs (.ok a)).2 = .ok a' ∧ a' ≤ xs.length ∧ St wb (gotL m is ls (rMsg xs (.ok a)).1 ++ rdE p bs a' :: S) w') (fun v w' => ∃ (e : Int) (a' : Nat), (rMsg xs (.ok a)).2 = .error e ∧ v = stopV e ∧ St wb (rdE p bs a' :: S) w') := by
  refine RetP.enter (args := [.pointer (some ⟨p, 0, none⟩)]) Try.func62 rfl Try.ntmps62 Try.results62 rfl ?_
  have hS := St.start w0
  replace hS := hS0
  refine WC.seq (fun K1 hK1 => ?_)
  refine WC.region ?_
  refine WL.op rfl (opW.allocA hS ?_)
  intro b2 w _ hS
  rw [mg_zero] at hS
  refine WL.nil ?_
  refine thenQ_n (hK1 _ _ ?_)
  refine WC.seq (fun K2 hK2 => ?_)
  refine WC.region ?_
  refine WL.op rfl (opW.moveV (v := .pointer (some ⟨p, 0, none⟩)) rfl ?_)
  refine WL.opP rfl (opWP.call (rd_byte _ _ _ p bs xs a hb hxl ha (hS.pick (by first | exact .h0 | exact .h1 | exact .h2 | exact .h3 | exact .h4 | exact .h5 | exact .h6 | exact .h7 | exact .h8 | exact .h9 | exact .h10 | exact .h11 | exact .h12 | exact .h13 | exact .h14))) rfl ?_ ?_)
  · rintro pv w ⟨e, a', he, rfl, hS⟩
    exact ⟨_, rfl, e, a', rMsg_e (rFirst_e1 he), rfl, hS.sub (by repeat (first | with_reducible exact List.nil_sublist _ | with_reducible exact List.Sublist.refl _ | with_reducible refine List.Sublist.cons₂ _ ?_ | with_reducible refine List.Sublist.cons _ ?_))⟩
  rintro _ w ⟨a1, rfl, q0, ha1, hS⟩
  refine WL.op rfl (opW.assignI rfl ?_)
  refine WL.nil ?_
  refine thenQ_n (hK2 _ _ ?_)
  refine WC.seq (fun K3 hK3 => ?_)
  refine WC.region ?_
  refine WL.op rfl (opW.moveI rfl ?_)
  refine WL.op rfl (opW.leq rfl rfl ?_)
  refine WL.opP rfl (opWP.call (must_ok _ _ 4) rfl ?_ ?_)
  · rintro pv w ⟨hcf, rfl, hw⟩
    replace hS := hS.bel hw
    exact ⟨_, rfl, 4, a1, rMsg_e (rFirst_e2 q0 (by have := of_decide_eq_false hcf; omega)), rfl, hS.sub (by repeat (first | with_reducible exact List.nil_sublist _ | with_reducible exact List.Sublist.refl _ | with_reducible refine List.Sublist.cons₂ _ ?_ | with_reducible refine List.Sublist.cons _ ?_))⟩
  rintro _ w ⟨hct, hw⟩; replace hS := hS.bel hw
  replace hct := of_decide_eq_true hct
  refine WL.nil ?_
  refine thenQ_n (hK3 _ _ ?_)
  refine WC.mid (fun f w => ∃ (x0 : UInt8) (v0 : Bool) (a2 : Nat), Fits [(0, .pointer (some ⟨p, 0, none⟩)), (2, .pointer (some ⟨b2, 0, none⟩)), (3, .int .u8 ((x0).toNat : Int))] f ∧ St wb (blkE b2 (Enc.enc (⟨v0, ⟨0, 0, 0⟩, ⟨none, 0, 0⟩, vz 32, ⟨none, 0, 0⟩, ⟨none, 0, 0⟩⟩ : Message)) 31 :: rdE p bs a2 :: S) w ∧ rFirst xs (.ok a) = ((x0, v0), .ok a2) ∧ a2 ≤ xs.length) ?_ ?_
  ·
    refine WC.seq (fun K4 hK4 => ?_)
    refine WC.region ?_
    refine WL.op rfl (opW.moveI rfl ?_)
    refine WL.op rfl (opW.eql rfl rfl ?_)
    refine WL.nil ?_
    refine thenQ_n (hK4 _ _ ?_)
    refine WC.cond _ rfl (fun hc0 => ?_) (fun hc0 => ?_)
    ·
      have hr0 := hc0
      try simp only [decide_eq_true_eq, decide_eq_false_iff_not, Bool.and_eq_true, Bool.or_eq_true, Bool.and_eq_false_iff, Bool.or_eq_false_iff, Bool.not_eq_true', Bool.not_eq_false', Int.not_lt, Int.not_le] at hc0
      have h128 : (rByte xs (.ok a)).1.toNat = 128 := by omega
      refine WC.seq (fun K5 hK5 => ?_)
      refine WC.region ?_
      refine WL.op rfl (opW.fieldAddrB rfl ?_)
      refine WL.op0 (opW.storeF (b := b2) (o := 0) (v := .bool true) (sz := 1) (cs := Enc.enc (⟨false, ⟨0, 0, 0⟩, ⟨none, 0, 0⟩, vz 32, ⟨none, 0, 0⟩, ⟨none, 0, 0⟩⟩ : Message)) (cs' := Enc.enc (⟨true, ⟨0, 0, 0⟩, ⟨none, 0, 0⟩, vz 32, ⟨none, 0, 0⟩, ⟨none, 0, 0⟩⟩ : Message)) hS rfl rfl (by first | exact .h0 | exact .h1 | exact .h2 | exact .h3 | exact .h4 | exact .h5 | exact .h6 | exact .h7 | exact .h8 | exact .h9 | exact .h10 | exact .h11 | exact .h12 | exact .h13 | exact .h14) rfl (by rw [Enc.size_eq]; decide) (by intro u hu; simp [Value.cells] at hu; subst hu; rfl) (Message.set_v0 (⟨false, ⟨0, 0, 0⟩, ⟨none, 0, 0⟩, vz 32, ⟨none, 0, 0⟩, ⟨none, 0, 0⟩⟩ : Message) true) ?_)
      intro w hS; replace hS := hS _ (by first | exact .h0 | exact .h1 | exact .h2 | exact .h3 | exact .h4 | exact .h5 | exact .h6 | exact .h7 | exact .h8 | exact .h9 | exact .h10 | exact .h11 | exact .h12 | exact .h13 | exact .h14)
      refine WL.nil ?_
      refine thenQ_n (hK5 _ _ ?_)
      refine WC.region ?_
      refine WL.op rfl (opW.moveV (v := .pointer (some ⟨p, 0, none⟩)) rfl ?_)
      refine WL.opP rfl (opWP.call (rd_byte _ _ _ p bs xs a1 hb hxl ha1 (hS.pick (by first | exact .h0 | exact .h1 | exact .h2 | exact .h3 | exact .h4 | exact .h5 | exact .h6 | exact .h7 | exact .h8 | exact .h9 | exact .h10 | exact .h11 | exact .h12 | exact .h13 | exact .h14))) rfl ?_ ?_)
      · rintro pv w ⟨e, a', he, rfl, hS⟩
        exact ⟨_, rfl, e, a', rMsg_e (rFirst_e3 q0 h128 he), rfl, hS.sub (by repeat (first | with_reducible exact List.nil_sublist _ | with_reducible exact List.Sublist.refl _ | with_reducible refine List.Sublist.cons₂ _ ?_ | with_reducible refine List.Sublist.cons _ ?_))⟩
      rintro _ w ⟨a2, rfl, q1, hga, hS⟩
      have hg := rFirst_new q0 h128 q1
      replace hS := hS.pick (e := blkE b2 (Enc.enc (⟨true, ⟨0, 0, 0⟩, ⟨none, 0, 0⟩, vz 32, ⟨none, 0, 0⟩, ⟨none, 0, 0⟩⟩ : Message)) 31) (by first | exact .h0 | exact .h1 | exact .h2 | exact .h3 | exact .h4 | exact .h5 | exact .h6 | exact .h7 | exact .h8 | exact .h9 | exact .h10 | exact .h11 | exact .h12 | exact .h13 | exact .h14)
      refine WL.op rfl (opW.assignI rfl ?_)
      refine WL.nil ?_
      refine thenQ_n ?_
      exact ⟨_, _, _, ⟨rfl, rfl, rfl, trivial⟩, hS, hg, hga⟩
    ·
      have hr0 := hc0
      try simp only [decide_eq_true_eq, decide_eq_false_iff_not, Bool.and_eq_true, Bool.or_eq_true, Bool.and_eq_false_iff, Bool.or_eq_false_iff, Bool.not_eq_true', Bool.not_eq_false', Int.not_lt, Int.not_le] at hc0
      have h128 : (rByte xs (.ok a)).1.toNat < 128 := by omega
      have hg := rFirst_old q0 h128
      have hga := ha1
      replace hS := hS.pick (e := blkE b2 (Enc.enc (⟨false, ⟨0, 0, 0⟩, ⟨none, 0, 0⟩, vz 32, ⟨none, 0, 0⟩, ⟨none, 0, 0⟩⟩ : Message)) 31) (by first | exact .h0 | exact .h1 | exact .h2 | exact .h3 | exact .h4 | exact .h5 | exact .h6 | exact .h7 | exact .h8 | exact .h9 | exact .h10 | exact .h11 | exact .h12 | exact .h13 | exact .h14)
      refine WC.skip ?_
      refine thenQ_n ?_
      exact ⟨_, _, _, ⟨rfl, rfl, rfl, trivial⟩, hS, hg, hga⟩
  ·
    rintro f w ⟨x0, v0, a2, hfit, hS, hg, ha2⟩
    refine WC.fits _ hfit (fun g => ?_)
    clear hfit
    refine WC.seq (fun K6 hK6 => ?_)
    refine WC.region ?_
    refine WL.op rfl (opW.moveI rfl ?_)
    refine WL.op rfl (opW.fieldAddrB rfl ?_)
    refine WL.op rfl (opW.fieldAddrB rfl ?_)
    refine WL.op0 (opW.storeF (b := b2) (o := 1) (v := .int .u8 ((x0).toNat : Int)) (sz := 1) (cs := Enc.enc (⟨v0, ⟨0, 0, 0⟩, ⟨none, 0, 0⟩, vz 32, ⟨none, 0, 0⟩, ⟨none, 0, 0⟩⟩ : Message)) (cs' := Enc.enc (⟨v0, ⟨x0, 0, 0⟩, ⟨none, 0, 0⟩, vz 32, ⟨none, 0, 0⟩, ⟨none, 0, 0⟩⟩ : Message)) hS rfl rfl (by first | exact .h0 | exact .h1 | exact .h2 | exact .h3 | exact .h4 | exact .h5 | exact .h6 | exact .h7 | exact .h8 | exact .h9 | exact .h10 | exact .h11 | exact .h12 | exact .h13 | exact .h14) rfl (by rw [Enc.size_eq]; decide) (one_int _ _) (Message.set_h0 (⟨v0, ⟨0, 0, 0⟩, ⟨none, 0, 0⟩, vz 32, ⟨none, 0, 0⟩, ⟨none, 0, 0⟩⟩ : Message) x0) ?_)
    intro w hS; replace hS := hS _ (by first | exact .h0 | exact .h1 | exact .h2 | exact .h3 | exact .h4 | exact .h5 | exact .h6 | exact .h7 | exact .h8 | exact .h9 | exact .h10 | exact .h11 | exact .h12 | exact .h13 | exact .h14)
    refine WL.nil ?_
    refine thenQ_n (hK6 _ _ ?_)
    refine WC.seq (fun K7 hK7 => ?_)
    refine WC.region ?_
    refine WL.op rfl (opW.moveV (v := .pointer (some ⟨p, 0, none⟩)) rfl ?_)
    refine WL.opP rfl (opWP.call (rd_byte _ _ _ p bs xs a2 hb hxl ha2 (hS.pick (by first | exact .h0 | exact .h1 | exact .h2 | exact .h3 | exact .h4 | exact .h5 | exact .h6 | exact .h7 | exact .h8 | exact .h9 | exact .h10 | exact .h11 | exact .h12 | exact .h13 | exact .h14))) rfl ?_ ?_)
    · rintro pv w ⟨e, a', he, rfl, hS⟩
      exact ⟨_, rfl, e, a', by simp only [rMsg, hg, he, rByte_e, rAll_e, rKey_e, ite_self], rfl, hS.sub (by repeat (first | with_reducible exact List.nil_sublist _ | with_reducible exact List.Sublist.refl _ | with_reducible refine List.Sublist.cons₂ _ ?_ | with_reducible refine List.Sublist.cons _ ?_))⟩
    rintro _ w ⟨a3, rfl, q1, ha3, hS⟩
    refine WL.op rfl (opW.fieldAddrB rfl ?_)
    refine WL.op rfl (opW.fieldAddrB rfl ?_)
    refine WL.op0 (opW.storeF (b := b2) (o := 2) (v := .int .u8 (((rByte xs (.ok a2)).1).toNat : Int)) (sz := 1) (cs := Enc.enc (⟨v0, ⟨x0, 0, 0⟩, ⟨none, 0, 0⟩, vz 32, ⟨none, 0, 0⟩, ⟨none, 0, 0⟩⟩ : Message)) (cs' := Enc.enc (⟨v0, ⟨x0, (rByte xs (.ok a2)).1, 0⟩, ⟨none, 0, 0⟩, vz 32, ⟨none, 0, 0⟩, ⟨none, 0, 0⟩⟩ : Message)) hS rfl rfl (by first | exact .h0 | exact .h1 | exact .h2 | exact .h3 | exact .h4 | exact .h5 | exact .h6 | exact .h7 | exact .h8 | exact .h9 | exact .h10 | exact .h11 | exact .h12 | exact .h13 | exact .h14) rfl (by rw [Enc.size_eq]; decide) (one_int _ _) (Message.set_h1 (⟨v0, ⟨x0, 0, 0⟩, ⟨none, 0, 0⟩, vz 32, ⟨none, 0, 0⟩, ⟨none, 0, 0⟩⟩ : Message) (rByte xs (.ok a2)).1) ?_)
    intro w hS; replace hS := hS _ (by first | exact .h0 | exact .h1 | exact .h2 | exact .h3 | exact .h4 | exact .h5 | exact .h6 | exact .h7 | exact .h8 | exact .h9 | exact .h10 | exact .h11 | exact .h12 | exact .h13 | exact .h14)
    refine WL.nil ?_
    refine thenQ_n (hK7 _ _ ?_)
    refine WC.seq (fun K8 hK8 => ?_)
    refine WC.region ?_
    refine WL.op rfl (opW.moveV (v := .pointer (some ⟨p, 0, none⟩)) rfl ?_)
    refine WL.opP rfl (opWP.call (rd_byte _ _ _ p bs xs a3 hb hxl ha3 (hS.pick (by first | exact .h0 | exact .h1 | exact .h2 | exact .h3 | exact .h4 | exact .h5 | exact .h6 | exact .h7 | exact .h8 | exact .h9 | exact .h10 | exact .h11 | exact .h12 | exact .h13 | exact .h14))) rfl ?_ ?_)
    · rintro pv w ⟨e, a', he, rfl, hS⟩
      exact ⟨_, rfl, e, a', by simp only [rMsg, hg, q1, he, rByte_e, rAll_e, rKey_e, ite_self], rfl, hS.sub (by repeat (first | with_reducible exact List.nil_sublist _ | with_reducible exact List.Sublist.refl _ | with_reducible refine List.Sublist.cons₂ _ ?_ | with_reducible refine List.Sublist.cons _ ?_))⟩
    rintro _ w ⟨a4, rfl, q2, ha4, hS⟩
    refine WL.op rfl (opW.fieldAddrB rfl ?_)
    refine WL.op rfl (opW.fieldAddrB rfl ?_)
    refine WL.op0 (opW.storeF (b := b2) (o := 3) (v := .int .u8 (((rByte xs (.ok a3)).1).toNat : Int)) (sz := 1) (cs := Enc.enc (⟨v0, ⟨x0, (rByte xs (.ok a2)).1, 0⟩, ⟨none, 0, 0⟩, vz 32, ⟨none, 0, 0⟩, ⟨none, 0, 0⟩⟩ : Message)) (cs' := Enc.enc (⟨v0, ⟨x0, (rByte xs (.ok a2)).1, (rByte xs (.ok a3)).1⟩, ⟨none, 0, 0⟩, vz 32, ⟨none, 0, 0⟩, ⟨none, 0, 0⟩⟩ : Message)) hS rfl rfl (by first | exact .h0 | exact .h1 | exact .h2 | exact .h3 | exact .h4 | exact .h5 | exact .h6 | exact .h7 | exact .h8 | exact .h9 | exact .h10 | exact .h11 | exact .h12 | exact .h13 | exact .h14) rfl (by rw [Enc.size_eq]; decide) (one_int _ _) (Message.set_h2 (⟨v0, ⟨x0, (rByte xs (.ok a2)).1, 0⟩, ⟨none, 0, 0⟩, vz 32, ⟨none, 0, 0⟩, ⟨none, 0, 0⟩⟩ : Message) (rByte xs (.ok a3)).1) ?_)
    intro w hS; replace hS := hS _ (by first | exact .h0 | exact .h1 | exact .h2 | exact .h3 | exact .h4 | exact .h5 | exact .h6 | exact .h7 | exact .h8 | exact .h9 | exact .h10 | exact .h11 | exact .h12 | exact .h13 | exact .h14)
    refine WL.nil ?_
    refine thenQ_n (hK8 _ _ ?_)
    refine WC.seq (fun K9 hK9 => ?_)
    refine WC.region ?_
    refine WL.op rfl (opW.moveV (v := .pointer (some ⟨p, 0, none⟩)) rfl ?_)
    refine WL.op rfl (opW.moveV (v := .pointer (some ⟨p, 0, none⟩)) rfl ?_)
    refine WL.op rfl (opW.makeFn rfl rfl ?_)
    refine WL.opP rfl (opWP.call (rd_all_key _ _ _ p bs xs a4 hb hxl ha4 (hS.pick (by first | exact .h0 | exact .h1 | exact .h2 | exact .h3 | exact .h4 | exact .h5 | exact .h6 | exact .h7 | exact .h8 | exact .h9 | exact .h10 | exact .h11 | exact .h12 | exact .h13 | exact .h14))) rfl ?_ ?_)
    · rintro pv w ⟨e, a', he, rfl, hS⟩
      exact ⟨_, rfl, e, a', by simp only [rMsg, hg, q1, q2, he, rByte_e, rAll_e, rKey_e, ite_self], rfl, hS.sub (by repeat (first | with_reducible exact List.nil_sublist _ | with_reducible exact List.Sublist.refl _ | with_reducible refine List.Sublist.cons₂ _ ?_ | with_reducible refine List.Sublist.cons _ ?_))⟩
    rintro _ w ⟨sk, a5, rfl, q3, ha5, hkl, hS⟩
    refine WL.op rfl (opW.fieldAddrB rfl ?_)
    refine WL.op0 (opW.storeF (b := b2) (o := 4) (v := sk.v) (sz := 1) (cs := Enc.enc (⟨v0, ⟨x0, (rByte xs (.ok a2)).1, (rByte xs (.ok a3)).1⟩, ⟨none, 0, 0⟩, vz 32, ⟨none, 0, 0⟩, ⟨none, 0, 0⟩⟩ : Message)) (cs' := Enc.enc (⟨v0, ⟨x0, (rByte xs (.ok a2)).1, (rByte xs (.ok a3)).1⟩, sk, vz 32, ⟨none, 0, 0⟩, ⟨none, 0, 0⟩⟩ : Message)) hS rfl rfl (by first | exact .h0 | exact .h1 | exact .h2 | exact .h3 | exact .h4 | exact .h5 | exact .h6 | exact .h7 | exact .h8 | exact .h9 | exact .h10 | exact .h11 | exact .h12 | exact .h13 | exact .h14) rfl (by rw [Enc.size_eq]; decide) (Enc.one (α := SlV) sk) (Message.set_keys (⟨v0, ⟨x0, (rByte xs (.ok a2)).1, (rByte xs (.ok a3)).1⟩, ⟨none, 0, 0⟩, vz 32, ⟨none, 0, 0⟩, ⟨none, 0, 0⟩⟩ : Message) sk) ?_)
    intro w hS; replace hS := hS _ (by first | exact .h0 | exact .h1 | exact .h2 | exact .h3 | exact .h4 | exact .h5 | exact .h6 | exact .h7 | exact .h8 | exact .h9 | exact .h10 | exact .h11 | exact .h12 | exact .h13 | exact .h14)
    refine WL.nil ?_
    refine thenQ_n (hK9 _ _ ?_)
    refine WC.seq (fun K10 hK10 => ?_)
    refine WC.region ?_
    refine WL.op rfl (opW.moveV (v := .pointer (some ⟨p, 0, none⟩)) rfl ?_)
    refine WL.opP rfl (opWP.call (rd_key _ _ _ p bs xs a5 hb hxl ha5 (hS.pick (by first | exact .h0 | exact .h1 | exact .h2 | exact .h3 | exact .h4 | exact .h5 | exact .h6 | exact .h7 | exact .h8 | exact .h9 | exact .h10 | exact .h11 | exact .h12 | exact .h13 | exact .h14))) rfl ?_ ?_)
    · rintro pv w ⟨e, a', he, rfl, hS⟩
      exact ⟨_, rfl, e, a', by simp only [rMsg, hg, q1, q2, q3, he, rByte_e, rAll_e, rKey_e, ite_self], rfl, hS.sub (by repeat (first | with_reducible exact List.nil_sublist _ | with_reducible exact List.Sublist.refl _ | with_reducible refine List.Sublist.cons₂ _ ?_ | with_reducible refine List.Sublist.cons _ ?_))⟩
    rintro _ w ⟨a6, rfl, q4, ha6, hS⟩
    refine WL.op rfl (opW.fieldAddrB rfl ?_)
    refine WL.op0 (opW.storeF (b := b2) (o := 5) (v := .agg (Enc.enc (rKey xs (.ok a5)).1)) (sz := 32) (cs := Enc.enc (⟨v0, ⟨x0, (rByte xs (.ok a2)).1, (rByte xs (.ok a3)).1⟩, sk, vz 32, ⟨none, 0, 0⟩, ⟨none, 0, 0⟩⟩ : Message)) (cs' := Enc.enc (⟨v0, ⟨x0, (rByte xs (.ok a2)).1, (rByte xs (.ok a3)).1⟩, sk, (rKey xs (.ok a5)).1, ⟨none, 0, 0⟩, ⟨none, 0, 0⟩⟩ : Message)) hS rfl rfl (by first | exact .h0 | exact .h1 | exact .h2 | exact .h3 | exact .h4 | exact .h5 | exact .h6 | exact .h7 | exact .h8 | exact .h9 | exact .h10 | exact .h11 | exact .h12 | exact .h13 | exact .h14) (Enc.size_eq _) (by rw [Enc.size_eq]; decide) (Enc.one (α := Vector UInt8 32) _) (Message.set_recent (⟨v0, ⟨x0, (rByte xs (.ok a2)).1, (rByte xs (.ok a3)).1⟩, sk, vz 32, ⟨none, 0, 0⟩, ⟨none, 0, 0⟩⟩ : Message) (rKey xs (.ok a5)).1) ?_)
    intro w hS; replace hS := hS _ (by first | exact .h0 | exact .h1 | exact .h2 | exact .h3 | exact .h4 | exact .h5 | exact .h6 | exact .h7 | exact .h8 | exact .h9 | exact .h10 | exact .h11 | exact .h12 | exact .h13 | exact .h14)
    refine WL.nil ?_
    refine thenQ_n (hK10 _ _ ?_)
    refine WC.seq (fun K11 hK11 => ?_)
    refine WC.region ?_
    refine WL.op rfl (opW.moveV (v := .pointer (some ⟨p, 0, none⟩)) rfl ?_)
    refine WL.op rfl (opW.moveV (v := .pointer (some ⟨p, 0, none⟩)) rfl ?_)
    refine WL.op rfl (opW.makeFn rfl rfl ?_)
    refine WL.opP rfl (opWP.call (rd_all_instr _ _ _ p bs xs a6 hb hxl ha6 (hS.pick (by first | exact .h0 | exact .h1 | exact .h2 | exact .h3 | exact .h4 | exact .h5 | exact .h6 | exact .h7 | exact .h8 | exact .h9 | exact .h10 | exact .h11 | exact .h12 | exact .h13 | exact .h14))) rfl ?_ ?_)
    · rintro pv w ⟨e, a', he, rfl, hS⟩
      exact ⟨_, rfl, e, a', by simp only [rMsg, hg, q1, q2, q3, q4, he, rByte_e, rAll_e, rKey_e, ite_self], rfl, hS.sub (by repeat (first | with_reducible exact List.nil_sublist _ | with_reducible exact List.Sublist.refl _ | with_reducible refine List.Sublist.cons₂ _ ?_ | with_reducible refine List.Sublist.cons _ ?_))⟩
    rintro _ w ⟨si, is, a7, rfl, q5, ha7, his, hip, hil, hS⟩
    refine WL.op rfl (opW.fieldAddrB rfl ?_)
    refine WL.op0 (opW.storeF (b := b2) (o := 37) (v := si.v) (sz := 1) (cs := Enc.enc (⟨v0, ⟨x0, (rByte xs (.ok a2)).1, (rByte xs (.ok a3)).1⟩, sk, (rKey xs (.ok a5)).1, ⟨none, 0, 0⟩, ⟨none, 0, 0⟩⟩ : Message)) (cs' := Enc.enc (⟨v0, ⟨x0, (rByte xs (.ok a2)).1, (rByte xs (.ok a3)).1⟩, sk, (rKey xs (.ok a5)).1, si, ⟨none, 0, 0⟩⟩ : Message)) hS rfl rfl (by first | exact .h0 | exact .h1 | exact .h2 | exact .h3 | exact .h4 | exact .h5 | exact .h6 | exact .h7 | exact .h8 | exact .h9 | exact .h10 | exact .h11 | exact .h12 | exact .h13 | exact .h14) rfl (by rw [Enc.size_eq]; decide) (Enc.one (α := SlV) si) (Message.set_instrs (⟨v0, ⟨x0, (rByte xs (.ok a2)).1, (rByte xs (.ok a3)).1⟩, sk, (rKey xs (.ok a5)).1, ⟨none, 0, 0⟩, ⟨none, 0, 0⟩⟩ : Message) si) ?_)
    intro w hS; replace hS := hS _ (by first | exact .h0 | exact .h1 | exact .h2 | exact .h3 | exact .h4 | exact .h5 | exact .h6 | exact .h7 | exact .h8 | exact .h9 | exact .h10 | exact .h11 | exact .h12 | exact .h13 | exact .h14)
    refine WL.nil ?_
    refine thenQ_n (hK11 _ _ ?_)
    refine WC.seq (fun K12 hK12 => ?_)
    refine WC.seq (fun K13 hK13 => ?_)
    refine WC.region ?_
    refine WL.op rfl (opW.fieldAddrB rfl ?_)
    refine WL.op rfl (opW.loadV rfl (hS.ld1 (by first | exact .h0 | exact .h1 | exact .h2 | exact .h3 | exact .h4 | exact .h5 | exact .h6 | exact .h7 | exact .h8 | exact .h9 | exact .h10 | exact .h11 | exact .h12 | exact .h13 | exact .h14) (Message.at_v0 (⟨v0, ⟨x0, (rByte xs (.ok a2)).1, (rByte xs (.ok a3)).1⟩, sk, (rKey xs (.ok a5)).1, si, ⟨none, 0, 0⟩⟩ : Message))) ?_)
    refine WL.nil ?_
    refine thenQ_n (hK13 _ _ ?_)
    refine WC.cond _ rfl (fun hc1 => ?_) (fun hc1 => ?_)
    ·
      have hr1 := hc1
      try simp only [decide_eq_true_eq, decide_eq_false_iff_not, Bool.and_eq_true, Bool.or_eq_true, Bool.and_eq_false_iff, Bool.or_eq_false_iff, Bool.not_eq_true', Bool.not_eq_false', Int.not_lt, Int.not_le] at hc1
      subst hr1
      refine WC.region ?_
      refine WL.op rfl (opW.moveV (v := .pointer (some ⟨p, 0, none⟩)) rfl ?_)
      refine WL.op rfl (opW.moveV (v := .pointer (some ⟨p, 0, none⟩)) rfl ?_)
      refine WL.op rfl (opW.makeFn rfl rfl ?_)
      refine WL.opP rfl (opWP.call (rd_all_lookup _ _ _ p bs xs a7 hb hxl ha7 (hS.pick (by first | exact .h0 | exact .h1 | exact .h2 | exact .h3 | exact .h4 | exact .h5 | exact .h6 | exact .h7 | exact .h8 | exact .h9 | exact .h10 | exact .h11 | exact .h12 | exact .h13 | exact .h14))) rfl ?_ ?_)
      · rintro pv w ⟨e, a', he, rfl, hS⟩
        exact ⟨_, rfl, e, a', by simp only [rMsg, hg, q1, q2, q3, q4, q5, if_true, he], rfl, hS.sub (by repeat (first | with_reducible exact List.nil_sublist _ | with_reducible exact List.Sublist.refl _ | with_reducible refine List.Sublist.cons₂ _ ?_ | with_reducible refine List.Sublist.cons _ ?_))⟩
      rintro _ w ⟨sl, ls, a8, rfl, q6, ha8, hls, hlp, hll, hS⟩
      refine WL.op rfl (opW.fieldAddrB rfl ?_)
      refine WL.op0 (opW.storeF (b := b2) (o := 38) (v := sl.v) (sz := 1) (cs := Enc.enc (⟨true, ⟨x0, (rByte xs (.ok a2)).1, (rByte xs (.ok a3)).1⟩, sk, (rKey xs (.ok a5)).1, si, ⟨none, 0, 0⟩⟩ : Message)) (cs' := Enc.enc (⟨true, ⟨x0, (rByte xs (.ok a2)).1, (rByte xs (.ok a3)).1⟩, sk, (rKey xs (.ok a5)).1, si, sl⟩ : Message)) hS rfl rfl (by first | exact .h0 | exact .h1 | exact .h2 | exact .h3 | exact .h4 | exact .h5 | exact .h6 | exact .h7 | exact .h8 | exact .h9 | exact .h10 | exact .h11 | exact .h12 | exact .h13 | exact .h14) rfl (by rw [Enc.size_eq]; decide) (Enc.one (α := SlV) sl) (Message.set_lookups (⟨true, ⟨x0, (rByte xs (.ok a2)).1, (rByte xs (.ok a3)).1⟩, sk, (rKey xs (.ok a5)).1, si, ⟨none, 0, 0⟩⟩ : Message) sl) ?_)
      intro w hS; replace hS := hS _ (by first | exact .h0 | exact .h1 | exact .h2 | exact .h3 | exact .h4 | exact .h5 | exact .h6 | exact .h7 | exact .h8 | exact .h9 | exact .h10 | exact .h11 | exact .h12 | exact .h13 | exact .h14)
      refine WL.nil ?_
      refine thenQ_n (hK12 _ _ ?_)
      refine WC.seq (fun K14 hK14 => ?_)
      refine WC.region ?_
      refine WL.op rfl (opW.loadV rfl (by exact hS.ldA (by first | exact .h0 | exact .h1 | exact .h2 | exact .h3 | exact .h4 | exact .h5 | exact .h6 | exact .h7 | exact .h8 | exact .h9 | exact .h10 | exact .h11 | exact .h12 | exact .h13 | exact .h14) (by exact Enc.size_eq _)) ?_)
      refine WL.op0 (opW.storeE hS rfl rfl (by first | exact .h0 | exact .h1 | exact .h2 | exact .h3 | exact .h4 | exact .h5 | exact .h6 | exact .h7 | exact .h8 | exact .h9 | exact .h10 | exact .h11 | exact .h12 | exact .h13 | exact .h14) (by exact Enc.size_eq _) ?_)
      intro w hS; replace hS := hS _ (by first | exact .h0 | exact .h1 | exact .h2 | exact .h3 | exact .h4 | exact .h5 | exact .h6 | exact .h7 | exact .h8 | exact .h9 | exact .h10 | exact .h11 | exact .h12 | exact .h13 | exact .h14)
      refine WL.nil ?_
      refine thenQ_n (hK14 _ _ ?_)
      refine WC.ret ?_
      refine bodyQP_ret (.cell (by exact hS.ldA (by first | exact .h0 | exact .h1 | exact .h2 | exact .h3 | exact .h4 | exact .h5 | exact .h6 | exact .h7 | exact .h8 | exact .h9 | exact .h10 | exact .h11 | exact .h12 | exact .h13 | exact .h14) (by exact Enc.size_eq _)) .nil) ?_
      have e0 : rMsg xs (.ok a) = ((⟨true, ⟨x0, (rByte xs (.ok a2)).1, (rByte xs (.ok a3)).1⟩, (rAll xs (rKey xs) (.ok a4)).1, (rKey xs (.ok a5)).1, (rAll xs (rInstr xs) (.ok a6)).1, (rAll xs (rLookup xs) (.ok a7)).1⟩ : MC), .ok a8) := by
        simp only [rMsg, hg, q1, q2, q3, q4, q5, q6, if_true]
      refine ⟨(⟨true, ⟨x0, (rByte xs (.ok a2)).1, (rByte xs (.ok a3)).1⟩, sk, (rKey xs (.ok a5)).1, si, sl⟩ : Message), is, ls, a8, rfl, ?_, ?_, ha8, ?_⟩
      · rw [e0]; exact ⟨rfl, rfl, rfl, his, hip, hls, hlp, hkl, hil, hll⟩
      · rw [e0]
      · rw [e0]
        replace hS := hS.pick (e := rdE p bs a8) (by first | exact .h0 | exact .h1 | exact .h2 | exact .h3 | exact .h4 | exact .h5 | exact .h6 | exact .h7 | exact .h8 | exact .h9 | exact .h10 | exact .h11 | exact .h12 | exact .h13 | exact .h14)
        replace hS := hS.pick (e := b2E (zipL ls (rAll xs (rLookup xs) (.ok a7)).1)) (by first | exact .h0 | exact .h1 | exact .h2 | exact .h3 | exact .h4 | exact .h5 | exact .h6 | exact .h7 | exact .h8 | exact .h9 | exact .h10 | exact .h11 | exact .h12 | exact .h13 | exact .h14)
        replace hS := hS.pick (e := ownE sl.v 92 ls) (by first | exact .h0 | exact .h1 | exact .h2 | exact .h3 | exact .h4 | exact .h5 | exact .h6 | exact .h7 | exact .h8 | exact .h9 | exact .h10 | exact .h11 | exact .h12 | exact .h13 | exact .h14)
        replace hS := hS.pick (e := b2E (zipI is (rAll xs (rInstr xs) (.ok a6)).1)) (by first | exact .h0 | exact .h1 | exact .h2 | exact .h3 | exact .h4 | exact .h5 | exact .h6 | exact .h7 | exact .h8 | exact .h9 | exact .h10 | exact .h11 | exact .h12 | exact .h13 | exact .h14)
        replace hS := hS.pick (e := ownE si.v 90 is) (by first | exact .h0 | exact .h1 | exact .h2 | exact .h3 | exact .h4 | exact .h5 | exact .h6 | exact .h7 | exact .h8 | exact .h9 | exact .h10 | exact .h11 | exact .h12 | exact .h13 | exact .h14)
        replace hS := hS.pick (e := ownE sk.v 58 (rAll xs (rKey xs) (.ok a4)).1) (by first | exact .h0 | exact .h1 | exact .h2 | exact .h3 | exact .h4 | exact .h5 | exact .h6 | exact .h7 | exact .h8 | exact .h9 | exact .h10 | exact .h11 | exact .h12 | exact .h13 | exact .h14)
        show St wb (ownE sk.v 58 (rAll xs (rKey xs) (.ok a4)).1 :: ownE si.v 90 is :: b2E (zipI is (rAll xs (rInstr xs) (.ok a6)).1) :: ownE sl.v 92 ls :: b2E (zipL ls (rAll xs (rLookup xs) (.ok a7)).1) :: rdE p bs a8 :: S) w
        exact hS.sub (by repeat (first | with_reducible exact List.nil_sublist _ | with_reducible exact List.Sublist.refl _ | with_reducible refine List.Sublist.cons₂ _ ?_ | with_reducible refine List.Sublist.cons _ ?_))
    ·
      have hr1 := hc1
      try simp only [decide_eq_true_eq, decide_eq_false_iff_not, Bool.and_eq_true, Bool.or_eq_true, Bool.and_eq_false_iff, Bool.or_eq_false_iff, Bool.not_eq_true', Bool.not_eq_false', Int.not_lt, Int.not_le] at hc1
      subst hr1
      refine WC.skip ?_
      refine thenQ_n (hK12 _ _ ?_)
      refine WC.seq (fun K15 hK15 => ?_)
      refine WC.region ?_
      refine WL.op rfl (opW.loadV rfl (by exact hS.ldA (by first | exact .h0 | exact .h1 | exact .h2 | exact .h3 | exact .h4 | exact .h5 | exact .h6 | exact .h7 | exact .h8 | exact .h9 | exact .h10 | exact .h11 | exact .h12 | exact .h13 | exact .h14) (by exact Enc.size_eq _)) ?_)
      refine WL.op0 (opW.storeE hS rfl rfl (by first | exact .h0 | exact .h1 | exact .h2 | exact .h3 | exact .h4 | exact .h5 | exact .h6 | exact .h7 | exact .h8 | exact .h9 | exact .h10 | exact .h11 | exact .h12 | exact .h13 | exact .h14) (by exact Enc.size_eq _) ?_)
      intro w hS; replace hS := hS _ (by first | exact .h0 | exact .h1 | exact .h2 | exact .h3 | exact .h4 | exact .h5 | exact .h6 | exact .h7 | exact .h8 | exact .h9 | exact .h10 | exact .h11 | exact .h12 | exact .h13 | exact .h14)
      refine WL.nil ?_
      refine thenQ_n (hK15 _ _ ?_)
      refine WC.ret ?_
      refine bodyQP_ret (.cell (by exact hS.ldA (by first | exact .h0 | exact .h1 | exact .h2 | exact .h3 | exact .h4 | exact .h5 | exact .h6 | exact .h7 | exact .h8 | exact .h9 | exact .h10 | exact .h11 | exact .h12 | exact .h13 | exact .h14) (by exact Enc.size_eq _)) .nil) ?_
      have e0 : rMsg xs (.ok a) = ((⟨false, ⟨x0, (rByte xs (.ok a2)).1, (rByte xs (.ok a3)).1⟩, (rAll xs (rKey xs) (.ok a4)).1, (rKey xs (.ok a5)).1, (rAll xs (rInstr xs) (.ok a6)).1, []⟩ : MC), .ok a7) := by
        simp only [rMsg, hg, q1, q2, q3, q4, q5, Bool.false_eq_true, if_false]
      replace hS := (hS.b2New).nilOwn (α := Lookup) 92
      refine ⟨(⟨false, ⟨x0, (rByte xs (.ok a2)).1, (rByte xs (.ok a3)).1⟩, sk, (rKey xs (.ok a5)).1, si, ⟨none, 0, 0⟩⟩ : Message), is, [], a7, rfl, ?_, ?_, ha7, ?_⟩
      · rw [e0]; exact ⟨rfl, rfl, rfl, his, hip, rfl, rfl, hkl, hil, (show (0 : Nat) < 65536 by decide)⟩
      · rw [e0]
      · rw [e0]
        replace hS := hS.pick (e := rdE p bs a7) (by first | exact .h0 | exact .h1 | exact .h2 | exact .h3 | exact .h4 | exact .h5 | exact .h6 | exact .h7 | exact .h8 | exact .h9 | exact .h10 | exact .h11 | exact .h12 | exact .h13 | exact .h14)
        replace hS := hS.pick (e := b2E []) (by first | exact .h0 | exact .h1 | exact .h2 | exact .h3 | exact .h4 | exact .h5 | exact .h6 | exact .h7 | exact .h8 | exact .h9 | exact .h10 | exact .h11 | exact .h12 | exact .h13 | exact .h14)
        replace hS := hS.pick (e := ownE (α := Lookup) (.slice none 0 0) 92 []) (by first | exact .h0 | exact .h1 | exact .h2 | exact .h3 | exact .h4 | exact .h5 | exact .h6 | exact .h7 | exact .h8 | exact .h9 | exact .h10 | exact .h11 | exact .h12 | exact .h13 | exact .h14)
        replace hS := hS.pick (e := b2E (zipI is (rAll xs (rInstr xs) (.ok a6)).1)) (by first | exact .h0 | exact .h1 | exact .h2 | exact .h3 | exact .h4 | exact .h5 | exact .h6 | exact .h7 | exact .h8 | exact .h9 | exact .h10 | exact .h11 | exact .h12 | exact .h13 | exact .h14)
        replace hS := hS.pick (e := ownE si.v 90 is) (by first | exact .h0 | exact .h1 | exact .h2 | exact .h3 | exact .h4 | exact .h5 | exact .h6 | exact .h7 | exact .h8 | exact .h9 | exact .h10 | exact .h11 | exact .h12 | exact .h13 | exact .h14)
        replace hS := hS.pick (e := ownE sk.v 58 (rAll xs (rKey xs) (.ok a4)).1) (by first | exact .h0 | exact .h1 | exact .h2 | exact .h3 | exact .h4 | exact .h5 | exact .h6 | exact .h7 | exact .h8 | exact .h9 | exact .h10 | exact .h11 | exact .h12 | exact .h13 | exact .h14)
        show St wb (ownE sk.v 58 (rAll xs (rKey xs) (.ok a4)).1 :: ownE si.v 90 is :: b2E (zipI is (rAll xs (rInstr xs) (.ok a6)).1) :: ownE (α := Lookup) (.slice none 0 0) 92 [] :: b2E [] :: rdE p bs a7 :: S) w
        exact hS.sub (by repeat (first | with_reducible exact List.nil_sublist _ | with_reducible exact List.Sublist.refl _ | with_reducible refine List.Sublist.cons₂ _ ?_ | with_reducible refine List.Sublist.cons _ ?_))

end Go.Fer
