/- the document: Do -/
import Derived.Test.YtmibkfdpgmohfaaGreatDoorR2
set_option linter.all false
namespace Go.Fer
open Go Go.Proofs Go.RowKit

def toR (x : Ask) : RAsk := ⟨x.tag, x.coins, x.space, x.owner⟩
theorem toR_tag (x : Ask) : (Enc.enc (toR x))[0]? = some (.int .u64 (x.tag : Int)) := RAsk.at_tag (toR x)
theorem toR_coins (x : Ask) : (Enc.enc (toR x))[1]? = some (.int .u64 (x.coins : Int)) := RAsk.at_coins (toR x)
theorem toR_space (x : Ask) : (Enc.enc (toR x))[2]? = some (.int .u64 (x.space : Int)) := RAsk.at_space (toR x)
theorem toR_owner (x : Ask) : (Enc.enc (toR x)).extract 3 (3 + 32) = Enc.enc x.owner := RAsk.ex_owner (toR x)
theorem getR8 {b : List UInt8} (h : 8 ≤ b.length) : getR b 8 = (leN (b.take 8), 0) := getR_ok (m := 8) (by omega) (by omega) h
theorem getR4o {b : List UInt8} (h : ¬ b.length < 4) : getR b 4 = (leN (b.take 4), 0) := getR_ok (m := 4) (by omega) (by omega) (by omega)
theorem getR4s {b : List UInt8} (h : b.length < 4) : getR b 4 = (0, 5) := by unfold getR; rw [if_neg (by omega), if_pos (by omega)]
theorem SlR.behind {w : World} {v : Value} {xs : List UInt8} (h : SlR w v xs) {k : Nat} (hk : k ≤ xs.length) : SlR w (cutV v k xs.length (capV v) (Enc.sz UInt8)) (xs.drop k) := by
 have h1 := h.cut (l := k) (h := xs.length) (m := capV v) hk (Nat.le_refl _) h.cap (Nat.le_refl _)
 rw [List.take_length] at h1; exact h1

theorem rask_zero : (joinA [#[.int .u64 0], #[.int .u64 0], #[.int .u64 0], (Array.replicate 32 (.int .u8 0))]) = Enc.enc (⟨0, 0, 0, vz 32⟩ : RAsk) := by
 simp only [RAsk.enc_eq, RAsk.parts, enc_vz]; rfl

theorem rplain_ok (w0 : World) (a : Account) : Ret Tryz.prog 60 #[.agg (Enc.enc a)] w0 (fun u w' => u = .bool (plainB a) ∧ Bel w0 w') := by
 refine Ret.enter (args := [.agg (Enc.enc a)]) Tryz.func60 rfl Tryz.ntmps60 Tryz.results60 rfl ?_
 have hS := St.start w0
 refine WC.seq (fun K1 hK1 => ?_)
 refine WC.region ?_
 refine WL.op rfl (opW.boxA hS rfl ?_)
 intro b1 w _ hS
 refine WL.op rfl (opW.assignB rfl ?_)
 refine WL.nil ?_
 refine thenQ_n (hK1 _ _ ?_)
 refine WC.seq (fun K2 hK2 => ?_)
 refine WC.region ?_
 refine WL.op rfl (opW.fieldAddrB rfl ?_)
 refine WL.op rfl (opW.loadV rfl (hS.ldF (cs := Enc.enc a) (o := 1) (by repeat constructor) (Account.ex_owner _) (by rw [Enc.size_eq]; decide)) ?_)
 refine WL.op rfl (opW.buildVec (k := sysK) (by first | rfl | (simp only [sysK, az, enc_vset, enc_vz]; rfl)) (by intro p hp; first | (exfalso; simp at hp; done) | (simp only [List.map_cons, List.map_nil, List.mem_cons, List.not_mem_nil, or_false] at hp; rcases hp with rfl | rfl | rfl | rfl <;> exact ⟨by simp, rfl⟩)) ?_)
 refine WL.op rfl (opW.eqlE rfl rfl ?_)
 refine WL.op rfl (opW.moveB rfl ?_)
 refine WL.gd _ 7 _ rfl rfl rfl rfl (fun hg8 => opW.fieldAddrB rfl ⟨rfl, Bel.refl _⟩) (fun w hw => ?_)
 replace hS := hS.bel hw
 refine WL.gd _ 7 _ rfl rfl rfl rfl (fun hg9 => opW.loadV (by first | exact gv_of rfl hg9 | rfl) (hS.ld1 (by repeat constructor) (Account.at_space _)) ⟨rfl, Bel.refl _⟩) (fun w hw => ?_)
 replace hS := hS.bel hw
 refine WL.gd _ 7 _ rfl rfl rfl rfl (fun hg10 => opW.eql (by first | exact gv_of rfl hg10 | rfl) rfl ⟨rfl, Bel.refl _⟩) (fun w hw => ?_)
 replace hS := hS.bel hw
 refine WL.op rfl (opW.pickAnd rfl (by first | rfl) rfl ?_)
 refine WL.op rfl (opW.assignB rfl ?_)
 refine WL.nil ?_
 refine thenQ_n (hK2 _ _ ?_)
 refine WC.ret ?_
 refine bodyQ_ret (.tmpB rfl .nil) ?_
 exact ⟨rfl, hS.old⟩

set_option maxHeartbeats 2000000 in
theorem rdata_ok (w0 : World) (v : Value) (bs : List UInt8) (hx : SlR w0 v bs) : Ret Tryz.prog 58 #[v] w0 (fun u w' => ∃ (x : Ask) (b : Bool), u = .tuple #[.agg (Enc.enc (toR x)), .bool b] ∧ b = (askF bs).isSome ∧ (b = true → askF bs = some x) ∧ Bel w0 w') := by
 refine Ret.enter (args := [v]) Tryz.func58 rfl Tryz.ntmps58 Tryz.results58 rfl ?_
 have hS := St.start w0
 refine WC.seq (fun K1 hK1 => ?_)
 refine WC.region ?_
 refine WL.op rfl (opW.allocA hS ?_)
 intro b2 w _ hS
 refine WL.op rfl (opW.assignB rfl ?_)
 rw [rask_zero] at hS
 refine WL.nil ?_
 refine thenQ_n (hK1 _ _ ?_)
 refine WC.seq (fun K2 hK2 => ?_)
 refine WC.region ?_
 refine WL.op rfl (opW.moveV (v := v) rfl ?_)
 refine WL.op rfl (opW.call (ref_get _ v bs 4 (hx.bel hS.old)) rfl ?_)
 rintro _ w ⟨rfl, hw⟩; replace hS := hS.bel hw
 refine WL.op rfl (opW.moveV (v := .tuple #[.int .u64 ((getR bs 4).1 : Int), .int .i64 (getR bs 4).2]) rfl ?_)
 refine WL.op rfl (opW.extract rfl rfl ?_)
 refine WL.op rfl (opW.extract rfl rfl ?_)
 refine WL.op rfl (opW.assignI rfl ?_)
 refine WL.op rfl (opW.assignI rfl ?_)
 refine WL.nil ?_
 refine thenQ_n (hK2 _ _ ?_)
 refine WC.seq (fun K3 hK3 => ?_)
 refine WC.seq (fun K4 hK4 => ?_)
 refine WC.region ?_
 refine WL.op rfl (opW.moveI rfl ?_)
 refine WL.op rfl (opW.neq rfl rfl ?_)
 refine WL.nil ?_
 refine thenQ_n (hK4 _ _ ?_)
 refine WC.cond _ rfl (fun hc0 => ?_) (fun hc0 => ?_)
 ·
  have hr0 := hc0
  try simp only [sq1,sq2,sq3,sq4,sq5,sq6,sq7,sq8,sq9,sq0] at hc0
  refine WC.seq (fun K5 hK5 => ?_)
  refine WC.region ?_
  refine WL.op rfl (opW.buildE (r := ((⟨0, 0, 0, vz 32⟩ : RAsk) : RAsk)) (ps := RAsk.parts ((⟨0, 0, 0, vz 32⟩ : RAsk) : RAsk)) (RAsk.enc_eq _) (by first | (simp only [sysK, az, enc_vset, enc_vz, Account.enc_eq, Account.parts, Role.enc_eq, Role.parts, Instr.enc_eq, Instr.parts, Ask.enc_eq, Ask.parts, Cut.enc_eq, Cut.parts, PairS.enc_eq, PairS.parts, RAsk.enc_eq, RAsk.parts, Header.enc_eq, Header.parts, Lookup.enc_eq, Lookup.parts, Message.enc_eq, Message.parts, Tx.enc_eq, Tx.parts, Budget.enc_eq, Budget.parts, Ready.enc_eq, Ready.parts, Holding.enc_eq, Holding.parts, Outcome.enc_eq, Outcome.parts, Running.enc_eq, Running.parts, StS.enc_eq, StS.parts]; rfl) | rfl) (by (repeat' (first | exact trivial | refine And.intro ?_ ?_)) <;> first | rfl | exact Enc.size_eq _ | (simp; done)) ?_)
  refine WL.op0 (opW.storeE hS rfl rfl (by repeat constructor) (by first | rfl | exact Enc.size_eq _) ?_)
  intro w hS; replace hS := hS _ (by repeat constructor)
  refine WL.op rfl (opW.assignB rfl ?_)
  refine WL.nil ?_
  refine thenQ_n (hK5 _ _ ?_)
  refine WC.ret ?_
  refine thenQ_r ?_
  refine bodyQ_ret (.cell (hS.ldA (by repeat constructor) (Enc.size_eq (α := RAsk) _)) (.tmpB rfl .nil)) ?_
  have h4 : bs.length < 4 := by
   apply Classical.byContradiction; intro h4
   rw [getR4o h4] at hr0; simp at hr0
  exact ⟨⟨0, 0, 0, vz 32⟩, false, rfl, by unfold askF; rw [if_pos h4]; rfl, fun h => (by cases h), hS.old⟩
 ·
  have hr0 := hc0
  try simp only [sq1,sq2,sq3,sq4,sq5,sq6,sq7,sq8,sq9,sq0] at hc0
  have h4 : ¬ bs.length < 4 := by
   intro h4
   rw [getR4s h4] at hr0; simp at hr0
  rw [getR4o h4]
  have hr4 := getR4 h4
  have hrs : SlR w0 (cutV v 4 bs.length (capV v) (Enc.sz UInt8)) (bs.drop 4) := hx.behind (by omega)
  refine WC.skip ?_
  refine thenQ_n (hK3 _ _ ?_)
  refine WC.seq (fun K6 hK6 => ?_)
  refine WC.region ?_
  refine WL.op rfl (opW.moveI rfl ?_)
  refine WL.op rfl (opW.buildE (r := ((⟨(leN (bs.take 4)), 0, 0, vz 32⟩ : RAsk) : RAsk)) (ps := RAsk.parts ((⟨(leN (bs.take 4)), 0, 0, vz 32⟩ : RAsk) : RAsk)) (RAsk.enc_eq _) (by first | (simp only [sysK, az, enc_vset, enc_vz, Account.enc_eq, Account.parts, Role.enc_eq, Role.parts, Instr.enc_eq, Instr.parts, Ask.enc_eq, Ask.parts, Cut.enc_eq, Cut.parts, PairS.enc_eq, PairS.parts, RAsk.enc_eq, RAsk.parts, Header.enc_eq, Header.parts, Lookup.enc_eq, Lookup.parts, Message.enc_eq, Message.parts, Tx.enc_eq, Tx.parts, Budget.enc_eq, Budget.parts, Ready.enc_eq, Ready.parts, Holding.enc_eq, Holding.parts, Outcome.enc_eq, Outcome.parts, Running.enc_eq, Running.parts, StS.enc_eq, StS.parts]; rfl) | rfl) (by (repeat' (first | exact trivial | refine And.intro ?_ ?_)) <;> first | rfl | exact Enc.size_eq _ | (simp; done)) ?_)
  refine WL.op rfl (opW.allocA hS ?_)
  intro b6 w _ hS
  refine WL.op0 (opW.storeE hS rfl rfl (by repeat constructor) (by first | rfl | exact Enc.size_eq _) ?_)
  intro w hS; replace hS := hS _ (by repeat constructor)
  refine WL.nil ?_
  refine thenQ_n (hK6 _ _ ?_)
  refine WC.seq (fun K7 hK7 => ?_)
  refine WC.region ?_
  refine WL.op rfl (opW.moveV (v := v) rfl ?_)
  refine WL.op rfl (opW.cutS (l := 4) (h' := bs.length) (m := capV v) (hx.bel hS.old) ⟨rfl, Nat.le_refl _⟩ ⟨⟨rfl, rfl⟩, hx.cap⟩ ⟨⟨_, rfl⟩, by omega⟩ ?_)
  refine WL.op rfl (opW.assignV (v := (cutV v 4 bs.length (capV v) (Enc.sz UInt8))) rfl ?_)
  refine WL.nil ?_
  refine thenQ_n (hK7 _ _ ?_)
  refine WC.mid (fun f w => ∃ x : Ask, Fits [(2, .pointer (some ⟨b2, 0, none⟩)), (6, .pointer (some ⟨b6, 0, none⟩))] f ∧ St w0 [blkE b6 (Enc.enc (toR x : RAsk)) 139, blkE b2 (Enc.enc (⟨0, 0, 0, vz 32⟩ : RAsk)) 139] w ∧ askF bs = some x) ?_ ?_
  ·
   refine WC.block ?_
   refine WC.seq (fun K8 hK8 => ?_)
   refine WC.region ?_
   refine WL.op rfl (opW.moveI rfl ?_)
   refine WL.op rfl (opW.eql rfl rfl ?_)
   refine WL.op rfl (opW.moveB rfl ?_)
   refine WL.gd _ 23 _ rfl rfl rfl rfl (fun hg24 => opW.moveV (v := (cutV v 4 bs.length (capV v) (Enc.sz UInt8))) rfl ⟨rfl, Bel.refl _⟩) (fun w hw => ?_)
   replace hS := hS.bel hw
   refine WL.gd _ 23 _ rfl rfl rfl rfl (fun hg25 => opW.lenV (by first | exact gv_of rfl hg25 | rfl) ((hrs.bel hS.old)) ⟨rfl, Bel.refl _⟩) (fun w hw => ?_)
   replace hS := hS.bel hw
   refine WL.gd _ 23 _ rfl rfl rfl rfl (fun hg26 => opW.eql (by first | exact gv_of rfl hg26 | rfl) rfl ⟨rfl, Bel.refl _⟩) (fun w hw => ?_)
   replace hS := hS.bel hw
   refine WL.op rfl (opW.pickAnd rfl (by first | rfl) rfl ?_)
   refine WL.op rfl (opW.assignB rfl ?_)
   refine WL.nil ?_
   refine thenQ_n (hK8 _ _ ?_)
   refine WC.cond _ rfl (fun hc1 => ?_) (fun hc1 => ?_)
   ·
    have hr1 := hc1
    try simp only [sq1,sq2,sq3,sq4,sq5,sq6,sq7,sq8,sq9,sq0] at hc1
    have hT0 : (leN (bs.take 4)) = 0 := by omega
    have hl48 : (bs.drop 4).length = 48 := by omega
    have hr8 : SlR w0 (cutV (cutV v 4 bs.length (capV v) (Enc.sz UInt8)) 8 (bs.drop 4).length (capV (cutV v 4 bs.length (capV v) (Enc.sz UInt8))) (Enc.sz UInt8)) ((bs.drop 4).drop 8) := hrs.behind (by omega)
    have hr16 : SlR w0 (cutV (cutV v 4 bs.length (capV v) (Enc.sz UInt8)) 16 (bs.drop 4).length (capV (cutV v 4 bs.length (capV v) (Enc.sz UInt8))) (Enc.sz UInt8)) ((bs.drop 4).drop 16) := hrs.behind (by omega)
    have hl16 : ((bs.drop 4).drop 16).length = 32 := by rw [List.length_drop]; omega
    refine WC.seq (fun K9 hK9 => ?_)
    refine WC.region ?_
    refine WL.op rfl (opW.moveV (v := (cutV v 4 bs.length (capV v) (Enc.sz UInt8))) rfl ?_)
    refine WL.op rfl (opW.call (ref_get _ (cutV v 4 bs.length (capV v) (Enc.sz UInt8)) (bs.drop 4) 8 (hrs.bel hS.old)) rfl ?_)
    rintro _ w ⟨rfl, hw⟩; replace hS := hS.bel hw
    rw [getR8 (b := (bs.drop 4)) (by first | omega | (simp; omega))]
    refine WL.op rfl (opW.moveV (v := .tuple #[.int .u64 ((leN ((bs.drop 4).take 8) : Nat) : Int), .int .i64 0]) rfl ?_)
    refine WL.op rfl (opW.extract rfl rfl ?_)
    refine WL.op rfl (opW.extract rfl rfl ?_)
    refine WL.op rfl (opW.fieldAddrB rfl ?_)
    refine WL.op0 (opW.storeF (v := .int .u64 ((leN ((bs.drop 4).take 8) : Nat) : Int)) (sz := 1) (cs' := Enc.enc (⟨(leN (bs.take 4)), leN ((bs.drop 4).take 8), 0, vz 32⟩ : RAsk)) hS rfl rfl (by repeat constructor) rfl (by rw [Enc.size_eq]; decide) (one_int _ _) (RAsk.set_coins (⟨(leN (bs.take 4)), 0, 0, vz 32⟩ : RAsk) (leN ((bs.drop 4).take 8))) ?_)
    intro w hS; replace hS := hS _ (by repeat constructor)
    refine WL.nil ?_
    refine thenQ_n (hK9 _ _ ?_)
    refine WC.seq (fun K10 hK10 => ?_)
    refine WC.region ?_
    refine WL.op rfl (opW.moveV (v := (cutV v 4 bs.length (capV v) (Enc.sz UInt8))) rfl ?_)
    refine WL.op rfl (opW.cutS (l := 8) (h' := (bs.drop 4).length) (m := capV (cutV v 4 bs.length (capV v) (Enc.sz UInt8))) (hrs.bel hS.old) ⟨rfl, Nat.le_refl _⟩ ⟨⟨rfl, rfl⟩, hrs.cap⟩ ⟨⟨_, rfl⟩, by omega⟩ ?_)
    refine WL.op rfl (opW.call (ref_get _ (cutV (cutV v 4 bs.length (capV v) (Enc.sz UInt8)) 8 (bs.drop 4).length (capV (cutV v 4 bs.length (capV v) (Enc.sz UInt8))) (Enc.sz UInt8)) ((bs.drop 4).drop 8) 8 (hr8.bel hS.old)) rfl ?_)
    rintro _ w ⟨rfl, hw⟩; replace hS := hS.bel hw
    rw [getR8 (b := ((bs.drop 4).drop 8)) (by first | omega | (simp; omega))]
    refine WL.op rfl (opW.moveV (v := .tuple #[.int .u64 ((leN (((bs.drop 4).drop 8).take 8) : Nat) : Int), .int .i64 0]) rfl ?_)
    refine WL.op rfl (opW.extract rfl rfl ?_)
    refine WL.op rfl (opW.extract rfl rfl ?_)
    refine WL.op rfl (opW.fieldAddrB rfl ?_)
    refine WL.op0 (opW.storeF (v := .int .u64 ((leN (((bs.drop 4).drop 8).take 8) : Nat) : Int)) (sz := 1) (cs' := Enc.enc (⟨(leN (bs.take 4)), leN ((bs.drop 4).take 8), leN (((bs.drop 4).drop 8).take 8), vz 32⟩ : RAsk)) hS rfl rfl (by repeat constructor) rfl (by rw [Enc.size_eq]; decide) (one_int _ _) (RAsk.set_space (⟨(leN (bs.take 4)), leN ((bs.drop 4).take 8), 0, vz 32⟩ : RAsk) (leN (((bs.drop 4).drop 8).take 8))) ?_)
    intro w hS; replace hS := hS _ (by repeat constructor)
    refine WL.nil ?_
    refine thenQ_n (hK10 _ _ ?_)
    refine WC.draw 4 (.look 0 (.look 1 (.look 2 (.look 3 (.one 4 .nil))))) (by kernel_rfl) (fun _ _ _ h => h) (fun w1 hw1 => ?_)
    replace hS := hS.bel hw1
    have hS1 := hS
    have hT := St.start w1
    refine ML.look rfl rfl rfl (fun w hw => (by have hS := hS1.bel hw; exact opW.fieldAddrB rfl ⟨rfl, rfl⟩)) ?_
    refine ML.look rfl rfl rfl (fun w hw => (by have hS := hS1.bel hw; exact opW.cutArrO rfl ⟨rfl, rfl⟩)) ?_
    refine ML.look rfl rfl rfl (fun w hw => (by have hS := hS1.bel hw; exact opW.moveV (v := (cutV v 4 bs.length (capV v) (Enc.sz UInt8))) rfl ⟨rfl, rfl⟩)) ?_
    refine ML.look rfl rfl rfl (fun w hw => (by have hS := hS1.bel hw; exact opW.cutS (l := 16) (h' := (bs.drop 4).length) (m := capV (cutV v 4 bs.length (capV v) (Enc.sz UInt8))) (hrs.bel hS.old) ⟨rfl, Nat.le_refl _⟩ ⟨⟨rfl, rfl⟩, hrs.cap⟩ ⟨⟨_, rfl⟩, by omega⟩ ⟨rfl, rfl⟩)) ?_
    refine ML.put1 rfl rfl rfl rfl (opW.copyBlk (α := UInt8) (b := b6) (o := 3) (n := 32) (ys := (bs.drop 4).drop 16) (cs' := Enc.enc (⟨(leN (bs.take 4)), leN ((bs.drop 4).take 8), leN (((bs.drop 4).drop 8).take 8), vecOf 32 ((bs.drop 4).drop 16)⟩ : RAsk)) hS rfl (by repeat constructor) (hr16.bel hS.old) hl16 (by omega) (by rw [Enc.size_eq]; decide) (by rw [flat_key (n := 31) hl16]; exact RAsk.set_owner (⟨(leN (bs.take 4)), leN ((bs.drop 4).take 8), leN (((bs.drop 4).drop 8).take 8), vz 32⟩ : RAsk) (vecOf 32 ((bs.drop 4).drop 16))) ?_)
    intro w hS; replace hS := hS _ (by repeat constructor)
    refine ML.nil ?_
    refine blockQ_n ?_
    refine thenQ_n ?_
    first
     | exact ⟨⟨(leN (bs.take 4)), leN ((bs.drop 4).take 8), leN (((bs.drop 4).drop 8).take 8), vecOf 32 ((bs.drop 4).drop 16)⟩, ⟨rfl, rfl, trivial⟩, hS, by rw [askF0 h4 hT0 hl48, hT0]⟩
     | exact ⟨⟨(leN (bs.take 4)), 0, 0, vecOf 32 (bs.drop 4)⟩, ⟨rfl, rfl, trivial⟩, hS, by rw [askF1 h4 hT1 hl32, hT1]⟩
     | exact ⟨⟨(leN (bs.take 4)), leN ((bs.drop 4).take 8), 0, vz 32⟩, ⟨rfl, rfl, trivial⟩, hS, by rw [askF2 h4 hT2 hl8, hT2]⟩
     | exact ⟨⟨(leN (bs.take 4)), 0, leN ((bs.drop 4).take 8), vz 32⟩, ⟨rfl, rfl, trivial⟩, hS, by rw [askF8 h4 hT8 hl8, hT8]⟩
   ·
    have hr1 := hc1
    try simp only [sq1,sq2,sq3,sq4,sq5,sq6,sq7,sq8,sq9,sq0] at hc1
    refine WC.seq (fun K11 hK11 => ?_)
    refine WC.region ?_
    refine WL.op rfl (opW.moveI rfl ?_)
    refine WL.op rfl (opW.eql rfl rfl ?_)
    refine WL.op rfl (opW.moveB rfl ?_)
    refine WL.gd _ 49 _ rfl rfl rfl rfl (fun hg50 => opW.moveV (v := (cutV v 4 bs.length (capV v) (Enc.sz UInt8))) rfl ⟨rfl, Bel.refl _⟩) (fun w hw => ?_)
    replace hS := hS.bel hw
    refine WL.gd _ 49 _ rfl rfl rfl rfl (fun hg51 => opW.lenV (by first | exact gv_of rfl hg51 | rfl) ((hrs.bel hS.old)) ⟨rfl, Bel.refl _⟩) (fun w hw => ?_)
    replace hS := hS.bel hw
    refine WL.gd _ 49 _ rfl rfl rfl rfl (fun hg52 => opW.eql (by first | exact gv_of rfl hg52 | rfl) rfl ⟨rfl, Bel.refl _⟩) (fun w hw => ?_)
    replace hS := hS.bel hw
    refine WL.op rfl (opW.pickAnd rfl (by first | rfl) rfl ?_)
    refine WL.op rfl (opW.assignB rfl ?_)
    refine WL.nil ?_
    refine thenQ_n (hK11 _ _ ?_)
    refine WC.cond _ rfl (fun hc2 => ?_) (fun hc2 => ?_)
    ·
     have hr2 := hc2
     try simp only [sq1,sq2,sq3,sq4,sq5,sq6,sq7,sq8,sq9,sq0] at hc2
     have hT1 : (leN (bs.take 4)) = 1 := by omega
     have hl32 : (bs.drop 4).length = 32 := by omega
     refine WC.region ?_
     refine WL.op rfl (opW.fieldAddrB rfl ?_)
     refine WL.op rfl (opW.cutArrO rfl ?_)
     refine WL.op rfl (opW.moveV (v := (cutV v 4 bs.length (capV v) (Enc.sz UInt8))) rfl ?_)
     refine WL.op rfl (opW.copyBlk (α := UInt8) (b := b6) (o := 3) (n := 32) (ys := (bs.drop 4)) (cs' := Enc.enc (⟨(leN (bs.take 4)), 0, 0, vecOf 32 (bs.drop 4)⟩ : RAsk)) hS rfl (by repeat constructor) (hrs.bel hS.old) hl32 (by omega) (by rw [Enc.size_eq]; decide) (by rw [flat_key (n := 31) hl32]; exact RAsk.set_owner (⟨(leN (bs.take 4)), 0, 0, vz 32⟩ : RAsk) (vecOf 32 (bs.drop 4))) ?_)
     intro w hS; replace hS := hS _ (by repeat constructor)
     refine WL.nil ?_
     refine blockQ_n ?_
     refine thenQ_n ?_
     first
      | exact ⟨⟨(leN (bs.take 4)), leN ((bs.drop 4).take 8), leN (((bs.drop 4).drop 8).take 8), vecOf 32 ((bs.drop 4).drop 16)⟩, ⟨rfl, rfl, trivial⟩, hS, by rw [askF0 h4 hT0 hl48, hT0]⟩
      | exact ⟨⟨(leN (bs.take 4)), 0, 0, vecOf 32 (bs.drop 4)⟩, ⟨rfl, rfl, trivial⟩, hS, by rw [askF1 h4 hT1 hl32, hT1]⟩
      | exact ⟨⟨(leN (bs.take 4)), leN ((bs.drop 4).take 8), 0, vz 32⟩, ⟨rfl, rfl, trivial⟩, hS, by rw [askF2 h4 hT2 hl8, hT2]⟩
      | exact ⟨⟨(leN (bs.take 4)), 0, leN ((bs.drop 4).take 8), vz 32⟩, ⟨rfl, rfl, trivial⟩, hS, by rw [askF8 h4 hT8 hl8, hT8]⟩
    ·
     have hr2 := hc2
     try simp only [sq1,sq2,sq3,sq4,sq5,sq6,sq7,sq8,sq9,sq0] at hc2
     refine WC.seq (fun K12 hK12 => ?_)
     refine WC.region ?_
     refine WL.op rfl (opW.moveI rfl ?_)
     refine WL.op rfl (opW.eql rfl rfl ?_)
     refine WL.op rfl (opW.moveB rfl ?_)
     refine WL.gd _ 61 _ rfl rfl rfl rfl (fun hg62 => opW.moveV (v := (cutV v 4 bs.length (capV v) (Enc.sz UInt8))) rfl ⟨rfl, Bel.refl _⟩) (fun w hw => ?_)
     replace hS := hS.bel hw
     refine WL.gd _ 61 _ rfl rfl rfl rfl (fun hg63 => opW.lenV (by first | exact gv_of rfl hg63 | rfl) ((hrs.bel hS.old)) ⟨rfl, Bel.refl _⟩) (fun w hw => ?_)
     replace hS := hS.bel hw
     refine WL.gd _ 61 _ rfl rfl rfl rfl (fun hg64 => opW.eql (by first | exact gv_of rfl hg64 | rfl) rfl ⟨rfl, Bel.refl _⟩) (fun w hw => ?_)
     replace hS := hS.bel hw
     refine WL.op rfl (opW.pickAnd rfl (by first | rfl) rfl ?_)
     refine WL.op rfl (opW.assignB rfl ?_)
     refine WL.nil ?_
     refine thenQ_n (hK12 _ _ ?_)
     refine WC.cond _ rfl (fun hc3 => ?_) (fun hc3 => ?_)
     ·
      have hr3 := hc3
      try simp only [sq1,sq2,sq3,sq4,sq5,sq6,sq7,sq8,sq9,sq0] at hc3
      have hT2 : (leN (bs.take 4)) = 2 := by omega
      have hl8 : (bs.drop 4).length = 8 := by omega
      refine WC.region ?_
      refine WL.op rfl (opW.moveV (v := (cutV v 4 bs.length (capV v) (Enc.sz UInt8))) rfl ?_)
      refine WL.op rfl (opW.call (ref_get _ (cutV v 4 bs.length (capV v) (Enc.sz UInt8)) (bs.drop 4) 8 (hrs.bel hS.old)) rfl ?_)
      rintro _ w ⟨rfl, hw⟩; replace hS := hS.bel hw
      rw [getR8 (b := (bs.drop 4)) (by first | omega | (simp; omega))]
      refine WL.op rfl (opW.moveV (v := .tuple #[.int .u64 ((leN ((bs.drop 4).take 8) : Nat) : Int), .int .i64 0]) rfl ?_)
      refine WL.op rfl (opW.extract rfl rfl ?_)
      refine WL.op rfl (opW.extract rfl rfl ?_)
      refine WL.op rfl (opW.fieldAddrB rfl ?_)
      refine WL.op0 (opW.storeF (v := .int .u64 ((leN ((bs.drop 4).take 8) : Nat) : Int)) (sz := 1) (cs' := Enc.enc (⟨(leN (bs.take 4)), leN ((bs.drop 4).take 8), 0, vz 32⟩ : RAsk)) hS rfl rfl (by repeat constructor) rfl (by rw [Enc.size_eq]; decide) (one_int _ _) (RAsk.set_coins (⟨(leN (bs.take 4)), 0, 0, vz 32⟩ : RAsk) (leN ((bs.drop 4).take 8))) ?_)
      intro w hS; replace hS := hS _ (by repeat constructor)
      refine WL.nil ?_
      refine blockQ_n ?_
      refine thenQ_n ?_
      first
       | exact ⟨⟨(leN (bs.take 4)), leN ((bs.drop 4).take 8), leN (((bs.drop 4).drop 8).take 8), vecOf 32 ((bs.drop 4).drop 16)⟩, ⟨rfl, rfl, trivial⟩, hS, by rw [askF0 h4 hT0 hl48, hT0]⟩
       | exact ⟨⟨(leN (bs.take 4)), 0, 0, vecOf 32 (bs.drop 4)⟩, ⟨rfl, rfl, trivial⟩, hS, by rw [askF1 h4 hT1 hl32, hT1]⟩
       | exact ⟨⟨(leN (bs.take 4)), leN ((bs.drop 4).take 8), 0, vz 32⟩, ⟨rfl, rfl, trivial⟩, hS, by rw [askF2 h4 hT2 hl8, hT2]⟩
       | exact ⟨⟨(leN (bs.take 4)), 0, leN ((bs.drop 4).take 8), vz 32⟩, ⟨rfl, rfl, trivial⟩, hS, by rw [askF8 h4 hT8 hl8, hT8]⟩
     ·
      have hr3 := hc3
      try simp only [sq1,sq2,sq3,sq4,sq5,sq6,sq7,sq8,sq9,sq0] at hc3
      refine WC.seq (fun K13 hK13 => ?_)
      refine WC.region ?_
      refine WL.op rfl (opW.moveI rfl ?_)
      refine WL.op rfl (opW.eql rfl rfl ?_)
      refine WL.op rfl (opW.moveB rfl ?_)
      refine WL.gd _ 75 _ rfl rfl rfl rfl (fun hg76 => opW.moveV (v := (cutV v 4 bs.length (capV v) (Enc.sz UInt8))) rfl ⟨rfl, Bel.refl _⟩) (fun w hw => ?_)
      replace hS := hS.bel hw
      refine WL.gd _ 75 _ rfl rfl rfl rfl (fun hg77 => opW.lenV (by first | exact gv_of rfl hg77 | rfl) ((hrs.bel hS.old)) ⟨rfl, Bel.refl _⟩) (fun w hw => ?_)
      replace hS := hS.bel hw
      refine WL.gd _ 75 _ rfl rfl rfl rfl (fun hg78 => opW.eql (by first | exact gv_of rfl hg78 | rfl) rfl ⟨rfl, Bel.refl _⟩) (fun w hw => ?_)
      replace hS := hS.bel hw
      refine WL.op rfl (opW.pickAnd rfl (by first | rfl) rfl ?_)
      refine WL.op rfl (opW.assignB rfl ?_)
      refine WL.nil ?_
      refine thenQ_n (hK13 _ _ ?_)
      refine WC.cond _ rfl (fun hc4 => ?_) (fun hc4 => ?_)
      ·
       have hr4 := hc4
       try simp only [sq1,sq2,sq3,sq4,sq5,sq6,sq7,sq8,sq9,sq0] at hc4
       have hT8 : (leN (bs.take 4)) = 8 := by omega
       have hl8 : (bs.drop 4).length = 8 := by omega
       refine WC.region ?_
       refine WL.op rfl (opW.moveV (v := (cutV v 4 bs.length (capV v) (Enc.sz UInt8))) rfl ?_)
       refine WL.op rfl (opW.call (ref_get _ (cutV v 4 bs.length (capV v) (Enc.sz UInt8)) (bs.drop 4) 8 (hrs.bel hS.old)) rfl ?_)
       rintro _ w ⟨rfl, hw⟩; replace hS := hS.bel hw
       rw [getR8 (b := (bs.drop 4)) (by first | omega | (simp; omega))]
       refine WL.op rfl (opW.moveV (v := .tuple #[.int .u64 ((leN ((bs.drop 4).take 8) : Nat) : Int), .int .i64 0]) rfl ?_)
       refine WL.op rfl (opW.extract rfl rfl ?_)
       refine WL.op rfl (opW.extract rfl rfl ?_)
       refine WL.op rfl (opW.fieldAddrB rfl ?_)
       refine WL.op0 (opW.storeF (v := .int .u64 ((leN ((bs.drop 4).take 8) : Nat) : Int)) (sz := 1) (cs' := Enc.enc (⟨(leN (bs.take 4)), 0, leN ((bs.drop 4).take 8), vz 32⟩ : RAsk)) hS rfl rfl (by repeat constructor) rfl (by rw [Enc.size_eq]; decide) (one_int _ _) (RAsk.set_space (⟨(leN (bs.take 4)), 0, 0, vz 32⟩ : RAsk) (leN ((bs.drop 4).take 8))) ?_)
       intro w hS; replace hS := hS _ (by repeat constructor)
       refine WL.nil ?_
       refine blockQ_n ?_
       refine thenQ_n ?_
       first
        | exact ⟨⟨(leN (bs.take 4)), leN ((bs.drop 4).take 8), leN (((bs.drop 4).drop 8).take 8), vecOf 32 ((bs.drop 4).drop 16)⟩, ⟨rfl, rfl, trivial⟩, hS, by rw [askF0 h4 hT0 hl48, hT0]⟩
        | exact ⟨⟨(leN (bs.take 4)), 0, 0, vecOf 32 (bs.drop 4)⟩, ⟨rfl, rfl, trivial⟩, hS, by rw [askF1 h4 hT1 hl32, hT1]⟩
        | exact ⟨⟨(leN (bs.take 4)), leN ((bs.drop 4).take 8), 0, vz 32⟩, ⟨rfl, rfl, trivial⟩, hS, by rw [askF2 h4 hT2 hl8, hT2]⟩
        | exact ⟨⟨(leN (bs.take 4)), 0, leN ((bs.drop 4).take 8), vz 32⟩, ⟨rfl, rfl, trivial⟩, hS, by rw [askF8 h4 hT8 hl8, hT8]⟩
      ·
       have hr4 := hc4
       try simp only [sq1,sq2,sq3,sq4,sq5,sq6,sq7,sq8,sq9,sq0] at hc4
       refine WC.seq (fun K14 hK14 => ?_)
       refine WC.region ?_
       refine WL.op rfl (opW.buildE (r := ((⟨0, 0, 0, vz 32⟩ : RAsk) : RAsk)) (ps := RAsk.parts ((⟨0, 0, 0, vz 32⟩ : RAsk) : RAsk)) (RAsk.enc_eq _) (by first | (simp only [sysK, az, enc_vset, enc_vz, Account.enc_eq, Account.parts, Role.enc_eq, Role.parts, Instr.enc_eq, Instr.parts, Ask.enc_eq, Ask.parts, Cut.enc_eq, Cut.parts, PairS.enc_eq, PairS.parts, RAsk.enc_eq, RAsk.parts, Header.enc_eq, Header.parts, Lookup.enc_eq, Lookup.parts, Message.enc_eq, Message.parts, Tx.enc_eq, Tx.parts, Budget.enc_eq, Budget.parts, Ready.enc_eq, Ready.parts, Holding.enc_eq, Holding.parts, Outcome.enc_eq, Outcome.parts, Running.enc_eq, Running.parts, StS.enc_eq, StS.parts]; rfl) | rfl) (by (repeat' (first | exact trivial | refine And.intro ?_ ?_)) <;> first | rfl | exact Enc.size_eq _ | (simp; done)) ?_)
       refine WL.op0 (opW.storeE hS rfl rfl (by repeat constructor) (by first | rfl | exact Enc.size_eq _) ?_)
       intro w hS; replace hS := hS _ (by repeat constructor)
       refine WL.op rfl (opW.assignB rfl ?_)
       refine WL.nil ?_
       refine thenQ_n (hK14 _ _ ?_)
       refine WC.ret ?_
       refine blockQ_r ?_
       refine thenQ_r ?_
       refine bodyQ_ret (.cell (hS.ldA (by repeat constructor) (Enc.size_eq (α := RAsk) _)) (.tmpB rfl .nil)) ?_
       exact ⟨⟨0, 0, 0, vz 32⟩, false, rfl, by rw [askF_ne h4 (by omega)]; rfl, fun h => (by cases h), hS.old⟩
  ·
   rintro f w ⟨x, hfit, hS, hx1⟩
   refine WC.fits _ hfit (fun g => ?_)
   clear hfit
   refine WC.seq (fun K15 hK15 => ?_)
   refine WC.region ?_
   refine WL.op rfl (opW.loadV rfl (by first | exact hS.ldA (by repeat constructor) (by first | rfl | exact Enc.size_eq _) | exact hS.ld1 (by repeat constructor) rfl) ?_)
   refine WL.op0 (opW.storeE hS rfl rfl (by repeat constructor) (by first | rfl | exact Enc.size_eq _) ?_)
   intro w hS; replace hS := hS _ (by repeat constructor)
   refine WL.op rfl (opW.assignB rfl ?_)
   refine WL.nil ?_
   refine thenQ_n (hK15 _ _ ?_)
   refine WC.ret ?_
   refine bodyQ_ret (.cell (hS.ldA (by repeat constructor) (Enc.size_eq (α := RAsk) _)) (.tmpB rfl .nil)) ?_
   exact ⟨x, true, rfl, by rw [hx1]; rfl, fun _ => hx1, hS.old⟩

theorem places_ok (w0 : World) (x : Ask) (rv : Value) (ins : Instr) (r : List Role) (ats : List UInt8) (hr : SlR w0 rv r) (ha : SlR w0 ins.accounts.v ats) : Ret Tryz.prog 59 #[.agg (Enc.enc (toR x)), rv, .agg (Enc.enc ins)] w0 (fun u w' => ∃ a b : Int, u = .tuple #[.int .i64 a, .int .i64 b, .int .i64 (takF x.tag r ats)] ∧ (takF x.tag r ats = 0 → a = ((ats.getD 0 0).toNat : Int) ∧ b = ((ats.getD (need x.tag - 1) 0).toNat : Int)) ∧ Bel w0 w') := by
 refine Ret.enter (args := [.agg (Enc.enc (toR x)), rv, .agg (Enc.enc ins)]) Tryz.func59 rfl Tryz.ntmps59 Tryz.results59 rfl ?_
 have hS := St.start w0
 have hal := ha.le
 simp only [maxLen] at hal
 refine WC.seq (fun K1 hK1 => ?_)
 refine WC.region ?_
 refine WL.op rfl (opW.boxA hS rfl ?_)
 intro b3 w _ hS
 refine WL.op rfl (opW.boxA hS rfl ?_)
 intro b5 w _ hS
 refine WL.op rfl (opW.assignI rfl ?_)
 refine WL.op rfl (opW.assignI rfl ?_)
 refine WL.op rfl (opW.assignI rfl ?_)
 refine WL.nil ?_
 refine thenQ_n (hK1 _ _ ?_)
 refine WC.seq (fun K2 hK2 => ?_)
 refine WC.region ?_
 refine WL.op rfl (opW.assignI rfl ?_)
 refine WL.nil ?_
 refine thenQ_n (hK2 _ _ ?_)
 refine WC.mid (fun f w =>  Fits [(1, rv), (3, .pointer (some ⟨b3, 0, none⟩)), (5, .pointer (some ⟨b5, 0, none⟩)), (9, .int .i64 ((need x.tag) : Int))] f ∧ St w0 [blkE b5 (Enc.enc ins) 61, blkE b3 (Enc.enc (toR x)) 139] w) ?_ ?_
 ·
  refine WC.seq (fun K3 hK3 => ?_)
  refine WC.region ?_
  refine WL.op rfl (opW.fieldAddrB rfl ?_)
  refine WL.op rfl (opW.loadV rfl (hS.ld1 (by repeat constructor) (RAsk.at_tag _)) ?_)
  refine WL.op rfl (opW.eql rfl rfl ?_)
  refine WL.op rfl (opW.moveB rfl ?_)
  refine WL.gd _ 16 _ rfl rfl rfl rfl (fun hg17 => opW.fieldAddrB rfl ⟨rfl, Bel.refl _⟩) (fun w hw => ?_)
  replace hS := hS.bel hw
  refine WL.gd _ 16 _ rfl rfl rfl rfl (fun hg18 => opW.loadV (by first | exact gv_of rfl hg18 | rfl) (hS.ld1 (by repeat constructor) (RAsk.at_tag _)) ⟨rfl, Bel.refl _⟩) (fun w hw => ?_)
  replace hS := hS.bel hw
  refine WL.gd _ 16 _ rfl rfl rfl rfl (fun hg19 => opW.eql (by first | exact gv_of rfl hg19 | rfl) rfl ⟨rfl, Bel.refl _⟩) (fun w hw => ?_)
  replace hS := hS.bel hw
  refine WL.op rfl (opW.pickOr rfl rfl (by first | rfl) ?_)
  refine WL.nil ?_
  refine thenQ_n (hK3 _ _ ?_)
  refine WC.cond _ rfl (fun hc0 => ?_) (fun hc0 => ?_)
  ·
   have hr0 := hc0
   try simp only [sq1,sq2,sq3,sq4,sq5,sq6,sq7,sq8,sq9,sq0] at hc0
   refine WC.region ?_
   refine WL.op rfl (opW.assignI rfl ?_)
   refine WL.nil ?_
   refine thenQ_n ?_
   first | exact ⟨⟨rfl, rfl, rfl, congrArg (Value.int .i64) (by unfold need; simp only [Bool.or_eq_true, decide_eq_true_eq] at hr0; rw [if_pos (by have : (toR x).tag = x.tag := rfl; omega)]; rfl), trivial⟩, hS⟩ | exact ⟨⟨rfl, rfl, rfl, congrArg (Value.int .i64) (by unfold need; simp only [Bool.or_eq_false_iff, decide_eq_false_iff_not] at hr0; rw [if_neg (by have : (toR x).tag = x.tag := rfl; omega)]; rfl), trivial⟩, hS⟩
  ·
   have hr0 := hc0
   try simp only [sq1,sq2,sq3,sq4,sq5,sq6,sq7,sq8,sq9,sq0] at hc0
   refine WC.skip ?_
   refine thenQ_n ?_
   first | exact ⟨⟨rfl, rfl, rfl, congrArg (Value.int .i64) (by unfold need; simp only [Bool.or_eq_true, decide_eq_true_eq] at hr0; rw [if_pos (by have : (toR x).tag = x.tag := rfl; omega)]; rfl), trivial⟩, hS⟩ | exact ⟨⟨rfl, rfl, rfl, congrArg (Value.int .i64) (by unfold need; simp only [Bool.or_eq_false_iff, decide_eq_false_iff_not] at hr0; rw [if_neg (by have : (toR x).tag = x.tag := rfl; omega)]; rfl), trivial⟩, hS⟩
 ·
  rintro f w ⟨hfit, hS⟩
  refine WC.fits _ hfit (fun g => ?_)
  clear hfit
  refine WC.seq (fun K4 hK4 => ?_)
  refine WC.seq (fun K5 hK5 => ?_)
  refine WC.region ?_
  refine WL.op rfl (opW.fieldAddrB rfl ?_)
  refine WL.op rfl (opW.loadV rfl (hS.ld1 (by repeat constructor) (Instr.at_accounts _)) ?_)
  refine WL.op rfl (opW.lenV rfl ((ha.bel hS.old)) ?_)
  refine WL.op rfl (opW.moveI rfl ?_)
  refine WL.op rfl (opW.lss rfl rfl ?_)
  refine WL.nil ?_
  refine thenQ_n (hK5 _ _ ?_)
  refine WC.cond _ rfl (fun hc1 => ?_) (fun hc1 => ?_)
  ·
   have hr1 := hc1
   try simp only [sq1,sq2,sq3,sq4,sq5,sq6,sq7,sq8,sq9,sq0] at hc1
   refine WC.seq (fun K6 hK6 => ?_)
   refine WC.region ?_
   refine WL.op rfl (opW.assignI rfl ?_)
   refine WL.op rfl (opW.assignI rfl ?_)
   refine WL.op rfl (opW.assignI rfl ?_)
   refine WL.nil ?_
   refine thenQ_n (hK6 _ _ ?_)
   refine WC.ret ?_
   refine thenQ_r ?_
   refine bodyQ_ret (.tmpI rfl (.tmpI rfl (.tmpI rfl .nil))) ?_
   have he : takF x.tag r ats = 8 := by unfold takF; rw [if_pos (by rw [decide_eq_true hc1]; rfl)]
   rw [he]
   exact ⟨0, 0, rfl, fun h => absurd h (by decide), hS.old⟩
  ·
   have hr1 := hc1
   try simp only [sq1,sq2,sq3,sq4,sq5,sq6,sq7,sq8,sq9,sq0] at hc1
   have hn := need_12 x.tag
   refine WC.skip ?_
   refine thenQ_n (hK4 _ _ ?_)
   refine WC.seq (fun K7 hK7 => ?_)
   refine WC.seq (fun K8 hK8 => ?_)
   refine WC.region ?_
   refine WL.op rfl (opW.assignI rfl ?_)
   refine WL.nil ?_
   refine thenQ_n (hK8 _ _ ?_)
   refine WC.block ?_
   refine WC.loop (fun q f w => ∃ k : Nat, Fits [(1, rv), (3, .pointer (some ⟨b3, 0, none⟩)), (5, .pointer (some ⟨b5, 0, none⟩)), (9, .int .i64 ((need x.tag) : Int)), (10, .int .i64 (k : Int))] f ∧ St w0 [blkE b5 (Enc.enc ins) 61, blkE b3 (Enc.enc (toR x)) 139] w ∧ (∀ i (h : i < ats.length), i < k → ats[i].toNat < r.length) ∧ k ≤ ats.length ∧ q = ats.length - k) (ats.length) ?_ ?_
   ·
    exact ⟨0, ⟨rfl, rfl, rfl, rfl, rfl, trivial⟩, hS, fun i _ h => absurd h (by omega), Nat.zero_le _, rfl⟩
   ·
    rintro q f w ⟨k, hfit, hS, hin, hk0, hm⟩
    refine WC.fits _ hfit (fun g => ?_)
    clear hfit
    refine WC.seq (fun K9 hK9 => ?_)
    refine WC.seq (fun K10 hK10 => ?_)
    refine WC.region ?_
    refine WL.op rfl (opW.moveI rfl ?_)
    refine WL.op rfl (opW.fieldAddrB rfl ?_)
    refine WL.op rfl (opW.loadV rfl (hS.ld1 (by repeat constructor) (Instr.at_accounts _)) ?_)
    refine WL.op rfl (opW.lenV rfl ((ha.bel hS.old)) ?_)
    refine WL.op rfl (opW.lss rfl rfl ?_)
    refine WL.nil ?_
    refine thenQ_n (hK10 _ _ ?_)
    refine WC.cond _ rfl (fun hc2 => ?_) (fun hc2 => ?_)
    ·
     have hr2 := hc2
     try simp only [sq1,sq2,sq3,sq4,sq5,sq6,sq7,sq8,sq9,sq0] at hc2
     have hkl : k < ats.length := by omega
     refine WC.skip ?_
     refine thenQ_n (hK9 _ _ ?_)
     refine WC.seq (fun K11 hK11 => ?_)
     refine WC.block ?_
     refine WC.seq (fun K12 hK12 => ?_)
     refine WC.region ?_
     refine WL.op rfl (opW.fieldAddrB rfl ?_)
     refine WL.op rfl (opW.loadV rfl (hS.ld1 (by repeat constructor) (Instr.at_accounts _)) ?_)
     refine WL.op rfl (opW.moveI rfl ?_)
     refine WL.op rfl (opW.idxV rfl ((ha.bel hS.old)) rfl (by omega) ?_)
     refine WL.op rfl (opW.loadV rfl (((ha.bel hS.old).isPt hkl).ld rfl) ?_)
     refine WL.op rfl (opW.conv rfl (wrap_i64 (by have := u8_lt ats[k]; omega)) ?_)
     refine WL.op rfl (opW.moveV (v := rv) rfl ?_)
     refine WL.op rfl (opW.lenV rfl ((hr.bel hS.old)) ?_)
     refine WL.op rfl (opW.geq rfl rfl ?_)
     refine WL.nil ?_
     refine thenQ_n (hK12 _ _ ?_)
     refine WC.cond _ rfl (fun hc3 => ?_) (fun hc3 => ?_)
     ·
      have hr3 := hc3
      try simp only [sq1,sq2,sq3,sq4,sq5,sq6,sq7,sq8,sq9,sq0] at hc3
      refine WC.seq (fun K13 hK13 => ?_)
      refine WC.region ?_
      refine WL.op rfl (opW.assignI rfl ?_)
      refine WL.op rfl (opW.assignI rfl ?_)
      refine WL.op rfl (opW.assignI rfl ?_)
      refine WL.nil ?_
      refine thenQ_n (hK13 _ _ ?_)
      refine WC.ret ?_
      refine blockQ_r ?_
      refine thenQ_r ?_
      refine thenQ_r ?_
      refine blockQ_r ?_
      refine thenQ_r ?_
      refine bodyQ_ret (.tmpI rfl (.tmpI rfl (.tmpI rfl .nil))) ?_
      have he : takF x.tag r ats = 8 := by unfold takF; rw [if_pos (by rw [lacks_yes (List.getElem_mem hkl) (by omega)]; simp)]
      rw [he]
      exact ⟨0, 0, rfl, fun h => absurd h (by decide), hS.old⟩
     ·
      have hr3 := hc3
      try simp only [sq1,sq2,sq3,sq4,sq5,sq6,sq7,sq8,sq9,sq0] at hc3
      refine WC.skip ?_
      refine blockQ_n ?_
      refine thenQ_n (hK11 _ _ ?_)
      refine WC.region ?_
      refine WL.op rfl (opW.moveI rfl ?_)
      refine WL.op rfl (opW.add rfl rfl (wrap_i64 (by omega)) ?_)
      refine WL.op rfl (opW.assignI rfl ?_)
      refine WL.nil ?_
      refine thenQ_n ?_
      exact ⟨ats.length - (k + 1), by omega, k + 1, ⟨rfl, rfl, rfl, rfl, congrArg (Value.int .i64) (by omega), trivial⟩, hS, fun i h1 h2 => (by rcases Nat.lt_or_ge i k with h | h; exact hin i h1 h; obtain rfl : i = k := (by omega); omega), by omega, rfl⟩
    ·
     have hr2 := hc2
     try simp only [sq1,sq2,sq3,sq4,sq5,sq6,sq7,sq8,sq9,sq0] at hc2
     have hlk : lacks r.length ats = false := lacks_of fun i hi => hin i hi (by omega)
     have htk : takF x.tag r ats = roleErrs x.tag r (ats.take (need x.tag)) 0 := by unfold takF; rw [if_neg (by rw [hlk, decide_eq_false (by omega)]; decide)]
     have hln : (ats.take (need x.tag)).length = (need x.tag) := by simp; omega
     refine WC.exit ?_
     refine thenQ_e ?_
     refine thenQ_e ?_
     refine blockQ_hit ?_
     refine thenQ_n (hK7 _ _ ?_)
     refine WC.seq (fun K14 hK14 => ?_)
     refine WC.seq (fun K15 hK15 => ?_)
     refine WC.region ?_
     refine WL.op rfl (opW.assignI rfl ?_)
     refine WL.nil ?_
     refine thenQ_n (hK15 _ _ ?_)
     refine WC.block ?_
     refine WC.loop (fun q f w => ∃ m : Nat, Fits [(1, rv), (3, .pointer (some ⟨b3, 0, none⟩)), (5, .pointer (some ⟨b5, 0, none⟩)), (9, .int .i64 ((need x.tag) : Int)), (11, .int .i64 (m : Int))] f ∧ St w0 [blkE b5 (Enc.enc ins) 61, blkE b3 (Enc.enc (toR x)) 139] w ∧ roleErrs x.tag r ((ats.take (need x.tag)).drop m) m = roleErrs x.tag r (ats.take (need x.tag)) 0 ∧ m ≤ (need x.tag) ∧ q = (need x.tag) - m) ((need x.tag)) ?_ ?_
     ·
      exact ⟨0, ⟨rfl, rfl, rfl, rfl, rfl, trivial⟩, hS, by rw [List.drop_zero], Nat.zero_le _, rfl⟩
     ·
      rintro q f w ⟨m, hfit, hS, hinv, hm0, hmm⟩
      refine WC.fits _ hfit (fun g => ?_)
      clear hfit
      refine WC.seq (fun K16 hK16 => ?_)
      refine WC.seq (fun K17 hK17 => ?_)
      refine WC.region ?_
      refine WL.op rfl (opW.moveI rfl ?_)
      refine WL.op rfl (opW.moveI rfl ?_)
      refine WL.op rfl (opW.lss rfl rfl ?_)
      refine WL.nil ?_
      refine thenQ_n (hK17 _ _ ?_)
      refine WC.cond _ rfl (fun hc4 => ?_) (fun hc4 => ?_)
      ·
       have hr4 := hc4
       try simp only [sq1,sq2,sq3,sq4,sq5,sq6,sq7,sq8,sq9,sq0] at hc4
       have hml : m < (ats.take (need x.tag)).length := by omega
       have hma : m < ats.length := by simp at hml; omega
       have hg : (ats.take (need x.tag))[m] = ats[m] := List.getElem_take
       have hmr := hin m hma (by omega)
       have e1 : decide ((m : Int) = 1) = decide ((0 : Int) < (m : Int)) := by rw [Bool.eq_iff_iff]; simp only [decide_eq_true_eq]; omega
       have hrl := hr.le
       simp only [maxLen] at hrl
       refine WC.skip ?_
       refine thenQ_n (hK16 _ _ ?_)
       refine WC.seq (fun K18 hK18 => ?_)
       refine WC.block ?_
       refine WC.seq (fun K19 hK19 => ?_)
       refine WC.region ?_
       refine WL.op rfl (opW.moveV (v := rv) rfl ?_)
       refine WL.op rfl (opW.fieldAddrB rfl ?_)
       refine WL.op rfl (opW.loadV rfl (hS.ld1 (by repeat constructor) (Instr.at_accounts _)) ?_)
       refine WL.op rfl (opW.moveI rfl ?_)
       refine WL.op rfl (opW.idxV rfl ((ha.bel hS.old)) rfl (by omega) ?_)
       refine WL.op rfl (opW.loadV rfl (((ha.bel hS.old).isPt hma).ld rfl) ?_)
       refine WL.op rfl (opW.idxV rfl ((hr.bel hS.old)) rfl (by omega) ?_)
       refine WL.op rfl (opW.loadV rfl (((hr.bel hS.old).isPt hmr).ldA (Enc.size_eq r[ats[m].toNat])) ?_)
       refine WL.op rfl (opW.allocA hS ?_)
       intro b12 w _ hS
       refine WL.op0 (opW.storeE hS rfl rfl (by repeat constructor) (by first | rfl | exact Enc.size_eq _) ?_)
       intro w hS; replace hS := hS _ (by repeat constructor)
       refine WL.nil ?_
       refine thenQ_n (hK19 _ _ ?_)
       refine WC.seq (fun K20 hK20 => ?_)
       refine WC.seq (fun K21 hK21 => ?_)
       refine WC.region ?_
       refine WL.op rfl (opW.fieldAddrB rfl ?_)
       refine WL.op rfl (opW.loadV rfl (hS.ld1 (by repeat constructor) (Role.at_signs _)) ?_)
       refine WL.op rfl (opW.not rfl ?_)
       refine WL.op rfl (opW.moveB rfl ?_)
       refine WL.gd _ 58 _ rfl rfl rfl rfl (fun hg59 => opW.fieldAddrB rfl ⟨rfl, Bel.refl _⟩) (fun w hw => ?_)
       replace hS := hS.bel hw
       refine WL.gd _ 58 _ rfl rfl rfl rfl (fun hg60 => opW.loadV (by first | exact gv_of rfl hg60 | rfl) (hS.ld1 (by repeat constructor) (RAsk.at_tag _)) ⟨rfl, Bel.refl _⟩) (fun w hw => ?_)
       replace hS := hS.bel hw
       refine WL.gd _ 58 _ rfl rfl rfl rfl (fun hg61 => opW.eql (by first | exact gv_of rfl hg61 | rfl) rfl ⟨rfl, Bel.refl _⟩) (fun w hw => ?_)
       replace hS := hS.bel hw
       refine WL.gd _ 58 _ rfl rfl rfl rfl (fun hg62 => opW.moveB (by first | exact gv_of rfl hg62 | rfl) ⟨rfl, Bel.refl _⟩) (fun w hw => ?_)
       replace hS := hS.bel hw
       refine WL.gd2 _ _ 62 _ rfl rfl rfl rfl (fun hg63 => opW.moveI rfl ⟨rfl, Bel.refl _⟩) (fun w hw => ?_)
       replace hS := hS.bel hw
       refine WL.gd2 _ _ 62 _ rfl rfl rfl rfl (fun hg64 => opW.eql (by first | exact gv_of rfl hg64 | rfl) rfl ⟨rfl, Bel.refl _⟩) (fun w hw => ?_)
       replace hS := hS.bel hw
       refine WL.gd _ 58 _ rfl rfl rfl rfl (fun hg65 => opW.pickAnd (by first | exact gv_of rfl hg65 | rfl) (by first | exact gv_and rfl hg65 | rfl) rfl ⟨rfl, Bel.refl _⟩) (fun w hw => ?_)
       replace hS := hS.bel hw
       refine WL.gd _ 58 _ rfl rfl rfl rfl (fun hg66 => opW.not (by first | exact gv_of rfl hg66 | rfl) ⟨rfl, Bel.refl _⟩) (fun w hw => ?_)
       replace hS := hS.bel hw
       refine WL.op rfl (opW.pickAnd rfl (by first | rfl) rfl ?_)
       refine WL.nil ?_
       refine thenQ_n (hK21 _ _ ?_)
       refine WC.cond _ rfl (fun hc5 => ?_) (fun hc5 => ?_)
       ·
        have hr5 := hc5
        try simp only [sq1,sq2,sq3,sq4,sq5,sq6,sq7,sq8,sq9,sq0] at hc5
        rw [e1] at hr5
        refine WC.seq (fun K22 hK22 => ?_)
        refine WC.region ?_
        refine WL.op rfl (opW.assignI rfl ?_)
        refine WL.op rfl (opW.assignI rfl ?_)
        refine WL.op rfl (opW.assignI rfl ?_)
        refine WL.nil ?_
        refine thenQ_n (hK22 _ _ ?_)
        refine WC.ret ?_
        refine thenQ_r ?_
        refine blockQ_r ?_
        refine thenQ_r ?_
        refine thenQ_r ?_
        refine blockQ_r ?_
        refine thenQ_r ?_
        refine bodyQ_ret (.tmpI rfl (.tmpI rfl (.tmpI rfl .nil))) ?_
        have he : takF x.tag r ats = 14 := by rw [htk, ← hinv, roleErrs_hit hml (hg.symm ▸ roleErr_s hmr hr5) (by decide)]
        rw [he]
        exact ⟨0, 0, rfl, fun h => absurd h (by decide), hS.old⟩
       ·
        have hr5 := hc5
        try simp only [sq1,sq2,sq3,sq4,sq5,sq6,sq7,sq8,sq9,sq0] at hc5
        rw [e1] at hr5
        refine WC.skip ?_
        refine thenQ_n (hK20 _ _ ?_)
        refine WC.seq (fun K23 hK23 => ?_)
        refine WC.region ?_
        refine WL.op rfl (opW.fieldAddrB rfl ?_)
        refine WL.op rfl (opW.loadV rfl (hS.ld1 (by repeat constructor) (Role.at_writes _)) ?_)
        refine WL.op rfl (opW.not rfl ?_)
        refine WL.nil ?_
        refine thenQ_n (hK23 _ _ ?_)
        refine WC.cond _ rfl (fun hc6 => ?_) (fun hc6 => ?_)
        ·
         have hr6 := hc6
         try simp only [sq1,sq2,sq3,sq4,sq5,sq6,sq7,sq8,sq9,sq0] at hc6
         refine WC.seq (fun K24 hK24 => ?_)
         refine WC.region ?_
         refine WL.op rfl (opW.assignI rfl ?_)
         refine WL.op rfl (opW.assignI rfl ?_)
         refine WL.op rfl (opW.assignI rfl ?_)
         refine WL.nil ?_
         refine thenQ_n (hK24 _ _ ?_)
         refine WC.ret ?_
         refine blockQ_r ?_
         refine thenQ_r ?_
         refine thenQ_r ?_
         refine blockQ_r ?_
         refine thenQ_r ?_
         refine bodyQ_ret (.tmpI rfl (.tmpI rfl (.tmpI rfl .nil))) ?_
         have he : takF x.tag r ats = 15 := by rw [htk, ← hinv, roleErrs_hit hml (hg.symm ▸ roleErr_w hmr hr5 hr6) (by decide)]
         rw [he]
         exact ⟨0, 0, rfl, fun h => absurd h (by decide), hS.old⟩
        ·
         have hr6 := hc6
         try simp only [sq1,sq2,sq3,sq4,sq5,sq6,sq7,sq8,sq9,sq0] at hc6
         refine WC.skip ?_
         refine blockQ_n ?_
         refine thenQ_n (hK18 _ _ ?_)
         refine WC.region ?_
         refine WL.op rfl (opW.moveI rfl ?_)
         refine WL.op rfl (opW.add rfl rfl (wrap_i64 (by omega)) ?_)
         refine WL.op rfl (opW.assignI rfl ?_)
         refine WL.nil ?_
         refine thenQ_n ?_
         rw [roleErrs_go hml (hg.symm ▸ roleErr_0 hmr hr5 hr6)] at hinv
         exact ⟨(need x.tag) - (m + 1), by omega, m + 1, ⟨rfl, rfl, rfl, rfl, congrArg (Value.int .i64) (by omega), trivial⟩, hS.sub (by repeat with_reducible first | exact su1 _ | exact su2 _ | refine su3 ?_ | refine su4 ?_), hinv, by omega, rfl⟩
      ·
       have hr4 := hc4
       try simp only [sq1,sq2,sq3,sq4,sq5,sq6,sq7,sq8,sq9,sq0] at hc4
       obtain ⟨j, hj⟩ : ∃ j, (need x.tag) - 1 = j := ⟨_, rfl⟩
       have h0l : 0 < ats.length := by omega
       have hjl : j < ats.length := by omega
       have hz : takF x.tag r ats = 0 := by rw [htk, ← hinv, List.drop_of_length_le (by omega)]; rfl
       refine WC.exit ?_
       refine thenQ_e ?_
       refine thenQ_e ?_
       refine blockQ_hit ?_
       refine thenQ_n (hK14 _ _ ?_)
       refine WC.seq (fun K25 hK25 => ?_)
       refine WC.draw 15 (.look 0 (.look 1 (.look 2 (.look 3 (.look 4 (.look 5 (.look 6 (.look 7 (.look 8 (.look 9 (.look 10 (.look 11 (.look 12 (.look 13 (.look 14 .nil))))))))))))))) (by kernel_rfl) (fun _ _ _ h => h) (fun w1 hw1 => ?_)
       replace hS := hS.bel hw1
       have hS1 := hS
       have hT := St.start w1
       refine ML.look rfl rfl rfl (fun w hw => (by have hS := hS1.bel hw; exact opW.fieldAddrB rfl ⟨rfl, rfl⟩)) ?_
       refine ML.look rfl rfl rfl (fun w hw => (by have hS := hS1.bel hw; exact opW.loadV rfl (hS.ld1 (by repeat constructor) (Instr.at_accounts _)) ⟨rfl, rfl⟩)) ?_
       refine ML.look rfl rfl rfl (fun w hw => (by have hS := hS1.bel hw; exact opW.idxV rfl ((ha.bel hS.old)) rfl (by omega) ⟨rfl, rfl⟩)) ?_
       refine ML.look rfl rfl rfl (fun w hw => (by have hS := hS1.bel hw; exact opW.loadV rfl (((ha.bel hS.old).isPt h0l).ld rfl) ⟨rfl, rfl⟩)) ?_
       refine ML.look rfl rfl rfl (fun w hw => (by have hS := hS1.bel hw; exact opW.conv rfl (wrap_i64 (by have := u8_lt ats[0]; omega)) ⟨rfl, rfl⟩)) ?_
       refine ML.look rfl rfl rfl (fun w hw => (by have hS := hS1.bel hw; exact opW.fieldAddrB rfl ⟨rfl, rfl⟩)) ?_
       refine ML.look rfl rfl rfl (fun w hw => (by have hS := hS1.bel hw; exact opW.loadV rfl (hS.ld1 (by repeat constructor) (Instr.at_accounts _)) ⟨rfl, rfl⟩)) ?_
       refine ML.look rfl rfl rfl (fun w hw => (by have hS := hS1.bel hw; exact opW.moveI rfl ⟨rfl, rfl⟩)) ?_
       refine ML.look rfl rfl rfl (fun w hw => (by have hS := hS1.bel hw; exact opW.sub rfl rfl ((wrap_i64 (by omega)).trans (by omega : _ = (j : Int))) ⟨rfl, rfl⟩)) ?_
       refine ML.look rfl rfl rfl (fun w hw => (by have hS := hS1.bel hw; exact opW.idxV rfl ((ha.bel hS.old)) rfl (by omega) ⟨rfl, rfl⟩)) ?_
       refine ML.look rfl rfl rfl (fun w hw => (by have hS := hS1.bel hw; exact opW.loadV rfl (((ha.bel hS.old).isPt hjl).ld rfl) ⟨rfl, rfl⟩)) ?_
       refine ML.look rfl rfl rfl (fun w hw => (by have hS := hS1.bel hw; exact opW.conv rfl (wrap_i64 (by have := u8_lt ats[j]; omega)) ⟨rfl, rfl⟩)) ?_
       refine ML.look rfl rfl rfl (fun w hw => (by have hS := hS1.bel hw; exact opW.assignI rfl ⟨rfl, rfl⟩)) ?_
       refine ML.look rfl rfl rfl (fun w hw => (by have hS := hS1.bel hw; exact opW.assignI rfl ⟨rfl, rfl⟩)) ?_
       refine ML.look rfl rfl rfl (fun w hw => (by have hS := hS1.bel hw; exact opW.assignI rfl ⟨rfl, rfl⟩)) ?_
       refine ML.nil ?_
       refine thenQ_n (hK25 _ _ ?_)
       refine WC.ret ?_
       refine bodyQ_ret (.tmpI rfl (.tmpI rfl (.tmpI rfl .nil))) ?_
       rw [hz]
       exact ⟨_, _, rfl, fun _ => ⟨by rw [getD_of h0l], by rw [hj, getD_of hjl]⟩, hS.old⟩

set_option maxHeartbeats 2000000 in
theorem rdo_ok (w0 : World) (vl vr : Value) (ins : Instr) (l : List Account) (r : List Role) (ats dt : List UInt8) (hl : SlR w0 vl l) (hr : SlR w0 vr r) (ha : SlR w0 ins.accounts.v ats) (hd : SlR w0 ins.data.v dt) (hlb : l.length ≤ 100000) (hlw : ∀ y ∈ l, okW y) : Ret Tryz.prog 31 #[vl, vr, .agg (Enc.enc ins)] w0 (fun u w' => ∃ v, u = .tuple #[v, .int .u64 ((doF l r ats dt).2.1 : Int), .int .i64 (doF l r ats dt).1] ∧ New w0 w' v 69 (doF l r ats dt).2.2 ∧ Bel w0 w') := by
 refine Ret.enter (args := [vl, vr, .agg (Enc.enc ins)]) Tryz.func31 rfl Tryz.ntmps31 Tryz.results31 rfl ?_
 have hS := St.start w0
 refine WC.seq (fun K1 hK1 => ?_)
 refine WC.region ?_
 refine WL.op rfl (opW.boxA hS rfl ?_)
 intro b5 w _ hS
 refine WL.op rfl (opW.assignV (v := .slice none 0 0) rfl ?_)
 refine WL.op rfl (opW.assignI rfl ?_)
 refine WL.op rfl (opW.assignI rfl ?_)
 refine WL.nil ?_
 refine thenQ_n (hK1 _ _ ?_)
 refine WC.seq (fun K2 hK2 => ?_)
 refine WC.seq (fun K3 hK3 => ?_)
 refine WC.region ?_
 refine WL.op rfl (opW.moveV (v := vl) rfl ?_)
 refine WL.op rfl (opW.lenV rfl ((hl.bel hS.old)) ?_)
 refine WL.op rfl (opW.moveV (v := vr) rfl ?_)
 refine WL.op rfl (opW.lenV rfl ((hr.bel hS.old)) ?_)
 refine WL.op rfl (opW.neq rfl rfl ?_)
 refine WL.nil ?_
 refine thenQ_n (hK3 _ _ ?_)
 refine WC.cond _ rfl (fun hc0 => ?_) (fun hc0 => ?_)
 ·
  have hr0 := hc0
  try simp only [sq1,sq2,sq3,sq4,sq5,sq6,sq7,sq8,sq9,sq0] at hc0
  refine WC.seq (fun K4 hK4 => ?_)
  refine WC.region ?_
  refine WL.op rfl (opW.assignV (v := .slice none 0 0) rfl ?_)
  refine WL.op rfl (opW.assignI rfl ?_)
  refine WL.op rfl (opW.assignI rfl ?_)
  refine WL.nil ?_
  refine thenQ_n (hK4 _ _ ?_)
  refine WC.ret ?_
  refine thenQ_r ?_
  refine bodyQ_ret (.tmpV (v := .slice none 0 0) rfl (.tmpI rfl (.tmpI rfl .nil))) ?_
  rw [doF_len (by omega)]
  exact ⟨_, rfl, New.nil _ _ _, hS.old⟩
 ·
  have hr0 := hc0
  try simp only [sq1,sq2,sq3,sq4,sq5,sq6,sq7,sq8,sq9,sq0] at hc0
  have hlen : l.length = r.length := by omega
  refine WC.skip ?_
  refine thenQ_n (hK2 _ _ ?_)
  refine WC.seq (fun K5 hK5 => ?_)
  refine WC.region ?_
  refine WL.op rfl (opW.fieldAddrB rfl ?_)
  refine WL.op rfl (opW.loadV rfl (hS.ld1 (by repeat constructor) (Instr.at_data _)) ?_)
  refine WL.op rfl (opW.call (rdata_ok _ ins.data.v dt (hd.bel hS.old)) rfl ?_)
  rintro _ w ⟨x, bb, rfl, hbb, hask, hw⟩; replace hS := hS.bel hw
  refine WL.op rfl (opW.moveV (v := .tuple #[.agg (Enc.enc (toR x)), .bool bb]) rfl ?_)
  refine WL.op rfl (opW.extract rfl rfl ?_)
  refine WL.op rfl (opW.extract rfl rfl ?_)
  refine WL.op rfl (opW.allocA hS ?_)
  intro b9 w _ hS
  refine WL.op0 (opW.storeE hS rfl rfl (by repeat constructor) (by first | rfl | exact Enc.size_eq _) ?_)
  intro w hS; replace hS := hS _ (by repeat constructor)
  refine WL.op rfl (opW.assignB rfl ?_)
  refine WL.nil ?_
  refine thenQ_n (hK5 _ _ ?_)
  refine WC.seq (fun K6 hK6 => ?_)
  refine WC.seq (fun K7 hK7 => ?_)
  refine WC.region ?_
  refine WL.op rfl (opW.moveB rfl ?_)
  refine WL.op rfl (opW.not rfl ?_)
  refine WL.nil ?_
  refine thenQ_n (hK7 _ _ ?_)
  refine WC.cond _ rfl (fun hc1 => ?_) (fun hc1 => ?_)
  ·
   have hr1 := hc1
   try simp only [sq1,sq2,sq3,sq4,sq5,sq6,sq7,sq8,sq9,sq0] at hc1
   refine WC.seq (fun K8 hK8 => ?_)
   refine WC.region ?_
   refine WL.op rfl (opW.assignV (v := .slice none 0 0) rfl ?_)
   refine WL.op rfl (opW.assignI rfl ?_)
   refine WL.op rfl (opW.assignI rfl ?_)
   refine WL.nil ?_
   refine thenQ_n (hK8 _ _ ?_)
   refine WC.ret ?_
   refine thenQ_r ?_
   refine bodyQ_ret (.tmpV (v := .slice none 0 0) rfl (.tmpI rfl (.tmpI rfl .nil))) ?_
   have hbf : bb = false := by simpa using hr1
   rw [doF_none hlen (by rw [hbf] at hbb; cases h : askF dt with | none => rfl | some y => rw [h] at hbb; cases hbb)]
   exact ⟨_, rfl, New.nil _ _ _, hS.old⟩
  ·
   have hr1 := hc1
   try simp only [sq1,sq2,sq3,sq4,sq5,sq6,sq7,sq8,sq9,sq0] at hc1
   have hx := hask (by simpa using hr1)
   obtain ⟨htag, hxc, hxs⟩ := askF_ok hx
   refine WC.skip ?_
   refine thenQ_n (hK6 _ _ ?_)
   refine WC.seq (fun K9 hK9 => ?_)
   refine WC.region ?_
   refine WL.op rfl (opW.loadV rfl (hS.ldA (cs := Enc.enc (toR x)) (by repeat constructor) (Enc.size_eq _)) ?_)
   refine WL.op rfl (opW.moveV (v := vr) rfl ?_)
   refine WL.op rfl (opW.loadV rfl (hS.ldA (cs := Enc.enc ins) (by repeat constructor) (Enc.size_eq _)) ?_)
   refine WL.op rfl (opW.call (places_ok _ x _ ins r ats (hr.bel hS.old) (ha.bel hS.old)) rfl ?_)
   rintro _ w ⟨pa, pb, rfl, hpl, hw⟩; replace hS := hS.bel hw
   refine WL.op rfl (opW.moveV (v := .tuple #[.int .i64 pa, .int .i64 pb, .int .i64 (takF x.tag r ats)]) rfl ?_)
   refine WL.op rfl (opW.extract rfl rfl ?_)
   refine WL.op rfl (opW.extract rfl rfl ?_)
   refine WL.op rfl (opW.extract rfl rfl ?_)
   refine WL.op rfl (opW.assignI rfl ?_)
   refine WL.op rfl (opW.assignI rfl ?_)
   refine WL.op rfl (opW.assignI rfl ?_)
   refine WL.nil ?_
   refine thenQ_n (hK9 _ _ ?_)
   refine WC.seq (fun K10 hK10 => ?_)
   refine WC.seq (fun K11 hK11 => ?_)
   refine WC.region ?_
   refine WL.op rfl (opW.moveI rfl ?_)
   refine WL.op rfl (opW.neq rfl rfl ?_)
   refine WL.nil ?_
   refine thenQ_n (hK11 _ _ ?_)
   refine WC.cond _ rfl (fun hc2 => ?_) (fun hc2 => ?_)
   ·
    have hr2 := hc2
    try simp only [sq1,sq2,sq3,sq4,sq5,sq6,sq7,sq8,sq9,sq0] at hc2
    refine WC.seq (fun K12 hK12 => ?_)
    refine WC.region ?_
    refine WL.op rfl (opW.moveI rfl ?_)
    refine WL.op rfl (opW.assignV (v := .slice none 0 0) rfl ?_)
    refine WL.op rfl (opW.assignI rfl ?_)
    refine WL.op rfl (opW.assignI rfl ?_)
    refine WL.nil ?_
    refine thenQ_n (hK12 _ _ ?_)
    refine WC.ret ?_
    refine thenQ_r ?_
    refine bodyQ_ret (.tmpV (v := .slice none 0 0) rfl (.tmpI rfl (.tmpI rfl .nil))) ?_
    rw [doF_tak hlen hx (by simpa using hr2)]
    exact ⟨_, rfl, New.nil _ _ _, hS.old⟩
   ·
    have hr2 := hc2
    try simp only [sq1,sq2,sq3,sq4,sq5,sq6,sq7,sq8,sq9,sq0] at hc2
    have htk : takF x.tag r ats = 0 := by simpa using hr2
    obtain ⟨hnl, hlk⟩ := takF_ok htk
    have hn12 := need_12 x.tag
    obtain ⟨j, hj⟩ : ∃ j, need x.tag - 1 = j := ⟨_, rfl⟩
    have hjl : j < ats.length := by omega
    have h0l : 0 < ats.length := by omega
    have ha0 : ats[0].toNat < l.length := by rw [hlen]; exact lacks_no hlk (List.getElem_mem _)
    have haj : ats[j].toNat < l.length := by rw [hlen]; exact lacks_no hlk (List.getElem_mem _)
    have hact := doF_act hlen hx htk h0l hjl hj ha0 haj
    obtain ⟨hpa, hpb⟩ := hpl htk
    rw [getD_of h0l] at hpa
    rw [hj, getD_of hjl] at hpb
    subst hpa
    subst hpb
    have hA := hlw _ (List.getElem_mem ha0)
    have hB := hlw _ (List.getElem_mem haj)
    have hll := hl.le
    simp only [maxLen] at hll
    refine WC.skip ?_
    refine thenQ_n (hK10 _ _ ?_)
    refine WC.seq (fun K13 hK13 => ?_)
    refine WC.region ?_
    refine WL.op rfl (opW.moveV (v := vl) rfl ?_)
    refine WL.op rfl (opW.appendNil (α := Account) rfl hS rfl ((hl.bel hS.old)) (by omega) (by simp only [maxLen]; omega) ?_)
    intro v40 w hw hS
    refine WL.op rfl (opW.assignV (v := v40) rfl ?_)
    refine WL.nil ?_
    refine thenQ_n (hK13 _ _ ?_)
    refine WC.seq (fun K14 hK14 => ?_)
    refine WC.seq (fun K15 hK15 => ?_)
    refine WC.region ?_
    refine WL.op rfl (opW.fieldAddrB rfl ?_)
    refine WL.op rfl (opW.loadV rfl (hS.ld1 (by repeat constructor) (toR_tag x)) ?_)
    refine WL.nil ?_
    refine thenQ_n (hK15 _ _ ?_)
    refine WC.block ?_
    refine WC.seq (fun K16 hK16 => ?_)
    refine WC.region ?_
    refine WL.op rfl (opW.eql rfl rfl ?_)
    refine WL.op rfl (opW.assignB rfl ?_)
    refine WL.nil ?_
    refine thenQ_n (hK16 _ _ ?_)
    refine WC.cond _ rfl (fun hc3 => ?_) (fun hc3 => ?_)
    ·
     have hr3 := hc3
     try simp only [sq1,sq2,sq3,sq4,sq5,sq6,sq7,sq8,sq9,sq0] at hc3
     have htg : x.tag = 0 := by omega
     refine WC.seq (fun K17 hK17 => ?_)
     refine WC.seq (fun K18 hK18 => ?_)
     refine WC.region ?_
     refine WL.op rfl (opW.moveV (v := v40) rfl ?_)
     refine WL.op rfl (opW.moveI rfl ?_)
     refine WL.op rfl (opW.idxV rfl ((hS.sl (v := v40) (xs := l) (by repeat constructor))) rfl (by omega) ?_)
     refine WL.op rfl (opW.loadV rfl (((hS.sl (v := v40) (xs := l) (by repeat constructor)).isPt haj).ldA (Enc.size_eq l[ats[j].toNat])) ?_)
     refine WL.op rfl (opW.buildE (r := ((az : Account) : Account)) (ps := Account.parts ((az : Account) : Account)) (Account.enc_eq _) (by first | (simp only [sysK, az, enc_vset, enc_vz, Account.enc_eq, Account.parts, Role.enc_eq, Role.parts, Instr.enc_eq, Instr.parts, Ask.enc_eq, Ask.parts, Cut.enc_eq, Cut.parts, PairS.enc_eq, PairS.parts, RAsk.enc_eq, RAsk.parts, Header.enc_eq, Header.parts, Lookup.enc_eq, Lookup.parts, Message.enc_eq, Message.parts, Tx.enc_eq, Tx.parts, Budget.enc_eq, Budget.parts, Ready.enc_eq, Ready.parts, Holding.enc_eq, Holding.parts, Outcome.enc_eq, Outcome.parts, Running.enc_eq, Running.parts, StS.enc_eq, StS.parts]; rfl) | rfl) (by (repeat' (first | exact trivial | refine And.intro ?_ ?_)) <;> first | rfl | exact Enc.size_eq _ | (simp; done)) ?_)
     refine WL.op rfl (opW.neqE rfl rfl ?_)
     refine WL.nil ?_
     refine thenQ_n (hK18 _ _ ?_)
     refine WC.cond _ rfl (fun hc4 => ?_) (fun hc4 => ?_)
     ·
      have hr4 := hc4
      try simp only [sq1,sq2,sq3,sq4,sq5,sq6,sq7,sq8,sq9,sq0] at hc4
      refine WC.seq (fun K19 hK19 => ?_)
      refine WC.region ?_
      refine WL.op rfl (opW.assignV (v := .slice none 0 0) rfl ?_)
      refine WL.op rfl (opW.assignI rfl ?_)
      refine WL.op rfl (opW.assignI rfl ?_)
      refine WL.nil ?_
      refine thenQ_n (hK19 _ _ ?_)
      refine WC.ret ?_
      refine thenQ_r ?_
      refine blockQ_r ?_
      refine thenQ_r ?_
      refine bodyQ_ret (.tmpV (v := .slice none 0 0) rfl (.tmpI rfl (.tmpI rfl .nil))) ?_
      have he : actE x l[ats[0].toNat] l[ats[j].toNat] (decide (ats[0].toNat = ats[j].toNat)) = 12 := by rw [actE0 htg]; unfold mkE; rw [if_pos hr4]
      rw [hact, if_pos (by rw [he]; decide), he]
      exact ⟨_, rfl, New.nil _ _ _, hS.old⟩
     ·
      have hr4 := hc4
      try simp only [sq1,sq2,sq3,sq4,sq5,sq6,sq7,sq8,sq9,sq0] at hc4
      refine WC.skip ?_
      refine thenQ_n (hK17 _ _ ?_)
      refine WC.seq (fun K20 hK20 => ?_)
      refine WC.seq (fun K21 hK21 => ?_)
      refine WC.region ?_
      refine WL.op rfl (opW.moveV (v := v40) rfl ?_)
      refine WL.op rfl (opW.moveI rfl ?_)
      refine WL.op rfl (opW.idxV rfl ((hS.sl (v := v40) (xs := l) (by repeat constructor))) rfl (by omega) ?_)
      refine WL.op rfl (opW.loadV rfl (((hS.sl (v := v40) (xs := l) (by repeat constructor)).isPt ha0).ldA (Enc.size_eq l[ats[0].toNat])) ?_)
      refine WL.op rfl (opW.call (rplain_ok _ l[ats[0].toNat]) rfl ?_)
      rintro _ w ⟨rfl, hw⟩; replace hS := hS.bel hw
      refine WL.op rfl (opW.not rfl ?_)
      refine WL.nil ?_
      refine thenQ_n (hK21 _ _ ?_)
      refine WC.cond _ rfl (fun hc5 => ?_) (fun hc5 => ?_)
      ·
       have hr5 := hc5
       try simp only [sq1,sq2,sq3,sq4,sq5,sq6,sq7,sq8,sq9,sq0] at hc5
       refine WC.seq (fun K22 hK22 => ?_)
       refine WC.region ?_
       refine WL.op rfl (opW.assignV (v := .slice none 0 0) rfl ?_)
       refine WL.op rfl (opW.assignI rfl ?_)
       refine WL.op rfl (opW.assignI rfl ?_)
       refine WL.nil ?_
       refine thenQ_n (hK22 _ _ ?_)
       refine WC.ret ?_
       refine thenQ_r ?_
       refine blockQ_r ?_
       refine thenQ_r ?_
       refine bodyQ_ret (.tmpV (v := .slice none 0 0) rfl (.tmpI rfl (.tmpI rfl .nil))) ?_
       have he : actE x l[ats[0].toNat] l[ats[j].toNat] (decide (ats[0].toNat = ats[j].toNat)) = 16 := by rw [actE0 htg]; unfold mkE; rw [if_neg (by rw [hr4]; decide), if_pos hr5]
       rw [hact, if_pos (by rw [he]; decide), he]
       exact ⟨_, rfl, New.nil _ _ _, hS.old⟩
      ·
       have hr5 := hc5
       try simp only [sq1,sq2,sq3,sq4,sq5,sq6,sq7,sq8,sq9,sq0] at hc5
       refine WC.skip ?_
       refine thenQ_n (hK20 _ _ ?_)
       refine WC.seq (fun K23 hK23 => ?_)
       refine WC.seq (fun K24 hK24 => ?_)
       refine WC.region ?_
       refine WL.op rfl (opW.fieldAddrB rfl ?_)
       refine WL.op rfl (opW.loadV rfl (hS.ld1 (by repeat constructor) (toR_space x)) ?_)
       refine WL.op rfl (opW.gtr rfl rfl ?_)
       refine WL.nil ?_
       refine thenQ_n (hK24 _ _ ?_)
       refine WC.cond _ rfl (fun hc6 => ?_) (fun hc6 => ?_)
       ·
        have hr6 := hc6
        try simp only [sq1,sq2,sq3,sq4,sq5,sq6,sq7,sq8,sq9,sq0] at hc6
        refine WC.seq (fun K25 hK25 => ?_)
        refine WC.region ?_
        refine WL.op rfl (opW.assignV (v := .slice none 0 0) rfl ?_)
        refine WL.op rfl (opW.assignI rfl ?_)
        refine WL.op rfl (opW.assignI rfl ?_)
        refine WL.nil ?_
        refine thenQ_n (hK25 _ _ ?_)
        refine WC.ret ?_
        refine thenQ_r ?_
        refine blockQ_r ?_
        refine thenQ_r ?_
        refine bodyQ_ret (.tmpV (v := .slice none 0 0) rfl (.tmpI rfl (.tmpI rfl .nil))) ?_
        have he : actE x l[ats[0].toNat] l[ats[j].toNat] (decide (ats[0].toNat = ats[j].toNat)) = 3 := by rw [actE0 htg]; unfold mkE; rw [if_neg (by rw [hr4]; decide), if_neg (by rw [hr5]; decide), if_pos hc6]
        rw [hact, if_pos (by rw [he]; decide), he]
        exact ⟨_, rfl, New.nil _ _ _, hS.old⟩
       ·
        have hr6 := hc6
        try simp only [sq1,sq2,sq3,sq4,sq5,sq6,sq7,sq8,sq9,sq0] at hc6
        refine WC.skip ?_
        refine thenQ_n (hK23 _ _ ?_)
        refine WC.seq (fun K26 hK26 => ?_)
        refine WC.seq (fun K27 hK27 => ?_)
        refine WC.draw 8 (.look 0 (.look 1 (.look 2 (.look 3 (.look 4 (.look 5 (.look 6 (.look 7 .nil)))))))) (by kernel_rfl) (fun _ _ _ h => h) (fun w1 hw1 => ?_)
        replace hS := hS.bel hw1
        have hS1 := hS
        have hT := St.start w1
        refine ML.look rfl rfl rfl (fun w hw => (by have hS := hS1.bel hw; exact opW.moveV (v := v40) rfl ⟨rfl, rfl⟩)) ?_
        refine ML.look rfl rfl rfl (fun w hw => (by have hS := hS1.bel hw; exact opW.moveI rfl ⟨rfl, rfl⟩)) ?_
        refine ML.look rfl rfl rfl (fun w hw => (by have hS := hS1.bel hw; exact opW.idxV rfl ((hS.sl (v := v40) (xs := l) (by repeat constructor))) rfl (by omega) ⟨rfl, rfl⟩)) ?_
        refine ML.look rfl rfl rfl (fun w hw => (by have hS := hS1.bel hw; exact opW.fieldAddr rfl ((hS.sl (v := v40) (xs := l) (by repeat constructor)).isP ha0) ⟨rfl, rfl⟩)) ?_
        refine ML.look rfl rfl rfl (fun w hw => (by have hS := hS1.bel hw; exact opW.loadV rfl (Ld.pt1 ((hS.sl (v := v40) (xs := l) (by repeat constructor)).isPt ha0) 0 (Account.at_coins _)) ⟨rfl, rfl⟩)) ?_
        refine ML.look rfl rfl rfl (fun w hw => (by have hS := hS1.bel hw; exact opW.fieldAddrB rfl ⟨rfl, rfl⟩)) ?_
        refine ML.look rfl rfl rfl (fun w hw => (by have hS := hS1.bel hw; exact opW.loadV rfl (hS.ld1 (by repeat constructor) (toR_coins x)) ⟨rfl, rfl⟩)) ?_
        refine ML.look rfl rfl rfl (fun w hw => (by have hS := hS1.bel hw; exact opW.lss rfl rfl ⟨rfl, rfl⟩)) ?_
        refine ML.nil ?_
        refine thenQ_n (hK27 _ _ ?_)
        refine WC.cond _ rfl (fun hc7 => ?_) (fun hc7 => ?_)
        ·
         have hr7 := hc7
         try simp only [sq1,sq2,sq3,sq4,sq5,sq6,sq7,sq8,sq9,sq0] at hc7
         refine WC.seq (fun K28 hK28 => ?_)
         refine WC.region ?_
         refine WL.op rfl (opW.assignV (v := .slice none 0 0) rfl ?_)
         refine WL.op rfl (opW.assignI rfl ?_)
         refine WL.op rfl (opW.assignI rfl ?_)
         refine WL.nil ?_
         refine thenQ_n (hK28 _ _ ?_)
         refine WC.ret ?_
         refine thenQ_r ?_
         refine blockQ_r ?_
         refine thenQ_r ?_
         refine bodyQ_ret (.tmpV (v := .slice none 0 0) rfl (.tmpI rfl (.tmpI rfl .nil))) ?_
         have he : actE x l[ats[0].toNat] l[ats[j].toNat] (decide (ats[0].toNat = ats[j].toNat)) = 17 := by rw [actE0 htg]; unfold mkE; rw [if_neg (by rw [hr4]; decide), if_neg (by rw [hr5]; decide), if_neg (by omega), if_pos hc7]
         rw [hact, if_pos (by rw [he]; decide), he]
         exact ⟨_, rfl, New.nil _ _ _, hS.old⟩
        ·
         have hr7 := hc7
         try simp only [sq1,sq2,sq3,sq4,sq5,sq6,sq7,sq8,sq9,sq0] at hc7
         refine WC.skip ?_
         refine thenQ_n (hK26 _ _ ?_)
         refine WC.seq (fun K29 hK29 => ?_)
         refine WC.draw 12 (.look 0 (.look 1 (.look 2 (.look 3 (.look 4 (.look 5 (.look 6 (.look 7 (.look 8 (.look 9 (.look 10 (.look 11 (.one 12 .nil))))))))))))) (by kernel_rfl) (fun _ _ _ h => h) (fun w1 hw1 => ?_)
         replace hS := hS.bel hw1
         have hS1 := hS
         have hT := St.start w1
         refine ML.look rfl rfl rfl (fun w hw => (by have hS := hS1.bel hw; exact opW.moveV (v := v40) rfl ⟨rfl, rfl⟩)) ?_
         refine ML.look rfl rfl rfl (fun w hw => (by have hS := hS1.bel hw; exact opW.moveI rfl ⟨rfl, rfl⟩)) ?_
         refine ML.look rfl rfl rfl (fun w hw => (by have hS := hS1.bel hw; exact opW.moveV (v := v40) rfl ⟨rfl, rfl⟩)) ?_
         refine ML.look rfl rfl rfl (fun w hw => (by have hS := hS1.bel hw; exact opW.moveI rfl ⟨rfl, rfl⟩)) ?_
         refine ML.look rfl rfl rfl (fun w hw => (by have hS := hS1.bel hw; exact opW.idxV rfl ((hS.sl (v := v40) (xs := l) (by repeat constructor))) rfl (by omega) ⟨rfl, rfl⟩)) ?_
         refine ML.look rfl rfl rfl (fun w hw => (by have hS := hS1.bel hw; exact opW.fieldAddr rfl ((hS.sl (v := v40) (xs := l) (by repeat constructor)).isP ha0) ⟨rfl, rfl⟩)) ?_
         refine ML.look rfl rfl rfl (fun w hw => (by have hS := hS1.bel hw; exact opW.loadV rfl (Ld.pt1 ((hS.sl (v := v40) (xs := l) (by repeat constructor)).isPt ha0) 0 (Account.at_coins _)) ⟨rfl, rfl⟩)) ?_
         refine ML.look rfl rfl rfl (fun w hw => (by have hS := hS1.bel hw; exact opW.fieldAddrB rfl ⟨rfl, rfl⟩)) ?_
         refine ML.look rfl rfl rfl (fun w hw => (by have hS := hS1.bel hw; exact opW.loadV rfl (hS.ld1 (by repeat constructor) (toR_coins x)) ⟨rfl, rfl⟩)) ?_
         refine ML.look rfl rfl rfl (fun w hw => (by have hS := hS1.bel hw; exact opW.sub rfl rfl (nsub (by omega) hA.1) ⟨rfl, rfl⟩)) ?_
         refine ML.look rfl rfl rfl (fun w hw => (by have hS := hS1.bel hw; exact opW.idxV rfl ((hS.sl (v := v40) (xs := l) (by repeat constructor))) rfl (by omega) ⟨rfl, rfl⟩)) ?_
         refine ML.look rfl rfl rfl (fun w hw => (by have hS := hS1.bel hw; exact opW.fieldAddr rfl ((hS.sl (v := v40) (xs := l) (by repeat constructor)).isP ha0) ⟨rfl, rfl⟩)) ?_
         refine ML.put0 rfl rfl rfl (opW.storeOwn (v := v40) (u := .int .u64 ((l[ats[0].toNat].coins - x.coins : Nat) : Int)) (sz := 1) (xs := l) (i := ats[0].toNat) (off := 0) (y' := { l[ats[0].toNat] with coins := l[ats[0].toNat].coins - x.coins }) hS (by repeat constructor) ha0 rfl rfl rfl (by decide) (one_int _ _) (Account.set_coins l[ats[0].toNat] (l[ats[0].toNat].coins - x.coins)) ?_)
         intro w hS; replace hS := hS _ (by repeat constructor)
         refine ML.nil ?_
         refine thenQ_n (hK29 _ _ ?_)
         refine WC.region ?_
         have haj2 : ats[j].toNat < (l.set ats[0].toNat { l[ats[0].toNat] with coins := l[ats[0].toNat].coins - x.coins }).length := by simpa using haj
         refine WL.op rfl (opW.moveV (v := v40) rfl ?_)
         refine WL.op rfl (opW.moveI rfl ?_)
         refine WL.op rfl (opW.fieldAddrB rfl ?_)
         refine WL.op rfl (opW.loadV rfl (hS.ld1 (by repeat constructor) (toR_coins x)) ?_)
         refine WL.op rfl (opW.fieldAddrB rfl ?_)
         refine WL.op rfl (opW.loadV rfl (hS.ldF (cs := Enc.enc (toR x)) (o := 3) (by repeat constructor) (toR_owner x) (by rw [Enc.size_eq]; decide)) ?_)
         refine WL.op rfl (opW.fieldAddrB rfl ?_)
         refine WL.op rfl (opW.loadV rfl (hS.ld1 (by repeat constructor) (toR_space x)) ?_)
         refine WL.op rfl (opW.buildE (r := ((⟨x.coins, x.owner, x.space⟩ : Account) : Account)) (ps := Account.parts ((⟨x.coins, x.owner, x.space⟩ : Account) : Account)) (Account.enc_eq _) (by first | (simp only [sysK, az, enc_vset, enc_vz, Account.enc_eq, Account.parts, Role.enc_eq, Role.parts, Instr.enc_eq, Instr.parts, Ask.enc_eq, Ask.parts, Cut.enc_eq, Cut.parts, PairS.enc_eq, PairS.parts, RAsk.enc_eq, RAsk.parts, Header.enc_eq, Header.parts, Lookup.enc_eq, Lookup.parts, Message.enc_eq, Message.parts, Tx.enc_eq, Tx.parts, Budget.enc_eq, Budget.parts, Ready.enc_eq, Ready.parts, Holding.enc_eq, Holding.parts, Outcome.enc_eq, Outcome.parts, Running.enc_eq, Running.parts, StS.enc_eq, StS.parts]; rfl) | rfl) (by (repeat' (first | exact trivial | refine And.intro ?_ ?_)) <;> first | rfl | exact Enc.size_eq _ | (simp; done)) ?_)
         refine WL.op rfl (opW.idxV rfl ((hS.sl (v := v40) (xs := (l.set ats[0].toNat { l[ats[0].toNat] with coins := l[ats[0].toNat].coins - x.coins })) (by repeat constructor))) rfl (by omega) ?_)
         refine WL.op0 (opW.storeOwn (v := v40) (u := .agg (Enc.enc (⟨x.coins, x.owner, x.space⟩ : Account))) (sz := 34) (xs := (l.set ats[0].toNat { l[ats[0].toNat] with coins := l[ats[0].toNat].coins - x.coins })) (i := ats[j].toNat) (off := 0) (y' := ⟨x.coins, x.owner, x.space⟩) hS (by repeat constructor) haj2 (ptrAdd0 v40 ats[j].toNat (Enc.sz Account)).symm rfl (Enc.size_eq (α := Account) _) (by decide) (Enc.one (α := Account) _) (spl_all (by rw [show Value.cells (.agg (Enc.enc (⟨x.coins, x.owner, x.space⟩ : Account))) = Enc.enc (⟨x.coins, x.owner, x.space⟩ : Account) from rfl, Enc.size_eq, Enc.size_eq])) ?_)
         intro w hS; replace hS := hS _ (by repeat constructor)
         refine WL.nil ?_
         refine blockQ_n ?_
         refine thenQ_n (hK14 _ _ ?_)
         refine WC.seq (fun K30 hK30 => ?_)
         refine WC.draw 6 (.look 0 (.look 1 (.look 2 (.look 3 (.look 4 (.look 5 .nil)))))) (by kernel_rfl) (fun _ _ _ h => h) (fun w1 hw1 => ?_)
         replace hS := hS.bel hw1
         have hS1 := hS
         have hT := St.start w1
         refine ML.look rfl rfl rfl (fun w hw => (by have hS := hS1.bel hw; exact opW.moveV (v := v40) rfl ⟨rfl, rfl⟩)) ?_
         refine ML.look rfl rfl rfl (fun w hw => (by have hS := hS1.bel hw; exact opW.fieldAddrB rfl ⟨rfl, rfl⟩)) ?_
         refine ML.look rfl rfl rfl (fun w hw => (by have hS := hS1.bel hw; exact opW.loadV rfl (hS.ld1 (by repeat constructor) (toR_space x)) ⟨rfl, rfl⟩)) ?_
         refine ML.look rfl rfl rfl (fun w hw => (by have hS := hS1.bel hw; exact opW.assignV (v := v40) rfl ⟨rfl, rfl⟩)) ?_
         refine ML.look rfl rfl rfl (fun w hw => (by have hS := hS1.bel hw; exact opW.assignI rfl ⟨rfl, rfl⟩)) ?_
         refine ML.look rfl rfl rfl (fun w hw => (by have hS := hS1.bel hw; exact opW.assignI rfl ⟨rfl, rfl⟩)) ?_
         refine ML.nil ?_
         refine thenQ_n (hK30 _ _ ?_)
         refine WC.ret ?_
         refine bodyQ_ret (.tmpV (v := v40) rfl (.tmpI rfl (.tmpI rfl .nil))) ?_
         have he : actE x l[ats[0].toNat] l[ats[j].toNat] (decide (ats[0].toNat = ats[j].toNat)) = 0 := by rw [actE0 htg]; unfold mkE; rw [if_neg (by rw [hr4]; decide), if_neg (by rw [hr5]; decide), if_neg (by omega), if_neg (by omega)]
         rw [hact, if_neg (fun e => e he), actL0 htg]
         exact ⟨_, rfl, hS.own_new (by repeat constructor), hS.old⟩
    ·
     have hr3 := hc3
     try simp only [sq1,sq2,sq3,sq4,sq5,sq6,sq7,sq8,sq9,sq0] at hc3
     refine WC.seq (fun K31 hK31 => ?_)
     refine WC.region ?_
     refine WL.op rfl (opW.eql rfl rfl ?_)
     refine WL.op rfl (opW.assignB rfl ?_)
     refine WL.nil ?_
     refine thenQ_n (hK31 _ _ ?_)
     refine WC.cond _ rfl (fun hc8 => ?_) (fun hc8 => ?_)
     ·
      have hr8 := hc8
      try simp only [sq1,sq2,sq3,sq4,sq5,sq6,sq7,sq8,sq9,sq0] at hc8
      have htg : x.tag = 1 := by omega
      refine WC.seq (fun K32 hK32 => ?_)
      refine WC.seq (fun K33 hK33 => ?_)
      refine WC.region ?_
      refine WL.op rfl (opW.moveV (v := v40) rfl ?_)
      refine WL.op rfl (opW.moveI rfl ?_)
      refine WL.op rfl (opW.idxV rfl ((hS.sl (v := v40) (xs := l) (by repeat constructor))) rfl (by omega) ?_)
      refine WL.op rfl (opW.fieldAddr rfl ((hS.sl (v := v40) (xs := l) (by repeat constructor)).isP ha0) ?_)
      refine WL.op rfl (opW.loadV rfl (Ld.ptA ((hS.sl (v := v40) (xs := l) (by repeat constructor)).isPt ha0) 1 (Account.ex_owner _) (by rw [Enc.size_eq]; decide)) ?_)
      refine WL.op rfl (opW.buildVec (k := sysK) (by first | rfl | (simp only [sysK, az, enc_vset, enc_vz]; rfl)) (by intro p hp; first | (exfalso; simp at hp; done) | (simp only [List.map_cons, List.map_nil, List.mem_cons, List.not_mem_nil, or_false] at hp; rcases hp with rfl | rfl | rfl | rfl <;> exact ⟨by simp, rfl⟩)) ?_)
      refine WL.op rfl (opW.neqE rfl rfl ?_)
      refine WL.nil ?_
      refine thenQ_n (hK33 _ _ ?_)
      refine WC.cond _ rfl (fun hc9 => ?_) (fun hc9 => ?_)
      ·
       have hr9 := hc9
       try simp only [sq1,sq2,sq3,sq4,sq5,sq6,sq7,sq8,sq9,sq0] at hc9
       refine WC.seq (fun K34 hK34 => ?_)
       refine WC.region ?_
       refine WL.op rfl (opW.assignV (v := .slice none 0 0) rfl ?_)
       refine WL.op rfl (opW.assignI rfl ?_)
       refine WL.op rfl (opW.assignI rfl ?_)
       refine WL.nil ?_
       refine thenQ_n (hK34 _ _ ?_)
       refine WC.ret ?_
       refine thenQ_r ?_
       refine blockQ_r ?_
       refine thenQ_r ?_
       refine bodyQ_ret (.tmpV (v := .slice none 0 0) rfl (.tmpI rfl (.tmpI rfl .nil))) ?_
       have he : actE x l[ats[0].toNat] l[ats[j].toNat] (decide (ats[0].toNat = ats[j].toNat)) = 16 := by rw [actE1 htg]; unfold asE; rw [if_pos hr9]
       rw [hact, if_pos (by rw [he]; decide), he]
       exact ⟨_, rfl, New.nil _ _ _, hS.old⟩
      ·
       have hr9 := hc9
       try simp only [sq1,sq2,sq3,sq4,sq5,sq6,sq7,sq8,sq9,sq0] at hc9
       refine WC.skip ?_
       refine thenQ_n (hK32 _ _ ?_)
       refine WC.region ?_
       refine WL.op rfl (opW.moveV (v := v40) rfl ?_)
       refine WL.op rfl (opW.moveI rfl ?_)
       refine WL.op rfl (opW.fieldAddrB rfl ?_)
       refine WL.op rfl (opW.loadV rfl (hS.ldF (cs := Enc.enc (toR x)) (o := 3) (by repeat constructor) (toR_owner x) (by rw [Enc.size_eq]; decide)) ?_)
       refine WL.op rfl (opW.idxV rfl ((hS.sl (v := v40) (xs := l) (by repeat constructor))) rfl (by omega) ?_)
       refine WL.op rfl (opW.fieldAddr rfl ((hS.sl (v := v40) (xs := l) (by repeat constructor)).isP ha0) ?_)
       refine WL.op0 (opW.storeOwn (v := v40) (u := .agg (Enc.enc x.owner)) (sz := 32) (xs := l) (i := ats[0].toNat) (off := 1) (y' := { l[ats[0].toNat] with owner := x.owner }) hS (by repeat constructor) ha0 rfl rfl (Enc.size_eq x.owner) (by decide) (Enc.one x.owner) (Account.set_owner l[ats[0].toNat] x.owner) ?_)
       intro w hS; replace hS := hS _ (by repeat constructor)
       refine WL.nil ?_
       refine blockQ_n ?_
       refine thenQ_n (hK14 _ _ ?_)
       refine WC.seq (fun K35 hK35 => ?_)
       refine WC.draw 6 (.look 0 (.look 1 (.look 2 (.look 3 (.look 4 (.look 5 .nil)))))) (by kernel_rfl) (fun _ _ _ h => h) (fun w1 hw1 => ?_)
       replace hS := hS.bel hw1
       have hS1 := hS
       have hT := St.start w1
       refine ML.look rfl rfl rfl (fun w hw => (by have hS := hS1.bel hw; exact opW.moveV (v := v40) rfl ⟨rfl, rfl⟩)) ?_
       refine ML.look rfl rfl rfl (fun w hw => (by have hS := hS1.bel hw; exact opW.fieldAddrB rfl ⟨rfl, rfl⟩)) ?_
       refine ML.look rfl rfl rfl (fun w hw => (by have hS := hS1.bel hw; exact opW.loadV rfl (hS.ld1 (by repeat constructor) (toR_space x)) ⟨rfl, rfl⟩)) ?_
       refine ML.look rfl rfl rfl (fun w hw => (by have hS := hS1.bel hw; exact opW.assignV (v := v40) rfl ⟨rfl, rfl⟩)) ?_
       refine ML.look rfl rfl rfl (fun w hw => (by have hS := hS1.bel hw; exact opW.assignI rfl ⟨rfl, rfl⟩)) ?_
       refine ML.look rfl rfl rfl (fun w hw => (by have hS := hS1.bel hw; exact opW.assignI rfl ⟨rfl, rfl⟩)) ?_
       refine ML.nil ?_
       refine thenQ_n (hK35 _ _ ?_)
       refine WC.ret ?_
       refine bodyQ_ret (.tmpV (v := v40) rfl (.tmpI rfl (.tmpI rfl .nil))) ?_
       have he : actE x l[ats[0].toNat] l[ats[j].toNat] (decide (ats[0].toNat = ats[j].toNat)) = 0 := by rw [actE1 htg]; unfold asE; rw [if_neg (by rw [hr9]; decide)]
       rw [hact, if_neg (fun e => e he), actL1 htg]
       exact ⟨_, rfl, hS.own_new (by repeat constructor), hS.old⟩
     ·
      have hr8 := hc8
      try simp only [sq1,sq2,sq3,sq4,sq5,sq6,sq7,sq8,sq9,sq0] at hc8
      refine WC.seq (fun K36 hK36 => ?_)
      refine WC.region ?_
      refine WL.op rfl (opW.eql rfl rfl ?_)
      refine WL.op rfl (opW.assignB rfl ?_)
      refine WL.nil ?_
      refine thenQ_n (hK36 _ _ ?_)
      refine WC.cond _ rfl (fun hc10 => ?_) (fun hc10 => ?_)
      ·
       have hr10 := hc10
       try simp only [sq1,sq2,sq3,sq4,sq5,sq6,sq7,sq8,sq9,sq0] at hc10
       have htg : x.tag = 2 := by omega
       refine WC.seq (fun K37 hK37 => ?_)
       refine WC.seq (fun K38 hK38 => ?_)
       refine WC.region ?_
       refine WL.op rfl (opW.moveV (v := v40) rfl ?_)
       refine WL.op rfl (opW.moveI rfl ?_)
       refine WL.op rfl (opW.idxV rfl ((hS.sl (v := v40) (xs := l) (by repeat constructor))) rfl (by omega) ?_)
       refine WL.op rfl (opW.loadV rfl (((hS.sl (v := v40) (xs := l) (by repeat constructor)).isPt ha0).ldA (Enc.size_eq l[ats[0].toNat])) ?_)
       refine WL.op rfl (opW.call (rplain_ok _ l[ats[0].toNat]) rfl ?_)
       rintro _ w ⟨rfl, hw⟩; replace hS := hS.bel hw
       refine WL.op rfl (opW.not rfl ?_)
       refine WL.nil ?_
       refine thenQ_n (hK38 _ _ ?_)
       refine WC.cond _ rfl (fun hc11 => ?_) (fun hc11 => ?_)
       ·
        have hr11 := hc11
        try simp only [sq1,sq2,sq3,sq4,sq5,sq6,sq7,sq8,sq9,sq0] at hc11
        refine WC.seq (fun K39 hK39 => ?_)
        refine WC.region ?_
        refine WL.op rfl (opW.assignV (v := .slice none 0 0) rfl ?_)
        refine WL.op rfl (opW.assignI rfl ?_)
        refine WL.op rfl (opW.assignI rfl ?_)
        refine WL.nil ?_
        refine thenQ_n (hK39 _ _ ?_)
        refine WC.ret ?_
        refine thenQ_r ?_
        refine blockQ_r ?_
        refine thenQ_r ?_
        refine bodyQ_ret (.tmpV (v := .slice none 0 0) rfl (.tmpI rfl (.tmpI rfl .nil))) ?_
        have he : actE x l[ats[0].toNat] l[ats[j].toNat] (decide (ats[0].toNat = ats[j].toNat)) = 16 := by rw [actE2 htg]; unfold mvE; rw [if_pos hr11]
        rw [hact, if_pos (by rw [he]; decide), he]
        exact ⟨_, rfl, New.nil _ _ _, hS.old⟩
       ·
        have hr11 := hc11
        try simp only [sq1,sq2,sq3,sq4,sq5,sq6,sq7,sq8,sq9,sq0] at hc11
        refine WC.skip ?_
        refine thenQ_n (hK37 _ _ ?_)
        refine WC.seq (fun K40 hK40 => ?_)
        refine WC.seq (fun K41 hK41 => ?_)
        refine WC.draw 8 (.look 0 (.look 1 (.look 2 (.look 3 (.look 4 (.look 5 (.look 6 (.look 7 .nil)))))))) (by kernel_rfl) (fun _ _ _ h => h) (fun w1 hw1 => ?_)
        replace hS := hS.bel hw1
        have hS1 := hS
        have hT := St.start w1
        refine ML.look rfl rfl rfl (fun w hw => (by have hS := hS1.bel hw; exact opW.moveV (v := v40) rfl ⟨rfl, rfl⟩)) ?_
        refine ML.look rfl rfl rfl (fun w hw => (by have hS := hS1.bel hw; exact opW.moveI rfl ⟨rfl, rfl⟩)) ?_
        refine ML.look rfl rfl rfl (fun w hw => (by have hS := hS1.bel hw; exact opW.idxV rfl ((hS.sl (v := v40) (xs := l) (by repeat constructor))) rfl (by omega) ⟨rfl, rfl⟩)) ?_
        refine ML.look rfl rfl rfl (fun w hw => (by have hS := hS1.bel hw; exact opW.fieldAddr rfl ((hS.sl (v := v40) (xs := l) (by repeat constructor)).isP ha0) ⟨rfl, rfl⟩)) ?_
        refine ML.look rfl rfl rfl (fun w hw => (by have hS := hS1.bel hw; exact opW.loadV rfl (Ld.pt1 ((hS.sl (v := v40) (xs := l) (by repeat constructor)).isPt ha0) 0 (Account.at_coins _)) ⟨rfl, rfl⟩)) ?_
        refine ML.look rfl rfl rfl (fun w hw => (by have hS := hS1.bel hw; exact opW.fieldAddrB rfl ⟨rfl, rfl⟩)) ?_
        refine ML.look rfl rfl rfl (fun w hw => (by have hS := hS1.bel hw; exact opW.loadV rfl (hS.ld1 (by repeat constructor) (toR_coins x)) ⟨rfl, rfl⟩)) ?_
        refine ML.look rfl rfl rfl (fun w hw => (by have hS := hS1.bel hw; exact opW.lss rfl rfl ⟨rfl, rfl⟩)) ?_
        refine ML.nil ?_
        refine thenQ_n (hK41 _ _ ?_)
        refine WC.cond _ rfl (fun hc12 => ?_) (fun hc12 => ?_)
        ·
         have hr12 := hc12
         try simp only [sq1,sq2,sq3,sq4,sq5,sq6,sq7,sq8,sq9,sq0] at hc12
         refine WC.seq (fun K42 hK42 => ?_)
         refine WC.region ?_
         refine WL.op rfl (opW.assignV (v := .slice none 0 0) rfl ?_)
         refine WL.op rfl (opW.assignI rfl ?_)
         refine WL.op rfl (opW.assignI rfl ?_)
         refine WL.nil ?_
         refine thenQ_n (hK42 _ _ ?_)
         refine WC.ret ?_
         refine thenQ_r ?_
         refine blockQ_r ?_
         refine thenQ_r ?_
         refine bodyQ_ret (.tmpV (v := .slice none 0 0) rfl (.tmpI rfl (.tmpI rfl .nil))) ?_
         have he : actE x l[ats[0].toNat] l[ats[j].toNat] (decide (ats[0].toNat = ats[j].toNat)) = 17 := by rw [actE2 htg]; unfold mvE; rw [if_neg (by rw [hr11]; decide), if_pos hc12]
         rw [hact, if_pos (by rw [he]; decide), he]
         exact ⟨_, rfl, New.nil _ _ _, hS.old⟩
        ·
         have hr12 := hc12
         try simp only [sq1,sq2,sq3,sq4,sq5,sq6,sq7,sq8,sq9,sq0] at hc12
         refine WC.skip ?_
         refine thenQ_n (hK40 _ _ ?_)
         refine WC.seq (fun K43 hK43 => ?_)
         refine WC.region ?_
         refine WL.op rfl (opW.moveI rfl ?_)
         refine WL.op rfl (opW.moveI rfl ?_)
         refine WL.op rfl (opW.neq rfl rfl ?_)
         refine WL.nil ?_
         refine thenQ_n (hK43 _ _ ?_)
         refine WC.cond _ rfl (fun hc13 => ?_) (fun hc13 => ?_)
         ·
          have hr13 := hc13
          try simp only [sq1,sq2,sq3,sq4,sq5,sq6,sq7,sq8,sq9,sq0] at hc13
          have hab : ats[0].toNat ≠ ats[j].toNat := by omega
          refine WC.seq (fun K44 hK44 => ?_)
          refine WC.seq (fun K45 hK45 => ?_)
          refine WC.draw 9 (.look 0 (.look 1 (.look 2 (.look 3 (.look 4 (.look 5 (.look 6 (.look 7 (.look 8 .nil))))))))) (by kernel_rfl) (fun _ _ _ h => h) (fun w1 hw1 => ?_)
          replace hS := hS.bel hw1
          have hS1 := hS
          have hT := St.start w1
          refine ML.look rfl rfl rfl (fun w hw => (by have hS := hS1.bel hw; exact opW.moveV (v := v40) rfl ⟨rfl, rfl⟩)) ?_
          refine ML.look rfl rfl rfl (fun w hw => (by have hS := hS1.bel hw; exact opW.moveI rfl ⟨rfl, rfl⟩)) ?_
          refine ML.look rfl rfl rfl (fun w hw => (by have hS := hS1.bel hw; exact opW.idxV rfl ((hS.sl (v := v40) (xs := l) (by repeat constructor))) rfl (by omega) ⟨rfl, rfl⟩)) ?_
          refine ML.look rfl rfl rfl (fun w hw => (by have hS := hS1.bel hw; exact opW.fieldAddr rfl ((hS.sl (v := v40) (xs := l) (by repeat constructor)).isP haj) ⟨rfl, rfl⟩)) ?_
          refine ML.look rfl rfl rfl (fun w hw => (by have hS := hS1.bel hw; exact opW.loadV rfl (Ld.pt1 ((hS.sl (v := v40) (xs := l) (by repeat constructor)).isPt haj) 0 (Account.at_coins _)) ⟨rfl, rfl⟩)) ?_
          refine ML.look rfl rfl rfl (fun w hw => (by have hS := hS1.bel hw; exact opW.fieldAddrB rfl ⟨rfl, rfl⟩)) ?_
          refine ML.look rfl rfl rfl (fun w hw => (by have hS := hS1.bel hw; exact opW.loadV rfl (hS.ld1 (by repeat constructor) (toR_coins x)) ⟨rfl, rfl⟩)) ?_
          refine ML.look rfl rfl rfl (fun w hw => (by have hS := hS1.bel hw; exact opW.sub rfl rfl (sub_max _ hxc) ⟨rfl, rfl⟩)) ?_
          refine ML.look rfl rfl rfl (fun w hw => (by have hS := hS1.bel hw; exact opW.gtr rfl rfl ⟨rfl, rfl⟩)) ?_
          refine ML.nil ?_
          refine thenQ_n (hK45 _ _ ?_)
          refine WC.cond _ rfl (fun hc14 => ?_) (fun hc14 => ?_)
          ·
           have hr14 := hc14
           try simp only [sq1,sq2,sq3,sq4,sq5,sq6,sq7,sq8,sq9,sq0] at hc14
           refine WC.seq (fun K46 hK46 => ?_)
           refine WC.region ?_
           refine WL.op rfl (opW.assignV (v := .slice none 0 0) rfl ?_)
           refine WL.op rfl (opW.assignI rfl ?_)
           refine WL.op rfl (opW.assignI rfl ?_)
           refine WL.nil ?_
           refine thenQ_n (hK46 _ _ ?_)
           refine WC.ret ?_
           refine thenQ_r ?_
           refine blockQ_r ?_
           refine thenQ_r ?_
           refine bodyQ_ret (.tmpV (v := .slice none 0 0) rfl (.tmpI rfl (.tmpI rfl .nil))) ?_
           have he : actE x l[ats[0].toNat] l[ats[j].toNat] (decide (ats[0].toNat = ats[j].toNat)) = 18 := by rw [actE2 htg]; unfold mvE; rw [if_neg (by rw [hr11]; decide), if_neg (by omega), if_neg (by rw [decide_eq_false hab]; decide), if_pos hc14]
           rw [hact, if_pos (by rw [he]; decide), he]
           exact ⟨_, rfl, New.nil _ _ _, hS.old⟩
          ·
           have hr14 := hc14
           try simp only [sq1,sq2,sq3,sq4,sq5,sq6,sq7,sq8,sq9,sq0] at hc14
           refine WC.skip ?_
           refine thenQ_n (hK44 _ _ ?_)
           refine WC.seq (fun K47 hK47 => ?_)
           refine WC.draw 12 (.look 0 (.look 1 (.look 2 (.look 3 (.look 4 (.look 5 (.look 6 (.look 7 (.look 8 (.look 9 (.look 10 (.look 11 (.one 12 .nil))))))))))))) (by kernel_rfl) (fun _ _ _ h => h) (fun w1 hw1 => ?_)
           replace hS := hS.bel hw1
           have hS1 := hS
           have hT := St.start w1
           refine ML.look rfl rfl rfl (fun w hw => (by have hS := hS1.bel hw; exact opW.moveV (v := v40) rfl ⟨rfl, rfl⟩)) ?_
           refine ML.look rfl rfl rfl (fun w hw => (by have hS := hS1.bel hw; exact opW.moveI rfl ⟨rfl, rfl⟩)) ?_
           refine ML.look rfl rfl rfl (fun w hw => (by have hS := hS1.bel hw; exact opW.moveV (v := v40) rfl ⟨rfl, rfl⟩)) ?_
           refine ML.look rfl rfl rfl (fun w hw => (by have hS := hS1.bel hw; exact opW.moveI rfl ⟨rfl, rfl⟩)) ?_
           refine ML.look rfl rfl rfl (fun w hw => (by have hS := hS1.bel hw; exact opW.idxV rfl ((hS.sl (v := v40) (xs := l) (by repeat constructor))) rfl (by omega) ⟨rfl, rfl⟩)) ?_
           refine ML.look rfl rfl rfl (fun w hw => (by have hS := hS1.bel hw; exact opW.fieldAddr rfl ((hS.sl (v := v40) (xs := l) (by repeat constructor)).isP ha0) ⟨rfl, rfl⟩)) ?_
           refine ML.look rfl rfl rfl (fun w hw => (by have hS := hS1.bel hw; exact opW.loadV rfl (Ld.pt1 ((hS.sl (v := v40) (xs := l) (by repeat constructor)).isPt ha0) 0 (Account.at_coins _)) ⟨rfl, rfl⟩)) ?_
           refine ML.look rfl rfl rfl (fun w hw => (by have hS := hS1.bel hw; exact opW.fieldAddrB rfl ⟨rfl, rfl⟩)) ?_
           refine ML.look rfl rfl rfl (fun w hw => (by have hS := hS1.bel hw; exact opW.loadV rfl (hS.ld1 (by repeat constructor) (toR_coins x)) ⟨rfl, rfl⟩)) ?_
           refine ML.look rfl rfl rfl (fun w hw => (by have hS := hS1.bel hw; exact opW.sub rfl rfl (nsub (by omega) hA.1) ⟨rfl, rfl⟩)) ?_
           refine ML.look rfl rfl rfl (fun w hw => (by have hS := hS1.bel hw; exact opW.idxV rfl ((hS.sl (v := v40) (xs := l) (by repeat constructor))) rfl (by omega) ⟨rfl, rfl⟩)) ?_
           refine ML.look rfl rfl rfl (fun w hw => (by have hS := hS1.bel hw; exact opW.fieldAddr rfl ((hS.sl (v := v40) (xs := l) (by repeat constructor)).isP ha0) ⟨rfl, rfl⟩)) ?_
           refine ML.put0 rfl rfl rfl (opW.storeOwn (v := v40) (u := .int .u64 ((l[ats[0].toNat].coins - x.coins : Nat) : Int)) (sz := 1) (xs := l) (i := ats[0].toNat) (off := 0) (y' := { l[ats[0].toNat] with coins := l[ats[0].toNat].coins - x.coins }) hS (by repeat constructor) ha0 rfl rfl rfl (by decide) (one_int _ _) (Account.set_coins l[ats[0].toNat] (l[ats[0].toNat].coins - x.coins)) ?_)
           intro w hS; replace hS := hS _ (by repeat constructor)
           refine ML.nil ?_
           refine thenQ_n (hK47 _ _ ?_)
           refine WC.draw 12 (.look 0 (.look 1 (.look 2 (.look 3 (.look 4 (.look 5 (.look 6 (.look 7 (.look 8 (.look 9 (.look 10 (.look 11 (.one 12 .nil))))))))))))) (by kernel_rfl) (fun _ _ _ h => h) (fun w1 hw1 => ?_)
           replace hS := hS.bel hw1
           have hS1 := hS
           have hT := St.start w1
           have haj2 : ats[j].toNat < (l.set ats[0].toNat { l[ats[0].toNat] with coins := l[ats[0].toNat].coins - x.coins }).length := by simpa using haj
           have hgb : (l.set ats[0].toNat { l[ats[0].toNat] with coins := l[ats[0].toNat].coins - x.coins })[ats[j].toNat] = l[ats[j].toNat] := by rw [List.getElem_set_ne hab]
           refine ML.look rfl rfl rfl (fun w hw => (by have hS := hS1.bel hw; exact opW.moveV (v := v40) rfl ⟨rfl, rfl⟩)) ?_
           refine ML.look rfl rfl rfl (fun w hw => (by have hS := hS1.bel hw; exact opW.moveI rfl ⟨rfl, rfl⟩)) ?_
           refine ML.look rfl rfl rfl (fun w hw => (by have hS := hS1.bel hw; exact opW.moveV (v := v40) rfl ⟨rfl, rfl⟩)) ?_
           refine ML.look rfl rfl rfl (fun w hw => (by have hS := hS1.bel hw; exact opW.moveI rfl ⟨rfl, rfl⟩)) ?_
           refine ML.look rfl rfl rfl (fun w hw => (by have hS := hS1.bel hw; exact opW.idxV rfl ((hS.sl (v := v40) (xs := (l.set ats[0].toNat { l[ats[0].toNat] with coins := l[ats[0].toNat].coins - x.coins })) (by repeat constructor))) rfl (by omega) ⟨rfl, rfl⟩)) ?_
           refine ML.look rfl rfl rfl (fun w hw => (by have hS := hS1.bel hw; exact opW.fieldAddr rfl ((hS.sl (v := v40) (xs := (l.set ats[0].toNat { l[ats[0].toNat] with coins := l[ats[0].toNat].coins - x.coins })) (by repeat constructor)).isP haj2) ⟨rfl, rfl⟩)) ?_
           refine ML.look rfl rfl rfl (fun w hw => (by have hS := hS1.bel hw; exact opW.loadV rfl (Ld.pt1 ((hS.sl (v := v40) (xs := (l.set ats[0].toNat { l[ats[0].toNat] with coins := l[ats[0].toNat].coins - x.coins })) (by repeat constructor)).isPt haj2) 0 (by rw [hgb]; exact Account.at_coins _)) ⟨rfl, rfl⟩)) ?_
           refine ML.look rfl rfl rfl (fun w hw => (by have hS := hS1.bel hw; exact opW.fieldAddrB rfl ⟨rfl, rfl⟩)) ?_
           refine ML.look rfl rfl rfl (fun w hw => (by have hS := hS1.bel hw; exact opW.loadV rfl (hS.ld1 (by repeat constructor) (toR_coins x)) ⟨rfl, rfl⟩)) ?_
           refine ML.look rfl rfl rfl (fun w hw => (by have hS := hS1.bel hw; exact opW.add rfl rfl (nadd (by omega)) ⟨rfl, rfl⟩)) ?_
           refine ML.look rfl rfl rfl (fun w hw => (by have hS := hS1.bel hw; exact opW.idxV rfl ((hS.sl (v := v40) (xs := (l.set ats[0].toNat { l[ats[0].toNat] with coins := l[ats[0].toNat].coins - x.coins })) (by repeat constructor))) rfl (by omega) ⟨rfl, rfl⟩)) ?_
           refine ML.look rfl rfl rfl (fun w hw => (by have hS := hS1.bel hw; exact opW.fieldAddr rfl ((hS.sl (v := v40) (xs := (l.set ats[0].toNat { l[ats[0].toNat] with coins := l[ats[0].toNat].coins - x.coins })) (by repeat constructor)).isP haj2) ⟨rfl, rfl⟩)) ?_
           refine ML.put0 rfl rfl rfl (opW.storeOwn (v := v40) (u := .int .u64 ((l[ats[j].toNat].coins + x.coins : Nat) : Int)) (sz := 1) (xs := (l.set ats[0].toNat { l[ats[0].toNat] with coins := l[ats[0].toNat].coins - x.coins })) (i := ats[j].toNat) (off := 0) (y' := { l[ats[j].toNat] with coins := l[ats[j].toNat].coins + x.coins }) hS (by repeat constructor) haj2 rfl rfl rfl (by decide) (one_int _ _) (by rw [hgb]; exact Account.set_coins l[ats[j].toNat] (l[ats[j].toNat].coins + x.coins)) ?_)
           intro w hS; replace hS := hS _ (by repeat constructor)
           refine ML.nil ?_
           refine blockQ_n ?_
           refine thenQ_n (hK14 _ _ ?_)
           refine WC.seq (fun K48 hK48 => ?_)
           refine WC.draw 6 (.look 0 (.look 1 (.look 2 (.look 3 (.look 4 (.look 5 .nil)))))) (by kernel_rfl) (fun _ _ _ h => h) (fun w1 hw1 => ?_)
           replace hS := hS.bel hw1
           have hS1 := hS
           have hT := St.start w1
           refine ML.look rfl rfl rfl (fun w hw => (by have hS := hS1.bel hw; exact opW.moveV (v := v40) rfl ⟨rfl, rfl⟩)) ?_
           refine ML.look rfl rfl rfl (fun w hw => (by have hS := hS1.bel hw; exact opW.fieldAddrB rfl ⟨rfl, rfl⟩)) ?_
           refine ML.look rfl rfl rfl (fun w hw => (by have hS := hS1.bel hw; exact opW.loadV rfl (hS.ld1 (by repeat constructor) (toR_space x)) ⟨rfl, rfl⟩)) ?_
           refine ML.look rfl rfl rfl (fun w hw => (by have hS := hS1.bel hw; exact opW.assignV (v := v40) rfl ⟨rfl, rfl⟩)) ?_
           refine ML.look rfl rfl rfl (fun w hw => (by have hS := hS1.bel hw; exact opW.assignI rfl ⟨rfl, rfl⟩)) ?_
           refine ML.look rfl rfl rfl (fun w hw => (by have hS := hS1.bel hw; exact opW.assignI rfl ⟨rfl, rfl⟩)) ?_
           refine ML.nil ?_
           refine thenQ_n (hK48 _ _ ?_)
           refine WC.ret ?_
           refine bodyQ_ret (.tmpV (v := v40) rfl (.tmpI rfl (.tmpI rfl .nil))) ?_
           have he : actE x l[ats[0].toNat] l[ats[j].toNat] (decide (ats[0].toNat = ats[j].toNat)) = 0 := by rw [actE2 htg]; unfold mvE; rw [if_neg (by rw [hr11]; decide), if_neg (by omega), if_neg (by rw [decide_eq_false hab]; decide), if_neg (by omega)]
           rw [hact, if_neg (fun e => e he), actL2 htg]
           unfold mvL
           rw [if_neg hab]
           exact ⟨_, rfl, hS.own_new (by repeat constructor), hS.old⟩
         ·
          have hr13 := hc13
          try simp only [sq1,sq2,sq3,sq4,sq5,sq6,sq7,sq8,sq9,sq0] at hc13
          have hab : ats[0].toNat = ats[j].toNat := by omega
          refine WC.skip ?_
          refine blockQ_n ?_
          refine thenQ_n (hK14 _ _ ?_)
          refine WC.seq (fun K49 hK49 => ?_)
          refine WC.draw 6 (.look 0 (.look 1 (.look 2 (.look 3 (.look 4 (.look 5 .nil)))))) (by kernel_rfl) (fun _ _ _ h => h) (fun w1 hw1 => ?_)
          replace hS := hS.bel hw1
          have hS1 := hS
          have hT := St.start w1
          refine ML.look rfl rfl rfl (fun w hw => (by have hS := hS1.bel hw; exact opW.moveV (v := v40) rfl ⟨rfl, rfl⟩)) ?_
          refine ML.look rfl rfl rfl (fun w hw => (by have hS := hS1.bel hw; exact opW.fieldAddrB rfl ⟨rfl, rfl⟩)) ?_
          refine ML.look rfl rfl rfl (fun w hw => (by have hS := hS1.bel hw; exact opW.loadV rfl (hS.ld1 (by repeat constructor) (toR_space x)) ⟨rfl, rfl⟩)) ?_
          refine ML.look rfl rfl rfl (fun w hw => (by have hS := hS1.bel hw; exact opW.assignV (v := v40) rfl ⟨rfl, rfl⟩)) ?_
          refine ML.look rfl rfl rfl (fun w hw => (by have hS := hS1.bel hw; exact opW.assignI rfl ⟨rfl, rfl⟩)) ?_
          refine ML.look rfl rfl rfl (fun w hw => (by have hS := hS1.bel hw; exact opW.assignI rfl ⟨rfl, rfl⟩)) ?_
          refine ML.nil ?_
          refine thenQ_n (hK49 _ _ ?_)
          refine WC.ret ?_
          refine bodyQ_ret (.tmpV (v := v40) rfl (.tmpI rfl (.tmpI rfl .nil))) ?_
          have he : actE x l[ats[0].toNat] l[ats[j].toNat] (decide (ats[0].toNat = ats[j].toNat)) = 0 := by rw [actE2 htg]; unfold mvE; rw [if_neg (by rw [hr11]; decide), if_neg (by omega), if_pos (decide_eq_true hab)]
          rw [hact, if_neg (fun e => e he), actL2 htg]
          unfold mvL
          rw [if_pos hab]
          exact ⟨_, rfl, hS.own_new (by repeat constructor), hS.old⟩
      ·
       have hr10 := hc10
       try simp only [sq1,sq2,sq3,sq4,sq5,sq6,sq7,sq8,sq9,sq0] at hc10
       have htg : x.tag = 8 := by omega
       refine WC.seq (fun K50 hK50 => ?_)
       refine WC.seq (fun K51 hK51 => ?_)
       refine WC.region ?_
       refine WL.op rfl (opW.moveV (v := v40) rfl ?_)
       refine WL.op rfl (opW.moveI rfl ?_)
       refine WL.op rfl (opW.idxV rfl ((hS.sl (v := v40) (xs := l) (by repeat constructor))) rfl (by omega) ?_)
       refine WL.op rfl (opW.loadV rfl (((hS.sl (v := v40) (xs := l) (by repeat constructor)).isPt ha0).ldA (Enc.size_eq l[ats[0].toNat])) ?_)
       refine WL.op rfl (opW.call (rplain_ok _ l[ats[0].toNat]) rfl ?_)
       rintro _ w ⟨rfl, hw⟩; replace hS := hS.bel hw
       refine WL.op rfl (opW.not rfl ?_)
       refine WL.nil ?_
       refine thenQ_n (hK51 _ _ ?_)
       refine WC.cond _ rfl (fun hc15 => ?_) (fun hc15 => ?_)
       ·
        have hr15 := hc15
        try simp only [sq1,sq2,sq3,sq4,sq5,sq6,sq7,sq8,sq9,sq0] at hc15
        refine WC.seq (fun K52 hK52 => ?_)
        refine WC.region ?_
        refine WL.op rfl (opW.assignV (v := .slice none 0 0) rfl ?_)
        refine WL.op rfl (opW.assignI rfl ?_)
        refine WL.op rfl (opW.assignI rfl ?_)
        refine WL.nil ?_
        refine thenQ_n (hK52 _ _ ?_)
        refine WC.ret ?_
        refine thenQ_r ?_
        refine blockQ_r ?_
        refine thenQ_r ?_
        refine bodyQ_ret (.tmpV (v := .slice none 0 0) rfl (.tmpI rfl (.tmpI rfl .nil))) ?_
        have he : actE x l[ats[0].toNat] l[ats[j].toNat] (decide (ats[0].toNat = ats[j].toNat)) = 12 := by rw [actE8 htg]; unfold alE; rw [if_pos hr15]
        rw [hact, if_pos (by rw [he]; decide), he]
        exact ⟨_, rfl, New.nil _ _ _, hS.old⟩
       ·
        have hr15 := hc15
        try simp only [sq1,sq2,sq3,sq4,sq5,sq6,sq7,sq8,sq9,sq0] at hc15
        refine WC.skip ?_
        refine thenQ_n (hK50 _ _ ?_)
        refine WC.seq (fun K53 hK53 => ?_)
        refine WC.seq (fun K54 hK54 => ?_)
        refine WC.region ?_
        refine WL.op rfl (opW.fieldAddrB rfl ?_)
        refine WL.op rfl (opW.loadV rfl (hS.ld1 (by repeat constructor) (toR_space x)) ?_)
        refine WL.op rfl (opW.gtr rfl rfl ?_)
        refine WL.nil ?_
        refine thenQ_n (hK54 _ _ ?_)
        refine WC.cond _ rfl (fun hc16 => ?_) (fun hc16 => ?_)
        ·
         have hr16 := hc16
         try simp only [sq1,sq2,sq3,sq4,sq5,sq6,sq7,sq8,sq9,sq0] at hc16
         refine WC.seq (fun K55 hK55 => ?_)
         refine WC.region ?_
         refine WL.op rfl (opW.assignV (v := .slice none 0 0) rfl ?_)
         refine WL.op rfl (opW.assignI rfl ?_)
         refine WL.op rfl (opW.assignI rfl ?_)
         refine WL.nil ?_
         refine thenQ_n (hK55 _ _ ?_)
         refine WC.ret ?_
         refine thenQ_r ?_
         refine blockQ_r ?_
         refine thenQ_r ?_
         refine bodyQ_ret (.tmpV (v := .slice none 0 0) rfl (.tmpI rfl (.tmpI rfl .nil))) ?_
         have he : actE x l[ats[0].toNat] l[ats[j].toNat] (decide (ats[0].toNat = ats[j].toNat)) = 3 := by rw [actE8 htg]; unfold alE; rw [if_neg (by rw [hr15]; decide), if_pos hc16]
         rw [hact, if_pos (by rw [he]; decide), he]
         exact ⟨_, rfl, New.nil _ _ _, hS.old⟩
        ·
         have hr16 := hc16
         try simp only [sq1,sq2,sq3,sq4,sq5,sq6,sq7,sq8,sq9,sq0] at hc16
         refine WC.skip ?_
         refine thenQ_n (hK53 _ _ ?_)
         refine WC.region ?_
         refine WL.op rfl (opW.moveV (v := v40) rfl ?_)
         refine WL.op rfl (opW.moveI rfl ?_)
         refine WL.op rfl (opW.fieldAddrB rfl ?_)
         refine WL.op rfl (opW.loadV rfl (hS.ld1 (by repeat constructor) (toR_space x)) ?_)
         refine WL.op rfl (opW.idxV rfl ((hS.sl (v := v40) (xs := l) (by repeat constructor))) rfl (by omega) ?_)
         refine WL.op rfl (opW.fieldAddr rfl ((hS.sl (v := v40) (xs := l) (by repeat constructor)).isP ha0) ?_)
         refine WL.op0 (opW.storeOwn (v := v40) (u := .int .u64 ((x.space : Nat) : Int)) (sz := 1) (xs := l) (i := ats[0].toNat) (off := 33) (y' := { l[ats[0].toNat] with space := x.space }) hS (by repeat constructor) ha0 rfl rfl rfl (by decide) (one_int _ _) (Account.set_space l[ats[0].toNat] (x.space)) ?_)
         intro w hS; replace hS := hS _ (by repeat constructor)
         refine WL.nil ?_
         refine blockQ_n ?_
         refine thenQ_n (hK14 _ _ ?_)
         refine WC.seq (fun K56 hK56 => ?_)
         refine WC.draw 6 (.look 0 (.look 1 (.look 2 (.look 3 (.look 4 (.look 5 .nil)))))) (by kernel_rfl) (fun _ _ _ h => h) (fun w1 hw1 => ?_)
         replace hS := hS.bel hw1
         have hS1 := hS
         have hT := St.start w1
         refine ML.look rfl rfl rfl (fun w hw => (by have hS := hS1.bel hw; exact opW.moveV (v := v40) rfl ⟨rfl, rfl⟩)) ?_
         refine ML.look rfl rfl rfl (fun w hw => (by have hS := hS1.bel hw; exact opW.fieldAddrB rfl ⟨rfl, rfl⟩)) ?_
         refine ML.look rfl rfl rfl (fun w hw => (by have hS := hS1.bel hw; exact opW.loadV rfl (hS.ld1 (by repeat constructor) (toR_space x)) ⟨rfl, rfl⟩)) ?_
         refine ML.look rfl rfl rfl (fun w hw => (by have hS := hS1.bel hw; exact opW.assignV (v := v40) rfl ⟨rfl, rfl⟩)) ?_
         refine ML.look rfl rfl rfl (fun w hw => (by have hS := hS1.bel hw; exact opW.assignI rfl ⟨rfl, rfl⟩)) ?_
         refine ML.look rfl rfl rfl (fun w hw => (by have hS := hS1.bel hw; exact opW.assignI rfl ⟨rfl, rfl⟩)) ?_
         refine ML.nil ?_
         refine thenQ_n (hK56 _ _ ?_)
         refine WC.ret ?_
         refine bodyQ_ret (.tmpV (v := v40) rfl (.tmpI rfl (.tmpI rfl .nil))) ?_
         have he : actE x l[ats[0].toNat] l[ats[j].toNat] (decide (ats[0].toNat = ats[j].toNat)) = 0 := by rw [actE8 htg]; unfold alE; rw [if_neg (by rw [hr15]; decide), if_neg (by omega)]
         rw [hact, if_neg (fun e => e he), actL8 htg]
         exact ⟨_, rfl, hS.own_new (by repeat constructor), hS.old⟩

end Go.Fer
