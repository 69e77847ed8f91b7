/- a store of accounts -/
import Derived.Test.YthfbfhokmknfnaaDoorR2
set_option linter.all false
namespace Go.Fer
open Go Go.Proofs Go.RowKit

theorem zAcc : (joinA [#[.int .u64 0], (Array.replicate 32 (.int .u8 0)), #[.int .u64 0]]) = Enc.enc (az : Account) := by
 simp only [Account.enc_eq, Account.parts, enc_vz, az]; rfl

theorem azParts : setParts [#[.int .u64 0], Array.replicate 32 (.int .u8 0), #[.int .u64 0]] [] = Account.parts az := by
 simp only [az, Account.parts, setParts, enc_vz]; rfl
structure StD where
 r : Nat
 kvs : List (Key × Account)
def accV (a : Account) : Value := .agg (Enc.enc a)
def StD.get (d : StD) (k : Key) : Account := (aget k d.kvs).getD az
def StD.put (d : StD) (k : Key) (a : Account) : StD := { d with kvs := if a = az then adel k d.kvs else aput k a d.kvs }
structure StOk (d : StD) : Prop where
 nd : (d.kvs.map Prod.fst).Nodup
 ne : ∀ x ∈ d.kvs, x.2 ≠ az
theorem mem_aputP {κ ν : Type} [DecidableEq κ] {k : κ} {v : ν} : ∀ {l : List (κ × ν)} {x : κ × ν}, x ∈ aput k v l → x = (k, v) ∨ x ∈ l
 | [], x, h => by simp [aput] at h; exact .inl h
 | (y, u) :: l, x, h => by
  by_cases hk : k = y
  ·simp [aput, hk] at h
   rcases h with rfl | h
   ·exact .inl (by rw [hk])
   ·exact .inr (List.mem_cons_of_mem _ h)
  ·simp [aput, hk] at h
   rcases h with rfl | h
   ·exact .inr List.mem_cons_self
   ·rcases mem_aputP h with h | h
    ·exact .inl h
    ·exact .inr (List.mem_cons_of_mem _ h)
theorem StOk.put {d : StD} (h : StOk d) (k : Key) (a : Account) : StOk (d.put k a) := by
 unfold StD.put
 split
 ·exact ⟨h.nd.sublist ((adel_sub k d.kvs).map _), fun x hx => h.ne x ((adel_sub k d.kvs).subset hx)⟩
 ·next ha =>
  refine ⟨nodup_aput k a h.nd, fun x hx => ?_⟩
  rcases mem_aputP hx with rfl | hx
  ·exact ha
  ·exact h.ne x hx
theorem StD.get_put {d : StD} (h : StOk d) (k k' : Key) (a : Account) : (d.put k a).get k' = if k' = k then a else d.get k' := by
 unfold StD.put StD.get
 split
 ·next ha =>
  rw [aget_adel k k' h.nd]
  split
  ·rw [ha]; rfl
  ·rfl
 ·rw [aget_aput]
  split <;> rfl
theorem StD.put_get {d : StD} (h : StOk d) (k k' : Key) : (d.put k (d.get k)).get k' = d.get k' := by
 rw [StD.get_put h]
 split
 ·next e => rw [e]
 ·rfl
@[irreducible] def stE (p : Nat) (d : StD) : Ent := starE [blkE p (Enc.enc (StS.mk (some d.r))) 85, mapE d.r accV d.kvs]
theorem St.stOpen {w0 w : World} {S : List Ent} {p : Nat} {d : StD} (h : St w0 (stE p d :: S) w) : St w0 (blkE p (Enc.enc (StS.mk (some d.r))) 85 :: mapE d.r accV d.kvs :: S) w := by
 unfold stE at h
 exact h.opened
theorem St.stClose {w0 w : World} {S : List Ent} {p : Nat} (d : StD) (h : St w0 (blkE p (Enc.enc (StS.mk (some d.r))) 85 :: mapE d.r accV d.kvs :: S) w) : St w0 (stE p d :: S) w := by
 unfold stE
 exact St.closed (l := [blkE p (Enc.enc (StS.mk (some d.r))) 85, mapE d.r accV d.kvs]) h
def StAt (w : World) (p : Nat) (d : StD) : Prop := Pt w (.pointer (some ⟨p, 0, none⟩)) (Enc.enc (StS.mk (some d.r))) ∧ MapB w d.r accV d.kvs
theorem StAt.bel {w w' : World} {p : Nat} {d : StD} (h : StAt w p d) (hb : Bel w w') : StAt w' p d := ⟨h.1.bel hb, h.2.bel hb⟩
theorem St.stAt {w0 w : World} {S : List Ent} {p : Nat} {d : StD} (h : St w0 S w) (he : Has (stE p d) S) : StAt w p d := by
 have h1 := h.get he
 unfold stE at h1
 rw [starE_A] at h1
 refine ⟨?_, ?_⟩
 ·have := h1.2 (blkE p (Enc.enc (StS.mk (some d.r))) 85) (by simp)
  unfold blkE at this
  exact Pt.blk this
 ·have := h1.2 (mapE d.r accV d.kvs) (by simp)
  rw [mapE_A] at this; exact this
theorem zeroA : ZeroT Tryd.prog 64 (accV az) := by
 have h : ZeroT Tryd.prog 64 _ := inferInstance
 unfold accV
 rw [show Enc.enc az = _ from zAcc.symm]
 exact h

theorem there13 (w0 : World) (p r : Nat) (hp : Pt w0 (.pointer (some ⟨p, 0, none⟩)) (Enc.enc (StS.mk (some r)))) : Ret Tryd.prog 25 #[.pointer (some ⟨p, 0, none⟩)] w0 (fun u w' => u = .bool true ∧ Bel w0 w') := by
 refine Ret.enter (args := [.pointer (some ⟨p, 0, none⟩)]) Tryd.func25 rfl Tryd.ntmps25 Tryd.results25 rfl ?_
 have hS := St.start w0
 refine WC.seq (fun K1 hK1 => ?_)
 refine WC.region ?_
 refine WL.op rfl (opW.assignB rfl ?_)
 refine WL.nil ?_
 refine thenQ_n (hK1 _ _ ?_)
 refine WC.seq (fun K2 hK2 => ?_)
 refine WC.region ?_
 refine WL.op rfl (opW.moveV (v := .pointer (some ⟨p, 0, none⟩)) rfl ?_)
 refine WL.op rfl (opW.neqP rfl rfl ?_)
 refine WL.op rfl (opW.moveB rfl ?_)
 refine WL.gT 5 rfl rfl rfl (WL.op rfl (opW.moveV (v := .pointer (some ⟨p, 0, none⟩)) rfl ?_))
 refine WL.gT 5 rfl rfl rfl (WL.op rfl (opW.nilCheckB rfl ?_))
 refine WL.gT 5 rfl rfl rfl (WL.op rfl (opW.fieldAddrB rfl ?_))
 refine WL.gT 5 rfl rfl rfl (WL.op rfl (opW.loadV rfl ((hp.bel hS.old).at1 (StS.at_of _)) ?_))
 refine WL.gT 5 rfl rfl rfl (WL.op rfl (opW.neqM rfl rfl ?_))
 refine WL.op rfl (opW.pickT rfl rfl ?_)
 refine WL.op rfl (opW.assignB rfl ?_)
 refine WL.nil ?_
 refine thenQ_n (hK2 _ _ ?_)
 refine WC.ret ?_
 refine bodyQ_ret (.tmpB rfl .nil) ?_
 exact ⟨rfl, hS.old⟩

theorem new13 (w0 : World) : Ret Tryd.prog 22 #[] w0 (fun u w' => ∃ p d, u = .pointer (some ⟨p, 0, none⟩) ∧ (∀ k, d.get k = az) ∧ StOk d ∧ NewE w0 w' (stE p d) ∧ Bel w0 w') := by
 refine Ret.enter (args := []) Tryd.func22 rfl Tryd.ntmps22 Tryd.results22 rfl ?_
 have hS := St.start w0
 refine WC.seq (fun K1 hK1 => ?_)
 refine WC.region ?_
 refine WL.op rfl (opW.assignV rfl ?_)
 refine WL.nil ?_
 refine thenQ_n (hK1 _ _ ?_)
 refine WC.seq (fun K2 hK2 => ?_)
 refine WC.region ?_
 refine WL.op rfl (opW.makeMap Key accV hS ?_)
 intro r1 w _ hS
 refine WL.op rfl (opW.buildE (r := ((StS.mk (some r1)) : StS)) (ps := StS.parts ((StS.mk (some r1)) : StS)) (StS.enc_eq _) (by first | rfl | (simp only [sysK, az, budK, enc_vset, enc_vz, Account.enc_eq, Account.parts, Role.enc_eq, Role.parts, Instr.enc_eq, Instr.parts, Ask.enc_eq, Ask.parts, Cut.enc_eq, Cut.parts, PairS.enc_eq, PairS.parts, Header.enc_eq, Header.parts, Lookup.enc_eq, Lookup.parts, Message.enc_eq, Message.parts, Tx.enc_eq, Tx.parts, Budget.enc_eq, Budget.parts, Ready.enc_eq, Ready.parts, Holding.enc_eq, Holding.parts, Outcome.enc_eq, Outcome.parts, Running.enc_eq, Running.parts, StS.enc_eq, StS.parts]; rfl)) (by (repeat' (first | exact trivial | refine And.intro ?_ ?_)) <;> first | rfl | exact Enc.size_eq _ | (simp; done)) ?_)
 refine WL.op rfl (opW.boxA hS rfl ?_)
 intro b3 w _ hS
 refine WL.op rfl (opW.assignV (v := .pointer (some ⟨b3, 0, none⟩)) rfl ?_)
 refine WL.nil ?_
 refine thenQ_n (hK2 _ _ ?_)
 refine WC.ret ?_
 refine bodyQ_ret (.tmpV (v := .pointer (some ⟨b3, 0, none⟩)) rfl .nil) ?_
 exact ⟨b3, ⟨r1, []⟩, rfl, fun k => rfl, ⟨List.nodup_nil, fun x hx => by cases hx⟩, (hS.stClose (S := []) ⟨r1, []⟩).takeE .here, hS.old⟩

theorem get13 (w0 : World) (p : Nat) (d : StD) (k : Key) (ha : StAt w0 p d) : Ret Tryd.prog 15 #[.pointer (some ⟨p, 0, none⟩), .agg (Enc.enc k)] w0 (fun u w' => u = .agg (Enc.enc (d.get k)) ∧ Bel w0 w') := by
 refine Ret.enter (args := [.pointer (some ⟨p, 0, none⟩), .agg (Enc.enc k)]) Tryd.func15 rfl Tryd.ntmps15 Tryd.results15 rfl ?_
 have hS := St.start w0
 refine WC.seq (fun K1 hK1 => ?_)
 refine WC.region ?_
 refine WL.op rfl (opW.boxA hS rfl ?_)
 intro b3 w _ hS
 refine WL.op rfl (opW.allocA hS ?_)
 intro b4 w _ hS
 refine WL.nil ?_
 refine thenQ_n (hK1 _ _ ?_)
 refine WC.seq (fun K2 hK2 => ?_)
 refine WC.seq (fun K3 hK3 => ?_)
 refine WC.region ?_
 refine WL.op rfl (opW.moveV (v := .pointer (some ⟨p, 0, none⟩)) rfl ?_)
 refine WL.op rfl (opW.call (there13 _ p d.r (ha.1.bel hS.old)) rfl ?_)
 rintro _ w ⟨rfl, hw⟩; replace hS := hS.bel hw
 refine WL.op rfl (opW.not rfl ?_)
 refine WL.nil ?_
 refine thenQ_n (hK3 _ _ ?_)
 refine WC.cond _ rfl (fun hc0 => ?_) (fun hc0 => ?_)
 ·
  have hr0 := hc0
  try simp only [sq1,sq2,sq3,sq4,sq5,sq6,sq7,sq8,sq9,sq0] at hc0
  cases hr0
 ·
  have hr0 := hc0
  try simp only [sq1,sq2,sq3,sq4,sq5,sq6,sq7,sq8,sq9,sq0] at hc0
  refine WC.skip ?_
  refine thenQ_n (hK2 _ _ ?_)
  refine WC.seq (fun K4 hK4 => ?_)
  refine WC.draw 6 (.look 0 (.look 1 (.look 2 (.look 3 (.look 4 (.look 5 (.one 6 .nil))))))) (by kernel_rfl) (fun _ _ _ h => h) (fun w1 hw1 => ?_)
  replace hS := hS.bel hw1
  have hS1 := hS
  have hT := St.start w1
  refine ML.look rfl rfl rfl (fun w hw => (by have hS := hS1.bel hw; exact opW.moveV (v := .pointer (some ⟨p, 0, none⟩)) rfl ⟨rfl, rfl⟩)) ?_
  refine ML.look rfl rfl rfl (fun w hw => (by have hS := hS1.bel hw; exact opW.nilCheckB rfl ⟨rfl, rfl⟩)) ?_
  refine ML.look rfl rfl rfl (fun w hw => (by have hS := hS1.bel hw; exact opW.fieldAddrB rfl ⟨rfl, rfl⟩)) ?_
  refine ML.look rfl rfl rfl (fun w hw => (by have hS := hS1.bel hw; exact opW.loadV rfl ((ha.1.bel hS.old).at1 (StS.at_of _)) ⟨rfl, rfl⟩)) ?_
  refine ML.look rfl rfl rfl (fun w hw => (by have hS := hS1.bel hw; exact opW.loadV rfl (hS.ldA (cs := Enc.enc k) (by repeat constructor) (Enc.size_eq _)) ⟨rfl, rfl⟩)) ?_
  refine ML.look rfl rfl rfl (fun w hw => (by have hS := hS1.bel hw; exact opW.lookupZ (κ := Key) (ν := Account) (k := k) (vv := accV) (kvs := d.kvs) (z0 := az) zeroA (ha.2.bel hS.old) rfl rfl (rfl : _ = d.get k) ⟨rfl, rfl⟩)) ?_
  refine ML.put0 rfl rfl rfl (opW.storeE hS rfl rfl (by repeat constructor) (by first | rfl | exact Enc.size_eq _) ?_)
  intro w hS; replace hS := hS _ (by repeat constructor)
  refine ML.nil ?_
  refine thenQ_n (hK4 _ _ ?_)
  refine WC.ret ?_
  refine bodyQ_ret (.cell (hS.ldA (cs := Enc.enc (d.get k)) (by repeat constructor) (Enc.size_eq (d.get k))) .nil) ?_
  exact ⟨rfl, hS.old⟩

theorem put13 (wb w0 : World) (S : List Ent) (p : Nat) (d : StD) (k : Key) (a : Account) (hS0 : St wb (stE p d :: S) w0) : Ret Tryd.prog 23 #[.pointer (some ⟨p, 0, none⟩), .agg (Enc.enc k), .agg (Enc.enc a)] w0 (fun u w' => u = .int .i64 0 ∧ St wb (stE p (d.put k a) :: S) w') := by
 refine Ret.enter (args := [.pointer (some ⟨p, 0, none⟩), .agg (Enc.enc k), .agg (Enc.enc a)]) Tryd.func23 rfl Tryd.ntmps23 Tryd.results23 rfl ?_
 have hS := St.start w0
 replace hS := hS0.stOpen
 refine WC.seq (fun K1 hK1 => ?_)
 refine WC.region ?_
 refine WL.op rfl (opW.boxA hS rfl ?_)
 intro b4 w _ hS
 refine WL.op rfl (opW.boxA hS rfl ?_)
 intro b5 w _ hS
 refine WL.op rfl (opW.assignI rfl ?_)
 refine WL.nil ?_
 refine thenQ_n (hK1 _ _ ?_)
 refine WC.seq (fun K2 hK2 => ?_)
 refine WC.seq (fun K3 hK3 => ?_)
 refine WC.region ?_
 refine WL.op rfl (opW.moveV (v := .pointer (some ⟨p, 0, none⟩)) rfl ?_)
 refine WL.op rfl (opW.call (there13 _ p d.r (hS.pt (b := p) (cs := Enc.enc (StS.mk (some d.r))) (by repeat constructor))) rfl ?_)
 rintro _ w ⟨rfl, hw⟩; replace hS := hS.bel hw
 refine WL.op rfl (opW.not rfl ?_)
 refine WL.nil ?_
 refine thenQ_n (hK3 _ _ ?_)
 refine WC.cond _ rfl (fun hc0 => ?_) (fun hc0 => ?_)
 ·
  have hr0 := hc0
  try simp only [sq1,sq2,sq3,sq4,sq5,sq6,sq7,sq8,sq9,sq0] at hc0
  cases hr0
 ·
  have hr0 := hc0
  try simp only [sq1,sq2,sq3,sq4,sq5,sq6,sq7,sq8,sq9,sq0] at hc0
  refine WC.skip ?_
  refine thenQ_n (hK2 _ _ ?_)
  refine WC.seq (fun K4 hK4 => ?_)
  refine WC.seq (fun K5 hK5 => ?_)
  refine WC.region ?_
  refine WL.op rfl (opW.loadV rfl (hS.ldA (b := b5) (cs := Enc.enc a) (by repeat constructor) (Enc.size_eq _)) ?_)
  refine WL.op rfl (opW.buildE (r := az) (ps := Account.parts az) (Account.enc_eq _) (by exact azParts) (by exact trivial) ?_)
  refine WL.op rfl (opW.eqlE rfl rfl ?_)
  refine WL.nil ?_
  refine thenQ_n (hK5 _ _ ?_)
  refine WC.cond _ rfl (fun hc1 => ?_) (fun hc1 => ?_)
  ·
   have hr1 := hc1
   try simp only [sq1,sq2,sq3,sq4,sq5,sq6,sq7,sq8,sq9,sq0] at hc1
   refine WC.seq (fun K6 hK6 => ?_)
   refine WC.draw 5 (.look 0 (.look 1 (.look 2 (.look 3 (.look 4 (.one 5 .nil)))))) (by kernel_rfl) (fun _ _ _ h => h) (fun w1 hw1 => ?_)
   replace hS := hS.bel hw1
   have hS1 := hS
   have hT := St.start w1
   refine ML.look rfl rfl rfl (fun w hw => (by have hS := hS1.bel hw; exact opW.moveV (v := .pointer (some ⟨p, 0, none⟩)) rfl ⟨rfl, rfl⟩)) ?_
   refine ML.look rfl rfl rfl (fun w hw => (by have hS := hS1.bel hw; exact opW.nilCheckB rfl ⟨rfl, rfl⟩)) ?_
   refine ML.look rfl rfl rfl (fun w hw => (by have hS := hS1.bel hw; exact opW.fieldAddrB rfl ⟨rfl, rfl⟩)) ?_
   refine ML.look rfl rfl rfl (fun w hw => (by have hS := hS1.bel hw; exact opW.loadV rfl (hS.ld1 (b := p) (cs := Enc.enc (StS.mk (some d.r))) (by repeat constructor) (StS.at_of _)) ⟨rfl, rfl⟩)) ?_
   refine ML.look rfl rfl rfl (fun w hw => (by have hS := hS1.bel hw; exact opW.loadV rfl (hS.ldA (b := b4) (cs := Enc.enc k) (by repeat constructor) (Enc.size_eq _)) ⟨rfl, rfl⟩)) ?_
   refine ML.put0 rfl rfl rfl (opW.delete (t := 82) (κ := Key) (ν := Account) (k := k) (vv := accV) (kvs := d.kvs) rfl hS (by repeat constructor) rfl rfl ?_)
   intro w hS; replace hS := hS _ (by repeat constructor)
   refine ML.nil ?_
   refine thenQ_n (hK6 _ _ ?_)
   refine WC.seq (fun K7 hK7 => ?_)
   refine WC.region ?_
   refine WL.op rfl (opW.assignI rfl ?_)
   refine WL.nil ?_
   refine thenQ_n (hK7 _ _ ?_)
   refine WC.ret ?_
   refine thenQ_r ?_
   refine bodyQ_ret (.tmpI rfl .nil) ?_
   have ha : a = az := of_decide_eq_true hr1
   have hd : d.put k a = ⟨d.r, adel k d.kvs⟩ := by unfold StD.put; rw [if_pos ha]
   rw [hd]
   exact ⟨rfl, St.stClose ⟨d.r, adel k d.kvs⟩ (((hS.pick (e := mapE d.r accV (adel k d.kvs)) (by repeat constructor)).pick (e := blkE p (Enc.enc (StS.mk (some d.r))) 85) (by repeat constructor)).sub (by repeat with_reducible first | exact su1 _ | exact su2 _ | refine su3 ?_ | refine su4 ?_))⟩
  ·
   have hr1 := hc1
   try simp only [sq1,sq2,sq3,sq4,sq5,sq6,sq7,sq8,sq9,sq0] at hc1
   refine WC.skip ?_
   refine thenQ_n (hK4 _ _ ?_)
   refine WC.seq (fun K8 hK8 => ?_)
   refine WC.draw 6 (.look 0 (.look 1 (.look 2 (.look 3 (.look 4 (.look 5 (.one 6 .nil))))))) (by kernel_rfl) (fun _ _ _ h => h) (fun w1 hw1 => ?_)
   replace hS := hS.bel hw1
   have hS1 := hS
   have hT := St.start w1
   refine ML.look rfl rfl rfl (fun w hw => (by have hS := hS1.bel hw; exact opW.moveV (v := .pointer (some ⟨p, 0, none⟩)) rfl ⟨rfl, rfl⟩)) ?_
   refine ML.look rfl rfl rfl (fun w hw => (by have hS := hS1.bel hw; exact opW.nilCheckB rfl ⟨rfl, rfl⟩)) ?_
   refine ML.look rfl rfl rfl (fun w hw => (by have hS := hS1.bel hw; exact opW.fieldAddrB rfl ⟨rfl, rfl⟩)) ?_
   refine ML.look rfl rfl rfl (fun w hw => (by have hS := hS1.bel hw; exact opW.loadV rfl (hS.ld1 (b := p) (cs := Enc.enc (StS.mk (some d.r))) (by repeat constructor) (StS.at_of _)) ⟨rfl, rfl⟩)) ?_
   refine ML.look rfl rfl rfl (fun w hw => (by have hS := hS1.bel hw; exact opW.loadV rfl (hS.ldA (b := b4) (cs := Enc.enc k) (by repeat constructor) (Enc.size_eq _)) ⟨rfl, rfl⟩)) ?_
   refine ML.look rfl rfl rfl (fun w hw => (by have hS := hS1.bel hw; exact opW.loadV rfl (hS.ldA (b := b5) (cs := Enc.enc a) (by repeat constructor) (Enc.size_eq _)) ⟨rfl, rfl⟩)) ?_
   refine ML.put0 rfl rfl rfl (opW.mapUpdate (κ := Key) (ν := Account) (k := k) (v := a) (vv := accV) (kvs := d.kvs) hS (by repeat constructor) rfl rfl rfl ?_)
   intro w hS; replace hS := hS _ (by repeat constructor)
   refine ML.nil ?_
   refine thenQ_n (hK8 _ _ ?_)
   refine WC.seq (fun K9 hK9 => ?_)
   refine WC.region ?_
   refine WL.op rfl (opW.assignI rfl ?_)
   refine WL.nil ?_
   refine thenQ_n (hK9 _ _ ?_)
   refine WC.ret ?_
   refine bodyQ_ret (.tmpI rfl .nil) ?_
   have ha : a ≠ az := of_decide_eq_false hr1
   have hd : d.put k a = ⟨d.r, aput k a d.kvs⟩ := by unfold StD.put; rw [if_neg ha]
   rw [hd]
   exact ⟨rfl, St.stClose ⟨d.r, aput k a d.kvs⟩ (((hS.pick (e := mapE d.r accV (aput k a d.kvs)) (by repeat constructor)).pick (e := blkE p (Enc.enc (StS.mk (some d.r))) 85) (by repeat constructor)).sub (by repeat with_reducible first | exact su1 _ | exact su2 _ | refine su3 ?_ | refine su4 ?_))⟩


theorem aput_same {κ ν : Type} [DecidableEq κ] {k : κ} {v : ν} : ∀ {l : List (κ × ν)}, aget k l = some v → aput k v l = l
 | [], h => by cases h
 | (y, u) :: l, h => by
  by_cases hk : k = y
  ·subst hk; simp [aget] at h; subst h; simp [aput]
  ·simp only [aget, aput, if_neg hk] at h ⊢
   rw [aput_same h]
theorem aget_mem {κ ν : Type} [DecidableEq κ] {k : κ} {v : ν} : ∀ {l : List (κ × ν)}, aget k l = some v → (k, v) ∈ l
 | [], h => by cases h
 | (y, u) :: l, h => by
  by_cases hk : k = y
  ·subst hk; simp [aget] at h; subst h; exact List.mem_cons_self
  ·simp only [aget, if_neg hk] at h
   exact List.mem_cons_of_mem _ (aget_mem h)
/-- what is put where it was changes nothing -/
theorem StD.put_same {d : StD} (h : StOk d) (k : Key) : d.put k (d.get k) = d := by
 unfold StD.put StD.get
 cases hg : aget k d.kvs with
 | none => simp only [Option.getD_none, if_pos]; rw [adel_none hg]
 | some a =>
  simp only [Option.getD_some]
  rw [if_neg (h.ne _ (aget_mem hg)), aput_same hg]
theorem there15 (wb w0 : World) (S : List Ent) (p : Nat) (d : StD) (hok : StOk d) (hS0 : St wb (stE p d :: S) w0) : Ret Tryd.prog 35 #[.pointer (some ⟨p, 0, none⟩)] w0 (fun u w' => u = .bool true ∧ ∃ d', d' = d ∧ StOk d' ∧ St wb (stE p d' :: S) w') := by
 refine Ret.enter (args := [.pointer (some ⟨p, 0, none⟩)]) Tryd.func35 rfl Tryd.ntmps35 Tryd.results35 rfl ?_
 have hS := St.start w0
 replace hS := hS0
 refine WC.seq (fun K1 hK1 => ?_)
 refine WC.region ?_
 refine WL.op rfl (opW.assignB rfl ?_)
 refine WL.nil ?_
 refine thenQ_n (hK1 _ _ ?_)
 refine WC.seq (fun K2 hK2 => ?_)
 refine WC.region ?_
 refine WL.op rfl (opW.call (sys_ok _) rfl ?_)
 rintro _ w ⟨rfl, hw⟩; replace hS := hS.bel hw
 refine WL.op rfl (opW.allocA hS ?_)
 intro b3 w _ hS
 refine WL.op0 (opW.storeE hS rfl rfl (by repeat constructor) (by first | rfl | exact Enc.size_eq _) ?_)
 intro w hS; replace hS := hS _ (by repeat constructor)
 refine WL.nil ?_
 refine thenQ_n (hK2 _ _ ?_)
 refine WC.seq (fun K3 hK3 => ?_)
 refine WC.draw 5 (.look 0 (.look 1 (.look 2 (.look 3 (.one 4 (.one 5 (.one 6 (.one 7 .nil)))))))) (by kernel_rfl) (fun _ _ _ h => h) (fun w1 hw1 => ?_)
 replace hS := hS.bel hw1
 have hS1 := hS
 have hT := St.start w1
 refine ML.look rfl rfl rfl (fun w hw => (by have hS := hS1.bel hw; exact opW.moveV (v := .pointer (some ⟨p, 0, none⟩)) rfl ⟨rfl, rfl⟩)) ?_
 refine ML.look rfl rfl rfl (fun w hw => (by have hS := hS1.bel hw; exact opW.loadV rfl (hS.ldA (b := b3) (cs := Enc.enc sysK) (by repeat constructor) (Enc.size_eq _)) ⟨rfl, rfl⟩)) ?_
 refine ML.look rfl rfl rfl (fun w hw => (by have hS := hS1.bel hw; exact opW.moveV (v := .pointer (some ⟨p, 0, none⟩)) rfl ⟨rfl, rfl⟩)) ?_
 refine ML.look rfl rfl rfl (fun w hw => (by have hS := hS1.bel hw; exact opW.loadV rfl (hS.ldA (b := b3) (cs := Enc.enc sysK) (by repeat constructor) (Enc.size_eq _)) ⟨rfl, rfl⟩)) ?_
 refine ML.one rfl rfl rfl (opW.call (get13 _ p d sysK (hS.stAt (by repeat constructor))) rfl ?_)
 rintro _ w ⟨rfl, hw⟩; replace hT := hT.bel hw
 refine ⟨hT.old, ?_⟩
 have hS := hS1.merge hT
 try simp only [List.cons_append, List.nil_append] at hS
 refine ML.put1 rfl rfl rfl rfl (opW.call (put13 wb _ _ p d sysK (d.get sysK) (hS.pick (e := stE p d) (by repeat constructor))) rfl ?_)
 rintro _ w ⟨rfl, hS⟩
 refine ML.put1 rfl rfl rfl rfl (opW.eql rfl rfl ?_)
 refine ML.put1 rfl rfl rfl rfl (opW.assignB rfl ?_)
 refine ML.nil ?_
 refine thenQ_n (hK3 _ _ ?_)
 refine WC.ret ?_
 refine bodyQ_ret (.tmpB rfl .nil) ?_
 refine ⟨rfl, d.put sysK (d.get sysK), StD.put_same hok sysK, hok.put _ _, hS.sub (by repeat with_reducible first | exact su1 _ | exact su2 _ | refine su3 ?_ | refine su4 ?_)⟩

/-- the accounts that a transaction names -/
def loadA (d : StD) (r : List Role) : List Account := r.map fun x => d.get x.key
def zr : Role := ⟨vz 32, false, false⟩
/-- is who pays such that he can? -/
def payB (fee : Nat) (r : List Role) (l : List Account) : Bool := (r.getD 0 zr).writes && decide ((l.getD 0 az).owner = sysK) && decide (fee ≤ (l.getD 0 az).coins)
def paidA (fee : Nat) (l : List Account) : List Account := l.set 0 { l.getD 0 az with coins := (l.getD 0 az).coins - fee }
theorem loadA_len (d : StD) (r : List Role) : (loadA d r).length = r.length := by unfold loadA; rw [List.length_map]
theorem loadA_take {d : StD} {r : List Role} {k : Nat} (h : k < r.length) : loadA d (r.take (k + 1)) = loadA d (r.take k) ++ [d.get r[k].key] := by
 unfold loadA; rw [List.take_succ_eq_append_getElem h, List.map_append]; rfl
theorem loadA_get {d : StD} {r : List Role} {k : Nat} (h : k < (loadA d r).length) (h2 : k < r.length) : (loadA d r)[k] = d.get r[k].key := by simp [loadA]
theorem loadA_congr {d d' : StD} (h : ∀ k, d'.get k = d.get k) (r : List Role) : loadA d' r = loadA d r := by
 unfold loadA; exact List.map_congr_left fun x _ => h x.key
def okS (d : StD) : Prop := ∀ k, okW (d.get k)
theorem payB_nil (fee : Nat) (l : List Account) : payB fee [] l = false := rfl

set_option maxHeartbeats 1000000 in
theorem load15 (wb w0 : World) (S : List Ent) (p : Nat) (d : StD) (R : Ready) (r : List Role) (hok : StOk d) (hsok : okS d) (hr : ∀ w, St wb S w → SlR w R.roles.v r) (hrb : r.length ≤ 100000) (hS0 : St wb (stE p d :: S) w0) : Ret Tryd.prog 16 #[.pointer (some ⟨p, 0, none⟩), .agg (Enc.enc R)] w0 (fun u w' => ∃ d', d' = d ∧ StOk d' ∧ ((payB R.fee r (loadA d r) = false ∧ u = .tuple #[.slice none 0 0, .int .i64 22] ∧ St wb (stE p d' :: S) w') ∨ (payB R.fee r (loadA d r) = true ∧ ∃ sv : SlV, u = .tuple #[sv.v, .int .i64 0] ∧ St wb (ownE sv.v 64 (paidA R.fee (loadA d r)) :: stE p d' :: S) w'))) := by
 refine Ret.enter (args := [.pointer (some ⟨p, 0, none⟩), .agg (Enc.enc R)]) Tryd.func16 rfl Tryd.ntmps16 Tryd.results16 rfl ?_
 have hS := St.start w0
 replace hS := hS0
 refine WC.seq (fun K1 hK1 => ?_)
 refine WC.region ?_
 refine WL.op rfl (opW.boxA hS rfl ?_)
 intro b3 w _ hS
 refine WL.op rfl (opW.assignV (v := .slice none 0 0) rfl ?_)
 refine WL.op rfl (opW.assignI rfl ?_)
 refine WL.nil ?_
 refine thenQ_n (hK1 _ _ ?_)
 refine WC.seq (fun K2 hK2 => ?_)
 refine WC.seq (fun K3 hK3 => ?_)
 refine WC.region ?_
 refine WL.op rfl (opW.moveV (v := .pointer (some ⟨p, 0, none⟩)) rfl ?_)
 refine WL.op rfl (opW.call (there15 wb _ _ p d hok (hS.pick (e := stE p d) (by repeat constructor))) rfl ?_)
 rintro _ w ⟨rfl, d2, hd2, hok2, hS⟩
 refine WL.op rfl (opW.not rfl ?_)
 refine WL.nil ?_
 refine thenQ_n (hK3 _ _ ?_)
 refine WC.cond _ rfl (fun hc0 => ?_) (fun hc0 => ?_)
 ·
  have hr0 := hc0
  try simp only [sq1,sq2,sq3,sq4,sq5,sq6,sq7,sq8,sq9,sq0] at hc0
  cases hr0
 ·
  have hr0 := hc0
  try simp only [sq1,sq2,sq3,sq4,sq5,sq6,sq7,sq8,sq9,sq0] at hc0
  have hA2 := loadA_congr (d := d) (d' := d2) (fun k => by rw [hd2]) r
  refine WC.skip ?_
  refine thenQ_n (hK2 _ _ ?_)
  refine WC.seq (fun K4 hK4 => ?_)
  refine WC.region ?_
  refine WL.op rfl (opW.assignV (v := .slice none 0 0) rfl ?_)
  refine WL.nil ?_
  refine thenQ_n (hK4 _ _ ?_)
  refine WC.seq (fun K5 hK5 => ?_)
  refine WC.seq (fun K6 hK6 => ?_)
  refine WC.region ?_
  refine WL.op rfl (opW.fieldAddrB rfl ?_)
  refine WL.op rfl (opW.loadV rfl (hS.ld1 (b := b3) (cs := Enc.enc R) (by repeat constructor) (Ready.at_roles R)) ?_)
  refine WL.op rfl (opW.lenV rfl ((hr _ (hS.sub (by repeat with_reducible first | exact su1 _ | exact su2 _ | refine su3 ?_ | refine su4 ?_)))) ?_)
  refine WL.op rfl (opW.moveI rfl ?_)
  refine WL.nil ?_
  refine thenQ_n (hK6 _ _ ?_)
  refine WC.block ?_
  refine WC.loop (fun q f w => ∃ (k : Nat) (v6 : Value), Fits [(0, .pointer (some ⟨p, 0, none⟩)), (3, .pointer (some ⟨b3, 0, none⟩)), (6, v6), (13, R.roles.v), (14, .int .i64 (r.length : Int)), (15, .int .i64 (k : Int))] f ∧ St wb (ownE v6 64 (loadA d2 (r.take k)) :: stE p d2 :: blkE b3 (Enc.enc R) 56 :: S) w ∧ k ≤ r.length ∧ q = r.length - k) (r.length) ?_ ?_
  ·
   exact ⟨0, .slice none 0 0, ⟨rfl, rfl, rfl, rfl, rfl, rfl, trivial⟩, (show St wb (ownE (.slice none 0 0) 64 ([] : List Account) :: stE p d2 :: blkE b3 (Enc.enc R) 56 :: S) w from (((hS.pick (e := blkE b3 (Enc.enc R) 56) (by repeat constructor)).pick (e := stE p d2) (by repeat constructor)).nilOwn 64).sub (by repeat with_reducible first | exact su1 _ | exact su2 _ | refine su3 ?_ | refine su4 ?_)), Nat.zero_le _, rfl⟩
  ·
   rintro q f w ⟨k, v6, hfit, hS, hk0, hm⟩
   refine WC.fits _ hfit (fun g => ?_)
   clear hfit
   refine WC.seq (fun K7 hK7 => ?_)
   refine WC.region ?_
   refine WL.op rfl (opW.lss rfl rfl ?_)
   refine WL.nil ?_
   refine thenQ_n (hK7 _ _ ?_)
   refine WC.seq (fun K8 hK8 => ?_)
   refine WC.cond _ rfl (fun hc1 => ?_) (fun hc1 => ?_)
   ·
    have hr1 := hc1
    try simp only [sq1,sq2,sq3,sq4,sq5,sq6,sq7,sq8,sq9,sq0] at hc1
    have hkl : k < r.length := by omega
    have hln := loadA_len d2 (r.take k)
    rw [List.length_take] at hln
    refine WC.skip ?_
    refine thenQ_n (hK8 _ _ ?_)
    refine WC.seq (fun K9 hK9 => ?_)
    refine WC.block ?_
    refine WC.seq (fun K10 hK10 => ?_)
    refine WC.region ?_
    refine WL.op rfl (opW.idxV rfl ((hr _ (hS.sub (by repeat with_reducible first | exact su1 _ | exact su2 _ | refine su3 ?_ | refine su4 ?_)))) rfl (by omega) ?_)
    refine WL.op rfl (opW.loadV rfl (((hr _ (hS.sub (by repeat with_reducible first | exact su1 _ | exact su2 _ | refine su3 ?_ | refine su4 ?_))).isPt hkl).ldA (Enc.size_eq r[k])) ?_)
    refine WL.op rfl (opW.allocA hS ?_)
    intro b8 w _ hS
    refine WL.op0 (opW.storeE hS rfl rfl (by repeat constructor) (by first | rfl | exact Enc.size_eq _) ?_)
    intro w hS; replace hS := hS _ (by repeat constructor)
    refine WL.nil ?_
    refine thenQ_n (hK10 _ _ ?_)
    refine WC.region ?_
    refine WL.op rfl (opW.moveV (v := v6) rfl ?_)
    refine WL.op rfl (opW.moveV (v := .pointer (some ⟨p, 0, none⟩)) rfl ?_)
    refine WL.op rfl (opW.fieldAddrB rfl ?_)
    refine WL.op rfl (opW.loadV rfl (hS.ldF (b := b8) (cs := Enc.enc r[k]) (o := 0) (by repeat constructor) (Role.ex_key _) (by rw [Enc.size_eq]; decide)) ?_)
    refine WL.op rfl (opW.call (get13 _ p d2 r[k].key (hS.stAt (by repeat constructor))) rfl ?_)
    rintro _ w ⟨rfl, hw⟩; replace hS := hS.bel hw
    refine WL.op rfl (opW.buildSl hS (([d2.get r[k].key] : List Account)) [.agg (Enc.enc (d2.get r[k].key))] rfl rfl rfl rfl (by decide) ?_)
    intro b24 w hw hS
    refine WL.op rfl (opW.appendOwn (α := Account) (xs := loadA d2 (r.take k)) (ys := [d2.get r[k].key]) rfl hS rfl (by repeat constructor) (hS.sl (v := .slice (some ⟨b24, 0, none⟩) 1 1) (xs := ([d2.get r[k].key] : List Account)) (by repeat constructor)) (by simp only [List.length_cons, List.length_nil]; omega) (by simp only [maxLen, List.length_cons, List.length_nil]; omega) ?_)
    intro v25 w hS; replace hS := hS _ (by repeat constructor)
    refine WL.op rfl (opW.assignV (v := v25) rfl ?_)
    refine WL.nil ?_
    refine blockQ_n ?_
    refine thenQ_n (hK9 _ _ ?_)
    refine WC.region ?_
    refine WL.op rfl (opW.add rfl rfl (wrap_i64 (by omega)) ?_)
    refine WL.op rfl (opW.moveI rfl ?_)
    refine WL.nil ?_
    refine thenQ_n ?_
    rw [← loadA_take hkl] at hS
    exact ⟨r.length - (k + 1), by omega, k + 1, v25, ⟨rfl, rfl, rfl, rfl, rfl, congrArg (Value.int .i64) (by omega), trivial⟩, (((hS.pick (e := blkE b3 (Enc.enc R) 56) (by repeat constructor)).pick (e := stE p d2) (by repeat constructor)).pick (e := ownE v25 64 (loadA d2 (r.take (k + 1)))) (by repeat constructor)).sub (by repeat with_reducible first | exact su1 _ | exact su2 _ | refine su3 ?_ | refine su4 ?_), by omega, rfl⟩
   ·
    have hr1 := hc1
    try simp only [sq1,sq2,sq3,sq4,sq5,sq6,sq7,sq8,sq9,sq0] at hc1
    have hkk : r.take k = r := List.take_of_length_le (by omega)
    rw [hkk] at hS
    have hln := loadA_len d2 r
    refine WC.exit ?_
    refine thenQ_e ?_
    refine thenQ_e ?_
    refine blockQ_hit ?_
    refine thenQ_n (hK5 _ _ ?_)
    refine WC.seq (fun K11 hK11 => ?_)
    refine WC.seq (fun K12 hK12 => ?_)
    refine WC.draw 28 (.look 0 (.look 1 (.look 2 (.look 3 (.look 4 (.look 5 (.look 6 (.look 7 (.look 8 (.look 9 (.look 10 (.look 11 (.look 12 (.look 13 (.look 14 (.look 15 (.one 16 (.look 17 (.look 18 (.look 19 (.look 20 (.look 21 (.look 22 (.look 23 (.look 24 (.look 25 (.look 26 (.look 27 .nil)))))))))))))))))))))))))))) (by kernel_rfl) (fun _ _ _ h => h) (fun w1 hw1 => ?_)
    replace hS := hS.bel hw1
    have hS1 := hS
    have hT := St.start w1
    refine ML.look rfl rfl rfl (fun w hw => (by have hS := hS1.bel hw; exact opW.moveV (v := v6) rfl ⟨rfl, rfl⟩)) ?_
    refine ML.look rfl rfl rfl (fun w hw => (by have hS := hS1.bel hw; exact opW.lenV rfl ((hS.sl (v := v6) (xs := (loadA d2 r)) (by repeat constructor))) ⟨rfl, rfl⟩)) ?_
    refine ML.look rfl rfl rfl (fun w hw => (by have hS := hS1.bel hw; exact opW.eql rfl rfl ⟨rfl, rfl⟩)) ?_
    refine ML.look rfl rfl rfl (fun w hw => (by have hS := hS1.bel hw; exact opW.moveB rfl ⟨rfl, rfl⟩)) ?_
    refine ML.lookG  _ 30 rfl rfl rfl rfl rfl rfl (fun hg31 w hw => (by have hS := hS1.bel hw; exact opW.fieldAddrB rfl ⟨rfl, rfl⟩)) ?_
    refine ML.lookG (E := R.roles.v) _ 30 rfl rfl rfl rfl rfl rfl (fun hg32 w hw => (by have hS := hS1.bel hw; have h0 : 0 < r.length := (by rcases Nat.eq_zero_or_pos r.length with h | h; (exfalso; revert hg32; simp [hln, h]); exact h); have h0a : 0 < (loadA d2 r).length := (by omega); exact opW.loadV (by first | exact gv_of rfl hg32 | rfl) (hS.ld1 (b := b3) (cs := Enc.enc R) (by repeat constructor) (Ready.at_roles R)) ⟨rfl, rfl⟩)) ?_
    refine ML.lookG (E := (elemP R.roles.v 0 (Enc.sz Role))) _ 30 rfl rfl rfl rfl rfl rfl (fun hg33 w hw => (by have hS := hS1.bel hw; have h0 : 0 < r.length := (by rcases Nat.eq_zero_or_pos r.length with h | h; (exfalso; revert hg33; simp [hln, h]); exact h); have h0a : 0 < (loadA d2 r).length := (by omega); exact opW.idxV (by first | exact gv_of rfl hg33 | rfl) ((hr _ (hS.sub (by repeat with_reducible first | exact su1 _ | exact su2 _ | refine su3 ?_ | refine su4 ?_)))) rfl (by omega) ⟨rfl, rfl⟩)) ?_
    refine ML.lookG (E := (ptrAdd (elemP R.roles.v 0 (Enc.sz Role)) 33)) _ 30 rfl rfl rfl rfl rfl rfl (fun hg34 w hw => (by have hS := hS1.bel hw; have h0 : 0 < r.length := (by rcases Nat.eq_zero_or_pos r.length with h | h; (exfalso; revert hg34; simp [hln, h]); exact h); have h0a : 0 < (loadA d2 r).length := (by omega); exact opW.fieldAddr (by first | exact gv_of rfl hg34 | rfl) ((hr _ (hS.sub (by repeat with_reducible first | exact su1 _ | exact su2 _ | refine su3 ?_ | refine su4 ?_))).isP h0) ⟨rfl, rfl⟩)) ?_
    refine ML.lookG (E := .bool (r.getD 0 zr).writes) _ 30 rfl rfl rfl rfl rfl rfl (fun hg35 w hw => (by have hS := hS1.bel hw; have h0 : 0 < r.length := (by rcases Nat.eq_zero_or_pos r.length with h | h; (exfalso; revert hg35; simp [hln, h]); exact h); have h0a : 0 < (loadA d2 r).length := (by omega); exact opW.loadV (by first | exact gv_of rfl hg35 | rfl) ((show Ld _ _ _ (ptrAdd (elemP R.roles.v 0 (Enc.sz Role)) 33) (.bool (r.getD 0 zr).writes) from by rw [getD_of h0]; exact Ld.pt1 ((hr _ (hS.sub (by repeat with_reducible first | exact su1 _ | exact su2 _ | refine su3 ?_ | refine su4 ?_))).isPt h0) 33 (Role.at_writes _))) ⟨rfl, rfl⟩)) ?_
    refine ML.lookG  _ 30 rfl rfl rfl rfl rfl rfl (fun hg36 w hw => (by have hS := hS1.bel hw; exact opW.not (by first | exact gv_of rfl hg36 | rfl) ⟨rfl, rfl⟩)) ?_
    refine ML.look rfl rfl rfl (fun w hw => (by have hS := hS1.bel hw; exact opW.pickOr rfl rfl (by first | rfl) ⟨rfl, rfl⟩)) ?_
    refine ML.look rfl rfl rfl (fun w hw => (by have hS := hS1.bel hw; exact opW.moveB rfl ⟨rfl, rfl⟩)) ?_
    refine ML.lookG (E := v6) _ 38 rfl rfl rfl rfl rfl rfl (fun hg39 w hw => (by have hS := hS1.bel hw; exact opW.moveV (v := v6) rfl ⟨rfl, rfl⟩)) ?_
    refine ML.lookG (E := (elemP v6 0 (Enc.sz Account))) _ 38 rfl rfl rfl rfl rfl rfl (fun hg40 w hw => (by have hS := hS1.bel hw; have h0 : 0 < r.length := (by rcases Nat.eq_zero_or_pos r.length with h | h; (exfalso; revert hg40; simp [hln, h]); exact h); have h0a : 0 < (loadA d2 r).length := (by omega); exact opW.idxV (by first | exact gv_of rfl hg40 | rfl) ((hS.sl (v := v6) (xs := (loadA d2 r)) (by repeat constructor))) rfl (by omega) ⟨rfl, rfl⟩)) ?_
    refine ML.lookG (E := (ptrAdd (elemP v6 0 (Enc.sz Account)) 1)) _ 38 rfl rfl rfl rfl rfl rfl (fun hg41 w hw => (by have hS := hS1.bel hw; have h0 : 0 < r.length := (by rcases Nat.eq_zero_or_pos r.length with h | h; (exfalso; revert hg41; simp [hln, h]); exact h); have h0a : 0 < (loadA d2 r).length := (by omega); exact opW.fieldAddr (by first | exact gv_of rfl hg41 | rfl) ((hS.sl (v := v6) (xs := (loadA d2 r)) (by repeat constructor)).isP h0a) ⟨rfl, rfl⟩)) ?_
    refine ML.lookG (E := .agg (Enc.enc ((loadA d2 r).getD 0 az).owner)) _ 38 rfl rfl rfl rfl rfl rfl (fun hg42 w hw => (by have hS := hS1.bel hw; have h0 : 0 < r.length := (by rcases Nat.eq_zero_or_pos r.length with h | h; (exfalso; revert hg42; simp [hln, h]); exact h); have h0a : 0 < (loadA d2 r).length := (by omega); exact opW.loadV (by first | exact gv_of rfl hg42 | rfl) ((show Ld _ _ _ (ptrAdd (elemP v6 0 (Enc.sz Account)) 1) (.agg (Enc.enc ((loadA d2 r).getD 0 az).owner)) from by rw [getD_of h0a]; exact Ld.ptA ((hS.sl (v := v6) (xs := (loadA d2 r)) (by repeat constructor)).isPt h0a) 1 (Account.ex_owner _) (by rw [Enc.size_eq]; decide))) ⟨rfl, rfl⟩)) ?_
    refine ML.oneG (.agg (Enc.enc sysK)) _ 38 hT.old rfl rfl rfl rfl rfl rfl (fun hg43 => opW.call (sys_ok _) rfl (fun _ _ h => h)) (fun w hw => ?_)
    replace hT := hT.bel hw
    have hS := hS1.merge hT
    try simp only [List.cons_append, List.nil_append] at hS
    refine ML.lookG  _ 38 rfl rfl rfl rfl rfl rfl (fun hg44 w hw => (by have hS := hS1.bel hw; exact opW.neqE (by first | exact gv_of rfl hg44 | rfl) (by first | exact gv_of rfl hg44 | rfl) ⟨rfl, rfl⟩)) ?_
    refine ML.look rfl rfl rfl (fun w hw => (by have hS := hS1.bel hw; exact opW.pickOr rfl rfl (by first | rfl) ⟨rfl, rfl⟩)) ?_
    refine ML.look rfl rfl rfl (fun w hw => (by have hS := hS1.bel hw; exact opW.moveB rfl ⟨rfl, rfl⟩)) ?_
    refine ML.lookG (E := v6) _ 46 rfl rfl rfl rfl rfl rfl (fun hg47 w hw => (by have hS := hS1.bel hw; exact opW.moveV (v := v6) rfl ⟨rfl, rfl⟩)) ?_
    refine ML.lookG (E := (elemP v6 0 (Enc.sz Account))) _ 46 rfl rfl rfl rfl rfl rfl (fun hg48 w hw => (by have hS := hS1.bel hw; have h0 : 0 < r.length := (by rcases Nat.eq_zero_or_pos r.length with h | h; (exfalso; revert hg48; simp [hln, h]); exact h); have h0a : 0 < (loadA d2 r).length := (by omega); exact opW.idxV (by first | exact gv_of rfl hg48 | rfl) ((hS.sl (v := v6) (xs := (loadA d2 r)) (by repeat constructor))) rfl (by omega) ⟨rfl, rfl⟩)) ?_
    refine ML.lookG (E := (ptrAdd (elemP v6 0 (Enc.sz Account)) 0)) _ 46 rfl rfl rfl rfl rfl rfl (fun hg49 w hw => (by have hS := hS1.bel hw; have h0 : 0 < r.length := (by rcases Nat.eq_zero_or_pos r.length with h | h; (exfalso; revert hg49; simp [hln, h]); exact h); have h0a : 0 < (loadA d2 r).length := (by omega); exact opW.fieldAddr (by first | exact gv_of rfl hg49 | rfl) ((hS.sl (v := v6) (xs := (loadA d2 r)) (by repeat constructor)).isP h0a) ⟨rfl, rfl⟩)) ?_
    refine ML.lookG (E := .int .u64 ((((loadA d2 r).getD 0 az).coins : Nat) : Int)) _ 46 rfl rfl rfl rfl rfl rfl (fun hg50 w hw => (by have hS := hS1.bel hw; have h0 : 0 < r.length := (by rcases Nat.eq_zero_or_pos r.length with h | h; (exfalso; revert hg50; simp [hln, h]); exact h); have h0a : 0 < (loadA d2 r).length := (by omega); exact opW.loadV (by first | exact gv_of rfl hg50 | rfl) ((show Ld _ _ _ (ptrAdd (elemP v6 0 (Enc.sz Account)) 0) (.int .u64 ((((loadA d2 r).getD 0 az).coins : Nat) : Int)) from by rw [getD_of h0a]; exact Ld.pt1 ((hS.sl (v := v6) (xs := (loadA d2 r)) (by repeat constructor)).isPt h0a) 0 (Account.at_coins _))) ⟨rfl, rfl⟩)) ?_
    refine ML.lookG  _ 46 rfl rfl rfl rfl rfl rfl (fun hg51 w hw => (by have hS := hS1.bel hw; exact opW.fieldAddrB rfl ⟨rfl, rfl⟩)) ?_
    refine ML.lookG (E := .int .u64 ((R.fee : Nat) : Int)) _ 46 rfl rfl rfl rfl rfl rfl (fun hg52 w hw => (by have hS := hS1.bel hw; exact opW.loadV (by first | exact gv_of rfl hg52 | rfl) (hS.ld1 (b := b3) (cs := Enc.enc R) (by repeat constructor) (Ready.at_fee R)) ⟨rfl, rfl⟩)) ?_
    refine ML.lookG  _ 46 rfl rfl rfl rfl rfl rfl (fun hg53 w hw => (by have hS := hS1.bel hw; exact opW.lss (by first | exact gv_of rfl hg53 | rfl) (by first | exact gv_of rfl hg53 | rfl) ⟨rfl, rfl⟩)) ?_
    refine ML.look rfl rfl rfl (fun w hw => (by have hS := hS1.bel hw; exact opW.pickOr rfl rfl (by first | rfl) ⟨rfl, rfl⟩)) ?_
    refine ML.nil ?_
    refine thenQ_n (hK12 _ _ ?_)
    refine WC.cond _ rfl (fun hc2 => ?_) (fun hc2 => ?_)
    ·
     have hr2 := hc2
     try simp only [sq1,sq2,sq3,sq4,sq5,sq6,sq7,sq8,sq9,sq0] at hc2
     have hno : payB R.fee r (loadA d2 r) = false := by
      unfold payB
      simp only [Bool.or_eq_true, decide_eq_true_eq, Bool.not_eq_true'] at hr2
      rcases hr2 with ((h | h) | h) | h
      ·have h0 : r = [] := List.length_eq_zero_iff.1 (by omega)
       rw [h0]; rfl
      ·rw [h]; rfl
      ·rw [h, Bool.and_false, Bool.false_and]
      ·rw [decide_eq_false (p := R.fee ≤ ((loadA d2 r).getD 0 az).coins) (by omega), Bool.and_false]
     refine WC.seq (fun K13 hK13 => ?_)
     refine WC.region ?_
     refine WL.op rfl (opW.assignV (v := .slice none 0 0) rfl ?_)
     refine WL.op rfl (opW.assignI rfl ?_)
     refine WL.nil ?_
     refine thenQ_n (hK13 _ _ ?_)
     refine WC.ret ?_
     refine thenQ_r ?_
     refine bodyQ_ret (.tmpV (v := .slice none 0 0) rfl (.tmpI rfl .nil)) ?_
     rw [← hA2]
     exact ⟨d2, hd2, hok2, .inl ⟨hno, rfl, hS.sub (by repeat with_reducible first | exact su1 _ | exact su2 _ | refine su3 ?_ | refine su4 ?_)⟩⟩
    ·
     have hr2 := hc2
     try simp only [sq1,sq2,sq3,sq4,sq5,sq6,sq7,sq8,sq9,sq0] at hc2
     have hyes : payB R.fee r (loadA d2 r) = true := by
      unfold payB
      simp only [Bool.or_eq_false_iff, decide_eq_false_iff_not, Bool.not_eq_false'] at hr2
      obtain ⟨⟨⟨h1, h2⟩, h3⟩, h4⟩ := hr2
      rw [h2, decide_eq_true (p := ((loadA d2 r).getD 0 az).owner = sysK) (by simpa using h3), decide_eq_true (p := R.fee ≤ ((loadA d2 r).getD 0 az).coins) (by omega)]; rfl
     have h0 : 0 < r.length := by
      rcases Nat.eq_zero_or_pos r.length with h | h
      ·rw [List.length_eq_zero_iff.1 h, payB_nil] at hyes; cases hyes
      ·exact h
     have h0a : 0 < (loadA d2 r).length := by omega
     have hle : R.fee ≤ ((loadA d2 r).getD 0 az).coins := by
      unfold payB at hyes
      simp only [Bool.and_eq_true, decide_eq_true_eq] at hyes
      exact hyes.2
     have hcw : ((loadA d2 r).getD 0 az).coins < 18446744073709551616 := by
      rw [getD_of h0a, loadA_get h0a h0, hd2]
      exact (hsok _).1
     refine WC.skip ?_
     refine thenQ_n (hK11 _ _ ?_)
     refine WC.seq (fun K14 hK14 => ?_)
     refine WC.draw 9 (.look 0 (.look 1 (.look 2 (.look 3 (.look 4 (.look 5 (.look 6 (.look 7 (.look 8 (.one 9 .nil)))))))))) (by kernel_rfl) (fun _ _ _ h => h) (fun w1 hw1 => ?_)
     replace hS := hS.bel hw1
     have hS1 := hS
     have hT := St.start w1
     refine ML.look rfl rfl rfl (fun w hw => (by have hS := hS1.bel hw; exact opW.moveV (v := v6) rfl ⟨rfl, rfl⟩)) ?_
     refine ML.look rfl rfl rfl (fun w hw => (by have hS := hS1.bel hw; exact opW.idxV rfl ((hS.sl (v := v6) (xs := (loadA d2 r)) (by repeat constructor))) rfl (by omega) ⟨rfl, rfl⟩)) ?_
     refine ML.look rfl rfl rfl (fun w hw => (by have hS := hS1.bel hw; exact opW.fieldAddr rfl ((hS.sl (v := v6) (xs := (loadA d2 r)) (by repeat constructor)).isP h0a) ⟨rfl, rfl⟩)) ?_
     refine ML.look rfl rfl rfl (fun w hw => (by have hS := hS1.bel hw; exact opW.loadV rfl ((show Ld _ _ _ (ptrAdd (elemP v6 0 (Enc.sz Account)) 0) (.int .u64 ((((loadA d2 r).getD 0 az).coins : Nat) : Int)) from by rw [getD_of h0a]; exact Ld.pt1 ((hS.sl (v := v6) (xs := (loadA d2 r)) (by repeat constructor)).isPt h0a) 0 (Account.at_coins _))) ⟨rfl, rfl⟩)) ?_
     refine ML.look rfl rfl rfl (fun w hw => (by have hS := hS1.bel hw; exact opW.fieldAddrB rfl ⟨rfl, rfl⟩)) ?_
     refine ML.look rfl rfl rfl (fun w hw => (by have hS := hS1.bel hw; exact opW.loadV rfl (hS.ld1 (b := b3) (cs := Enc.enc R) (by repeat constructor) (Ready.at_fee R)) ⟨rfl, rfl⟩)) ?_
     refine ML.look rfl rfl rfl (fun w hw => (by have hS := hS1.bel hw; exact opW.sub rfl rfl (nsub hle hcw) ⟨rfl, rfl⟩)) ?_
     refine ML.look rfl rfl rfl (fun w hw => (by have hS := hS1.bel hw; exact opW.idxV rfl ((hS.sl (v := v6) (xs := (loadA d2 r)) (by repeat constructor))) rfl (by omega) ⟨rfl, rfl⟩)) ?_
     refine ML.look rfl rfl rfl (fun w hw => (by have hS := hS1.bel hw; exact opW.fieldAddr rfl ((hS.sl (v := v6) (xs := (loadA d2 r)) (by repeat constructor)).isP h0a) ⟨rfl, rfl⟩)) ?_
     refine ML.put0 rfl rfl rfl (opW.storeOwn (v := v6) (u := .int .u64 ((((loadA d2 r).getD 0 az).coins - R.fee : Nat) : Int)) (sz := 1) (xs := (loadA d2 r)) (i := 0) (off := 0) (y' := { ((loadA d2 r).getD 0 az) with coins := ((loadA d2 r).getD 0 az).coins - R.fee }) hS (by repeat constructor) h0a rfl rfl rfl (by decide) (one_int _ _) (by rw [getD_of h0a]; exact Account.set_coins (loadA d2 r)[0] ((loadA d2 r)[0].coins - R.fee)) ?_)
     intro w hS; replace hS := hS _ (by repeat constructor)
     refine ML.nil ?_
     replace hS := (show St wb (ownE v6 64 (paidA R.fee (loadA d2 r)) :: stE p d2 :: blkE b3 (Enc.enc R) 56 :: S) _ from hS)
     refine thenQ_n (hK14 _ _ ?_)
     refine WC.seq (fun K15 hK15 => ?_)
     refine WC.region ?_
     refine WL.op rfl (opW.moveV (v := v6) rfl ?_)
     refine WL.op rfl (opW.call (clip_a _ v6 (paidA R.fee (loadA d2 r)) (hS.sl (v := v6) (xs := (paidA R.fee (loadA d2 r))) (by repeat constructor))) rfl ?_)
     rintro v65 w ⟨hv65, hw⟩; replace hS := hS.bel hw
     replace hS := hS.cutOwn (v := v6) (T := 64) (xs := (paidA R.fee (loadA d2 r))) (by repeat constructor)
     rw [← hv65] at hS
     obtain ⟨sv, rfl⟩ := (hS.sl (v := v65) (xs := (paidA R.fee (loadA d2 r))) (by repeat constructor)).asV
     refine WL.op rfl (opW.assignV (v := sv.v) rfl ?_)
     refine WL.op rfl (opW.assignI rfl ?_)
     refine WL.nil ?_
     refine thenQ_n (hK15 _ _ ?_)
     refine WC.ret ?_
     refine bodyQ_ret (.tmpV (v := sv.v) rfl (.tmpI rfl .nil)) ?_
     rw [← hA2]
     exact ⟨d2, hd2, hok2, .inr ⟨hyes, sv, rfl, hS.sub (by repeat with_reducible first | exact su1 _ | exact su2 _ | refine su3 ?_ | refine su4 ?_)⟩⟩

end Go.Fer
