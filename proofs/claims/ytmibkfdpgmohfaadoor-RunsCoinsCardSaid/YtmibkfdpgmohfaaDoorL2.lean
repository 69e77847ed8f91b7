/- a store of accounts -/
import Derived.Test.YtmibkfdpgmohfaaDoorR2
set_option linter.all false
namespace Go.Fer
open Go Go.Proofs Go.RowKit

theorem zAcc : (joinA [#[.int .u64 0], (Array.replicate 32 (.int .u8 0)), #[.int .u64 0]]) = Enc.enc (az : Account) := by
  simp only [Account.enc_eq, Account.parts, enc_vz, az]; rfl

theorem azParts : setParts [#[.int .u64 0], Array.replicate 32 (.int .u8 0), #[.int .u64 0]] [] = Account.parts az := by
  simp only [az, Account.parts, setParts, enc_vz]; rfl
structure StD where
  r : Nat
  kvs : List (Key × Account)
def accV (a : Account) : Value := .agg (Enc.enc a)
def StD.get (d : StD) (k : Key) : Account := (aget k d.kvs).getD az
def StD.put (d : StD) (k : Key) (a : Account) : StD := { d with kvs := if a = az then adel k d.kvs else aput k a d.kvs }
structure StOk (d : StD) : Prop where
  nd : (d.kvs.map Prod.fst).Nodup
  ne : ∀ x ∈ d.kvs, x.2 ≠ az
theorem mem_aputP {κ ν : Type} [DecidableEq κ] {k : κ} {v : ν} : ∀ {l : List (κ × ν)} {x : κ × ν}, x ∈ aput k v l → x = (k, v) ∨ x ∈ l
  | [], x, h => by simp [aput] at h; exact .inl h
  | (y, u) :: l, x, h => by
    by_cases hk : k = y
    · simp [aput, hk] at h
      rcases h with rfl | h
      · exact .inl (by rw [hk])
      · exact .inr (List.mem_cons_of_mem _ h)
    · simp [aput, hk] at h
      rcases h with rfl | h
      · exact .inr List.mem_cons_self
      · rcases mem_aputP h with h | h
        · exact .inl h
        · exact .inr (List.mem_cons_of_mem _ h)
theorem StOk.put {d : StD} (h : StOk d) (k : Key) (a : Account) : StOk (d.put k a) := by
  unfold StD.put
  split
  · exact ⟨h.nd.sublist ((adel_sub k d.kvs).map _), fun x hx => h.ne x ((adel_sub k d.kvs).subset hx)⟩
  · next ha =>
    refine ⟨nodup_aput k a h.nd, fun x hx => ?_⟩
    rcases mem_aputP hx with rfl | hx
    · exact ha
    · exact h.ne x hx
theorem StD.get_put {d : StD} (h : StOk d) (k k' : Key) (a : Account) : (d.put k a).get k' = if k' = k then a else d.get k' := by
  unfold StD.put StD.get
  split
  · next ha =>
    rw [aget_adel k k' h.nd]
    split
    · rw [ha]; rfl
    · rfl
  · rw [aget_aput]
    split <;> rfl
theorem StD.put_get {d : StD} (h : StOk d) (k k' : Key) : (d.put k (d.get k)).get k' = d.get k' := by
  rw [StD.get_put h]
  split
  · next e => rw [e]
  · rfl
@[irreducible] def stE (p : Nat) (d : StD) : Ent := starE [blkE p (Enc.enc (StS.mk (some d.r))) 96, mapE d.r accV d.kvs]
theorem St.stOpen {w0 w : World} {S : List Ent} {p : Nat} {d : StD} (h : St w0 (stE p d :: S) w) : St w0 (blkE p (Enc.enc (StS.mk (some d.r))) 96 :: mapE d.r accV d.kvs :: S) w := by
  unfold stE at h
  exact h.opened
theorem St.stClose {w0 w : World} {S : List Ent} {p : Nat} (d : StD) (h : St w0 (blkE p (Enc.enc (StS.mk (some d.r))) 96 :: mapE d.r accV d.kvs :: S) w) : St w0 (stE p d :: S) w := by
  unfold stE
  exact St.closed (l := [blkE p (Enc.enc (StS.mk (some d.r))) 96, mapE d.r accV d.kvs]) h
def StAt (w : World) (p : Nat) (d : StD) : Prop := Pt w (.pointer (some ⟨p, 0, none⟩)) (Enc.enc (StS.mk (some d.r))) ∧ MapB w d.r accV d.kvs
theorem StAt.bel {w w' : World} {p : Nat} {d : StD} (h : StAt w p d) (hb : Bel w w') : StAt w' p d := ⟨h.1.bel hb, h.2.bel hb⟩
theorem St.stAt {w0 w : World} {S : List Ent} {p : Nat} {d : StD} (h : St w0 S w) (he : Has (stE p d) S) : StAt w p d := by
  have h1 := h.get he
  unfold stE at h1
  rw [starE_A] at h1
  refine ⟨?_, ?_⟩
  · have := h1.2 (blkE p (Enc.enc (StS.mk (some d.r))) 96) (by simp)
    unfold blkE at this
    exact Pt.blk this
  · have := h1.2 (mapE d.r accV d.kvs) (by simp)
    rw [mapE_A] at this; exact this
theorem zeroA : ZeroT Tryd.prog 59 (accV az) := by
  have h : ZeroT Tryd.prog 59 _ := inferInstance
  unfold accV
  rw [show Enc.enc az = _ from zAcc.symm]
  exact h

theorem there13 (w0 : World) (p r : Nat) (hp : Pt w0 (.pointer (some ⟨p, 0, none⟩)) (Enc.enc (StS.mk (some r)))) : Ret Tryd.prog 28 #[.pointer (some ⟨p, 0, none⟩)] w0 (fun u w' => u = .bool true ∧ Bel w0 w') := by
  refine Ret.enter (args := [.pointer (some ⟨p, 0, none⟩)]) Tryd.func28 rfl Tryd.ntmps28 Tryd.results28 rfl ?_
  have hS := St.start w0
  refine WC.seq (fun K1 hK1 => ?_)
  refine WC.region ?_
  refine WL.op rfl (opW.assignB rfl ?_)
  refine WL.nil ?_
  refine thenQ_n (hK1 _ _ ?_)
  refine WC.seq (fun K2 hK2 => ?_)
  refine WC.region ?_
  refine WL.op rfl (opW.moveV (v := .pointer (some ⟨p, 0, none⟩)) rfl ?_)
  refine WL.op rfl (opW.neqP rfl rfl ?_)
  refine WL.op rfl (opW.moveB rfl ?_)
  refine WL.gT 5 rfl rfl rfl (WL.op rfl (opW.moveV (v := .pointer (some ⟨p, 0, none⟩)) rfl ?_))
  refine WL.gT 5 rfl rfl rfl (WL.op rfl (opW.nilCheckB rfl ?_))
  refine WL.gT 5 rfl rfl rfl (WL.op rfl (opW.fieldAddrB rfl ?_))
  refine WL.gT 5 rfl rfl rfl (WL.op rfl (opW.loadV rfl ((hp.bel hS.old).at1 (StS.at_of _)) ?_))
  refine WL.gT 5 rfl rfl rfl (WL.op rfl (opW.neqM rfl rfl ?_))
  refine WL.op rfl (opW.pickT rfl rfl ?_)
  refine WL.op rfl (opW.assignB rfl ?_)
  refine WL.nil ?_
  refine thenQ_n (hK2 _ _ ?_)
  refine WC.ret ?_
  refine bodyQ_ret (.tmpB rfl .nil) ?_
  exact ⟨rfl, hS.old⟩

theorem new13 (w0 : World) : Ret Tryd.prog 15 #[] w0 (fun u w' => ∃ p d, u = .pointer (some ⟨p, 0, none⟩) ∧ (∀ k, d.get k = az) ∧ StOk d ∧ NewE w0 w' (stE p d) ∧ Bel w0 w') := by
  refine Ret.enter (args := []) Tryd.func15 rfl Tryd.ntmps15 Tryd.results15 rfl ?_
  have hS := St.start w0
  refine WC.seq (fun K1 hK1 => ?_)
  refine WC.region ?_
  refine WL.op rfl (opW.assignV rfl ?_)
  refine WL.nil ?_
  refine thenQ_n (hK1 _ _ ?_)
  refine WC.seq (fun K2 hK2 => ?_)
  refine WC.region ?_
  refine WL.op rfl (opW.makeMap Key accV hS ?_)
  intro r1 w _ hS
  refine WL.op rfl (opW.buildE (r := ((StS.mk (some r1)) : StS)) (ps := StS.parts ((StS.mk (some r1)) : StS)) (StS.enc_eq _) (by first | rfl | (simp only [sysK, az, budK, enc_vset, enc_vz, Account.enc_eq, Account.parts, Role.enc_eq, Role.parts, Instr.enc_eq, Instr.parts, Ask.enc_eq, Ask.parts, Cut.enc_eq, Cut.parts, PairS.enc_eq, PairS.parts, Header.enc_eq, Header.parts, Lookup.enc_eq, Lookup.parts, Message.enc_eq, Message.parts, Tx.enc_eq, Tx.parts, Budget.enc_eq, Budget.parts, Ready.enc_eq, Ready.parts, Holding.enc_eq, Holding.parts, Outcome.enc_eq, Outcome.parts, Running.enc_eq, Running.parts, StS.enc_eq, StS.parts]; rfl)) (by (repeat' (first | exact trivial | refine And.intro ?_ ?_)) <;> first | rfl | exact Enc.size_eq _ | (simp; done)) ?_)
  refine WL.op rfl (opW.boxA hS rfl ?_)
  intro b3 w _ hS
  refine WL.op rfl (opW.assignV (v := .pointer (some ⟨b3, 0, none⟩)) rfl ?_)
  refine WL.nil ?_
  refine thenQ_n (hK2 _ _ ?_)
  refine WC.ret ?_
  refine bodyQ_ret (.tmpV (v := .pointer (some ⟨b3, 0, none⟩)) rfl .nil) ?_
  exact ⟨b3, ⟨r1, []⟩, rfl, fun k => rfl, ⟨List.nodup_nil, fun x hx => by cases hx⟩, (hS.stClose (S := []) ⟨r1, []⟩).takeE .here, hS.old⟩

theorem get13 (w0 : World) (p : Nat) (d : StD) (k : Key) (ha : StAt w0 p d) : Ret Tryd.prog 12 #[.pointer (some ⟨p, 0, none⟩), .agg (Enc.enc k)] w0 (fun u w' => u = .agg (Enc.enc (d.get k)) ∧ Bel w0 w') := by
  refine Ret.enter (args := [.pointer (some ⟨p, 0, none⟩), .agg (Enc.enc k)]) Tryd.func12 rfl Tryd.ntmps12 Tryd.results12 rfl ?_
  have hS := St.start w0
  refine WC.seq (fun K1 hK1 => ?_)
  refine WC.region ?_
  refine WL.op rfl (opW.boxA hS rfl ?_)
  intro b3 w _ hS
  refine WL.op rfl (opW.allocA hS ?_)
  intro b4 w _ hS
  refine WL.nil ?_
  refine thenQ_n (hK1 _ _ ?_)
  refine WC.seq (fun K2 hK2 => ?_)
  refine WC.seq (fun K3 hK3 => ?_)
  refine WC.region ?_
  refine WL.op rfl (opW.moveV (v := .pointer (some ⟨p, 0, none⟩)) rfl ?_)
  refine WL.op rfl (opW.call (there13 _ p d.r (ha.1.bel hS.old)) rfl ?_)
  rintro _ w ⟨rfl, hw⟩; replace hS := hS.bel hw
  refine WL.op rfl (opW.not rfl ?_)
  refine WL.nil ?_
  refine thenQ_n (hK3 _ _ ?_)
  refine WC.cond _ rfl (fun hc0 => ?_) (fun hc0 => ?_)
  ·
    have hr0 := hc0
    try simp only [decide_eq_true_eq, decide_eq_false_iff_not, Bool.and_eq_true, Bool.or_eq_true, Bool.and_eq_false_iff, Bool.or_eq_false_iff, Bool.not_eq_true', Bool.not_eq_false', Int.not_lt, Int.not_le] at hc0
    cases hr0
  ·
    have hr0 := hc0
    try simp only [decide_eq_true_eq, decide_eq_false_iff_not, Bool.and_eq_true, Bool.or_eq_true, Bool.and_eq_false_iff, Bool.or_eq_false_iff, Bool.not_eq_true', Bool.not_eq_false', Int.not_lt, Int.not_le] at hc0
    refine WC.skip ?_
    refine thenQ_n (hK2 _ _ ?_)
    refine WC.seq (fun K4 hK4 => ?_)
    refine WC.draw 6 (.look 0 (.look 1 (.look 2 (.look 3 (.look 4 (.look 5 (.one 6 .nil))))))) (by kernel_rfl) (fun _ _ _ h => h) (fun w1 hw1 => ?_)
    replace hS := hS.bel hw1
    have hS1 := hS
    have hT := St.start w1
    refine ML.look rfl rfl rfl (fun w hw => (by have hS := hS1.bel hw; exact opW.moveV (v := .pointer (some ⟨p, 0, none⟩)) rfl ⟨rfl, rfl⟩)) ?_
    refine ML.look rfl rfl rfl (fun w hw => (by have hS := hS1.bel hw; exact opW.nilCheckB rfl ⟨rfl, rfl⟩)) ?_
    refine ML.look rfl rfl rfl (fun w hw => (by have hS := hS1.bel hw; exact opW.fieldAddrB rfl ⟨rfl, rfl⟩)) ?_
    refine ML.look rfl rfl rfl (fun w hw => (by have hS := hS1.bel hw; exact opW.loadV rfl ((ha.1.bel hS.old).at1 (StS.at_of _)) ⟨rfl, rfl⟩)) ?_
    refine ML.look rfl rfl rfl (fun w hw => (by have hS := hS1.bel hw; exact opW.loadV rfl (hS.ldA (cs := Enc.enc k) (by first | exact .h0 | exact .h1 | exact .h2 | exact .h3 | exact .h4 | exact .h5 | exact .h6 | exact .h7 | exact .h8 | exact .h9 | exact .h10 | exact .h11 | exact .h12 | exact .h13 | exact .h14) (Enc.size_eq _)) ⟨rfl, rfl⟩)) ?_
    refine ML.look rfl rfl rfl (fun w hw => (by have hS := hS1.bel hw; exact opW.lookupZ (κ := Key) (ν := Account) (k := k) (vv := accV) (kvs := d.kvs) (z0 := az) zeroA (ha.2.bel hS.old) rfl rfl (rfl : _ = d.get k) ⟨rfl, rfl⟩)) ?_
    refine ML.put0 rfl rfl rfl (opW.storeE hS rfl rfl (by first | exact .h0 | exact .h1 | exact .h2 | exact .h3 | exact .h4 | exact .h5 | exact .h6 | exact .h7 | exact .h8 | exact .h9 | exact .h10 | exact .h11 | exact .h12 | exact .h13 | exact .h14) (by first | rfl | exact Enc.size_eq _) ?_)
    intro w hS; replace hS := hS _ (by first | exact .h0 | exact .h1 | exact .h2 | exact .h3 | exact .h4 | exact .h5 | exact .h6 | exact .h7 | exact .h8 | exact .h9 | exact .h10 | exact .h11 | exact .h12 | exact .h13 | exact .h14)
    refine ML.nil ?_
    refine thenQ_n (hK4 _ _ ?_)
    refine WC.ret ?_
    refine bodyQ_ret (.cell (hS.ldA (cs := Enc.enc (d.get k)) (by first | exact .h0 | exact .h1 | exact .h2 | exact .h3 | exact .h4 | exact .h5 | exact .h6 | exact .h7 | exact .h8 | exact .h9 | exact .h10 | exact .h11 | exact .h12 | exact .h13 | exact .h14) (Enc.size_eq (d.get k))) .nil) ?_
    exact ⟨rfl, hS.old⟩

theorem put13 (wb w0 : World) (S : List Ent) (p : Nat) (d : StD) (k : Key) (a : Account) (hS0 : St wb (stE p d :: S) w0) : Ret Tryd.prog 16 #[.pointer (some ⟨p, 0, none⟩), .agg (Enc.enc k), .agg (Enc.enc a)] w0 (fun u w' => u = .int .i64 0 ∧ St wb (stE p (d.put k a) :: S) w') := by
  refine Ret.enter (args := [.pointer (some ⟨p, 0, none⟩), .agg (Enc.enc k), .agg (Enc.enc a)]) Tryd.func16 rfl Tryd.ntmps16 Tryd.results16 rfl ?_
  have hS := St.start w0
  replace hS := hS0.stOpen
  refine WC.seq (fun K1 hK1 => ?_)
  refine WC.region ?_
  refine WL.op rfl (opW.boxA hS rfl ?_)
  intro b4 w _ hS
  refine WL.op rfl (opW.boxA hS rfl ?_)
  intro b5 w _ hS
  refine WL.op rfl (opW.assignI rfl ?_)
  refine WL.nil ?_
  refine thenQ_n (hK1 _ _ ?_)
  refine WC.seq (fun K2 hK2 => ?_)
  refine WC.seq (fun K3 hK3 => ?_)
  refine WC.region ?_
  refine WL.op rfl (opW.moveV (v := .pointer (some ⟨p, 0, none⟩)) rfl ?_)
  refine WL.op rfl (opW.call (there13 _ p d.r (hS.pt (b := p) (cs := Enc.enc (StS.mk (some d.r))) (by first | exact .h0 | exact .h1 | exact .h2 | exact .h3 | exact .h4 | exact .h5 | exact .h6 | exact .h7 | exact .h8 | exact .h9 | exact .h10 | exact .h11 | exact .h12 | exact .h13 | exact .h14))) rfl ?_)
  rintro _ w ⟨rfl, hw⟩; replace hS := hS.bel hw
  refine WL.op rfl (opW.not rfl ?_)
  refine WL.nil ?_
  refine thenQ_n (hK3 _ _ ?_)
  refine WC.cond _ rfl (fun hc0 => ?_) (fun hc0 => ?_)
  ·
    have hr0 := hc0
    try simp only [decide_eq_true_eq, decide_eq_false_iff_not, Bool.and_eq_true, Bool.or_eq_true, Bool.and_eq_false_iff, Bool.or_eq_false_iff, Bool.not_eq_true', Bool.not_eq_false', Int.not_lt, Int.not_le] at hc0
    cases hr0
  ·
    have hr0 := hc0
    try simp only [decide_eq_true_eq, decide_eq_false_iff_not, Bool.and_eq_true, Bool.or_eq_true, Bool.and_eq_false_iff, Bool.or_eq_false_iff, Bool.not_eq_true', Bool.not_eq_false', Int.not_lt, Int.not_le] at hc0
    refine WC.skip ?_
    refine thenQ_n (hK2 _ _ ?_)
    refine WC.seq (fun K4 hK4 => ?_)
    refine WC.seq (fun K5 hK5 => ?_)
    refine WC.region ?_
    refine WL.op rfl (opW.loadV rfl (hS.ldA (b := b5) (cs := Enc.enc a) (by first | exact .h0 | exact .h1 | exact .h2 | exact .h3 | exact .h4 | exact .h5 | exact .h6 | exact .h7 | exact .h8 | exact .h9 | exact .h10 | exact .h11 | exact .h12 | exact .h13 | exact .h14) (Enc.size_eq _)) ?_)
    refine WL.op rfl (opW.buildE (r := az) (ps := Account.parts az) (Account.enc_eq _) (by exact azParts) (by exact trivial) ?_)
    refine WL.op rfl (opW.eqlE rfl rfl ?_)
    refine WL.nil ?_
    refine thenQ_n (hK5 _ _ ?_)
    refine WC.cond _ rfl (fun hc1 => ?_) (fun hc1 => ?_)
    ·
      have hr1 := hc1
      try simp only [decide_eq_true_eq, decide_eq_false_iff_not, Bool.and_eq_true, Bool.or_eq_true, Bool.and_eq_false_iff, Bool.or_eq_false_iff, Bool.not_eq_true', Bool.not_eq_false', Int.not_lt, Int.not_le] at hc1
      refine WC.seq (fun K6 hK6 => ?_)
      refine WC.draw 5 (.look 0 (.look 1 (.look 2 (.look 3 (.look 4 (.one 5 .nil)))))) (by kernel_rfl) (fun _ _ _ h => h) (fun w1 hw1 => ?_)
      replace hS := hS.bel hw1
      have hS1 := hS
      have hT := St.start w1
      refine ML.look rfl rfl rfl (fun w hw => (by have hS := hS1.bel hw; exact opW.moveV (v := .pointer (some ⟨p, 0, none⟩)) rfl ⟨rfl, rfl⟩)) ?_
      refine ML.look rfl rfl rfl (fun w hw => (by have hS := hS1.bel hw; exact opW.nilCheckB rfl ⟨rfl, rfl⟩)) ?_
      refine ML.look rfl rfl rfl (fun w hw => (by have hS := hS1.bel hw; exact opW.fieldAddrB rfl ⟨rfl, rfl⟩)) ?_
      refine ML.look rfl rfl rfl (fun w hw => (by have hS := hS1.bel hw; exact opW.loadV rfl (hS.ld1 (b := p) (cs := Enc.enc (StS.mk (some d.r))) (by first | exact .h0 | exact .h1 | exact .h2 | exact .h3 | exact .h4 | exact .h5 | exact .h6 | exact .h7 | exact .h8 | exact .h9 | exact .h10 | exact .h11 | exact .h12 | exact .h13 | exact .h14) (StS.at_of _)) ⟨rfl, rfl⟩)) ?_
      refine ML.look rfl rfl rfl (fun w hw => (by have hS := hS1.bel hw; exact opW.loadV rfl (hS.ldA (b := b4) (cs := Enc.enc k) (by first | exact .h0 | exact .h1 | exact .h2 | exact .h3 | exact .h4 | exact .h5 | exact .h6 | exact .h7 | exact .h8 | exact .h9 | exact .h10 | exact .h11 | exact .h12 | exact .h13 | exact .h14) (Enc.size_eq _)) ⟨rfl, rfl⟩)) ?_
      refine ML.put0 rfl rfl rfl (opW.delete (t := 94) (κ := Key) (ν := Account) (k := k) (vv := accV) (kvs := d.kvs) rfl hS (by first | exact .h0 | exact .h1 | exact .h2 | exact .h3 | exact .h4 | exact .h5 | exact .h6 | exact .h7 | exact .h8 | exact .h9 | exact .h10 | exact .h11 | exact .h12 | exact .h13 | exact .h14) rfl rfl ?_)
      intro w hS; replace hS := hS _ (by first | exact .h0 | exact .h1 | exact .h2 | exact .h3 | exact .h4 | exact .h5 | exact .h6 | exact .h7 | exact .h8 | exact .h9 | exact .h10 | exact .h11 | exact .h12 | exact .h13 | exact .h14)
      refine ML.nil ?_
      refine thenQ_n (hK6 _ _ ?_)
      refine WC.seq (fun K7 hK7 => ?_)
      refine WC.region ?_
      refine WL.op rfl (opW.assignI rfl ?_)
      refine WL.nil ?_
      refine thenQ_n (hK7 _ _ ?_)
      refine WC.ret ?_
      refine thenQ_r ?_
      refine bodyQ_ret (.tmpI rfl .nil) ?_
      have ha : a = az := of_decide_eq_true hr1
      have hd : d.put k a = ⟨d.r, adel k d.kvs⟩ := by unfold StD.put; rw [if_pos ha]
      rw [hd]
      exact ⟨rfl, St.stClose ⟨d.r, adel k d.kvs⟩ (((hS.pick (e := mapE d.r accV (adel k d.kvs)) (by first | exact .h0 | exact .h1 | exact .h2 | exact .h3 | exact .h4 | exact .h5 | exact .h6 | exact .h7 | exact .h8 | exact .h9 | exact .h10 | exact .h11 | exact .h12 | exact .h13 | exact .h14)).pick (e := blkE p (Enc.enc (StS.mk (some d.r))) 96) (by first | exact .h0 | exact .h1 | exact .h2 | exact .h3 | exact .h4 | exact .h5 | exact .h6 | exact .h7 | exact .h8 | exact .h9 | exact .h10 | exact .h11 | exact .h12 | exact .h13 | exact .h14)).sub (by repeat (first | with_reducible exact List.nil_sublist _ | with_reducible exact List.Sublist.refl _ | with_reducible refine List.Sublist.cons₂ _ ?_ | with_reducible refine List.Sublist.cons _ ?_)))⟩
    ·
      have hr1 := hc1
      try simp only [decide_eq_true_eq, decide_eq_false_iff_not, Bool.and_eq_true, Bool.or_eq_true, Bool.and_eq_false_iff, Bool.or_eq_false_iff, Bool.not_eq_true', Bool.not_eq_false', Int.not_lt, Int.not_le] at hc1
      refine WC.skip ?_
      refine thenQ_n (hK4 _ _ ?_)
      refine WC.seq (fun K8 hK8 => ?_)
      refine WC.draw 6 (.look 0 (.look 1 (.look 2 (.look 3 (.look 4 (.look 5 (.one 6 .nil))))))) (by kernel_rfl) (fun _ _ _ h => h) (fun w1 hw1 => ?_)
      replace hS := hS.bel hw1
      have hS1 := hS
      have hT := St.start w1
      refine ML.look rfl rfl rfl (fun w hw => (by have hS := hS1.bel hw; exact opW.moveV (v := .pointer (some ⟨p, 0, none⟩)) rfl ⟨rfl, rfl⟩)) ?_
      refine ML.look rfl rfl rfl (fun w hw => (by have hS := hS1.bel hw; exact opW.nilCheckB rfl ⟨rfl, rfl⟩)) ?_
      refine ML.look rfl rfl rfl (fun w hw => (by have hS := hS1.bel hw; exact opW.fieldAddrB rfl ⟨rfl, rfl⟩)) ?_
      refine ML.look rfl rfl rfl (fun w hw => (by have hS := hS1.bel hw; exact opW.loadV rfl (hS.ld1 (b := p) (cs := Enc.enc (StS.mk (some d.r))) (by first | exact .h0 | exact .h1 | exact .h2 | exact .h3 | exact .h4 | exact .h5 | exact .h6 | exact .h7 | exact .h8 | exact .h9 | exact .h10 | exact .h11 | exact .h12 | exact .h13 | exact .h14) (StS.at_of _)) ⟨rfl, rfl⟩)) ?_
      refine ML.look rfl rfl rfl (fun w hw => (by have hS := hS1.bel hw; exact opW.loadV rfl (hS.ldA (b := b4) (cs := Enc.enc k) (by first | exact .h0 | exact .h1 | exact .h2 | exact .h3 | exact .h4 | exact .h5 | exact .h6 | exact .h7 | exact .h8 | exact .h9 | exact .h10 | exact .h11 | exact .h12 | exact .h13 | exact .h14) (Enc.size_eq _)) ⟨rfl, rfl⟩)) ?_
      refine ML.look rfl rfl rfl (fun w hw => (by have hS := hS1.bel hw; exact opW.loadV rfl (hS.ldA (b := b5) (cs := Enc.enc a) (by first | exact .h0 | exact .h1 | exact .h2 | exact .h3 | exact .h4 | exact .h5 | exact .h6 | exact .h7 | exact .h8 | exact .h9 | exact .h10 | exact .h11 | exact .h12 | exact .h13 | exact .h14) (Enc.size_eq _)) ⟨rfl, rfl⟩)) ?_
      refine ML.put0 rfl rfl rfl (opW.mapUpdate (κ := Key) (ν := Account) (k := k) (v := a) (vv := accV) (kvs := d.kvs) hS (by first | exact .h0 | exact .h1 | exact .h2 | exact .h3 | exact .h4 | exact .h5 | exact .h6 | exact .h7 | exact .h8 | exact .h9 | exact .h10 | exact .h11 | exact .h12 | exact .h13 | exact .h14) rfl rfl rfl ?_)
      intro w hS; replace hS := hS _ (by first | exact .h0 | exact .h1 | exact .h2 | exact .h3 | exact .h4 | exact .h5 | exact .h6 | exact .h7 | exact .h8 | exact .h9 | exact .h10 | exact .h11 | exact .h12 | exact .h13 | exact .h14)
      refine ML.nil ?_
      refine thenQ_n (hK8 _ _ ?_)
      refine WC.seq (fun K9 hK9 => ?_)
      refine WC.region ?_
      refine WL.op rfl (opW.assignI rfl ?_)
      refine WL.nil ?_
      refine thenQ_n (hK9 _ _ ?_)
      refine WC.ret ?_
      refine bodyQ_ret (.tmpI rfl .nil) ?_
      have ha : a ≠ az := of_decide_eq_false hr1
      have hd : d.put k a = ⟨d.r, aput k a d.kvs⟩ := by unfold StD.put; rw [if_neg ha]
      rw [hd]
      exact ⟨rfl, St.stClose ⟨d.r, aput k a d.kvs⟩ (((hS.pick (e := mapE d.r accV (aput k a d.kvs)) (by first | exact .h0 | exact .h1 | exact .h2 | exact .h3 | exact .h4 | exact .h5 | exact .h6 | exact .h7 | exact .h8 | exact .h9 | exact .h10 | exact .h11 | exact .h12 | exact .h13 | exact .h14)).pick (e := blkE p (Enc.enc (StS.mk (some d.r))) 96) (by first | exact .h0 | exact .h1 | exact .h2 | exact .h3 | exact .h4 | exact .h5 | exact .h6 | exact .h7 | exact .h8 | exact .h9 | exact .h10 | exact .h11 | exact .h12 | exact .h13 | exact .h14)).sub (by repeat (first | with_reducible exact List.nil_sublist _ | with_reducible exact List.Sublist.refl _ | with_reducible refine List.Sublist.cons₂ _ ?_ | with_reducible refine List.Sublist.cons _ ?_)))⟩

theorem there15 (wb w0 : World) (S : List Ent) (p : Nat) (d : StD) (hok : StOk d) (hS0 : St wb (stE p d :: S) w0) : Ret Tryd.prog 19 #[.pointer (some ⟨p, 0, none⟩)] w0 (fun u w' => u = .bool true ∧ ∃ d', (∀ k, d'.get k = d.get k) ∧ StOk d' ∧ St wb (stE p d' :: S) w') := by
  refine Ret.enter (args := [.pointer (some ⟨p, 0, none⟩)]) Tryd.func19 rfl Tryd.ntmps19 Tryd.results19 rfl ?_
  have hS := St.start w0
  replace hS := hS0
  refine WC.seq (fun K1 hK1 => ?_)
  refine WC.region ?_
  refine WL.op rfl (opW.assignB rfl ?_)
  refine WL.nil ?_
  refine thenQ_n (hK1 _ _ ?_)
  refine WC.seq (fun K2 hK2 => ?_)
  refine WC.region ?_
  refine WL.op rfl (opW.call (sys_ok _) rfl ?_)
  rintro _ w ⟨rfl, hw⟩; replace hS := hS.bel hw
  refine WL.op rfl (opW.allocA hS ?_)
  intro b3 w _ hS
  refine WL.op0 (opW.storeE hS rfl rfl (by first | exact .h0 | exact .h1 | exact .h2 | exact .h3 | exact .h4 | exact .h5 | exact .h6 | exact .h7 | exact .h8 | exact .h9 | exact .h10 | exact .h11 | exact .h12 | exact .h13 | exact .h14) (by first | rfl | exact Enc.size_eq _) ?_)
  intro w hS; replace hS := hS _ (by first | exact .h0 | exact .h1 | exact .h2 | exact .h3 | exact .h4 | exact .h5 | exact .h6 | exact .h7 | exact .h8 | exact .h9 | exact .h10 | exact .h11 | exact .h12 | exact .h13 | exact .h14)
  refine WL.nil ?_
  refine thenQ_n (hK2 _ _ ?_)
  refine WC.seq (fun K3 hK3 => ?_)
  refine WC.draw 5 (.look 0 (.look 1 (.look 2 (.look 3 (.one 4 (.one 5 (.one 6 (.one 7 .nil)))))))) (by kernel_rfl) (fun _ _ _ h => h) (fun w1 hw1 => ?_)
  replace hS := hS.bel hw1
  have hS1 := hS
  have hT := St.start w1
  refine ML.look rfl rfl rfl (fun w hw => (by have hS := hS1.bel hw; exact opW.moveV (v := .pointer (some ⟨p, 0, none⟩)) rfl ⟨rfl, rfl⟩)) ?_
  refine ML.look rfl rfl rfl (fun w hw => (by have hS := hS1.bel hw; exact opW.loadV rfl (hS.ldA (b := b3) (cs := Enc.enc sysK) (by first | exact .h0 | exact .h1 | exact .h2 | exact .h3 | exact .h4 | exact .h5 | exact .h6 | exact .h7 | exact .h8 | exact .h9 | exact .h10 | exact .h11 | exact .h12 | exact .h13 | exact .h14) (Enc.size_eq _)) ⟨rfl, rfl⟩)) ?_
  refine ML.look rfl rfl rfl (fun w hw => (by have hS := hS1.bel hw; exact opW.moveV (v := .pointer (some ⟨p, 0, none⟩)) rfl ⟨rfl, rfl⟩)) ?_
  refine ML.look rfl rfl rfl (fun w hw => (by have hS := hS1.bel hw; exact opW.loadV rfl (hS.ldA (b := b3) (cs := Enc.enc sysK) (by first | exact .h0 | exact .h1 | exact .h2 | exact .h3 | exact .h4 | exact .h5 | exact .h6 | exact .h7 | exact .h8 | exact .h9 | exact .h10 | exact .h11 | exact .h12 | exact .h13 | exact .h14) (Enc.size_eq _)) ⟨rfl, rfl⟩)) ?_
  refine ML.one rfl rfl rfl (opW.call (get13 _ p d sysK (hS.stAt (by first | exact .h0 | exact .h1 | exact .h2 | exact .h3 | exact .h4 | exact .h5 | exact .h6 | exact .h7 | exact .h8 | exact .h9 | exact .h10 | exact .h11 | exact .h12 | exact .h13 | exact .h14))) rfl ?_)
  rintro _ w ⟨rfl, hw⟩; replace hT := hT.bel hw
  refine ⟨hT.old, ?_⟩
  have hS := hS1.merge hT
  try simp only [List.cons_append, List.nil_append] at hS
  refine ML.put1 rfl rfl rfl rfl (opW.call (put13 wb _ _ p d sysK (d.get sysK) (hS.pick (e := stE p d) (by first | exact .h0 | exact .h1 | exact .h2 | exact .h3 | exact .h4 | exact .h5 | exact .h6 | exact .h7 | exact .h8 | exact .h9 | exact .h10 | exact .h11 | exact .h12 | exact .h13 | exact .h14))) rfl ?_)
  rintro _ w ⟨rfl, hS⟩
  refine ML.put1 rfl rfl rfl rfl (opW.eql rfl rfl ?_)
  refine ML.put1 rfl rfl rfl rfl (opW.assignB rfl ?_)
  refine ML.nil ?_
  refine thenQ_n (hK3 _ _ ?_)
  refine WC.ret ?_
  refine bodyQ_ret (.tmpB rfl .nil) ?_
  refine ⟨rfl, d.put sysK (d.get sysK), fun k => StD.put_get hok sysK k, hok.put _ _, hS.sub (by repeat (first | with_reducible exact List.nil_sublist _ | with_reducible exact List.Sublist.refl _ | with_reducible refine List.Sublist.cons₂ _ ?_ | with_reducible refine List.Sublist.cons _ ?_))⟩

end Go.Fer
