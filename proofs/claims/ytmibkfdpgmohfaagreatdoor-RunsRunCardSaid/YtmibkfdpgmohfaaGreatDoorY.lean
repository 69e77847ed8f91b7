/- transactions that can be run, twins -/
import Derived.Test.YtmibkfdpgmohfaaGreatDoorU
import Derived.Test.YtmibkfdpgmohfaaGreatDoorL6
set_option linter.all false
namespace Go.Fer
open Go Go.Proofs Go.RowKit

/-- what a transaction that can be run holds, with what its lists of structs hold -/
structure IsR (w : World) (R : Ready) (bs : List UInt8) (x : TC) (ins : List Instr) (lks : List Lookup) (r : List Role) : Prop where
 b : SlR w R.bytes.v bs
 t : IsT w R.tx x ins lks
 ro : SlR w R.roles.v r
theorem IsR.bel {w w' : World} {R : Ready} {bs : List UInt8} {x : TC} {ins : List Instr} {lks : List Lookup} {r : List Role} (h : IsR w R bs x ins lks r) (hb : Bel w w') : IsR w' R bs x ins lks r := ⟨h.b.bel hb, h.t.bel hb, h.ro.bel hb⟩
theorem RIs.isR {w : World} {R : Ready} {bs : List UInt8} {sg : List (Vector UInt8 64)} {ks : List Key} {ins : List Instr} {lks : List Lookup} {r : List Role} (h : RIs w R bs sg ks ins lks r) : ∃ ci cl, IsR w R bs ⟨sg, ⟨R.tx.m.v0, R.tx.m.header, ks, R.tx.m.recent, ci, cl⟩⟩ ins lks r := by
 obtain ⟨ci, hi⟩ := isIs_of h.oi
 obtain ⟨cl, hl⟩ := isLs_of h.ol
 exact ⟨ci, cl, h.fb, ⟨h.fs, ⟨rfl, rfl, rfl, h.fk, h.fi, hi, h.fl, hl⟩⟩, h.fr⟩
theorem insN_eq {w : World} {ins : List Instr} {c : List (UInt8 × List UInt8 × List UInt8)} (h : IsIs w ins c) : insN ins = sumB c := by
 have hk : ∀ k, k ≤ ins.length → insN (ins.take k) = sumB (c.take k) := by
  intro k
  induction k with
  | zero => intro _; rfl
  | succ k ih =>
   intro hk
   have h2 : k < c.length := by rw [← h.1]; omega
   obtain ⟨_, h3, h4⟩ := h.2 k (by omega) h2
   rw [insN_step (by omega), sumB_step h2, ih (by omega), lenV_eq h3, lenV_eq h4]
 have := hk ins.length (Nat.le_refl _)
 rwa [List.take_length, h.1, List.take_length] at this
theorem lksN_eq {w : World} {ins : List Lookup} {c : List (Vector UInt8 32 × List UInt8 × List UInt8)} (h : IsLs w ins c) : lksN ins = sumB c := by
 have hk : ∀ k, k ≤ ins.length → lksN (ins.take k) = sumB (c.take k) := by
  intro k
  induction k with
  | zero => intro _; rfl
  | succ k ih =>
   intro hk
   have h2 : k < c.length := by rw [← h.1]; omega
   obtain ⟨_, h3, h4⟩ := h.2 k (by omega) h2
   rw [lksN_step (by omega), sumB_step h2, ih (by omega), lenV_eq h3, lenV_eq h4]
 have := hk ins.length (Nat.le_refl _)
 rwa [List.take_length, h.1, List.take_length] at this
def piL (x : TC) : List PI := x.m.ins.map fun c => ⟨c.1, c.2.1, c.2.2⟩
theorem piL_in {w : World} {ins : List Instr} {x : TC} (h : IsIs w ins x.m.ins) : ins.length = (piL x).length ∧ ∀ k (h1 : k < ins.length) (h2 : k < (piL x).length), InIs w ins[k] (piL x)[k] := by
 refine ⟨by unfold piL; rw [List.length_map]; exact h.1, fun k h1 h2 => ?_⟩
 have h3 : k < x.m.ins.length := by rw [← h.1]; exact h1
 have := h.2 k h1 h3
 have e : (piL x)[k] = ⟨x.m.ins[k].1, x.m.ins[k].2.1, x.m.ins[k].2.2⟩ := by simp [piL]
 rw [e]
 exact this

theorem sameReady_ok (w0 : World) (A B : Ready) (bs : List UInt8) (x : TC) (insA insB : List Instr) (lksA lksB : List Lookup) (r : List Role) (hA : IsR w0 A bs x insA lksA r) (hB : IsR w0 B bs x insB lksB r) (hbu : A.budget = B.budget) (hf : A.fee = B.fee) (hc : A.cost = B.cost) (hp : A.priority = B.priority) : Ret Tryz.prog 35 #[.agg (Enc.enc A), .agg (Enc.enc B)] w0 (fun u w' => u = .bool true ∧ Bel w0 w') := by
 refine Ret.enter (args := [.agg (Enc.enc A), .agg (Enc.enc B)]) Tryz.func35 rfl Tryz.ntmps35 Tryz.results35 rfl ?_
 have hS := St.start w0
 refine WC.seq (fun K1 hK1 => ?_)
 refine WC.region ?_
 refine WL.op rfl (opW.boxA hS rfl ?_)
 intro b2 w _ hS
 refine WL.op rfl (opW.boxA hS rfl ?_)
 intro b3 w _ hS
 refine WL.op rfl (opW.assignB rfl ?_)
 refine WL.nil ?_
 refine thenQ_n (hK1 _ _ ?_)
 refine WC.seq (fun K2 hK2 => ?_)
 refine WC.region ?_
 refine WL.op rfl (opW.fieldAddrB rfl ?_)
 refine WL.op rfl (opW.loadV rfl (hS.ld1 (b := b2) (cs := Enc.enc A) (by repeat constructor) (Ready.at_bytes A)) ?_)
 refine WL.op rfl (opW.fieldAddrB rfl ?_)
 refine WL.op rfl (opW.loadV rfl (hS.ld1 (b := b3) (cs := Enc.enc B) (by repeat constructor) (Ready.at_bytes B)) ?_)
 refine WL.op rfl (opW.call (same_b _ _ _ bs bs (hA.b.bel hS.old) (hB.b.bel hS.old)) rfl ?_)
 rintro _ w ⟨rfl, hw⟩; replace hS := hS.bel hw
 rw [decide_eq_true (rfl : bs = bs)]
 refine WL.op rfl (opW.moveB rfl ?_)
 refine WL.gT 10 rfl rfl rfl (WL.op rfl (opW.fieldAddrB rfl ?_))
 refine WL.gT 10 rfl rfl rfl (WL.op rfl (opW.loadV rfl (hS.ldF (b := b2) (cs := Enc.enc A) (by repeat constructor) (Ready.ex_tx A) (by rw [Enc.size_eq]; decide)) ?_))
 refine WL.gT 10 rfl rfl rfl (WL.op rfl (opW.fieldAddrB rfl ?_))
 refine WL.gT 10 rfl rfl rfl (WL.op rfl (opW.loadV rfl (hS.ldF (b := b3) (cs := Enc.enc B) (by repeat constructor) (Ready.ex_tx B) (by rw [Enc.size_eq]; decide)) ?_))
 refine WL.gT 10 rfl rfl rfl (WL.op rfl (opW.call (sameTx_ok _ A.tx B.tx x x insA insB lksA lksB (hA.t.bel hS.old) (hB.t.bel hS.old)) rfl ?_))
 rintro _ w ⟨rfl, hw⟩; replace hS := hS.bel hw
 rw [decide_eq_true (rfl : x = x)]
 refine WL.op rfl (opW.pickT rfl rfl ?_)
 refine WL.op rfl (opW.moveB rfl ?_)
 refine WL.gT 17 rfl rfl rfl (WL.op rfl (opW.fieldAddrB rfl ?_))
 refine WL.gT 17 rfl rfl rfl (WL.op rfl (opW.loadV rfl (hS.ld1 (b := b2) (cs := Enc.enc A) (by repeat constructor) (Ready.at_roles A)) ?_))
 refine WL.gT 17 rfl rfl rfl (WL.op rfl (opW.fieldAddrB rfl ?_))
 refine WL.gT 17 rfl rfl rfl (WL.op rfl (opW.loadV rfl (hS.ld1 (b := b3) (cs := Enc.enc B) (by repeat constructor) (Ready.at_roles B)) ?_))
 refine WL.gT 17 rfl rfl rfl (WL.op rfl (opW.call (same_r _ _ _ r r (hA.ro.bel hS.old) (hB.ro.bel hS.old)) rfl ?_))
 rintro _ w ⟨rfl, hw⟩; replace hS := hS.bel hw
 rw [decide_eq_true (rfl : r = r)]
 refine WL.op rfl (opW.pickT rfl rfl ?_)
 refine WL.op rfl (opW.moveB rfl ?_)
 refine WL.gT 24 rfl rfl rfl (WL.op rfl (opW.fieldAddrB rfl ?_))
 refine WL.gT 24 rfl rfl rfl (WL.op rfl (opW.loadV rfl (hS.ldF (b := b2) (cs := Enc.enc A) (by repeat constructor) (Ready.ex_budget A) (by rw [Enc.size_eq]; decide)) ?_))
 refine WL.gT 24 rfl rfl rfl (WL.op rfl (opW.fieldAddrB rfl ?_))
 refine WL.gT 24 rfl rfl rfl (WL.op rfl (opW.loadV rfl (hS.ldF (b := b3) (cs := Enc.enc B) (by repeat constructor) (Ready.ex_budget B) (by rw [Enc.size_eq]; decide)) ?_))
 refine WL.gT 24 rfl rfl rfl (WL.op rfl (opW.boolT (by rw [hbu]; exact decide_eq_true rfl) (opW.eqlE rfl rfl ⟨rfl, rfl⟩) ?_))
 refine WL.op rfl (opW.pickT rfl rfl ?_)
 refine WL.op rfl (opW.moveB rfl ?_)
 refine WL.gT 31 rfl rfl rfl (WL.op rfl (opW.fieldAddrB rfl ?_))
 refine WL.gT 31 rfl rfl rfl (WL.op rfl (opW.loadV rfl (hS.ld1 (b := b2) (cs := Enc.enc A) (by repeat constructor) (Ready.at_fee A)) ?_))
 refine WL.gT 31 rfl rfl rfl (WL.op rfl (opW.fieldAddrB rfl ?_))
 refine WL.gT 31 rfl rfl rfl (WL.op rfl (opW.loadV rfl (hS.ld1 (b := b3) (cs := Enc.enc B) (by repeat constructor) (Ready.at_fee B)) ?_))
 refine WL.gT 31 rfl rfl rfl (WL.op rfl (opW.boolT (by rw [hf]; exact decide_eq_true rfl) (opW.eql rfl rfl ⟨rfl, rfl⟩) ?_))
 refine WL.op rfl (opW.pickT rfl rfl ?_)
 refine WL.op rfl (opW.moveB rfl ?_)
 refine WL.gT 38 rfl rfl rfl (WL.op rfl (opW.fieldAddrB rfl ?_))
 refine WL.gT 38 rfl rfl rfl (WL.op rfl (opW.loadV rfl (hS.ld1 (b := b2) (cs := Enc.enc A) (by repeat constructor) (Ready.at_cost A)) ?_))
 refine WL.gT 38 rfl rfl rfl (WL.op rfl (opW.fieldAddrB rfl ?_))
 refine WL.gT 38 rfl rfl rfl (WL.op rfl (opW.loadV rfl (hS.ld1 (b := b3) (cs := Enc.enc B) (by repeat constructor) (Ready.at_cost B)) ?_))
 refine WL.gT 38 rfl rfl rfl (WL.op rfl (opW.boolT (by rw [hc]; exact decide_eq_true rfl) (opW.eql rfl rfl ⟨rfl, rfl⟩) ?_))
 refine WL.op rfl (opW.pickT rfl rfl ?_)
 refine WL.op rfl (opW.moveB rfl ?_)
 refine WL.gT 45 rfl rfl rfl (WL.op rfl (opW.fieldAddrB rfl ?_))
 refine WL.gT 45 rfl rfl rfl (WL.op rfl (opW.loadV rfl (hS.ld1 (b := b2) (cs := Enc.enc A) (by repeat constructor) (Ready.at_priority A)) ?_))
 refine WL.gT 45 rfl rfl rfl (WL.op rfl (opW.fieldAddrB rfl ?_))
 refine WL.gT 45 rfl rfl rfl (WL.op rfl (opW.loadV rfl (hS.ld1 (b := b3) (cs := Enc.enc B) (by repeat constructor) (Ready.at_priority B)) ?_))
 refine WL.gT 45 rfl rfl rfl (WL.op rfl (opW.boolT (by rw [hp]; exact decide_eq_true rfl) (opW.eql rfl rfl ⟨rfl, rfl⟩) ?_))
 refine WL.op rfl (opW.pickT rfl rfl ?_)
 refine WL.op rfl (opW.assignB rfl ?_)
 refine WL.nil ?_
 refine thenQ_n (hK2 _ _ ?_)
 refine WC.ret ?_
 refine bodyQ_ret (.tmpB rfl .nil) ?_
 exact ⟨rfl, hS.old⟩

set_option maxRecDepth 20000 in
set_option maxHeartbeats 1000000 in
theorem twinReady_ok (w0 : World) (R : Ready) (bs : List UInt8) (x : TC) (ins : List Instr) (lks : List Lookup) (r : List Role) (hR : IsR w0 R bs x ins lks r) (hbl : bs.length ≤ 10000) (hsl : x.sigs.length ≤ 10000) (hsz : x.m.size < 20000) (hrl : r.length ≤ 300) : Ret Tryz.prog 6 #[.agg (Enc.enc R)] w0 (fun u w' => ∃ (bf : Value) (bc : SlV) (rf : Value) (rc : SlV) (sf : Value) (sc : SlV) (kf : Value) (kc iv lv : SlV) (li ll : List (BT × BT)), u = .agg (Enc.enc (⟨bc, (⟨sc, (⟨R.tx.m.v0, R.tx.m.header, kc, R.tx.m.recent, iv, lv⟩ : Message)⟩ : Tx), rc, R.budget, R.fee, R.cost, R.priority⟩ : Ready)) ∧ (bc.v = cutV bf 0 bs.length (bs.length + 3) (Enc.sz UInt8) ∧ capV bf = bs.length + 3) ∧ (rc.v = cutV rf 0 r.length (r.length + 3) (Enc.sz Role) ∧ capV rf = r.length + 3) ∧ (sc.v = cutV sf 0 x.sigs.length (x.sigs.length + 3) (Enc.sz (Vector UInt8 64)) ∧ capV sf = x.sigs.length + 3 ∧ kc.v = cutV kf 0 x.m.keys.length (x.m.keys.length + 3) (Enc.sz (Vector UInt8 32)) ∧ capV kf = x.m.keys.length + 3 ∧ Tws li x.m.ins ∧ Tws ll x.m.lks) ∧ St w0 [ownE rf 91 (r ++ [markR, markR, markR]), tpE ll, ownE lv.v 64 (List.zipWith tL lks ll), tpE li, ownE iv.v 61 (List.zipWith tI ins li), ownE kf 62 (x.m.keys ++ [markK, markK, markK]), ownE sf 115 (x.sigs ++ [markS, markS, markS]), ownE bf 5 (bs ++ [165, 165, 165])] w') := by
 refine Ret.enter (args := [.agg (Enc.enc R)]) Tryz.func6 rfl Tryz.ntmps6 Tryz.results6 rfl ?_
 have hS := St.start w0
 refine WC.seq (fun K1 hK1 => ?_)
 refine WC.region ?_
 refine WL.op rfl (opW.boxA hS rfl ?_)
 intro b1 w _ hS
 refine WL.op rfl (opW.allocA hS ?_)
 intro b2 w _ hS
 refine WL.nil ?_
 refine thenQ_n (hK1 _ _ ?_)
 refine WC.seq (fun K2 hK2 => ?_)
 refine WC.region ?_
 refine WL.op rfl (opW.loadV rfl (hS.ldA (b := b1) (cs := Enc.enc R) (by repeat constructor) (Enc.size_eq R)) ?_)
 refine WL.op rfl (opW.allocA hS ?_)
 intro b3 w _ hS
 refine WL.op0 (opW.storeE hS rfl rfl (by repeat constructor) (by first | rfl | exact Enc.size_eq _) ?_)
 intro w hS; replace hS := hS _ (by repeat constructor)
 refine WL.nil ?_
 refine thenQ_n (hK2 _ _ ?_)
 refine WC.seq (fun K3 hK3 => ?_)
 refine WC.region ?_
 refine WL.op rfl (opW.fieldAddrB rfl ?_)
 refine WL.op rfl (opW.loadV rfl (hS.ld1 (b := b1) (cs := Enc.enc R) (by repeat constructor) (Ready.at_bytes R)) ?_)
 refine WL.op rfl (opW.call (twinBytes_ok _ R.bytes.v bs (hR.b.bel hS.old) (by omega)) rfl ?_)
 rintro v7 w ⟨bf, hv7, hcb, hn7, hw⟩; replace hS := hS.newOwn hw hn7.1 hn7.2
 obtain ⟨bc, rfl⟩ : ∃ s : SlV, v7 = s.v := (by rw [hv7]; exact (SlR.head (hS.sl (v := bf) (xs := bs ++ [165, 165, 165]) (by repeat constructor)) (by omega) (by omega)).asV)
 refine WL.op rfl (opW.fieldAddrB rfl ?_)
 refine WL.op0 (opW.storeF (b := b3) (o := 0) (v := bc.v) (sz := 1) (cs := Enc.enc R) (cs' := Enc.enc (⟨bc, R.tx, R.roles, R.budget, R.fee, R.cost, R.priority⟩ : Ready)) hS rfl rfl (by repeat constructor) rfl (by rw [Enc.size_eq]; decide) (Enc.one (α := SlV) bc) (Ready.set_bytes R bc) ?_)
 intro w hS; replace hS := hS _ (by repeat constructor)
 refine WL.nil ?_
 refine thenQ_n (hK3 _ _ ?_)
 refine WC.seq (fun K4 hK4 => ?_)
 refine WC.region ?_
 refine WL.op rfl (opW.fieldAddrB rfl ?_)
 refine WL.op rfl (opW.loadV rfl (hS.ldF (b := b1) (cs := Enc.enc R) (by repeat constructor) (Ready.ex_tx R) (by rw [Enc.size_eq]; decide)) ?_)
 refine WL.op rfl (opW.call (twinTx_ok _ R.tx x ins lks (hR.t.bel hS.old) (by omega) hsz) rfl ?_)
 rintro u11 w ⟨sf, sc, kf, kc, iv, lv, li, ll, hu11, hv6, hcf0, huk, hcf, htw, htl, hTw⟩; replace hS := hS.merge hTw; simp only [List.cons_append, List.nil_append] at hS
 obtain ⟨tw, hTe⟩ : ∃ t : Tx, t = (⟨sc, (⟨R.tx.m.v0, R.tx.m.header, kc, R.tx.m.recent, iv, lv⟩ : Message)⟩ : Tx) := ⟨_, rfl⟩
 rw [← hTe] at hu11
 subst hu11
 refine WL.op rfl (opW.fieldAddrB rfl ?_)
 refine WL.op0 (opW.storeF (b := b3) (o := 1) (v := .agg (Enc.enc tw)) (sz := 40) (cs := Enc.enc (⟨bc, R.tx, R.roles, R.budget, R.fee, R.cost, R.priority⟩ : Ready)) (cs' := Enc.enc (⟨bc, tw, R.roles, R.budget, R.fee, R.cost, R.priority⟩ : Ready)) hS rfl rfl (by repeat constructor) (Enc.size_eq tw) (by rw [Enc.size_eq]; decide) (by simp only [Value.cells]; exact Enc.one tw) (by simp only [Value.cells]; exact Ready.set_tx (⟨bc, R.tx, R.roles, R.budget, R.fee, R.cost, R.priority⟩ : Ready) tw) ?_)
 intro w hS; replace hS := hS _ (by repeat constructor)
 refine WL.nil ?_
 refine thenQ_n (hK4 _ _ ?_)
 refine WC.seq (fun K5 hK5 => ?_)
 refine WC.region ?_
 refine WL.op rfl (opW.fieldAddrB rfl ?_)
 refine WL.op rfl (opW.loadV rfl (hS.ld1 (b := b1) (cs := Enc.enc R) (by repeat constructor) (Ready.at_roles R)) ?_)
 refine WL.op rfl (opW.call (twinRoles_ok _ R.roles.v r (hR.ro.bel hS.old) (by omega)) rfl ?_)
 rintro v15 w ⟨rf, hv15, hcr, hn15, hw⟩; replace hS := hS.newOwn hw hn15.1 hn15.2
 obtain ⟨rc, rfl⟩ : ∃ s : SlV, v15 = s.v := (by rw [hv15]; exact (SlR.head (hS.sl (v := rf) (xs := r ++ [markR, markR, markR]) (by repeat constructor)) (by omega) (by omega)).asV)
 refine WL.op rfl (opW.fieldAddrB rfl ?_)
 refine WL.op0 (opW.storeF (b := b3) (o := 41) (v := rc.v) (sz := 1) (cs := Enc.enc (⟨bc, tw, R.roles, R.budget, R.fee, R.cost, R.priority⟩ : Ready)) (cs' := Enc.enc (⟨bc, tw, rc, R.budget, R.fee, R.cost, R.priority⟩ : Ready)) hS rfl rfl (by repeat constructor) rfl (by rw [Enc.size_eq]; decide) (Enc.one (α := SlV) rc) (Ready.set_roles (⟨bc, tw, R.roles, R.budget, R.fee, R.cost, R.priority⟩ : Ready) rc) ?_)
 intro w hS; replace hS := hS _ (by repeat constructor)
 refine WL.nil ?_
 refine thenQ_n (hK5 _ _ ?_)
 refine WC.seq (fun K6 hK6 => ?_)
 refine WC.region ?_
 refine WL.op rfl (opW.loadV rfl (hS.ldA (b := b3) (cs := Enc.enc (⟨bc, tw, rc, R.budget, R.fee, R.cost, R.priority⟩ : Ready)) (by repeat constructor) (Enc.size_eq (⟨bc, tw, rc, R.budget, R.fee, R.cost, R.priority⟩ : Ready))) ?_)
 refine WL.op0 (opW.storeE hS rfl rfl (by repeat constructor) (by first | rfl | exact Enc.size_eq _) ?_)
 intro w hS; replace hS := hS _ (by repeat constructor)
 refine WL.nil ?_
 refine thenQ_n (hK6 _ _ ?_)
 refine WC.ret ?_
 refine bodyQ_ret (.cell (hS.ldA (b := b2) (cs := Enc.enc (⟨bc, tw, rc, R.budget, R.fee, R.cost, R.priority⟩ : Ready)) (by repeat constructor) (Enc.size_eq (⟨bc, tw, rc, R.budget, R.fee, R.cost, R.priority⟩ : Ready))) .nil) ?_
 subst hTe
 exact ⟨bf, bc, rf, rc, sf, sc, kf, kc, iv, lv, li, ll, rfl, ⟨hv7, hcb⟩, ⟨hv15, hcr⟩, ⟨hv6, hcf0, huk, hcf, htw, htl⟩, hS.sub (by repeat with_reducible first | exact su1 _ | exact su2 _ | refine su3 ?_ | refine su4 ?_)⟩

theorem leftReady_ok (w0 : World) (R : Ready) (bs : List UInt8) (x : TC) (ins : List Instr) (lks : List Lookup) (r : List Role) (bf rf sf kf : Value) (bc rc sc kc iv lv : SlV) (li ll : List (BT × BT)) (hR : IsR w0 R bs x ins lks r) (hT : IsR w0 (⟨bc, (⟨sc, (⟨R.tx.m.v0, R.tx.m.header, kc, R.tx.m.recent, iv, lv⟩ : Message)⟩ : Tx), rc, R.budget, R.fee, R.cost, R.priority⟩ : Ready) bs x (List.zipWith tI ins li) (List.zipWith tL lks ll) r) (hb : bc.v = cutV bf 0 bs.length (bs.length + 3) (Enc.sz UInt8) ∧ capV bf = bs.length + 3) (hr : rc.v = cutV rf 0 r.length (r.length + 3) (Enc.sz Role) ∧ capV rf = r.length + 3) (hs : sc.v = cutV sf 0 x.sigs.length (x.sigs.length + 3) (Enc.sz (Vector UInt8 64)) ∧ capV sf = x.sigs.length + 3) (hb3 : SlR w0 bf (bs ++ [165, 165, 165])) (hr3 : SlR w0 rf (r ++ [markR, markR, markR])) (hs3 : SlR w0 sf (x.sigs ++ [markS, markS, markS])) (hm : TwR w0 R.tx.m x.m ins lks kf kc iv lv li ll) : Ret Tryz.prog 11 #[.agg (Enc.enc (⟨bc, (⟨sc, (⟨R.tx.m.v0, R.tx.m.header, kc, R.tx.m.recent, iv, lv⟩ : Message)⟩ : Tx), rc, R.budget, R.fee, R.cost, R.priority⟩ : Ready)), .agg (Enc.enc R)] w0 (fun u w' => u = .bool true ∧ Bel w0 w') := by
 refine Ret.enter (args := [.agg (Enc.enc (⟨bc, (⟨sc, (⟨R.tx.m.v0, R.tx.m.header, kc, R.tx.m.recent, iv, lv⟩ : Message)⟩ : Tx), rc, R.budget, R.fee, R.cost, R.priority⟩ : Ready)), .agg (Enc.enc R)]) Tryz.func11 rfl Tryz.ntmps11 Tryz.results11 rfl ?_
 have hS := St.start w0
 refine WC.seq (fun K1 hK1 => ?_)
 refine WC.region ?_
 refine WL.op rfl (opW.boxA hS rfl ?_)
 intro b2 w _ hS
 refine WL.op rfl (opW.boxA hS rfl ?_)
 intro b3 w _ hS
 refine WL.op rfl (opW.assignB rfl ?_)
 refine WL.nil ?_
 refine thenQ_n (hK1 _ _ ?_)
 refine WC.seq (fun K2 hK2 => ?_)
 refine WC.region ?_
 refine WL.op rfl (opW.loadV rfl (hS.ldA (b := b2) (cs := Enc.enc (⟨bc, (⟨sc, (⟨R.tx.m.v0, R.tx.m.header, kc, R.tx.m.recent, iv, lv⟩ : Message)⟩ : Tx), rc, R.budget, R.fee, R.cost, R.priority⟩ : Ready)) (by repeat constructor) (Enc.size_eq (⟨bc, (⟨sc, (⟨R.tx.m.v0, R.tx.m.header, kc, R.tx.m.recent, iv, lv⟩ : Message)⟩ : Tx), rc, R.budget, R.fee, R.cost, R.priority⟩ : Ready))) ?_)
 refine WL.op rfl (opW.loadV rfl (hS.ldA (b := b3) (cs := Enc.enc R) (by repeat constructor) (Enc.size_eq R)) ?_)
 refine WL.op rfl (opW.call (sameReady_ok _ (⟨bc, (⟨sc, (⟨R.tx.m.v0, R.tx.m.header, kc, R.tx.m.recent, iv, lv⟩ : Message)⟩ : Tx), rc, R.budget, R.fee, R.cost, R.priority⟩ : Ready) R bs x (List.zipWith tI ins li) ins (List.zipWith tL lks ll) lks r (hT.bel hS.old) (hR.bel hS.old) rfl rfl rfl rfl) rfl ?_)
 rintro _ w ⟨rfl, hw⟩; replace hS := hS.bel hw
 refine WL.op rfl (opW.moveB rfl ?_)
 refine WL.gT 8 rfl rfl rfl (WL.op rfl (opW.fieldAddrB rfl ?_))
 refine WL.gT 8 rfl rfl rfl (WL.op rfl (opW.loadV rfl (hS.ld1 (b := b2) (cs := Enc.enc (⟨bc, (⟨sc, (⟨R.tx.m.v0, R.tx.m.header, kc, R.tx.m.recent, iv, lv⟩ : Message)⟩ : Tx), rc, R.budget, R.fee, R.cost, R.priority⟩ : Ready)) (by repeat constructor) ((Ready.at_bytes (⟨bc, (⟨sc, (⟨R.tx.m.v0, R.tx.m.header, kc, R.tx.m.recent, iv, lv⟩ : Message)⟩ : Tx), rc, R.budget, R.fee, R.cost, R.priority⟩ : Ready)).trans (congrArg some hb.1))) ?_))
 refine WL.gT 8 rfl rfl rfl (WL.op rfl (opW.fieldAddrB rfl ?_))
 refine WL.gT 8 rfl rfl rfl (WL.op rfl (opW.loadV rfl (hS.ld1 (b := b3) (cs := Enc.enc R) (by repeat constructor) (Ready.at_bytes R)) ?_))
 refine WL.gT 8 rfl rfl rfl (WL.op rfl (opW.call (leftBytes_ok _ bf R.bytes.v bs hb.2 (hb3.bel hS.old) (hR.b.bel hS.old)) rfl ?_))
 rintro _ w ⟨rfl, hw⟩; replace hS := hS.bel hw
 refine WL.op rfl (opW.pickT rfl rfl ?_)
 refine WL.op rfl (opW.moveB rfl ?_)
 refine WL.gT 15 rfl rfl rfl (WL.op rfl (opW.fieldAddrB rfl ?_))
 refine WL.gT 15 rfl rfl rfl (WL.op rfl (opW.loadV rfl (hS.ldF (b := b2) (cs := Enc.enc (⟨bc, (⟨sc, (⟨R.tx.m.v0, R.tx.m.header, kc, R.tx.m.recent, iv, lv⟩ : Message)⟩ : Tx), rc, R.budget, R.fee, R.cost, R.priority⟩ : Ready)) (by repeat constructor) (Ready.ex_tx (⟨bc, (⟨sc, (⟨R.tx.m.v0, R.tx.m.header, kc, R.tx.m.recent, iv, lv⟩ : Message)⟩ : Tx), rc, R.budget, R.fee, R.cost, R.priority⟩ : Ready)) (by rw [Enc.size_eq]; decide)) ?_))
 refine WL.gT 15 rfl rfl rfl (WL.op rfl (opW.fieldAddrB rfl ?_))
 refine WL.gT 15 rfl rfl rfl (WL.op rfl (opW.loadV rfl (hS.ldF (b := b3) (cs := Enc.enc R) (by repeat constructor) (Ready.ex_tx R) (by rw [Enc.size_eq]; decide)) ?_))
 refine WL.gT 15 rfl rfl rfl (WL.op rfl (opW.call (leftTx_ok _ R.tx x ins lks sf kf sc kc iv lv li ll (hR.t.bel hS.old) hs.1 hs.2 (hs3.bel hS.old) (hm.bel hS.old)) rfl ?_))
 rintro _ w ⟨rfl, hw⟩; replace hS := hS.bel hw
 refine WL.op rfl (opW.pickT rfl rfl ?_)
 refine WL.op rfl (opW.moveB rfl ?_)
 refine WL.gT 22 rfl rfl rfl (WL.op rfl (opW.fieldAddrB rfl ?_))
 refine WL.gT 22 rfl rfl rfl (WL.op rfl (opW.loadV rfl (hS.ld1 (b := b2) (cs := Enc.enc (⟨bc, (⟨sc, (⟨R.tx.m.v0, R.tx.m.header, kc, R.tx.m.recent, iv, lv⟩ : Message)⟩ : Tx), rc, R.budget, R.fee, R.cost, R.priority⟩ : Ready)) (by repeat constructor) ((Ready.at_roles (⟨bc, (⟨sc, (⟨R.tx.m.v0, R.tx.m.header, kc, R.tx.m.recent, iv, lv⟩ : Message)⟩ : Tx), rc, R.budget, R.fee, R.cost, R.priority⟩ : Ready)).trans (congrArg some hr.1))) ?_))
 refine WL.gT 22 rfl rfl rfl (WL.op rfl (opW.fieldAddrB rfl ?_))
 refine WL.gT 22 rfl rfl rfl (WL.op rfl (opW.loadV rfl (hS.ld1 (b := b3) (cs := Enc.enc R) (by repeat constructor) (Ready.at_roles R)) ?_))
 refine WL.gT 22 rfl rfl rfl (WL.op rfl (opW.call (leftRoles_ok _ rf R.roles.v r hr.2 (hr3.bel hS.old) (hR.ro.bel hS.old)) rfl ?_))
 rintro _ w ⟨rfl, hw⟩; replace hS := hS.bel hw
 refine WL.op rfl (opW.pickT rfl rfl ?_)
 refine WL.op rfl (opW.assignB rfl ?_)
 refine WL.nil ?_
 refine thenQ_n (hK2 _ _ ?_)
 refine WC.ret ?_
 refine bodyQ_ret (.tmpB rfl .nil) ?_
 exact ⟨rfl, hS.old⟩

theorem sameOutcome_ok (w0 : World) (A B : Outcome) (ch : List Holding) (hA : SlR w0 A.changed.v ch) (hB : SlR w0 B.changed.v ch) (h1 : A.fail = B.fail) (h2 : A.at_ = B.at_) (h3 : A.units = B.units) (h4 : A.fee = B.fee) (h5 : A.space = B.space) : Ret Tryz.prog 10 #[.agg (Enc.enc A), .agg (Enc.enc B)] w0 (fun u w' => u = .bool true ∧ Bel w0 w') := by
 refine Ret.enter (args := [.agg (Enc.enc A), .agg (Enc.enc B)]) Tryz.func10 rfl Tryz.ntmps10 Tryz.results10 rfl ?_
 have hS := St.start w0
 refine WC.seq (fun K1 hK1 => ?_)
 refine WC.region ?_
 refine WL.op rfl (opW.boxA hS rfl ?_)
 intro b2 w _ hS
 refine WL.op rfl (opW.boxA hS rfl ?_)
 intro b3 w _ hS
 refine WL.op rfl (opW.assignB rfl ?_)
 refine WL.nil ?_
 refine thenQ_n (hK1 _ _ ?_)
 refine WC.seq (fun K2 hK2 => ?_)
 refine WC.region ?_
 refine WL.op rfl (opW.fieldAddrB rfl ?_)
 refine WL.op rfl (opW.loadV rfl (hS.ld1 (b := b2) (cs := Enc.enc A) (by repeat constructor) (Outcome.at_fail A)) ?_)
 refine WL.op rfl (opW.fieldAddrB rfl ?_)
 refine WL.op rfl (opW.loadV rfl (hS.ld1 (b := b3) (cs := Enc.enc B) (by repeat constructor) (Outcome.at_fail B)) ?_)
 refine WL.op rfl (opW.boolT (by rw [h1]; exact decide_eq_true rfl) (opW.eql rfl rfl ⟨rfl, rfl⟩) ?_)
 refine WL.op rfl (opW.moveB rfl ?_)
 refine WL.gT 10 rfl rfl rfl (WL.op rfl (opW.fieldAddrB rfl ?_))
 refine WL.gT 10 rfl rfl rfl (WL.op rfl (opW.loadV rfl (hS.ld1 (b := b2) (cs := Enc.enc A) (by repeat constructor) (Outcome.at_at_ A)) ?_))
 refine WL.gT 10 rfl rfl rfl (WL.op rfl (opW.fieldAddrB rfl ?_))
 refine WL.gT 10 rfl rfl rfl (WL.op rfl (opW.loadV rfl (hS.ld1 (b := b3) (cs := Enc.enc B) (by repeat constructor) (Outcome.at_at_ B)) ?_))
 refine WL.gT 10 rfl rfl rfl (WL.op rfl (opW.boolT (by rw [h2]; exact decide_eq_true rfl) (opW.eql rfl rfl ⟨rfl, rfl⟩) ?_))
 refine WL.op rfl (opW.pickT rfl rfl ?_)
 refine WL.op rfl (opW.moveB rfl ?_)
 refine WL.gT 17 rfl rfl rfl (WL.op rfl (opW.fieldAddrB rfl ?_))
 refine WL.gT 17 rfl rfl rfl (WL.op rfl (opW.loadV rfl (hS.ld1 (b := b2) (cs := Enc.enc A) (by repeat constructor) (Outcome.at_units A)) ?_))
 refine WL.gT 17 rfl rfl rfl (WL.op rfl (opW.fieldAddrB rfl ?_))
 refine WL.gT 17 rfl rfl rfl (WL.op rfl (opW.loadV rfl (hS.ld1 (b := b3) (cs := Enc.enc B) (by repeat constructor) (Outcome.at_units B)) ?_))
 refine WL.gT 17 rfl rfl rfl (WL.op rfl (opW.boolT (by rw [h3]; exact decide_eq_true rfl) (opW.eql rfl rfl ⟨rfl, rfl⟩) ?_))
 refine WL.op rfl (opW.pickT rfl rfl ?_)
 refine WL.op rfl (opW.moveB rfl ?_)
 refine WL.gT 24 rfl rfl rfl (WL.op rfl (opW.fieldAddrB rfl ?_))
 refine WL.gT 24 rfl rfl rfl (WL.op rfl (opW.loadV rfl (hS.ld1 (b := b2) (cs := Enc.enc A) (by repeat constructor) (Outcome.at_fee A)) ?_))
 refine WL.gT 24 rfl rfl rfl (WL.op rfl (opW.fieldAddrB rfl ?_))
 refine WL.gT 24 rfl rfl rfl (WL.op rfl (opW.loadV rfl (hS.ld1 (b := b3) (cs := Enc.enc B) (by repeat constructor) (Outcome.at_fee B)) ?_))
 refine WL.gT 24 rfl rfl rfl (WL.op rfl (opW.boolT (by rw [h4]; exact decide_eq_true rfl) (opW.eql rfl rfl ⟨rfl, rfl⟩) ?_))
 refine WL.op rfl (opW.pickT rfl rfl ?_)
 refine WL.op rfl (opW.moveB rfl ?_)
 refine WL.gT 31 rfl rfl rfl (WL.op rfl (opW.fieldAddrB rfl ?_))
 refine WL.gT 31 rfl rfl rfl (WL.op rfl (opW.loadV rfl (hS.ld1 (b := b2) (cs := Enc.enc A) (by repeat constructor) (Outcome.at_space A)) ?_))
 refine WL.gT 31 rfl rfl rfl (WL.op rfl (opW.fieldAddrB rfl ?_))
 refine WL.gT 31 rfl rfl rfl (WL.op rfl (opW.loadV rfl (hS.ld1 (b := b3) (cs := Enc.enc B) (by repeat constructor) (Outcome.at_space B)) ?_))
 refine WL.gT 31 rfl rfl rfl (WL.op rfl (opW.boolT (by rw [h5]; exact decide_eq_true rfl) (opW.eql rfl rfl ⟨rfl, rfl⟩) ?_))
 refine WL.op rfl (opW.pickT rfl rfl ?_)
 refine WL.op rfl (opW.moveB rfl ?_)
 refine WL.gT 38 rfl rfl rfl (WL.op rfl (opW.fieldAddrB rfl ?_))
 refine WL.gT 38 rfl rfl rfl (WL.op rfl (opW.loadV rfl (hS.ld1 (b := b2) (cs := Enc.enc A) (by repeat constructor) (Outcome.at_changed A)) ?_))
 refine WL.gT 38 rfl rfl rfl (WL.op rfl (opW.fieldAddrB rfl ?_))
 refine WL.gT 38 rfl rfl rfl (WL.op rfl (opW.loadV rfl (hS.ld1 (b := b3) (cs := Enc.enc B) (by repeat constructor) (Outcome.at_changed B)) ?_))
 refine WL.gT 38 rfl rfl rfl (WL.op rfl (opW.call (same_h _ _ _ ch ch (hA.bel hS.old) (hB.bel hS.old)) rfl ?_))
 rintro _ w ⟨rfl, hw⟩; replace hS := hS.bel hw
 rw [decide_eq_true (rfl : ch = ch)]
 refine WL.op rfl (opW.pickT rfl rfl ?_)
 refine WL.op rfl (opW.assignB rfl ?_)
 refine WL.nil ?_
 refine thenQ_n (hK2 _ _ ?_)
 refine WC.ret ?_
 refine bodyQ_ret (.tmpB rfl .nil) ?_
 exact ⟨rfl, hS.old⟩

end Go.Fer
