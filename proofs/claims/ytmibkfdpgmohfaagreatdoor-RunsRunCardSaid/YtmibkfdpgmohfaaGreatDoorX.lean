/- the document: Run -/
import Derived.Test.YtmibkfdpgmohfaaGreatDoorQ
import Derived.Test.YtmibkfdpgmohfaaGreatDoorL6
set_option linter.all false
namespace Go.Fer
open Go Go.Proofs Go.RowKit

theorem rsys15 (w0 : World) : Ret Tryz.prog 30 #[] w0 (fun u w' => u = .agg (Enc.enc sysK) ∧ Bel w0 w') := by
 refine Ret.enter (args := []) Tryz.func30 rfl Tryz.ntmps30 Tryz.results30 rfl ?_
 have hS := St.start w0
 refine WC.seq (fun K1 hK1 => ?_)
 refine WC.region ?_
 refine WL.op rfl (opW.allocA hS ?_)
 intro b0 w _ hS
 refine WL.nil ?_
 refine thenQ_n (hK1 _ _ ?_)
 refine WC.seq (fun K2 hK2 => ?_)
 refine WC.region ?_
 refine WL.op rfl (opW.buildVec (k := sysK) (by first | rfl | (simp only [sysK, az, budK, enc_vset, enc_vz]; rfl)) (by intro p hp; first | (exfalso; simp at hp; done) | (simp only [List.map_cons, List.map_nil, List.mem_cons, List.not_mem_nil, or_false] at hp; rcases hp with rfl | rfl | rfl | rfl <;> exact ⟨by simp, rfl⟩)) ?_)
 refine WL.op0 (opW.storeE hS rfl rfl (by repeat constructor) (by first | rfl | exact Enc.size_eq _) ?_)
 intro w hS; replace hS := hS _ (by repeat constructor)
 refine WL.nil ?_
 refine thenQ_n (hK2 _ _ ?_)
 refine WC.ret ?_
 refine bodyQ_ret (.cell (hS.ldA (by repeat constructor) (Enc.size_eq sysK)) .nil) ?_
 exact ⟨rfl, hS.old⟩

theorem rbud15 (w0 : World) : Ret Tryz.prog 32 #[] w0 (fun u w' => u = .agg (Enc.enc budK) ∧ Bel w0 w') := by
 refine Ret.enter (args := []) Tryz.func32 rfl Tryz.ntmps32 Tryz.results32 rfl ?_
 have hS := St.start w0
 refine WC.seq (fun K1 hK1 => ?_)
 refine WC.region ?_
 refine WL.op rfl (opW.allocA hS ?_)
 intro b0 w _ hS
 refine WL.nil ?_
 refine thenQ_n (hK1 _ _ ?_)
 refine WC.seq (fun K2 hK2 => ?_)
 refine WC.region ?_
 refine WL.op rfl (opW.buildVec (k := budK) (by first | rfl | (simp only [sysK, az, budK, enc_vset, enc_vz]; rfl)) (by intro p hp; first | (exfalso; simp at hp; done) | (simp only [List.map_cons, List.map_nil, List.mem_cons, List.not_mem_nil, or_false] at hp; rcases hp with rfl | rfl | rfl | rfl <;> exact ⟨by simp, rfl⟩)) ?_)
 refine WL.op0 (opW.storeE hS rfl rfl (by repeat constructor) (by first | rfl | exact Enc.size_eq _) ?_)
 intro w hS; replace hS := hS _ (by repeat constructor)
 refine WL.nil ?_
 refine thenQ_n (hK2 _ _ ?_)
 refine WC.ret ?_
 refine bodyQ_ret (.cell (hS.ldA (by repeat constructor) (Enc.size_eq budK)) .nil) ?_
 exact ⟨rfl, hS.old⟩

theorem rchg_ok (w0 : World) (R : Ready) (v : Value) (r : List Role) (l : List Account) (hr : SlR w0 R.roles.v r) (hl : SlR w0 v l) (hlen : l.length = r.length) (hrb : r.length ≤ 100000) : Ret Tryz.prog 33 #[.agg (Enc.enc R), v] w0 (fun u w' => ∃ s : SlV, u = s.v ∧ New w0 w' s.v 74 (chgF r l) ∧ Bel w0 w') := by
  refine Ret.enter (args := [.agg (Enc.enc R), v]) Tryz.func33 rfl Tryz.ntmps33 Tryz.results33 rfl ?_
  have hS := St.start w0
  refine WC.seq (fun K1 hK1 => ?_)
  refine WC.region ?_
  refine WL.op rfl (opW.boxA hS rfl ?_)
  intro b2 w _ hS
  refine WL.op rfl (opW.assignV (v := .slice none 0 0) rfl ?_)
  refine WL.nil ?_
  refine thenQ_n (hK1 _ _ ?_)
  refine WC.seq (fun K2 hK2 => ?_)
  refine WC.region ?_
  refine WL.op rfl (opW.assignV (v := .slice none 0 0) rfl ?_)
  refine WL.nil ?_
  refine thenQ_n (hK2 _ _ ?_)
  refine WC.seq (fun K3 hK3 => ?_)
  refine WC.seq (fun K4 hK4 => ?_)
  refine WC.region ?_
  refine WL.op rfl (opW.assignI rfl ?_)
  refine WL.nil ?_
  refine thenQ_n (hK4 _ _ ?_)
  refine WC.block ?_
  refine WC.loop (fun m f w => ∃ (k : Nat) (v5 : Value), Fits [(1, v), (2, .pointer (some ⟨b2, 0, none⟩)), (5, v5), (6, .int .i64 (k : Int))] f ∧ St w0 [ownE v5 74 (chgF (r.take k) (l.take k)), blkE b2 (Enc.enc R) 40] w ∧ k ≤ l.length ∧ m = l.length - k) (l.length) ?_ ?_
  ·
    exact ⟨0, .slice none 0 0, ⟨rfl, rfl, rfl, rfl, trivial⟩, (show St w0 [ownE (.slice none 0 0) 74 ([] : List Holding), blkE b2 (Enc.enc R) 40] w from hS.nilOwn 74), Nat.zero_le _, rfl⟩
  ·
    rintro m f w ⟨k, v5, hfit, hS, hk0, hm⟩
    refine WC.fits _ hfit (fun g => ?_)
    clear hfit
    refine WC.seq (fun K5 hK5 => ?_)
    refine WC.seq (fun K6 hK6 => ?_)
    refine WC.region ?_
    refine WL.op rfl (opW.moveI rfl ?_)
    refine WL.op rfl (opW.moveV (v := v) rfl ?_)
    refine WL.op rfl (opW.lenV rfl ((hl.bel hS.old)) ?_)
    refine WL.op rfl (opW.lss rfl rfl ?_)
    refine WL.nil ?_
    refine thenQ_n (hK6 _ _ ?_)
    refine WC.cond _ rfl (fun hc0 => ?_) (fun hc0 => ?_)
    ·
      have hr0 := hc0
      try simp only [sq1,sq2,sq3,sq4,sq5,sq6,sq7,sq8,sq9,sq0] at hc0
      have hkl : k < l.length := by omega
      have hkr : k < r.length := by omega
      have hcl := chgF_len (r.take k) (l.take k)
      rw [List.length_take] at hcl
      refine WC.skip ?_
      refine thenQ_n (hK5 _ _ ?_)
      refine WC.seq (fun K7 hK7 => ?_)
      refine WC.block ?_
      refine WC.seq (fun K8 hK8 => ?_)
      refine WC.region ?_
      refine WL.op rfl (opW.fieldAddrB rfl ?_)
      refine WL.op rfl (opW.loadV rfl (hS.ld1 (b := b2) (cs := Enc.enc R) (by repeat constructor) (Ready.at_roles R)) ?_)
      refine WL.op rfl (opW.moveI rfl ?_)
      refine WL.op rfl (opW.idxV rfl ((hr.bel hS.old)) rfl (by omega) ?_)
      refine WL.op rfl (opW.fieldAddr rfl ((hr.bel hS.old).isP hkr) ?_)
      refine WL.op rfl (opW.loadV rfl (Ld.pt1 ((hr.bel hS.old).isPt hkr) 33 (Role.at_writes _)) ?_)
      refine WL.nil ?_
      refine thenQ_n (hK8 _ _ ?_)
      refine WC.cond _ rfl (fun hc1 => ?_) (fun hc1 => ?_)
      ·
        have hr1 := hc1
        try simp only [sq1,sq2,sq3,sq4,sq5,sq6,sq7,sq8,sq9,sq0] at hc1
        have hwr : r[k].writes = true := hc1
        refine WC.draw 13 (.look 0 (.look 1 (.look 2 (.look 3 (.look 4 (.look 5 (.look 6 (.look 7 (.look 8 (.look 9 (.look 10 (.look 11 (.one 12 (.one 13 (.one 14 .nil))))))))))))))) (by kernel_rfl) (fun _ _ _ h => h) (fun w1 hw1 => ?_)
        replace hS := hS.bel hw1
        have hS1 := hS
        have hT := St.start w1
        refine ML.look rfl rfl rfl (fun w hw => (by have hS := hS1.bel hw; exact opW.moveV (v := v5) rfl ⟨rfl, rfl⟩)) ?_
        refine ML.look rfl rfl rfl (fun w hw => (by have hS := hS1.bel hw; exact opW.fieldAddrB rfl ⟨rfl, rfl⟩)) ?_
        refine ML.look rfl rfl rfl (fun w hw => (by have hS := hS1.bel hw; exact opW.loadV rfl (hS.ld1 (b := b2) (cs := Enc.enc R) (by repeat constructor) (Ready.at_roles R)) ⟨rfl, rfl⟩)) ?_
        refine ML.look rfl rfl rfl (fun w hw => (by have hS := hS1.bel hw; exact opW.moveI rfl ⟨rfl, rfl⟩)) ?_
        refine ML.look rfl rfl rfl (fun w hw => (by have hS := hS1.bel hw; exact opW.idxV rfl ((hr.bel hS.old)) rfl (by omega) ⟨rfl, rfl⟩)) ?_
        refine ML.look rfl rfl rfl (fun w hw => (by have hS := hS1.bel hw; exact opW.fieldAddr rfl ((hr.bel hS.old).isP hkr) ⟨rfl, rfl⟩)) ?_
        refine ML.look rfl rfl rfl (fun w hw => (by have hS := hS1.bel hw; exact opW.loadV rfl (Ld.ptA ((hr.bel hS.old).isPt hkr) 0 (Role.ex_key _) (by rw [Enc.size_eq]; decide)) ⟨rfl, rfl⟩)) ?_
        refine ML.look rfl rfl rfl (fun w hw => (by have hS := hS1.bel hw; exact opW.moveV (v := v) rfl ⟨rfl, rfl⟩)) ?_
        refine ML.look rfl rfl rfl (fun w hw => (by have hS := hS1.bel hw; exact opW.moveI rfl ⟨rfl, rfl⟩)) ?_
        refine ML.look rfl rfl rfl (fun w hw => (by have hS := hS1.bel hw; exact opW.idxV rfl ((hl.bel hS.old)) rfl (by omega) ⟨rfl, rfl⟩)) ?_
        refine ML.look rfl rfl rfl (fun w hw => (by have hS := hS1.bel hw; exact opW.loadV rfl (((hl.bel hS.old).isPt hkl).ldA (Enc.size_eq l[k])) ⟨rfl, rfl⟩)) ?_
        refine ML.look rfl rfl rfl (fun w hw => (by have hS := hS1.bel hw; exact opW.buildE (r := (⟨r[k].key, l[k]⟩ : Holding)) (ps := Holding.parts (⟨r[k].key, l[k]⟩ : Holding)) (Holding.enc_eq _) (by exact rfl) (by exact fitO ⟨by decide, Enc.size_eq r[k].key, by decide, Enc.size_eq l[k], trivial⟩) ⟨rfl, rfl⟩)) ?_
        refine ML.one rfl rfl rfl (opW.buildSl hT (([(⟨r[k].key, l[k]⟩ : Holding)] : List Holding)) [.agg (Enc.enc (⟨r[k].key, l[k]⟩ : Holding))] rfl rfl rfl rfl (by decide) ?_)
        intro b31 w hw hT
        refine ⟨hT.old, ?_⟩
        have hS := hS1.merge hT
        try simp only [List.cons_append, List.nil_append] at hS
        refine ML.put1 rfl rfl rfl rfl (opW.appendOwn (α := Holding) (v := v5) (xs := chgF (r.take k) (l.take k)) (ys := [(⟨r[k].key, l[k]⟩ : Holding)]) rfl hS rfl (by repeat constructor) (hS.sl (v := .slice (some ⟨b31, 0, none⟩) 1 1) (xs := ([(⟨r[k].key, l[k]⟩ : Holding)] : List Holding)) (by repeat constructor)) (by simp only [List.length_cons, List.length_nil]; omega) (by simp only [maxLen, List.length_cons, List.length_nil]; omega) ?_)
        intro v32 w hS; replace hS := hS _ (by repeat constructor)
        refine ML.put1 rfl rfl rfl rfl (opW.assignV (v := v32) rfl ?_)
        refine ML.nil ?_
        refine blockQ_n ?_
        refine thenQ_n (hK7 _ _ ?_)
        refine WC.region ?_
        refine WL.op rfl (opW.moveI rfl ?_)
        refine WL.op rfl (opW.add rfl rfl (wrap_i64 (by omega)) ?_)
        refine WL.op rfl (opW.assignI rfl ?_)
        refine WL.nil ?_
        refine thenQ_n ?_
        first
          | (have hst := chgF_step (r := r) (l := l) hkr hkl
             rw [if_pos hwr] at hst
             rw [← hst] at hS
             exact ⟨l.length - (k + 1), by omega, k + 1, v32, ⟨rfl, rfl, rfl, congrArg (Value.int .i64) (by omega), trivial⟩, ((hS.pick (e := blkE b2 (Enc.enc R) 40) (by repeat constructor)).pick (e := ownE v32 74 (chgF (r.take (k + 1)) (l.take (k + 1)))) (by repeat constructor)).sub (by repeat with_reducible first | exact su1 _ | exact su2 _ | refine su3 ?_ | refine su4 ?_), by omega, rfl⟩)
          | (have hst := chgF_step (r := r) (l := l) hkr hkl
             rw [if_neg (by rw [hwr]; decide), List.append_nil] at hst
             rw [← hst] at hS
             exact ⟨l.length - (k + 1), by omega, k + 1, v5, ⟨rfl, rfl, rfl, congrArg (Value.int .i64) (by omega), trivial⟩, hS.sub (by repeat with_reducible first | exact su1 _ | exact su2 _ | refine su3 ?_ | refine su4 ?_), by omega, rfl⟩)
      ·
        have hr1 := hc1
        try simp only [sq1,sq2,sq3,sq4,sq5,sq6,sq7,sq8,sq9,sq0] at hc1
        have hwr : r[k].writes = false := hc1
        refine WC.skip ?_
        refine blockQ_n ?_
        refine thenQ_n (hK7 _ _ ?_)
        refine WC.region ?_
        refine WL.op rfl (opW.moveI rfl ?_)
        refine WL.op rfl (opW.add rfl rfl (wrap_i64 (by omega)) ?_)
        refine WL.op rfl (opW.assignI rfl ?_)
        refine WL.nil ?_
        refine thenQ_n ?_
        first
          | (have hst := chgF_step (r := r) (l := l) hkr hkl
             rw [if_pos hwr] at hst
             rw [← hst] at hS
             exact ⟨l.length - (k + 1), by omega, k + 1, v32, ⟨rfl, rfl, rfl, congrArg (Value.int .i64) (by omega), trivial⟩, ((hS.pick (e := blkE b2 (Enc.enc R) 40) (by repeat constructor)).pick (e := ownE v32 74 (chgF (r.take (k + 1)) (l.take (k + 1)))) (by repeat constructor)).sub (by repeat with_reducible first | exact su1 _ | exact su2 _ | refine su3 ?_ | refine su4 ?_), by omega, rfl⟩)
          | (have hst := chgF_step (r := r) (l := l) hkr hkl
             rw [if_neg (by rw [hwr]; decide), List.append_nil] at hst
             rw [← hst] at hS
             exact ⟨l.length - (k + 1), by omega, k + 1, v5, ⟨rfl, rfl, rfl, congrArg (Value.int .i64) (by omega), trivial⟩, hS.sub (by repeat with_reducible first | exact su1 _ | exact su2 _ | refine su3 ?_ | refine su4 ?_), by omega, rfl⟩)
    ·
      have hr0 := hc0
      try simp only [sq1,sq2,sq3,sq4,sq5,sq6,sq7,sq8,sq9,sq0] at hc0
      obtain rfl : k = l.length := by omega
      rw [chgF_all (r := r) (l := l) (by omega) (Nat.le_refl _)] at hS
      refine WC.exit ?_
      refine thenQ_e ?_
      refine thenQ_e ?_
      refine blockQ_hit ?_
      refine thenQ_n (hK3 _ _ ?_)
      refine WC.seq (fun K9 hK9 => ?_)
      refine WC.region ?_
      refine WL.op rfl (opW.moveV (v := v5) rfl ?_)
      refine WL.op rfl (opW.assignV (v := v5) rfl ?_)
      refine WL.nil ?_
      refine thenQ_n (hK9 _ _ ?_)
      refine WC.ret ?_
      refine bodyQ_ret (.tmpV (v := v5) rfl .nil) ?_
      obtain ⟨s, rfl⟩ := (hS.sl (v := v5) (xs := chgF r l) (by repeat constructor)).asV
      exact ⟨s, rfl, hS.own_new (by repeat constructor), hS.old⟩

set_option maxRecDepth 20000 in
set_option maxHeartbeats 1500000 in
theorem rrun_ok (w0 : World) (R : Ready) (v : Value) (l : List Account) (r : List Role) (ins : List Instr) (qs : List PI) (hl : SlR w0 v l) (hr : SlR w0 R.roles.v r) (hi : SlR w0 R.tx.m.instrs.v ins) (hql : ins.length = qs.length) (hin : ∀ k (h : k < ins.length) (h2 : k < qs.length), InIs w0 ins[k] qs[k]) (hbu : R.budget.units < 18446744073709551616) (hlb : l.length ≤ 100000) (hrb : r.length ≤ 100000) (hlw : ∀ y ∈ l, okW y) : Ret Tryz.prog 9 #[.agg (Enc.enc R), v] w0 (fun u w' => ∃ (o : Outcome) (e : Int) (ch : List Holding), u = .tuple #[.agg (Enc.enc o), .int .i64 e] ∧ New w0 w' o.changed.v 74 ch ∧ RunIs R r qs l ins o e ch ∧ Bel w0 w') := by
 refine Ret.enter (args := [.agg (Enc.enc R), v]) Tryz.func9 rfl Tryz.ntmps9 Tryz.results9 rfl ?_
 have hS := St.start w0
 refine WC.seq (fun K1 hK1 => ?_)
 refine WC.region ?_
 refine WL.op rfl (opW.boxA hS rfl ?_)
 intro b2 w _ hS
 refine WL.op rfl (opW.allocA hS ?_)
 intro b4 w _ hS
 refine WL.op rfl (opW.assignI rfl ?_)
 rw [zOut] at hS
 refine WL.nil ?_
 refine thenQ_n (hK1 _ _ ?_)
 refine WC.seq (fun K2 hK2 => ?_)
 refine WC.seq (fun K3 hK3 => ?_)
 refine WC.region ?_
 refine WL.op rfl (opW.moveV (v := v) rfl ?_)
 refine WL.op rfl (opW.lenV rfl ((hl.bel hS.old)) ?_)
 refine WL.op rfl (opW.fieldAddrB rfl ?_)
 refine WL.op rfl (opW.loadV rfl (hS.ld1 (b := b2) (cs := Enc.enc R) (by repeat constructor) (Ready.at_roles R)) ?_)
 refine WL.op rfl (opW.lenV rfl ((hr.bel hS.old)) ?_)
 refine WL.op rfl (opW.neq rfl rfl ?_)
 refine WL.nil ?_
 refine thenQ_n (hK3 _ _ ?_)
 refine WC.cond _ rfl (fun hc0 => ?_) (fun hc0 => ?_)
 ·
  have hr0 := hc0
  try simp only [sq1,sq2,sq3,sq4,sq5,sq6,sq7,sq8,sq9,sq0] at hc0
  have hbad : badArg r l ins = true := by
   unfold badArg
   rw [decide_eq_false (by omega)]; rfl
  refine WC.seq (fun K4 hK4 => ?_)
  refine WC.region ?_
  refine WL.op rfl (opW.buildE (r := (oz : Outcome)) (ps := Outcome.parts (oz : Outcome)) (Outcome.enc_eq _) (by first | rfl | (simp only [sysK, az, budK, enc_vset, enc_vz, Account.enc_eq, Account.parts, Role.enc_eq, Role.parts, Instr.enc_eq, Instr.parts, Ask.enc_eq, Ask.parts, Cut.enc_eq, Cut.parts, PairS.enc_eq, PairS.parts, RAsk.enc_eq, RAsk.parts, Header.enc_eq, Header.parts, Lookup.enc_eq, Lookup.parts, Message.enc_eq, Message.parts, Tx.enc_eq, Tx.parts, Budget.enc_eq, Budget.parts, Ready.enc_eq, Ready.parts, Holding.enc_eq, Holding.parts, Outcome.enc_eq, Outcome.parts, Running.enc_eq, Running.parts, StS.enc_eq, StS.parts]; rfl)) (by (repeat' (first | exact trivial | refine And.intro ?_ ?_)) <;> first | rfl | exact Enc.size_eq _ | (simp; done)) ?_)
  refine WL.op0 (opW.storeE hS rfl rfl (by repeat constructor) (by first | rfl | exact Enc.size_eq _) ?_)
  intro w hS; replace hS := hS _ (by repeat constructor)
  refine WL.op rfl (opW.assignI rfl ?_)
  refine WL.nil ?_
  refine thenQ_n (hK4 _ _ ?_)
  refine WC.ret ?_
  refine thenQ_r ?_
  refine bodyQ_ret (.cell (hS.ldA (b := b4) (cs := Enc.enc oz) (by repeat constructor) (Enc.size_eq oz)) (.tmpI rfl .nil)) ?_
  exact ⟨oz, 1, [], rfl, New.nil _ _ _, .inl ⟨rfl, hbad, rfl, rfl⟩, hS.old⟩
 ·
  have hr0 := hc0
  try simp only [sq1,sq2,sq3,sq4,sq5,sq6,sq7,sq8,sq9,sq0] at hc0
  have hlen : l.length = r.length := by omega
  have hile := hi.le
  simp only [maxLen] at hile
  refine WC.skip ?_
  refine thenQ_n (hK2 _ _ ?_)
  refine WC.seq (fun K5 hK5 => ?_)
  refine WC.seq (fun K6 hK6 => ?_)
  refine WC.region ?_
  refine WL.op rfl (opW.assignI rfl ?_)
  refine WL.nil ?_
  refine thenQ_n (hK6 _ _ ?_)
  refine WC.block ?_
  refine WC.loop (fun m f w => ∃ k : Nat, Fits [(1, v), (2, .pointer (some ⟨b2, 0, none⟩)), (4, .pointer (some ⟨b4, 0, none⟩)), (6, .int .i64 (k : Int))] f ∧ St w0 [blkE b4 (Enc.enc oz) 49, blkE b2 (Enc.enc R) 40] w ∧ (∀ j (h : j < ins.length), j < k → ins[j].program.toNat < r.length) ∧ k ≤ ins.length ∧ m = ins.length - k) (ins.length) ?_ ?_
  ·
   exact ⟨0, ⟨rfl, rfl, rfl, rfl, trivial⟩, hS.sub (by repeat with_reducible first | exact su1 _ | exact su2 _ | refine su3 ?_ | refine su4 ?_), fun j _ h => absurd h (by omega), Nat.zero_le _, rfl⟩
  ·
   rintro m f w ⟨k, hfit, hS, hno, hk0, hm⟩
   refine WC.fits _ hfit (fun g => ?_)
   clear hfit
   refine WC.seq (fun K7 hK7 => ?_)
   refine WC.seq (fun K8 hK8 => ?_)
   refine WC.region ?_
   refine WL.op rfl (opW.moveI rfl ?_)
   refine WL.op rfl (opW.fieldAddrB rfl ?_)
   refine WL.op rfl (opW.fieldAddrB rfl ?_)
   refine WL.op rfl (opW.fieldAddrB rfl ?_)
   refine WL.op rfl (opW.loadV rfl (hS.ld1 (b := b2) (cs := Enc.enc R) (by repeat constructor) (Ready.at_ins R)) ?_)
   refine WL.op rfl (opW.lenV rfl ((hi.bel hS.old)) ?_)
   refine WL.op rfl (opW.lss rfl rfl ?_)
   refine WL.nil ?_
   refine thenQ_n (hK8 _ _ ?_)
   refine WC.cond _ rfl (fun hc1 => ?_) (fun hc1 => ?_)
   ·
    have hr1 := hc1
    try simp only [sq1,sq2,sq3,sq4,sq5,sq6,sq7,sq8,sq9,sq0] at hc1
    have hkl : k < ins.length := by omega
    refine WC.skip ?_
    refine thenQ_n (hK7 _ _ ?_)
    refine WC.seq (fun K9 hK9 => ?_)
    refine WC.block ?_
    refine WC.seq (fun K10 hK10 => ?_)
    refine WC.draw 13 (.look 0 (.look 1 (.look 2 (.look 3 (.look 4 (.look 5 (.look 6 (.look 7 (.look 8 (.look 9 (.look 10 (.look 11 (.look 12 .nil))))))))))))) (by kernel_rfl) (fun _ _ _ h => h) (fun w1 hw1 => ?_)
    replace hS := hS.bel hw1
    have hS1 := hS
    have hT := St.start w1
    refine ML.look rfl rfl rfl (fun w hw => (by have hS := hS1.bel hw; exact opW.fieldAddrB rfl ⟨rfl, rfl⟩)) ?_
    refine ML.look rfl rfl rfl (fun w hw => (by have hS := hS1.bel hw; exact opW.fieldAddrB rfl ⟨rfl, rfl⟩)) ?_
    refine ML.look rfl rfl rfl (fun w hw => (by have hS := hS1.bel hw; exact opW.fieldAddrB rfl ⟨rfl, rfl⟩)) ?_
    refine ML.look rfl rfl rfl (fun w hw => (by have hS := hS1.bel hw; exact opW.loadV rfl (hS.ld1 (b := b2) (cs := Enc.enc R) (by repeat constructor) (Ready.at_ins R)) ⟨rfl, rfl⟩)) ?_
    refine ML.look rfl rfl rfl (fun w hw => (by have hS := hS1.bel hw; exact opW.moveI rfl ⟨rfl, rfl⟩)) ?_
    refine ML.look rfl rfl rfl (fun w hw => (by have hS := hS1.bel hw; exact opW.idxV rfl ((hi.bel hS.old)) rfl (by omega) ⟨rfl, rfl⟩)) ?_
    refine ML.look rfl rfl rfl (fun w hw => (by have hS := hS1.bel hw; exact opW.fieldAddr rfl ((hi.bel hS.old).isP hkl) ⟨rfl, rfl⟩)) ?_
    refine ML.look rfl rfl rfl (fun w hw => (by have hS := hS1.bel hw; exact opW.loadV rfl (Ld.pt1 ((hi.bel hS.old).isPt hkl) 0 (Instr.at_program _)) ⟨rfl, rfl⟩)) ?_
    refine ML.look rfl rfl rfl (fun w hw => (by have hS := hS1.bel hw; exact opW.conv rfl (wrap_i64 (by have := u8_lt ins[k].program; omega)) ⟨rfl, rfl⟩)) ?_
    refine ML.look rfl rfl rfl (fun w hw => (by have hS := hS1.bel hw; exact opW.fieldAddrB rfl ⟨rfl, rfl⟩)) ?_
    refine ML.look rfl rfl rfl (fun w hw => (by have hS := hS1.bel hw; exact opW.loadV rfl (hS.ld1 (b := b2) (cs := Enc.enc R) (by repeat constructor) (Ready.at_roles R)) ⟨rfl, rfl⟩)) ?_
    refine ML.look rfl rfl rfl (fun w hw => (by have hS := hS1.bel hw; exact opW.lenV rfl ((hr.bel hS.old)) ⟨rfl, rfl⟩)) ?_
    refine ML.look rfl rfl rfl (fun w hw => (by have hS := hS1.bel hw; exact opW.geq rfl rfl ⟨rfl, rfl⟩)) ?_
    refine ML.nil ?_
    refine thenQ_n (hK10 _ _ ?_)
    refine WC.cond _ rfl (fun hc2 => ?_) (fun hc2 => ?_)
    ·
     have hr2 := hc2
     try simp only [sq1,sq2,sq3,sq4,sq5,sq6,sq7,sq8,sq9,sq0] at hc2
     have hbad : badArg r l ins = true := by
      unfold badArg
      rw [List.any_eq_true.2 ⟨ins[k], List.getElem_mem hkl, decide_eq_true (by omega)⟩, Bool.or_true]
     refine WC.seq (fun K11 hK11 => ?_)
     refine WC.region ?_
     refine WL.op rfl (opW.buildE (r := (oz : Outcome)) (ps := Outcome.parts (oz : Outcome)) (Outcome.enc_eq _) (by first | rfl | (simp only [sysK, az, budK, enc_vset, enc_vz, Account.enc_eq, Account.parts, Role.enc_eq, Role.parts, Instr.enc_eq, Instr.parts, Ask.enc_eq, Ask.parts, Cut.enc_eq, Cut.parts, PairS.enc_eq, PairS.parts, RAsk.enc_eq, RAsk.parts, Header.enc_eq, Header.parts, Lookup.enc_eq, Lookup.parts, Message.enc_eq, Message.parts, Tx.enc_eq, Tx.parts, Budget.enc_eq, Budget.parts, Ready.enc_eq, Ready.parts, Holding.enc_eq, Holding.parts, Outcome.enc_eq, Outcome.parts, Running.enc_eq, Running.parts, StS.enc_eq, StS.parts]; rfl)) (by (repeat' (first | exact trivial | refine And.intro ?_ ?_)) <;> first | rfl | exact Enc.size_eq _ | (simp; done)) ?_)
     refine WL.op0 (opW.storeE hS rfl rfl (by repeat constructor) (by first | rfl | exact Enc.size_eq _) ?_)
     intro w hS; replace hS := hS _ (by repeat constructor)
     refine WL.op rfl (opW.assignI rfl ?_)
     refine WL.nil ?_
     refine thenQ_n (hK11 _ _ ?_)
     refine WC.ret ?_
     refine blockQ_r ?_
     refine thenQ_r ?_
     refine thenQ_r ?_
     refine blockQ_r ?_
     refine thenQ_r ?_
     refine bodyQ_ret (.cell (hS.ldA (b := b4) (cs := Enc.enc oz) (by repeat constructor) (Enc.size_eq oz)) (.tmpI rfl .nil)) ?_
     exact ⟨oz, 1, [], rfl, New.nil _ _ _, .inl ⟨rfl, hbad, rfl, rfl⟩, hS.old⟩
    ·
     have hr2 := hc2
     try simp only [sq1,sq2,sq3,sq4,sq5,sq6,sq7,sq8,sq9,sq0] at hc2
     refine WC.skip ?_
     refine blockQ_n ?_
     refine thenQ_n (hK9 _ _ ?_)
     refine WC.region ?_
     refine WL.op rfl (opW.moveI rfl ?_)
     refine WL.op rfl (opW.add rfl rfl (wrap_i64 (by omega)) ?_)
     refine WL.op rfl (opW.assignI rfl ?_)
     refine WL.nil ?_
     refine thenQ_n ?_
     exact ⟨ins.length - (k + 1), by omega, k + 1, ⟨rfl, rfl, rfl, congrArg (Value.int .i64) (by omega), trivial⟩, hS.sub (by repeat with_reducible first | exact su1 _ | exact su2 _ | refine su3 ?_ | refine su4 ?_), fun j h1 h2 => (by rcases Nat.lt_or_ge j k with h | h; exact hno j h1 h; obtain rfl : j = k := (by omega); omega), by omega, rfl⟩
   ·
    have hr1 := hc1
    try simp only [sq1,sq2,sq3,sq4,sq5,sq6,sq7,sq8,sq9,sq0] at hc1
    have hbad : badArg r l ins = false := by
     unfold badArg
     rw [decide_eq_true (by omega)]
     refine List.any_eq_false.2 fun c hc => ?_
     obtain ⟨j, hj, rfl⟩ := List.getElem_of_mem hc
     have := hno j hj (by omega)
     simp only [decide_eq_true_eq]; omega
    replace hno : ∀ j (h : j < ins.length), ins[j].program.toNat < r.length := fun j h => hno j h (by omega)
    refine WC.exit ?_
    refine thenQ_e ?_
    refine thenQ_e ?_
    refine blockQ_hit ?_
    refine thenQ_n (hK5 _ _ ?_)
    refine WC.seq (fun K12 hK12 => ?_)
    refine WC.region ?_
    refine WL.op rfl (opW.moveV (v := v) rfl ?_)
    refine WL.op rfl (opW.appendNil (α := Account) rfl hS rfl ((hl.bel hS.old)) (by (try simp only [List.length_append, List.length_cons, List.length_nil, List.length_map]); omega) (by simp only [maxLen]; (try simp only [List.length_append, List.length_cons, List.length_nil, List.length_map]); omega) ?_)
    intro v48 w hw hS
    refine WL.op rfl (opW.assignV (v := v48) rfl ?_)
    refine WL.nil ?_
    refine thenQ_n (hK12 _ _ ?_)
    refine WC.seq (fun K13 hK13 => ?_)
    refine WC.region ?_
    refine WL.op rfl (opW.assignI rfl ?_)
    refine WL.nil ?_
    refine thenQ_n (hK13 _ _ ?_)
    refine WC.seq (fun K14 hK14 => ?_)
    refine WC.region ?_
    refine WL.op rfl (opW.assignI rfl ?_)
    refine WL.nil ?_
    refine thenQ_n (hK14 _ _ ?_)
    refine WC.seq (fun K15 hK15 => ?_)
    refine WC.seq (fun K16 hK16 => ?_)
    refine WC.region ?_
    refine WL.op rfl (opW.assignI rfl ?_)
    refine WL.nil ?_
    refine thenQ_n (hK16 _ _ ?_)
    refine WC.block ?_
    refine WC.loop (fun m f w => ∃ (k : Nat) (v7 : Value) (x : XS), Fits [(1, v), (2, .pointer (some ⟨b2, 0, none⟩)), (4, .pointer (some ⟨b4, 0, none⟩)), (7, v7), (8, .int .u64 ((x.units : Nat) : Int)), (9, .int .u64 ((x.space : Nat) : Int)), (10, .int .i64 (k : Int))] f ∧ St w0 [ownE v7 69 x.l, blkE b4 (Enc.enc oz) 49, blkE b2 (Enc.enc R) 40] w ∧ runL r R.budget.units R.budget.bad (qs.drop k) k x = runZ R r qs l ∧ x.l.length = l.length ∧ (∀ y ∈ x.l, okW y) ∧ x.space < 18446744073709551616 ∧ k ≤ ins.length ∧ m = ins.length - k) (ins.length) ?_ ?_
    ·
     exact ⟨0, v48, ⟨0, 0, l⟩, ⟨rfl, rfl, rfl, rfl, rfl, rfl, rfl, trivial⟩, hS.sub (by repeat with_reducible first | exact su1 _ | exact su2 _ | refine su3 ?_ | refine su4 ?_), rfl, rfl, hlw, show (0 : Nat) < 18446744073709551616 from by decide, Nat.zero_le _, rfl⟩
    ·
     rintro m f w ⟨k, v7, x, hfit, hS, hinv, hxl, hxw, hxs, hk0, hm⟩
     refine WC.fits _ hfit (fun g => ?_)
     clear hfit
     refine WC.seq (fun K17 hK17 => ?_)
     refine WC.seq (fun K18 hK18 => ?_)
     refine WC.region ?_
     refine WL.op rfl (opW.moveI rfl ?_)
     refine WL.op rfl (opW.fieldAddrB rfl ?_)
     refine WL.op rfl (opW.fieldAddrB rfl ?_)
     refine WL.op rfl (opW.fieldAddrB rfl ?_)
     refine WL.op rfl (opW.loadV rfl (hS.ld1 (b := b2) (cs := Enc.enc R) (by repeat constructor) (Ready.at_ins R)) ?_)
     refine WL.op rfl (opW.lenV rfl ((hi.bel hS.old)) ?_)
     refine WL.op rfl (opW.lss rfl rfl ?_)
     refine WL.nil ?_
     refine thenQ_n (hK18 _ _ ?_)
     refine WC.cond _ rfl (fun hc3 => ?_) (fun hc3 => ?_)
     ·
      have hr3 := hc3
      try simp only [sq1,sq2,sq3,sq4,sq5,sq6,sq7,sq8,sq9,sq0] at hc3
      have hkl : k < ins.length := by omega
      have hkq : k < qs.length := by omega
      obtain ⟨hq1, hq2, hq3⟩ := hin k hkl hkq
      have hp := hno k hkl
      refine WC.skip ?_
      refine thenQ_n (hK17 _ _ ?_)
      refine WC.seq (fun K19 hK19 => ?_)
      refine WC.block ?_
      refine WC.seq (fun K20 hK20 => ?_)
      refine WC.region ?_
      refine WL.op rfl (opW.fieldAddrB rfl ?_)
      refine WL.op rfl (opW.fieldAddrB rfl ?_)
      refine WL.op rfl (opW.fieldAddrB rfl ?_)
      refine WL.op rfl (opW.loadV rfl (hS.ld1 (b := b2) (cs := Enc.enc R) (by repeat constructor) (Ready.at_ins R)) ?_)
      refine WL.op rfl (opW.moveI rfl ?_)
      refine WL.op rfl (opW.idxV rfl ((hi.bel hS.old)) rfl (by omega) ?_)
      refine WL.op rfl (opW.loadV rfl (((hi.bel hS.old).isPt hkl).ldA (Enc.size_eq ins[k])) ?_)
      refine WL.op rfl (opW.allocA hS ?_)
      intro b11 w _ hS
      refine WL.op0 (opW.storeE hS rfl rfl (by repeat constructor) (by first | rfl | exact Enc.size_eq _) ?_)
      intro w hS; replace hS := hS _ (by repeat constructor)
      refine WL.nil ?_
      refine thenQ_n (hK20 _ _ ?_)
      refine WC.seq (fun K21 hK21 => ?_)
      refine WC.region ?_
      refine WL.op rfl (opW.assignI rfl ?_)
      refine WL.nil ?_
      refine thenQ_n (hK21 _ _ ?_)
      refine WC.mid (fun f w => ∃ w7 : Value, Fits [(1, v), (2, .pointer (some ⟨b2, 0, none⟩)), (4, .pointer (some ⟨b4, 0, none⟩)), (7, w7), (8, .int .u64 (((stepF r R.budget.units R.budget.bad k qs[k] x).2.units : Nat) : Int)), (9, .int .u64 (((stepF r R.budget.units R.budget.bad k qs[k] x).2.space : Nat) : Int)), (10, .int .i64 (k : Int)), (12, .int .i64 (stepF r R.budget.units R.budget.bad k qs[k] x).1)] f ∧ St w0 [ownE w7 69 (stepF r R.budget.units R.budget.bad k qs[k] x).2.l, blkE b4 (Enc.enc oz) 49, blkE b2 (Enc.enc R) 40] w ∧ (stepF r R.budget.units R.budget.bad k qs[k] x).2.space < 18446744073709551616) ?_ ?_
      ·
       refine WC.seq (fun K22 hK22 => ?_)
       refine WC.region ?_
       refine WL.op rfl (opW.fieldAddrB rfl ?_)
       refine WL.op rfl (opW.fieldAddrB rfl ?_)
       refine WL.op rfl (opW.loadV rfl (hS.ld1 (b := b2) (cs := Enc.enc R) (by repeat constructor) (Ready.at_budget_units R)) ?_)
       refine WL.op rfl (opW.lss rfl rfl ?_)
       refine WL.op rfl (opW.moveB rfl ?_)
       refine WL.gd _ 69 _ rfl rfl rfl rfl (fun hg70 => opW.moveI rfl ⟨rfl, Bel.refl _⟩) (fun w hw => ?_)
       replace hS := hS.bel hw
       refine WL.gd _ 69 _ rfl rfl rfl rfl (fun hg71 => opW.fieldAddrB rfl ⟨rfl, Bel.refl _⟩) (fun w hw => ?_)
       replace hS := hS.bel hw
       refine WL.gd _ 69 _ rfl rfl rfl rfl (fun hg72 => opW.fieldAddrB (by first | exact gv_of rfl hg72 | rfl) ⟨rfl, Bel.refl _⟩) (fun w hw => ?_)
       replace hS := hS.bel hw
       refine WL.gd _ 69 (.int .u64 ((R.budget.units : Nat) : Int)) rfl rfl rfl rfl (fun hg73 => ?_) (fun w hw => ?_)
       ·refine opW.loadV (by first | exact gv_of rfl hg73 | rfl) (hS.ld1 (b := b2) (cs := Enc.enc R) (by repeat constructor) (Ready.at_budget_units R)) ⟨rfl, Bel.refl _⟩
       replace hS := hS.bel hw
       refine WL.gd _ 69 (.int .u64 ((R.budget.units - 150 : Nat) : Int)) rfl rfl rfl rfl (fun hg74 => ?_) (fun w hw => ?_)
       ·refine opW.sub (by first | exact gv_of rfl hg74 | rfl) rfl ((show IntKind.u64.wrap ((R.budget.units : Int) - 150) = ((R.budget.units - 150 : Nat) : Int) from nsub (b := 150) (by simp only [beq_iff_eq, decide_eq_false_iff_not] at hg74; omega) hbu)) ⟨rfl, Bel.refl _⟩
       replace hS := hS.bel hw
       refine WL.gd _ 69 _ rfl rfl rfl rfl (fun hg75 => opW.gtr (by first | exact gv_of rfl hg75 | rfl) (by first | exact gv_of rfl hg75 | rfl) ⟨rfl, Bel.refl _⟩) (fun w hw => ?_)
       replace hS := hS.bel hw
       refine WL.op rfl (opW.pickOr rfl rfl (by first | rfl) ?_)
       refine WL.nil ?_
       refine thenQ_n (hK22 _ _ ?_)
       refine WC.cond _ rfl (fun hc4 => ?_) (fun hc4 => ?_)
       ·
        have hr4 := hc4
        try simp only [sq1,sq2,sq3,sq4,sq5,sq6,sq7,sq8,sq9,sq0] at hc4
        have hlim : R.budget.units < x.units ∨ R.budget.units - x.units < 150 := by omega
        have hst := stepF_20 (r := r) (bad := R.budget.bad) (i := k) (q := qs[k]) hlim
        refine WC.seq (fun K23 hK23 => ?_)
        refine WC.region ?_
        refine WL.op rfl (opW.fieldAddrB rfl ?_)
        refine WL.op rfl (opW.fieldAddrB rfl ?_)
        refine WL.op rfl (opW.loadV rfl (hS.ld1 (b := b2) (cs := Enc.enc R) (by repeat constructor) (Ready.at_budget_units R)) ?_)
        refine WL.op rfl (opW.assignI rfl ?_)
        refine WL.nil ?_
        refine thenQ_n (hK23 _ _ ?_)
        refine WC.region ?_
        refine WL.op rfl (opW.assignI rfl ?_)
        refine WL.nil ?_
        refine thenQ_n ?_
        try dsimp only at hst
        rw [hst]
        first
         | exact ⟨v104, ⟨rfl, rfl, rfl, rfl, rfl, rfl, rfl, rfl, trivial⟩, (show St w0 [ownE v104 69 (doF x.l r qs[k].ats qs[k].dt).2.2, blkE b4 (Enc.enc oz) 49, blkE b2 (Enc.enc R) 40] _ from (((hS.pick (e := blkE b2 (Enc.enc R) 40) (by repeat constructor)).pick (e := blkE b4 (Enc.enc oz) 49) (by repeat constructor)).pick (e := ownE v104 69 (doF x.l r qs[k].ats qs[k].dt).2.2) (by repeat constructor)).sub (by repeat with_reducible first | exact su1 _ | exact su2 _ | refine su3 ?_ | refine su4 ?_)), by first | exact hxs | exact Nat.mod_lt _ (by decide)⟩
         | exact ⟨v7, ⟨rfl, rfl, rfl, rfl, rfl, rfl, rfl, rfl, trivial⟩, (show St w0 [ownE v7 69 x.l, blkE b4 (Enc.enc oz) 49, blkE b2 (Enc.enc R) 40] _ from (((hS.pick (e := blkE b2 (Enc.enc R) 40) (by repeat constructor)).pick (e := blkE b4 (Enc.enc oz) 49) (by repeat constructor)).pick (e := ownE v7 69 x.l) (by repeat constructor)).sub (by repeat with_reducible first | exact su1 _ | exact su2 _ | refine su3 ?_ | refine su4 ?_)), by first | exact hxs | exact Nat.mod_lt _ (by decide)⟩
       ·
        have hr4 := hc4
        try simp only [sq1,sq2,sq3,sq4,sq5,sq6,sq7,sq8,sq9,sq0] at hc4
        have hlim : ¬ (R.budget.units < x.units ∨ R.budget.units - x.units < 150) := by omega
        refine WC.seq (fun K24 hK24 => ?_)
        refine WC.region ?_
        refine WL.op rfl (opW.moveI rfl ?_)
        refine WL.op rfl (opW.add rfl rfl ((show IntKind.u64.wrap ((x.units : Int) + 150) = ((x.units + 150 : Nat) : Int) from nadd (b := 150) (by omega))) ?_)
        refine WL.op rfl (opW.assignI rfl ?_)
        refine WL.nil ?_
        refine thenQ_n (hK24 _ _ ?_)
        refine WC.seq (fun K25 hK25 => ?_)
        refine WC.region ?_
        refine WL.op rfl (opW.fieldAddrB rfl ?_)
        refine WL.op rfl (opW.loadV rfl (hS.ld1 (b := b2) (cs := Enc.enc R) (by repeat constructor) (Ready.at_roles R)) ?_)
        refine WL.op rfl (opW.fieldAddrB rfl ?_)
        refine WL.op rfl (opW.loadV rfl (hS.ld1 (b := b11) (cs := Enc.enc ins[k]) (by repeat constructor) (Instr.at_program ins[k])) ?_)
        refine WL.op rfl (opW.idxV rfl ((hr.bel hS.old)) rfl (by omega) ?_)
        refine WL.op rfl (opW.fieldAddr rfl ((hr.bel hS.old).isP hp) ?_)
        refine WL.op rfl (opW.loadV rfl (Ld.ptA ((hr.bel hS.old).isPt hp) 0 (Role.ex_key _) (by rw [Enc.size_eq]; decide)) ?_)
        refine WL.op rfl (opW.allocA hS ?_)
        intro b13 w _ hS
        refine WL.op0 (opW.storeE hS rfl rfl (by repeat constructor) (by first | rfl | exact Enc.size_eq _) ?_)
        intro w hS; replace hS := hS _ (by repeat constructor)
        refine WL.nil ?_
        refine thenQ_n (hK25 _ _ ?_)
        refine WC.block ?_
        refine WC.seq (fun K26 hK26 => ?_)
        refine WC.region ?_
        refine WL.op rfl (opW.moveI rfl ?_)
        refine WL.op rfl (opW.fieldAddrB rfl ?_)
        refine WL.op rfl (opW.fieldAddrB rfl ?_)
        refine WL.op rfl (opW.loadV rfl (hS.ld1 (b := b2) (cs := Enc.enc R) (by repeat constructor) (Ready.at_budget_bad R)) ?_)
        refine WL.op rfl (opW.eql rfl rfl ?_)
        refine WL.op rfl (opW.assignB rfl ?_)
        refine WL.nil ?_
        refine thenQ_n (hK26 _ _ ?_)
        refine WC.cond _ rfl (fun hc5 => ?_) (fun hc5 => ?_)
        ·
         have hr5 := hc5
         try simp only [sq1,sq2,sq3,sq4,sq5,sq6,sq7,sq8,sq9,sq0] at hc5
         have hst := stepF_21 (r := r) (q := qs[k]) hlim (of_decide_eq_true hr5)
         refine WC.region ?_
         refine WL.op rfl (opW.assignI rfl ?_)
         refine WL.nil ?_
         refine blockQ_n ?_
         refine thenQ_n ?_
         try dsimp only at hst
         rw [hst]
         first
          | exact ⟨v104, ⟨rfl, rfl, rfl, rfl, rfl, rfl, rfl, rfl, trivial⟩, (show St w0 [ownE v104 69 (doF x.l r qs[k].ats qs[k].dt).2.2, blkE b4 (Enc.enc oz) 49, blkE b2 (Enc.enc R) 40] _ from (((hS.pick (e := blkE b2 (Enc.enc R) 40) (by repeat constructor)).pick (e := blkE b4 (Enc.enc oz) 49) (by repeat constructor)).pick (e := ownE v104 69 (doF x.l r qs[k].ats qs[k].dt).2.2) (by repeat constructor)).sub (by repeat with_reducible first | exact su1 _ | exact su2 _ | refine su3 ?_ | refine su4 ?_)), by first | exact hxs | exact Nat.mod_lt _ (by decide)⟩
          | exact ⟨v7, ⟨rfl, rfl, rfl, rfl, rfl, rfl, rfl, rfl, trivial⟩, (show St w0 [ownE v7 69 x.l, blkE b4 (Enc.enc oz) 49, blkE b2 (Enc.enc R) 40] _ from (((hS.pick (e := blkE b2 (Enc.enc R) 40) (by repeat constructor)).pick (e := blkE b4 (Enc.enc oz) 49) (by repeat constructor)).pick (e := ownE v7 69 x.l) (by repeat constructor)).sub (by repeat with_reducible first | exact su1 _ | exact su2 _ | refine su3 ?_ | refine su4 ?_)), by first | exact hxs | exact Nat.mod_lt _ (by decide)⟩
        ·
         have hr5 := hc5
         try simp only [sq1,sq2,sq3,sq4,sq5,sq6,sq7,sq8,sq9,sq0] at hc5
         have hst1 := stepF_act (r := r) (q := qs[k]) hlim (of_decide_eq_false hr5)
         have hke : keyAt r qs[k].p = r[ins[k].program.toNat].key := by rw [← hq1, keyAt_eq hp]
         refine WC.seq (fun K27 hK27 => ?_)
         refine WC.draw 4 (.look 0 (.one 1 (.look 2 (.look 3 .nil)))) (by kernel_rfl) (fun _ _ _ h => h) (fun w1 hw1 => ?_)
         replace hS := hS.bel hw1
         have hS1 := hS
         have hT := St.start w1
         refine ML.look rfl rfl rfl (fun w hw => (by have hS := hS1.bel hw; exact opW.loadV rfl (hS.ldA (b := b13) (cs := Enc.enc r[ins[k].program.toNat].key) (by repeat constructor) (Enc.size_eq r[ins[k].program.toNat].key)) ⟨rfl, rfl⟩)) ?_
         refine ML.one rfl rfl rfl (opW.call (rsys15 _) rfl ?_)
         rintro _ w ⟨rfl, hw⟩; replace hT := hT.bel hw
         refine ⟨hT.old, ?_⟩
         have hS := hS1.merge hT
         try simp only [List.cons_append, List.nil_append] at hS
         refine ML.look rfl rfl rfl (fun w hw => (by have hS := hS1.bel hw; exact opW.eqlE rfl rfl ⟨rfl, rfl⟩)) ?_
         refine ML.look rfl rfl rfl (fun w hw => (by have hS := hS1.bel hw; exact opW.assignB rfl ⟨rfl, rfl⟩)) ?_
         refine ML.nil ?_
         refine thenQ_n (hK27 _ _ ?_)
         refine WC.cond _ rfl (fun hc6 => ?_) (fun hc6 => ?_)
         ·
          have hr6 := hc6
          try simp only [sq1,sq2,sq3,sq4,sq5,sq6,sq7,sq8,sq9,sq0] at hc6
          have hst2 := hst1.trans (actF_s (hke.trans (of_decide_eq_true hr6)))
          refine WC.seq (fun K28 hK28 => ?_)
          refine WC.region ?_
          refine WL.op rfl (opW.moveV (v := v7) rfl ?_)
          refine WL.op rfl (opW.fieldAddrB rfl ?_)
          refine WL.op rfl (opW.loadV rfl (hS.ld1 (b := b2) (cs := Enc.enc R) (by repeat constructor) (Ready.at_roles R)) ?_)
          refine WL.op rfl (opW.loadV rfl (hS.ldA (b := b11) (cs := Enc.enc ins[k]) (by repeat constructor) (Enc.size_eq ins[k])) ?_)
          refine WL.op rfl (opW.call (rdo_ok _ v7 R.roles.v ins[k] x.l r qs[k].ats qs[k].dt (hS.sl (v := v7) (xs := x.l) (by repeat constructor)) (hr.bel hS.old) (hq2.bel hS.old) (hq3.bel hS.old) (by omega) hxw) rfl ?_)
          rintro _ w ⟨v104, rfl, hn104, hw⟩; replace hS := hS.newOwn hw hn104.1 hn104.2
          refine WL.op rfl (opW.moveV (v := .tuple #[v104, .int .u64 (((doF x.l r qs[k].ats qs[k].dt).2.1 : Nat) : Int), .int .i64 (doF x.l r qs[k].ats qs[k].dt).1]) rfl ?_)
          refine WL.op rfl (opW.extract rfl rfl ?_)
          refine WL.op rfl (opW.extract rfl rfl ?_)
          refine WL.op rfl (opW.extract rfl rfl ?_)
          refine WL.op rfl (opW.assignV (v := v104) rfl ?_)
          refine WL.op rfl (opW.assignI rfl ?_)
          refine WL.op rfl (opW.assignI rfl ?_)
          refine WL.nil ?_
          refine thenQ_n (hK28 _ _ ?_)
          refine WC.seq (fun K29 hK29 => ?_)
          refine WC.seq (fun K30 hK30 => ?_)
          refine WC.region ?_
          refine WL.op rfl (opW.moveI rfl ?_)
          refine WL.op rfl (opW.eql rfl rfl ?_)
          refine WL.nil ?_
          refine thenQ_n (hK30 _ _ ?_)
          refine WC.cond _ rfl (fun hc7 => ?_) (fun hc7 => ?_)
          ·
           have hr7 := hc7
           try simp only [sq1,sq2,sq3,sq4,sq5,sq6,sq7,sq8,sq9,sq0] at hc7
           have hz : (doF x.l r qs[k].ats qs[k].dt).1 = 0 := of_decide_eq_true hr7
           have hst := hst2.trans (if_neg (fun e => e hz))
           dsimp only at hst
           rw [← hz] at hst
           refine WC.seq (fun K31 hK31 => ?_)
           refine WC.region ?_
           refine WL.op rfl (opW.moveV (v := v104) rfl ?_)
           refine WL.op rfl (opW.assignV (v := v104) rfl ?_)
           refine WL.nil ?_
           refine thenQ_n (hK31 _ _ ?_)
           refine WC.region ?_
           refine WL.op rfl (opW.moveI rfl ?_)
           refine WL.op rfl (opW.moveI rfl ?_)
           refine WL.op rfl (opW.add rfl rfl ((show IntKind.u64.wrap ((x.space : Int) + ((doF x.l r qs[k].ats qs[k].dt).2.1 : Int)) = ((((x.space + (doF x.l r qs[k].ats qs[k].dt).2.1) % 18446744073709551616) : Nat) : Int) from by rw [IntKind.wrap_u64]; omega)) ?_)
           refine WL.op rfl (opW.assignI rfl ?_)
           refine WL.nil ?_
           refine thenQ_n (hK29 _ _ ?_)
           refine WC.region ?_
           refine WL.op rfl (opW.moveI rfl ?_)
           refine WL.op rfl (opW.assignI rfl ?_)
           refine WL.nil ?_
           refine blockQ_n ?_
           refine thenQ_n ?_
           try dsimp only at hst
           rw [hst]
           first
            | exact ⟨v104, ⟨rfl, rfl, rfl, rfl, rfl, rfl, rfl, rfl, trivial⟩, (show St w0 [ownE v104 69 (doF x.l r qs[k].ats qs[k].dt).2.2, blkE b4 (Enc.enc oz) 49, blkE b2 (Enc.enc R) 40] _ from (((hS.pick (e := blkE b2 (Enc.enc R) 40) (by repeat constructor)).pick (e := blkE b4 (Enc.enc oz) 49) (by repeat constructor)).pick (e := ownE v104 69 (doF x.l r qs[k].ats qs[k].dt).2.2) (by repeat constructor)).sub (by repeat with_reducible first | exact su1 _ | exact su2 _ | refine su3 ?_ | refine su4 ?_)), by first | exact hxs | exact Nat.mod_lt _ (by decide)⟩
            | exact ⟨v7, ⟨rfl, rfl, rfl, rfl, rfl, rfl, rfl, rfl, trivial⟩, (show St w0 [ownE v7 69 x.l, blkE b4 (Enc.enc oz) 49, blkE b2 (Enc.enc R) 40] _ from (((hS.pick (e := blkE b2 (Enc.enc R) 40) (by repeat constructor)).pick (e := blkE b4 (Enc.enc oz) 49) (by repeat constructor)).pick (e := ownE v7 69 x.l) (by repeat constructor)).sub (by repeat with_reducible first | exact su1 _ | exact su2 _ | refine su3 ?_ | refine su4 ?_)), by first | exact hxs | exact Nat.mod_lt _ (by decide)⟩
          ·
           have hr7 := hc7
           try simp only [sq1,sq2,sq3,sq4,sq5,sq6,sq7,sq8,sq9,sq0] at hc7
           have hz : (doF x.l r qs[k].ats qs[k].dt).1 ≠ 0 := of_decide_eq_false hr7
           have hst := hst2.trans (if_pos hz)
           refine WC.skip ?_
           refine thenQ_n (hK29 _ _ ?_)
           refine WC.region ?_
           refine WL.op rfl (opW.moveI rfl ?_)
           refine WL.op rfl (opW.assignI rfl ?_)
           refine WL.nil ?_
           refine blockQ_n ?_
           refine thenQ_n ?_
           try dsimp only at hst
           rw [hst]
           first
            | exact ⟨v104, ⟨rfl, rfl, rfl, rfl, rfl, rfl, rfl, rfl, trivial⟩, (show St w0 [ownE v104 69 (doF x.l r qs[k].ats qs[k].dt).2.2, blkE b4 (Enc.enc oz) 49, blkE b2 (Enc.enc R) 40] _ from (((hS.pick (e := blkE b2 (Enc.enc R) 40) (by repeat constructor)).pick (e := blkE b4 (Enc.enc oz) 49) (by repeat constructor)).pick (e := ownE v104 69 (doF x.l r qs[k].ats qs[k].dt).2.2) (by repeat constructor)).sub (by repeat with_reducible first | exact su1 _ | exact su2 _ | refine su3 ?_ | refine su4 ?_)), by first | exact hxs | exact Nat.mod_lt _ (by decide)⟩
            | exact ⟨v7, ⟨rfl, rfl, rfl, rfl, rfl, rfl, rfl, rfl, trivial⟩, (show St w0 [ownE v7 69 x.l, blkE b4 (Enc.enc oz) 49, blkE b2 (Enc.enc R) 40] _ from (((hS.pick (e := blkE b2 (Enc.enc R) 40) (by repeat constructor)).pick (e := blkE b4 (Enc.enc oz) 49) (by repeat constructor)).pick (e := ownE v7 69 x.l) (by repeat constructor)).sub (by repeat with_reducible first | exact su1 _ | exact su2 _ | refine su3 ?_ | refine su4 ?_)), by first | exact hxs | exact Nat.mod_lt _ (by decide)⟩
         ·
          have hr6 := hc6
          try simp only [sq1,sq2,sq3,sq4,sq5,sq6,sq7,sq8,sq9,sq0] at hc6
          have hk1 : r[ins[k].program.toNat].key ≠ sysK := of_decide_eq_false hr6
          refine WC.seq (fun K32 hK32 => ?_)
          refine WC.draw 4 (.look 0 (.one 1 (.look 2 (.look 3 .nil)))) (by kernel_rfl) (fun _ _ _ h => h) (fun w1 hw1 => ?_)
          replace hS := hS.bel hw1
          have hS1 := hS
          have hT := St.start w1
          refine ML.look rfl rfl rfl (fun w hw => (by have hS := hS1.bel hw; exact opW.loadV rfl (hS.ldA (b := b13) (cs := Enc.enc r[ins[k].program.toNat].key) (by repeat constructor) (Enc.size_eq r[ins[k].program.toNat].key)) ⟨rfl, rfl⟩)) ?_
          refine ML.one rfl rfl rfl (opW.call (rbud15 _) rfl ?_)
          rintro _ w ⟨rfl, hw⟩; replace hT := hT.bel hw
          refine ⟨hT.old, ?_⟩
          have hS := hS1.merge hT
          try simp only [List.cons_append, List.nil_append] at hS
          refine ML.look rfl rfl rfl (fun w hw => (by have hS := hS1.bel hw; exact opW.neqE rfl rfl ⟨rfl, rfl⟩)) ?_
          refine ML.look rfl rfl rfl (fun w hw => (by have hS := hS1.bel hw; exact opW.assignB rfl ⟨rfl, rfl⟩)) ?_
          refine ML.nil ?_
          refine thenQ_n (hK32 _ _ ?_)
          refine WC.cond _ rfl (fun hc8 => ?_) (fun hc8 => ?_)
          ·
           have hr8 := hc8
           try simp only [sq1,sq2,sq3,sq4,sq5,sq6,sq7,sq8,sq9,sq0] at hc8
           have hk2 : r[ins[k].program.toNat].key ≠ budK := by simpa using hr8
           have hst := hst1.trans (actF_n (by rw [hke]; exact hk2) (by rw [hke]; exact hk1))
           refine WC.region ?_
           refine WL.op rfl (opW.assignI rfl ?_)
           refine WL.nil ?_
           refine blockQ_n ?_
           refine thenQ_n ?_
           try dsimp only at hst
           rw [hst]
           first
            | exact ⟨v104, ⟨rfl, rfl, rfl, rfl, rfl, rfl, rfl, rfl, trivial⟩, (show St w0 [ownE v104 69 (doF x.l r qs[k].ats qs[k].dt).2.2, blkE b4 (Enc.enc oz) 49, blkE b2 (Enc.enc R) 40] _ from (((hS.pick (e := blkE b2 (Enc.enc R) 40) (by repeat constructor)).pick (e := blkE b4 (Enc.enc oz) 49) (by repeat constructor)).pick (e := ownE v104 69 (doF x.l r qs[k].ats qs[k].dt).2.2) (by repeat constructor)).sub (by repeat with_reducible first | exact su1 _ | exact su2 _ | refine su3 ?_ | refine su4 ?_)), by first | exact hxs | exact Nat.mod_lt _ (by decide)⟩
            | exact ⟨v7, ⟨rfl, rfl, rfl, rfl, rfl, rfl, rfl, rfl, trivial⟩, (show St w0 [ownE v7 69 x.l, blkE b4 (Enc.enc oz) 49, blkE b2 (Enc.enc R) 40] _ from (((hS.pick (e := blkE b2 (Enc.enc R) 40) (by repeat constructor)).pick (e := blkE b4 (Enc.enc oz) 49) (by repeat constructor)).pick (e := ownE v7 69 x.l) (by repeat constructor)).sub (by repeat with_reducible first | exact su1 _ | exact su2 _ | refine su3 ?_ | refine su4 ?_)), by first | exact hxs | exact Nat.mod_lt _ (by decide)⟩
          ·
           have hr8 := hc8
           try simp only [sq1,sq2,sq3,sq4,sq5,sq6,sq7,sq8,sq9,sq0] at hc8
           have hk2 : r[ins[k].program.toNat].key = budK := by simpa using hr8
           have hst := hst1.trans (actF_b (hke.trans hk2))
           refine WC.skip ?_
           refine blockQ_n ?_
           refine thenQ_n ?_
           try dsimp only at hst
           rw [hst]
           first
            | exact ⟨v104, ⟨rfl, rfl, rfl, rfl, rfl, rfl, rfl, rfl, trivial⟩, (show St w0 [ownE v104 69 (doF x.l r qs[k].ats qs[k].dt).2.2, blkE b4 (Enc.enc oz) 49, blkE b2 (Enc.enc R) 40] _ from (((hS.pick (e := blkE b2 (Enc.enc R) 40) (by repeat constructor)).pick (e := blkE b4 (Enc.enc oz) 49) (by repeat constructor)).pick (e := ownE v104 69 (doF x.l r qs[k].ats qs[k].dt).2.2) (by repeat constructor)).sub (by repeat with_reducible first | exact su1 _ | exact su2 _ | refine su3 ?_ | refine su4 ?_)), by first | exact hxs | exact Nat.mod_lt _ (by decide)⟩
            | exact ⟨v7, ⟨rfl, rfl, rfl, rfl, rfl, rfl, rfl, rfl, trivial⟩, (show St w0 [ownE v7 69 x.l, blkE b4 (Enc.enc oz) 49, blkE b2 (Enc.enc R) 40] _ from (((hS.pick (e := blkE b2 (Enc.enc R) 40) (by repeat constructor)).pick (e := blkE b4 (Enc.enc oz) 49) (by repeat constructor)).pick (e := ownE v7 69 x.l) (by repeat constructor)).sub (by repeat with_reducible first | exact su1 _ | exact su2 _ | refine su3 ?_ | refine su4 ?_)), by first | exact hxs | exact Nat.mod_lt _ (by decide)⟩
      ·
       rintro f w ⟨w7, hfit, hS, hsp⟩
       refine WC.fits _ hfit (fun g => ?_)
       clear hfit
       refine WC.seq (fun K33 hK33 => ?_)
       refine WC.region ?_
       refine WL.op rfl (opW.moveI rfl ?_)
       refine WL.op rfl (opW.neq rfl rfl ?_)
       refine WL.nil ?_
       refine thenQ_n (hK33 _ _ ?_)
       refine WC.cond _ rfl (fun hc9 => ?_) (fun hc9 => ?_)
       ·
        have hr9 := hc9
        try simp only [sq1,sq2,sq3,sq4,sq5,sq6,sq7,sq8,sq9,sq0] at hc9
        have he1 : (stepF r R.budget.units R.budget.bad k qs[k] x).1 ≠ 0 := by simpa using hr9
        rw [runL_step hkq, if_pos he1] at hinv
        refine WC.seq (fun K34 hK34 => ?_)
        refine WC.draw 9 (.look 0 (.look 1 (.look 2 (.look 3 (.look 4 (.look 5 (.look 6 (.one 7 (.look 8 (.one 9 (.one 10 .nil))))))))))) (by kernel_rfl) (fun _ _ _ h => h) (fun w1 hw1 => ?_)
        replace hS := hS.bel hw1
        have hS1 := hS
        have hT := St.start w1
        refine ML.look rfl rfl rfl (fun w hw => (by have hS := hS1.bel hw; exact opW.moveI rfl ⟨rfl, rfl⟩)) ?_
        refine ML.look rfl rfl rfl (fun w hw => (by have hS := hS1.bel hw; exact opW.moveI rfl ⟨rfl, rfl⟩)) ?_
        refine ML.look rfl rfl rfl (fun w hw => (by have hS := hS1.bel hw; exact opW.moveI rfl ⟨rfl, rfl⟩)) ?_
        refine ML.look rfl rfl rfl (fun w hw => (by have hS := hS1.bel hw; exact opW.fieldAddrB rfl ⟨rfl, rfl⟩)) ?_
        refine ML.look rfl rfl rfl (fun w hw => (by have hS := hS1.bel hw; exact opW.loadV rfl (hS.ld1 (b := b2) (cs := Enc.enc R) (by repeat constructor) (Ready.at_fee R)) ⟨rfl, rfl⟩)) ?_
        refine ML.look rfl rfl rfl (fun w hw => (by have hS := hS1.bel hw; exact opW.loadV rfl (hS.ldA (b := b2) (cs := Enc.enc R) (by repeat constructor) (Enc.size_eq R)) ⟨rfl, rfl⟩)) ?_
        refine ML.look rfl rfl rfl (fun w hw => (by have hS := hS1.bel hw; exact opW.moveV (v := v) rfl ⟨rfl, rfl⟩)) ?_
        refine ML.one rfl rfl rfl (opW.call (rchg_ok _ R v r l (hr.bel (hS1.old.trans hT.old)) (hl.bel (hS1.old.trans hT.old)) (by omega) (by omega)) rfl ?_)
        rintro _ w ⟨s128, rfl, hn128, hw⟩; replace hT := hT.newOwn hw hn128.1 hn128.2
        refine ⟨hT.old, ?_⟩
        have hS := hS1.merge hT
        try simp only [List.cons_append, List.nil_append] at hS
        refine ML.look rfl rfl rfl (fun w hw => (by have hS := hS1.bel hw; exact opW.buildE (r := (⟨(stepF r R.budget.units R.budget.bad k qs[k] x).1, (k : Int), (stepF r R.budget.units R.budget.bad k qs[k] x).2.units, R.fee, 0, s128⟩ : Outcome)) (ps := Outcome.parts (⟨(stepF r R.budget.units R.budget.bad k qs[k] x).1, (k : Int), (stepF r R.budget.units R.budget.bad k qs[k] x).2.units, R.fee, 0, s128⟩ : Outcome)) (Outcome.enc_eq _) (by exact rfl) (by exact fitO ⟨by decide, rfl, by decide, rfl, by decide, rfl, by decide, rfl, by decide, rfl, trivial⟩) ⟨rfl, rfl⟩)) ?_
        refine ML.put0 rfl rfl rfl (opW.storeE hS rfl rfl (by repeat constructor) (by first | rfl | exact Enc.size_eq _) ?_)
        intro w hS; replace hS := hS _ (by repeat constructor)
        refine ML.put1 rfl rfl rfl rfl (opW.assignI rfl ?_)
        refine ML.nil ?_
        refine thenQ_n (hK34 _ _ ?_)
        refine WC.ret ?_
        refine blockQ_r ?_
        refine thenQ_r ?_
        refine thenQ_r ?_
        refine blockQ_r ?_
        refine thenQ_r ?_
        refine bodyQ_ret (.cell (hS.ldA (b := b4) (cs := Enc.enc (⟨(stepF r R.budget.units R.budget.bad k qs[k] x).1, (k : Int), (stepF r R.budget.units R.budget.bad k qs[k] x).2.units, R.fee, 0, s128⟩ : Outcome)) (by repeat constructor) (Enc.size_eq (⟨(stepF r R.budget.units R.budget.bad k qs[k] x).1, (k : Int), (stepF r R.budget.units R.budget.bad k qs[k] x).2.units, R.fee, 0, s128⟩ : Outcome))) (.tmpI rfl .nil)) ?_
        have hac : accF R r qs l = l := by unfold accF; rw [← hinv, if_neg he1]
        have ho : outF R r qs l s128 = (⟨(stepF r R.budget.units R.budget.bad k qs[k] x).1, (k : Int), (stepF r R.budget.units R.budget.bad k qs[k] x).2.units, R.fee, 0, s128⟩ : Outcome) := by unfold outF; rw [← hinv]; simp only; rw [if_neg he1, if_neg he1]
        exact ⟨_, 0, _, rfl, hS.own_new (v := s128.v) (xs := chgF r l) (by repeat constructor), .inr ⟨rfl, hbad, s128, ho.symm, by rw [hac]⟩, hS.old⟩
       ·
        have hr9 := hc9
        try simp only [sq1,sq2,sq3,sq4,sq5,sq6,sq7,sq8,sq9,sq0] at hc9
        refine WC.skip ?_
        refine blockQ_n ?_
        refine thenQ_n (hK19 _ _ ?_)
        refine WC.region ?_
        refine WL.op rfl (opW.moveI rfl ?_)
        refine WL.op rfl (opW.add rfl rfl (wrap_i64 (by omega)) ?_)
        refine WL.op rfl (opW.assignI rfl ?_)
        refine WL.nil ?_
        refine thenQ_n ?_
        have he0 : (stepF r R.budget.units R.budget.bad k qs[k] x).1 = 0 := of_decide_eq_true (by simpa using hr9)
        rw [runL_step hkq, if_neg (fun e => e he0)] at hinv
        have hkeep := stepF_keeps (r := r) (bu := R.budget.units) (bad := R.budget.bad) (i := k) (q := qs[k]) hxw
        exact ⟨ins.length - (k + 1), by omega, k + 1, w7, (stepF r R.budget.units R.budget.bad k qs[k] x).2, ⟨rfl, rfl, rfl, rfl, rfl, rfl, congrArg (Value.int .i64) (by omega), trivial⟩, hS.sub (by repeat with_reducible first | exact su1 _ | exact su2 _ | refine su3 ?_ | refine su4 ?_), hinv, hkeep.1.trans hxl, hkeep.2, hsp, by omega, rfl⟩
     ·
      have hr3 := hc3
      try simp only [sq1,sq2,sq3,sq4,sq5,sq6,sq7,sq8,sq9,sq0] at hc3
      rw [runL_end (by omega)] at hinv
      refine WC.exit ?_
      refine thenQ_e ?_
      refine thenQ_e ?_
      refine blockQ_hit ?_
      refine thenQ_n (hK15 _ _ ?_)
      refine WC.seq (fun K35 hK35 => ?_)
      refine WC.draw 8 (.look 0 (.look 1 (.look 2 (.look 3 (.look 4 (.look 5 (.one 6 (.look 7 (.one 8 (.one 9 .nil)))))))))) (by kernel_rfl) (fun _ _ _ h => h) (fun w1 hw1 => ?_)
      replace hS := hS.bel hw1
      have hS1 := hS
      have hT := St.start w1
      refine ML.look rfl rfl rfl (fun w hw => (by have hS := hS1.bel hw; exact opW.moveI rfl ⟨rfl, rfl⟩)) ?_
      refine ML.look rfl rfl rfl (fun w hw => (by have hS := hS1.bel hw; exact opW.fieldAddrB rfl ⟨rfl, rfl⟩)) ?_
      refine ML.look rfl rfl rfl (fun w hw => (by have hS := hS1.bel hw; exact opW.loadV rfl (hS.ld1 (b := b2) (cs := Enc.enc R) (by repeat constructor) (Ready.at_fee R)) ⟨rfl, rfl⟩)) ?_
      refine ML.look rfl rfl rfl (fun w hw => (by have hS := hS1.bel hw; exact opW.moveI rfl ⟨rfl, rfl⟩)) ?_
      refine ML.look rfl rfl rfl (fun w hw => (by have hS := hS1.bel hw; exact opW.loadV rfl (hS.ldA (b := b2) (cs := Enc.enc R) (by repeat constructor) (Enc.size_eq R)) ⟨rfl, rfl⟩)) ?_
      refine ML.look rfl rfl rfl (fun w hw => (by have hS := hS1.bel hw; exact opW.moveV (v := v7) rfl ⟨rfl, rfl⟩)) ?_
      refine ML.one rfl rfl rfl (opW.call (rchg_ok _ R v7 r x.l (hr.bel (hS1.old.trans hT.old)) (hS.sl (v := v7) (xs := x.l) (by repeat constructor)) (by omega) (by omega)) rfl ?_)
      rintro _ w ⟨s136, rfl, hn136, hw⟩; replace hT := hT.newOwn hw hn136.1 hn136.2
      refine ⟨hT.old, ?_⟩
      have hS := hS1.merge hT
      try simp only [List.cons_append, List.nil_append] at hS
      refine ML.look rfl rfl rfl (fun w hw => (by have hS := hS1.bel hw; exact opW.buildE (r := (⟨0, -1, x.units, R.fee, x.space, s136⟩ : Outcome)) (ps := Outcome.parts (⟨0, -1, x.units, R.fee, x.space, s136⟩ : Outcome)) (Outcome.enc_eq _) (by exact rfl) (by exact fitO ⟨by decide, rfl, by decide, rfl, by decide, rfl, by decide, rfl, by decide, rfl, trivial⟩) ⟨rfl, rfl⟩)) ?_
      refine ML.put0 rfl rfl rfl (opW.storeE hS rfl rfl (by repeat constructor) (by first | rfl | exact Enc.size_eq _) ?_)
      intro w hS; replace hS := hS _ (by repeat constructor)
      refine ML.put1 rfl rfl rfl rfl (opW.assignI rfl ?_)
      refine ML.nil ?_
      refine thenQ_n (hK35 _ _ ?_)
      refine WC.ret ?_
      refine bodyQ_ret (.cell (hS.ldA (b := b4) (cs := Enc.enc (⟨0, -1, x.units, R.fee, x.space, s136⟩ : Outcome)) (by repeat constructor) (Enc.size_eq (⟨0, -1, x.units, R.fee, x.space, s136⟩ : Outcome))) (.tmpI rfl .nil)) ?_
      have hac : accF R r qs l = x.l := by unfold accF; rw [← hinv]; rfl
      have ho : outF R r qs l s136 = (⟨0, -1, x.units, R.fee, x.space, s136⟩ : Outcome) := by unfold outF; rw [← hinv]; rfl
      exact ⟨_, 0, _, rfl, hS.own_new (v := s136.v) (xs := chgF r x.l) (by repeat constructor), .inr ⟨rfl, hbad, s136, ho.symm, by rw [hac]⟩, hS.old⟩

end Go.Fer
