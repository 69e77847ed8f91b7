/- a run -/
import Derived.Test.YtmibkfdpgmohfaaGreatDoorK8
set_option linter.all false
namespace Go.Fer
open Go Go.Proofs Go.RowKit

theorem clip_h (w0 : World) (v : Value) (xs : List Holding) (hx : SlR w0 v xs) : Ret Tryz.prog 29 #[v] w0 (fun u w' => u = cutV v 0 xs.length xs.length (Enc.sz (Holding)) ∧ Bel w0 w') := by
 refine Ret.enter (args := [v]) Tryz.func29 rfl Tryz.ntmps29 Tryz.results29 rfl ?_
 have hS := St.start w0
 refine WC.seq (fun K1 hK1 => ?_)
 refine WC.region ?_
 refine WL.op rfl (opW.assignV (v := .slice none 0 0) rfl ?_)
 refine WL.nil ?_
 refine thenQ_n (hK1 _ _ ?_)
 refine WC.seq (fun K2 hK2 => ?_)
 refine WC.region ?_
 refine WL.op rfl (opW.moveV (v := v) rfl ?_)
 refine WL.op rfl (opW.moveV (v := v) rfl ?_)
 refine WL.op rfl (opW.lenV rfl ((hx.bel hS.old)) ?_)
 refine WL.op rfl (opW.moveV (v := v) rfl ?_)
 refine WL.op rfl (opW.lenV rfl ((hx.bel hS.old)) ?_)
 refine WL.op rfl (opW.cutS (hx.bel hS.old) ⟨⟨_, rfl⟩, hx.cap⟩ ⟨⟨_, rfl⟩, Nat.le_refl _⟩ ⟨rfl, Nat.zero_le _⟩ ?_)
 refine WL.op rfl (opW.assignV rfl ?_)
 refine WL.nil ?_
 refine thenQ_n (hK2 _ _ ?_)
 refine WC.ret ?_
 refine bodyQ_ret (.tmp .nil) ?_
 exact ⟨rfl, hS.old⟩

theorem fit2 {zs : List (Array Value)} {a b : Value} (hl : 2 ≤ zs.length) (h0 : a.cells.size = (zs.getD 0 #[]).size) (h1 : b.cells.size = (zs.getD 1 #[]).size) : partsFit zs [(0, a), (1, b)] := by
 refine ⟨by omega, h0, by rw [List.length_set]; omega, ?_, trivial⟩
 rw [h1]
 simp [List.getD_eq_getElem?_getD]
theorem Turn.same {e : Ent} {S S' : List Ent} (h : Turn e e S S') : S' = S := by
 have h2 : ∀ {e' : Ent} {S S' : List Ent}, Turn e e' S S' → e = e' → S' = S := by
  intro e' S S' h
  induction h with
  | here => intro he; rw [he]
  | there _ ih => intro he; rw [ih he]
 exact h2 h rfl
theorem Pt.sub1 {w : World} {b o : Nat} {cs : Array Value} {v : Value} (hp : Pt w (.pointer (some ⟨b, 0, none⟩)) cs) (hc : cs[o]? = some v) : Pt w (.pointer (some ⟨b, o, none⟩)) #[v] := by
 obtain ⟨b', o', he, h⟩ := hp
 cases he
 refine ⟨b, o, rfl, fun j u hu => ?_⟩
 rcases j with _ | j
 ·simp at hu; subst hu
  have := h o v hc
  simpa using this
 ·simp at hu
theorem as_any {wb w : World} {S : List Ent} {tb : Nat} {o : Outcome} {E : TypeId} (e : Int) (ho : o.fail = 0) (hg : ErrLaid w) (hS : St wb S w) (he : Has (blkE tb (Enc.enc o) E) S) :
  Ret Tryz.prog 28 #[errV e, .iface 89 (.pointer (some ⟨tb, 0, none⟩))] w (fun u w' => u = .bool (decide (e ≠ 0)) ∧ ∀ S', Turn (blkE tb (Enc.enc o) E) (blkE tb (Enc.enc ({ o with fail := e } : Outcome)) E) S S' → St wb S' w') := by
 by_cases h : e = 0
 ·subst h
  rw [errV_0]
  refine (as_none _ w).mono ?_
  rintro u w' ⟨rfl, hw⟩
  refine ⟨rfl, fun S' hT => ?_⟩
  rw [show ({ o with fail := 0 } : Outcome) = o from by cases o; cases ho; rfl] at hT
  rw [hT.same]; exact hS.bel hw
 ·rw [errV_ne h]
  refine (as_ret e hg hS he).mono ?_
  rintro u w' ⟨rfl, hw⟩
  exact ⟨by rw [decide_eq_true h], hw⟩
section
variable {P : Program} {f : Fr} {w : World} {R : Value → World → Prop} {d : Option Tmp} {T : TypeId} {pos : String} {af : Array Edge} {gd : Option (Nat × Bool)}
theorem opW.ifaceP {s E : TypeId} {x : Operand} {v : Value} [ha : PtrT P s E] (hx : ev f x = v) (h : R (.iface s v) w) : opW P f ⟨d, .makeInterface s x, T, pos, af, gd⟩ w R := by
 refine opW.of_run (v := .iface s v) (w' := w) ?_ h
 have h1 : P.concrete s = true := by
  have h2 := ha.out
  unfold Program.concrete
  simp [h2]
 simp [Go.execOp, hx, run_makeInterface, h1]
end

theorem zOut : (joinA [#[.int .i64 0], #[.int .i64 0], #[.int .u64 0], #[.int .u64 0], #[.int .u64 0], #[.slice none 0 0]]) = Enc.enc (oz : Outcome) := by
 simp only [Outcome.enc_eq, Outcome.parts, enc_vz, oz]; rfl

set_option maxRecDepth 20000 in
set_option maxHeartbeats 1200000 in
theorem run_ok (w0 : World) (R : Ready) (sl : SlV) (l : List Account) (r : List Role) (ins : List Instr) (qs : List PI) (hg : ErrLaid w0) (hl : SlR w0 sl.v l) (hr : SlR w0 R.roles.v r) (hi : SlR w0 R.tx.m.instrs.v ins) (hql : ins.length = qs.length) (hin : ∀ k (h : k < ins.length) (h2 : k < qs.length), InIs w0 ins[k] qs[k]) (hbu : R.budget.units < 18446744073709551616) (hlb : l.length ≤ 100000) (hrb : r.length ≤ 100000) (hlw : ∀ y ∈ l, okW y) : Ret Tryz.prog 8 #[.agg (Enc.enc R), sl.v] w0 (fun u w' => (badArg r l ins = true ∧ u = .tuple #[.agg (Enc.enc oz), .int .i64 1] ∧ Bel w0 w') ∨ (badArg r l ins = false ∧ ∃ s : SlV, u = .tuple #[.agg (Enc.enc (outF R r qs l s)), .int .i64 0] ∧ New w0 w' s.v 74 (chgF r (accF R r qs l)) ∧ Bel w0 w')) := by
  refine Ret.enter (args := [.agg (Enc.enc R), sl.v]) Tryz.func8 rfl Tryz.ntmps8 Tryz.results8 rfl ?_
  have hS := St.start w0
  refine WC.seq (fun K1 hK1 => ?_)
  refine WC.region ?_
  refine WL.op rfl (opW.boxA hS rfl ?_)
  intro b2 w _ hS
  refine WL.op rfl (opW.allocA hS ?_)
  intro b4 w _ hS
  refine WL.op rfl (opW.assignI rfl ?_)
  rw [zOut] at hS
  refine WL.nil ?_
  refine thenQ_n (hK1 _ _ ?_)
  refine WC.seq (fun K2 hK2 => ?_)
  refine WC.region ?_
  refine WL.op rfl (opW.makeFn (vs := []) (cs := [.pointer (some ⟨b2, 0, none⟩)]) rfl rfl ?_)
  refine WL.op rfl (opW.assignV (v := (.func (.func 24) #[] #[.pointer (some ⟨b2, 0, none⟩)])) rfl ?_)
  refine WL.nil ?_
  refine thenQ_n (hK2 _ _ ?_)
  refine WC.seq (fun K3 hK3 => ?_)
  refine WC.seq (fun K4 hK4 => ?_)
  refine WC.region ?_
  refine WL.op rfl (opW.moveV (v := sl.v) rfl ?_)
  refine WL.op rfl (opW.lenV rfl ((hl.bel hS.old)) ?_)
  refine WL.op rfl (opW.fieldAddrB rfl ?_)
  refine WL.op rfl (opW.loadV rfl (hS.ld1 (b := b2) (cs := Enc.enc R) (by repeat constructor) (Ready.at_roles R)) ?_)
  refine WL.op rfl (opW.lenV rfl ((hr.bel hS.old)) ?_)
  refine WL.op rfl (opW.neq rfl rfl ?_)
  refine WL.op rfl (opW.moveB rfl ?_)
  refine WL.gd _ 21 _ rfl rfl rfl rfl (fun hg22 => opW.fieldAddrB rfl ⟨rfl, Bel.refl _⟩) (fun w hw => ?_)
  replace hS := hS.bel hw
  refine WL.gd _ 21 _ rfl rfl rfl rfl (fun hg23 => opW.fieldAddrB (by first | exact gv_of rfl hg23 | rfl) ⟨rfl, Bel.refl _⟩) (fun w hw => ?_)
  replace hS := hS.bel hw
  refine WL.gd _ 21 _ rfl rfl rfl rfl (fun hg24 => opW.fieldAddrB (by first | exact gv_of rfl hg24 | rfl) ⟨rfl, Bel.refl _⟩) (fun w hw => ?_)
  replace hS := hS.bel hw
  refine WL.gd _ 21 R.tx.m.instrs.v rfl rfl rfl rfl (fun hg25 => ?_) (fun w hw => ?_)
  · refine opW.loadV (by first | exact gv_of rfl hg25 | rfl) (hS.ld1 (b := b2) (cs := Enc.enc R) (by repeat constructor) (Ready.at_ins R)) ⟨rfl, Bel.refl _⟩
  replace hS := hS.bel hw
  refine WL.gd _ 21 _ rfl rfl rfl rfl (fun hg26 => opW.moveV (v := (.func (.func 24) #[] #[.pointer (some ⟨b2, 0, none⟩)])) rfl ⟨rfl, Bel.refl _⟩) (fun w hw => ?_)
  replace hS := hS.bel hw
  refine WL.gd _ 21 (.bool (ins.any fun c => decide ((r.length : Int) ≤ (c.program.toNat : Int)))) rfl rfl rfl rfl (fun hg27 => ?_) (fun w hw => ?_)
  · refine opW.call (containsI_ok _ R.tx.m.instrs.v (.func (.func 24) #[] #[.pointer (some ⟨b2, 0, none⟩)]) ins (fun c => decide ((r.length : Int) ≤ (c.program.toNat : Int))) (hi.bel hS.old) (fun w' h c _ => ⟨_, [], [.pointer (some ⟨b2, 0, none⟩)], rfl, inferInstance, beyondR_ok w' b2 R.roles.v r c (((hS.pt (b := b2) (cs := Enc.enc R) (by repeat constructor)).bel h).sub1 (Ready.at_roles R)) (hr.bel (hS.old.trans h))⟩)) (args2 (by first | exact gv_of rfl hg27 | rfl) (by first | exact gv_of rfl hg27 | rfl)) ?_
    rintro v w ⟨rfl, hw⟩; replace hS := hS.bel hw
    exact ⟨rfl, ‹_›⟩
  replace hS := hS.bel hw
  refine WL.op rfl (opW.pickOr rfl rfl (by first | rfl) ?_)
  refine WL.nil ?_
  refine thenQ_n (hK4 _ _ ?_)
  refine WC.cond _ rfl (fun hc0 => ?_) (fun hc0 => ?_)
  ·
    have hr0 := hc0
    try simp only [sq1,sq2,sq3,sq4,sq5,sq6,sq7,sq8,sq9,sq0] at hc0
    refine WC.seq (fun K5 hK5 => ?_)
    refine WC.region ?_
    refine WL.op rfl (opW.buildE (r := (oz : Outcome)) (ps := Outcome.parts (oz : Outcome)) (Outcome.enc_eq _) (by first | rfl | (simp only [sysK, az, budK, enc_vset, enc_vz, Account.enc_eq, Account.parts, Role.enc_eq, Role.parts, Instr.enc_eq, Instr.parts, Ask.enc_eq, Ask.parts, Cut.enc_eq, Cut.parts, PairS.enc_eq, PairS.parts, RAsk.enc_eq, RAsk.parts, Header.enc_eq, Header.parts, Lookup.enc_eq, Lookup.parts, Message.enc_eq, Message.parts, Tx.enc_eq, Tx.parts, Budget.enc_eq, Budget.parts, Ready.enc_eq, Ready.parts, Holding.enc_eq, Holding.parts, Outcome.enc_eq, Outcome.parts, Running.enc_eq, Running.parts, StS.enc_eq, StS.parts]; rfl)) (by (repeat' (first | exact trivial | refine And.intro ?_ ?_)) <;> first | rfl | exact Enc.size_eq _ | (simp; done)) ?_)
    refine WL.op0 (opW.storeE hS rfl rfl (by repeat constructor) (by first | rfl | exact Enc.size_eq _) ?_)
    intro w hS; replace hS := hS _ (by repeat constructor)
    refine WL.op rfl (opW.assignI rfl ?_)
    refine WL.nil ?_
    refine thenQ_n (hK5 _ _ ?_)
    refine WC.ret ?_
    refine thenQ_r ?_
    refine bodyQ_ret (.cell (by first | exact hS.ldA (by repeat constructor) (by first | rfl | exact Enc.size_eq _) | exact hS.ld1 (by repeat constructor) rfl) (.tmpI rfl .nil)) ?_
    refine .inl ⟨?_, rfl, hS.old⟩
    unfold badArg
    rw [← hr0]
    congr 2
    exact decide_eq_decide.2 (by omega)
  ·
    have hr0 := hc0
    try simp only [sq1,sq2,sq3,sq4,sq5,sq6,sq7,sq8,sq9,sq0] at hc0
    have hbad : badArg r l ins = false := by
      unfold badArg
      rw [← hr0]
      congr 2
      exact decide_eq_decide.2 (by omega)
    have hlen : l.length = r.length := by unfold badArg at hbad; simp at hbad; exact hbad.1
    have hpr : ∀ k (h : k < ins.length), ins[k].program.toNat < r.length := by
      intro k h
      unfold badArg at hbad
      have h2 := (Bool.or_eq_false_iff.1 hbad).2
      have h3 := List.any_eq_false.1 h2 ins[k] (List.getElem_mem h)
      simp only [decide_eq_true_eq] at h3
      omega
    have hile := hi.le
    have hrle := hr.le
    simp only [maxLen] at hile hrle
    refine WC.skip ?_
    refine thenQ_n (hK3 _ _ ?_)
    refine WC.mid (fun f w => ∃ (b34 b8 : Nat) (s0 : SlV), Fits [(1, sl.v), (2, .pointer (some ⟨b2, 0, none⟩)), (4, .pointer (some ⟨b4, 0, none⟩)), (7, .pointer (some ⟨b34, 0, none⟩)), (8, .pointer (some ⟨b8, 0, none⟩))] f ∧ St w0 [blkE b8 (Enc.enc (⟨0, -1, 0, R.fee, 0, ⟨none, 0, 0⟩⟩ : Outcome)) 49, blkE b34 (Enc.enc (⟨R, s0, 0, 0⟩ : Running)) 84, ownE s0.v 69 l, blkE b2 (Enc.enc R) 40, blkE b4 (Enc.enc oz) 49] w) ?_ ?_
    ·
      refine WC.draw 10 (.look 0 (.look 1 (.look 5 (.look 6 (.look 7 (.fork 2 8 (.look 3 (.fork 4 8 (.one 8 (.look 9 (.one 10 .nil))) (.one 4 (.look 9 (.one 10 .nil))))) (.one 2 (.look 3 (.one 4 (.look 9 (.one 10 .nil))))))))))) (by kernel_rfl) (fun _ _ _ h => h) (fun w1 hw1 => ?_)
      replace hS := hS.bel hw1
      have hS1 := hS
      have hT := St.start w1
      refine ML.look rfl rfl rfl (fun w hw => (by have hS := hS1.bel hw; exact opW.loadV rfl (hS.ldA (b := b2) (cs := Enc.enc R) (by repeat constructor) (Enc.size_eq R)) ⟨rfl, rfl⟩)) ?_
      refine ML.look rfl rfl rfl (fun w hw => (by have hS := hS1.bel hw; exact opW.moveV (v := sl.v) rfl ⟨rfl, rfl⟩)) ?_
      refine ML.look rfl rfl rfl (fun w hw => (by have hS := hS1.bel hw; exact opW.fieldAddrB rfl ⟨rfl, rfl⟩)) ?_
      refine ML.look rfl rfl rfl (fun w hw => (by have hS := hS1.bel hw; exact opW.loadV rfl (hS.ld1 (b := b2) (cs := Enc.enc R) (by repeat constructor) (Ready.at_fee R)) ⟨rfl, rfl⟩)) ?_
      refine ML.look rfl rfl rfl (fun w hw => (by have hS := hS1.bel hw; exact opW.buildE (r := ((⟨0, -1, 0, R.fee, 0, ⟨none, 0, 0⟩⟩ : Outcome) : Outcome)) (ps := Outcome.parts ((⟨0, -1, 0, R.fee, 0, ⟨none, 0, 0⟩⟩ : Outcome) : Outcome)) (Outcome.enc_eq _) (by first | rfl | (simp only [sysK, az, budK, enc_vset, enc_vz, Account.enc_eq, Account.parts, Role.enc_eq, Role.parts, Instr.enc_eq, Instr.parts, Ask.enc_eq, Ask.parts, Cut.enc_eq, Cut.parts, PairS.enc_eq, PairS.parts, RAsk.enc_eq, RAsk.parts, Header.enc_eq, Header.parts, Lookup.enc_eq, Lookup.parts, Message.enc_eq, Message.parts, Tx.enc_eq, Tx.parts, Budget.enc_eq, Budget.parts, Ready.enc_eq, Ready.parts, Holding.enc_eq, Holding.parts, Outcome.enc_eq, Outcome.parts, Running.enc_eq, Running.parts, StS.enc_eq, StS.parts]; rfl)) (by (repeat' (first | exact trivial | refine And.intro ?_ ?_)) <;> first | rfl | exact Enc.size_eq _ | (simp; done)) ⟨rfl, rfl⟩)) ?_
      refine ML.fork rfl rfl rfl rfl ?_ ?_ 
      · refine opW.call (clone_a _ _ l (hl.bel hS.old) hlb) rfl ?_
        rintro v32 w ⟨hn32, hw⟩; replace hT := hT.newOwn hw hn32.1 hn32.2
        obtain ⟨s0, rfl⟩ := (hn32.1.sl).asV
        refine ⟨hT.old, ?_⟩
        have hS := hS1.merge hT
        try simp only [List.cons_append, List.nil_append] at hS
        refine ML.look rfl rfl rfl (fun w hw => (by have hS := hS1.bel hw; exact opW.buildE (r := (⟨R, s0, 0, 0⟩ : Running)) (ps := Running.parts (⟨R, s0, 0, 0⟩ : Running)) (Running.enc_eq _) (by show setParts _ [(0, .agg (Enc.enc R)), (1, s0.v)] = _; rfl) (by exact fit2 (a := .agg (Enc.enc R)) (b := s0.v) (by decide) (Enc.size_eq R) rfl) ⟨rfl, rfl⟩)) ?_
        refine ML.fork rfl rfl rfl rfl ?_ ?_ 
        · refine opW.boxA hT rfl ?_
          intro b34 w hw hT
          refine ⟨hT.old, ?_⟩
          have hS := hS1.merge hT
          try simp only [List.cons_append, List.nil_append] at hS
          refine ML.one rfl rfl rfl (opW.allocA hT ?_)
          intro b8 w hw hT
          refine ⟨hT.old, ?_⟩
          have hS := hS1.merge hT
          try simp only [List.cons_append, List.nil_append] at hS
          refine ML.look rfl rfl rfl (fun w hw => (by have hS := hS1.bel hw; exact opW.assignV (v := .pointer (some ⟨b34, 0, none⟩)) rfl ⟨rfl, rfl⟩)) ?_
          refine ML.put0 rfl rfl rfl (opW.storeE hS rfl rfl (by repeat constructor) (by first | rfl | exact Enc.size_eq _) ?_)
          intro w hS; replace hS := hS _ (by repeat constructor)
          refine ML.nil ?_
          refine thenQ_n ?_
          exact ⟨b34, b8, s0, ⟨rfl, rfl, rfl, rfl, rfl, trivial⟩, (((((hS.pick (e := blkE b4 (Enc.enc oz) 49) (by repeat constructor)).pick (e := blkE b2 (Enc.enc R) 40) (by repeat constructor)).pick (e := ownE s0.v 69 l) (by repeat constructor)).pick (e := blkE b34 (Enc.enc (⟨R, s0, 0, 0⟩ : Running)) 84) (by repeat constructor)).pick (e := blkE b8 (Enc.enc (⟨0, -1, 0, R.fee, 0, ⟨none, 0, 0⟩⟩ : Outcome)) 49) (by repeat constructor)).sub (by repeat with_reducible first | exact su1 _ | exact su2 _ | refine su3 ?_ | refine su4 ?_)⟩
        · refine opW.allocA hT ?_
          intro b8 w hw hT
          refine ⟨hT.old, ?_⟩
          have hS := hS1.merge hT
          try simp only [List.cons_append, List.nil_append] at hS
          refine ML.one rfl rfl rfl (opW.boxA hT rfl ?_)
          intro b34 w hw hT
          refine ⟨hT.old, ?_⟩
          have hS := hS1.merge hT
          try simp only [List.cons_append, List.nil_append] at hS
          refine ML.look rfl rfl rfl (fun w hw => (by have hS := hS1.bel hw; exact opW.assignV (v := .pointer (some ⟨b34, 0, none⟩)) rfl ⟨rfl, rfl⟩)) ?_
          refine ML.put0 rfl rfl rfl (opW.storeE hS rfl rfl (by repeat constructor) (by first | rfl | exact Enc.size_eq _) ?_)
          intro w hS; replace hS := hS _ (by repeat constructor)
          refine ML.nil ?_
          refine thenQ_n ?_
          exact ⟨b34, b8, s0, ⟨rfl, rfl, rfl, rfl, rfl, trivial⟩, (((((hS.pick (e := blkE b4 (Enc.enc oz) 49) (by repeat constructor)).pick (e := blkE b2 (Enc.enc R) 40) (by repeat constructor)).pick (e := ownE s0.v 69 l) (by repeat constructor)).pick (e := blkE b34 (Enc.enc (⟨R, s0, 0, 0⟩ : Running)) 84) (by repeat constructor)).pick (e := blkE b8 (Enc.enc (⟨0, -1, 0, R.fee, 0, ⟨none, 0, 0⟩⟩ : Outcome)) 49) (by repeat constructor)).sub (by repeat with_reducible first | exact su1 _ | exact su2 _ | refine su3 ?_ | refine su4 ?_)⟩
      · refine opW.allocA hT ?_
        intro b8 w hw hT
        refine ⟨hT.old, ?_⟩
        have hS := hS1.merge hT
        try simp only [List.cons_append, List.nil_append] at hS
        refine ML.one rfl rfl rfl (opW.call (clone_a _ _ l (hl.bel hS.old) hlb) rfl ?_)
        rintro v32 w ⟨hn32, hw⟩; replace hT := hT.newOwn hw hn32.1 hn32.2
        obtain ⟨s0, rfl⟩ := (hn32.1.sl).asV
        refine ⟨hT.old, ?_⟩
        have hS := hS1.merge hT
        try simp only [List.cons_append, List.nil_append] at hS
        refine ML.look rfl rfl rfl (fun w hw => (by have hS := hS1.bel hw; exact opW.buildE (r := (⟨R, s0, 0, 0⟩ : Running)) (ps := Running.parts (⟨R, s0, 0, 0⟩ : Running)) (Running.enc_eq _) (by show setParts _ [(0, .agg (Enc.enc R)), (1, s0.v)] = _; rfl) (by exact fit2 (a := .agg (Enc.enc R)) (b := s0.v) (by decide) (Enc.size_eq R) rfl) ⟨rfl, rfl⟩)) ?_
        refine ML.one rfl rfl rfl (opW.boxA hT rfl ?_)
        intro b34 w hw hT
        refine ⟨hT.old, ?_⟩
        have hS := hS1.merge hT
        try simp only [List.cons_append, List.nil_append] at hS
        refine ML.look rfl rfl rfl (fun w hw => (by have hS := hS1.bel hw; exact opW.assignV (v := .pointer (some ⟨b34, 0, none⟩)) rfl ⟨rfl, rfl⟩)) ?_
        refine ML.put0 rfl rfl rfl (opW.storeE hS rfl rfl (by repeat constructor) (by first | rfl | exact Enc.size_eq _) ?_)
        intro w hS; replace hS := hS _ (by repeat constructor)
        refine ML.nil ?_
        refine thenQ_n ?_
        exact ⟨b34, b8, s0, ⟨rfl, rfl, rfl, rfl, rfl, trivial⟩, (((((hS.pick (e := blkE b4 (Enc.enc oz) 49) (by repeat constructor)).pick (e := blkE b2 (Enc.enc R) 40) (by repeat constructor)).pick (e := ownE s0.v 69 l) (by repeat constructor)).pick (e := blkE b34 (Enc.enc (⟨R, s0, 0, 0⟩ : Running)) 84) (by repeat constructor)).pick (e := blkE b8 (Enc.enc (⟨0, -1, 0, R.fee, 0, ⟨none, 0, 0⟩⟩ : Outcome)) 49) (by repeat constructor)).sub (by repeat with_reducible first | exact su1 _ | exact su2 _ | refine su3 ?_ | refine su4 ?_)⟩
    ·
      rintro f w ⟨b34, b8, s0, hfit, hS⟩
      refine WC.fits _ hfit (fun g => ?_)
      clear hfit
      refine WC.mid (fun f w =>  Fits [(2, .pointer (some ⟨b2, 0, none⟩)), (4, .pointer (some ⟨b4, 0, none⟩)), (7, .pointer (some ⟨b34, 0, none⟩)), (8, .pointer (some ⟨b8, 0, none⟩))] f ∧ ∃ (z : Int × Nat × XS) (sa : SlV) (zv : Value) (zy : List Account) (zat : Int) (zsp : Nat), runZ R r qs l = z ∧ zat = (if z.1 = 0 then -1 else (z.2.1 : Int)) ∧ zsp = (if z.1 = 0 then z.2.2.space else 0) ∧ ((sa.v = zv ∧ accF R r qs l = zy) ∨ SlR w0 sa.v (accF R r qs l)) ∧ (accF R r qs l).length = l.length ∧ St w0 [blkE b8 (Enc.enc (⟨z.1, zat, 0, R.fee, 0, ⟨none, 0, 0⟩⟩ : Outcome)) 49, blkE b34 (Enc.enc (⟨R, sa, z.2.2.units, zsp⟩ : Running)) 84, ownE zv 69 zy, blkE b2 (Enc.enc R) 40, blkE b4 (Enc.enc oz) 49] w) ?_ ?_
      ·
        refine WC.seq (fun K6 hK6 => ?_)
        refine WC.region ?_
        refine WL.op rfl (opW.fieldAddrB rfl ?_)
        refine WL.op rfl (opW.fieldAddrB rfl ?_)
        refine WL.op rfl (opW.fieldAddrB rfl ?_)
        refine WL.op rfl (opW.loadV rfl (hS.ld1 (b := b2) (cs := Enc.enc R) (by repeat constructor) (Ready.at_ins R)) ?_)
        refine WL.op rfl (opW.lenV rfl ((hi.bel hS.old)) ?_)
        refine WL.op rfl (opW.moveI rfl ?_)
        refine WL.nil ?_
        refine thenQ_n (hK6 _ _ ?_)
        refine WC.block ?_
        refine WC.loop (fun m f w => ∃ (k : Nat) (s : SlV) (x : XS), Fits [(1, sl.v), (2, .pointer (some ⟨b2, 0, none⟩)), (4, .pointer (some ⟨b4, 0, none⟩)), (7, .pointer (some ⟨b34, 0, none⟩)), (8, .pointer (some ⟨b8, 0, none⟩)), (41, R.tx.m.instrs.v), (42, .int .i64 (ins.length : Int)), (43, .int .i64 (k : Int))] f ∧ St w0 [blkE b8 (Enc.enc (⟨0, -1, 0, R.fee, 0, ⟨none, 0, 0⟩⟩ : Outcome)) 49, blkE b34 (Enc.enc (⟨R, s, x.units, x.space⟩ : Running)) 84, ownE s.v 69 x.l, blkE b2 (Enc.enc R) 40, blkE b4 (Enc.enc oz) 49] w ∧ runL r R.budget.units R.budget.bad (qs.drop k) k x = (runZ R r qs l) ∧ x.l.length = l.length ∧ (∀ y ∈ x.l, okW y) ∧ k ≤ ins.length ∧ m = ins.length - k) (ins.length) ?_ ?_
        ·
          exact ⟨0, s0, ⟨0, 0, l⟩, ⟨rfl, rfl, rfl, rfl, rfl, rfl, rfl, rfl, trivial⟩, (((((hS.pick (e := blkE b4 (Enc.enc oz) 49) (by repeat constructor)).pick (e := blkE b2 (Enc.enc R) 40) (by repeat constructor)).pick (e := ownE s0.v 69 l) (by repeat constructor)).pick (e := blkE b34 (Enc.enc (⟨R, s0, 0, 0⟩ : Running)) 84) (by repeat constructor)).pick (e := blkE b8 (Enc.enc (⟨0, -1, 0, R.fee, 0, ⟨none, 0, 0⟩⟩ : Outcome)) 49) (by repeat constructor)).sub (by repeat with_reducible first | exact su1 _ | exact su2 _ | refine su3 ?_ | refine su4 ?_), rfl, rfl, hlw, Nat.zero_le _, rfl⟩
        ·
          rintro m f w ⟨k, s, x, hfit, hS, hinv, hxl, hxw, hk0, hm⟩
          refine WC.fits _ hfit (fun g => ?_)
          clear hfit
          refine WC.seq (fun K7 hK7 => ?_)
          refine WC.region ?_
          refine WL.op rfl (opW.lss rfl rfl ?_)
          refine WL.nil ?_
          refine thenQ_n (hK7 _ _ ?_)
          refine WC.seq (fun K8 hK8 => ?_)
          refine WC.cond _ rfl (fun hc1 => ?_) (fun hc1 => ?_)
          ·
            have hr1 := hc1
            try simp only [sq1,sq2,sq3,sq4,sq5,sq6,sq7,sq8,sq9,sq0] at hc1
            have hkl : k < ins.length := by omega
            have hkq : k < qs.length := by omega
            obtain ⟨hq1, hq2, hq3⟩ := hin k hkl hkq
            refine WC.skip ?_
            refine thenQ_n (hK8 _ _ ?_)
            refine WC.seq (fun K9 hK9 => ?_)
            refine WC.block ?_
            refine WC.seq (fun K10 hK10 => ?_)
            refine WC.region ?_
            refine WL.op rfl (opW.moveI rfl ?_)
            refine WL.op rfl (opW.idxV rfl ((hi.bel hS.old)) rfl (by omega) ?_)
            refine WL.op rfl (opW.loadV rfl (((hi.bel hS.old).isPt hkl).ldA (Enc.size_eq ins[k])) ?_)
            refine WL.op rfl (opW.allocA hS ?_)
            intro b10 w _ hS
            refine WL.op rfl (opW.assignI rfl ?_)
            refine WL.op0 (opW.storeE hS rfl rfl (by repeat constructor) (by first | rfl | exact Enc.size_eq _) ?_)
            intro w hS; replace hS := hS _ (by repeat constructor)
            refine WL.nil ?_
            refine thenQ_n (hK10 _ _ ?_)
            refine WC.seq (fun K11 hK11 => ?_)
            refine WC.region ?_
            refine WL.op rfl (opW.moveV (v := .pointer (some ⟨b34, 0, none⟩)) rfl ?_)
            refine WL.op rfl (opW.moveI rfl ?_)
            refine WL.op rfl (opW.loadV rfl (hS.ldA (b := b10) (cs := Enc.enc ins[k]) (by repeat constructor) (Enc.size_eq ins[k])) ?_)
            refine WL.op rfl (opW.call (step_ok w0 _ _ b34 k R s x ins[k] qs[k] r ((hS.pick (e := ownE s.v 69 x.l) (by repeat constructor)).pick (e := blkE b34 (Enc.enc (⟨R, s, x.units, x.space⟩ : Running)) 84) (by repeat constructor)) hr hq1 hq2 hq3 (hpr k hkl) hbu (by omega) hxw) rfl ?_)
            rintro _ w ⟨s2, rfl, hS⟩
            refine WL.op rfl (opW.assignV (v := errV (stepF r R.budget.units R.budget.bad k qs[k] x).1) rfl ?_)
            refine WL.nil ?_
            refine thenQ_n (hK11 _ _ ?_)
            refine WC.seq (fun K12 hK12 => ?_)
            refine WC.region ?_
            refine WL.op rfl (opW.moveV (v := errV (stepF r R.budget.units R.budget.bad k qs[k] x).1) rfl ?_)
            refine WL.op rfl (opW.fieldAddrB rfl ?_)
            refine WL.op rfl (opW.ifaceP rfl ?_)
            refine WL.op rfl (opW.call (as_any (o := (⟨0, -1, 0, R.fee, 0, ⟨none, 0, 0⟩⟩ : Outcome)) (stepF r R.budget.units R.budget.bad k qs[k] x).1 rfl (hg.bel hS.old) hS (by repeat constructor)) rfl ?_)
            rintro _ w ⟨rfl, hS⟩; replace hS := hS _ (by repeat constructor)
            refine WL.nil ?_
            refine thenQ_n (hK12 _ _ ?_)
            refine WC.cond _ rfl (fun hc2 => ?_) (fun hc2 => ?_)
            ·
              have hr2 := hc2
              try simp only [sq1,sq2,sq3,sq4,sq5,sq6,sq7,sq8,sq9,sq0] at hc2
              have he1 : (stepF r R.budget.units R.budget.bad k qs[k] x).1 ≠ 0 := hc2
              rw [runL_step hkq, if_pos he1] at hinv
              refine WC.seq (fun K13 hK13 => ?_)
              refine WC.region ?_
              refine WL.op rfl (opW.moveV (v := .pointer (some ⟨b34, 0, none⟩)) rfl ?_)
              refine WL.op rfl (opW.moveV (v := .pointer (some ⟨b34, 0, none⟩)) rfl ?_)
              refine WL.op rfl (opW.moveV (v := sl.v) rfl ?_)
              refine WL.op rfl (opW.moveI rfl ?_)
              refine WL.op rfl (opW.nilCheckB rfl ?_)
              refine WL.op rfl (opW.fieldAddrB rfl ?_)
              refine WL.op0 (opW.storeF (b := b34) (o := 48) (v := sl.v) (sz := 1) (cs := Enc.enc (⟨R, s2, (stepF r R.budget.units R.budget.bad k qs[k] x).2.units, (stepF r R.budget.units R.budget.bad k qs[k] x).2.space⟩ : Running)) (cs' := Enc.enc (⟨R, sl, (stepF r R.budget.units R.budget.bad k qs[k] x).2.units, (stepF r R.budget.units R.budget.bad k qs[k] x).2.space⟩ : Running)) hS rfl rfl (by repeat constructor) rfl (by rw [Enc.size_eq]; decide) (Enc.one (α := SlV) sl) (Running.set_l (⟨R, s2, (stepF r R.budget.units R.budget.bad k qs[k] x).2.units, (stepF r R.budget.units R.budget.bad k qs[k] x).2.space⟩ : Running) sl) ?_)
              intro w hS; replace hS := hS _ (by repeat constructor)
              refine WL.op rfl (opW.nilCheckB rfl ?_)
              refine WL.op rfl (opW.fieldAddrB rfl ?_)
              refine WL.op0 (opW.storeF (b := b34) (o := 50) (v := .int .u64 ((0 : Nat) : Int)) (sz := 1) (cs := Enc.enc (⟨R, sl, (stepF r R.budget.units R.budget.bad k qs[k] x).2.units, (stepF r R.budget.units R.budget.bad k qs[k] x).2.space⟩ : Running)) (cs' := Enc.enc (⟨R, sl, (stepF r R.budget.units R.budget.bad k qs[k] x).2.units, 0⟩ : Running)) hS rfl rfl (by repeat constructor) rfl (by rw [Enc.size_eq]; decide) (one_int _ _) (Running.set_space (⟨R, sl, (stepF r R.budget.units R.budget.bad k qs[k] x).2.units, (stepF r R.budget.units R.budget.bad k qs[k] x).2.space⟩ : Running) 0) ?_)
              intro w hS; replace hS := hS _ (by repeat constructor)
              refine WL.op rfl (opW.fieldAddrB rfl ?_)
              refine WL.op0 (opW.storeF (b := b8) (o := 1) (v := .int .i64 (k : Int)) (sz := 1) (cs := Enc.enc (⟨(stepF r R.budget.units R.budget.bad k qs[k] x).1, -1, 0, R.fee, 0, ⟨none, 0, 0⟩⟩ : Outcome)) (cs' := Enc.enc (⟨(stepF r R.budget.units R.budget.bad k qs[k] x).1, (k : Int), 0, R.fee, 0, ⟨none, 0, 0⟩⟩ : Outcome)) hS rfl rfl (by repeat constructor) rfl (by rw [Enc.size_eq]; decide) (one_int _ _) (Outcome.set_at_ (⟨(stepF r R.budget.units R.budget.bad k qs[k] x).1, -1, 0, R.fee, 0, ⟨none, 0, 0⟩⟩ : Outcome) (k : Int)) ?_)
              intro w hS; replace hS := hS _ (by repeat constructor)
              refine WL.nil ?_
              refine thenQ_n (hK13 _ _ ?_)
              refine WC.exit ?_
              refine blockQ_miss rfl ?_
              refine thenQ_e ?_
              refine thenQ_e ?_
              refine blockQ_hit ?_
              refine thenQ_n ?_
              first
                | (rw [runL_end (by omega)] at hinv
                   have hac : accF R r qs l = x.l := by unfold accF; rw [← hinv]; rfl
                   exact ⟨⟨rfl, rfl, rfl, rfl, trivial⟩, (0, k, x), s, s.v, x.l, -1, x.space, hinv.symm, rfl, rfl, .inl ⟨rfl, hac⟩, by rw [hac]; exact hxl, hS.sub (by repeat with_reducible first | exact su1 _ | exact su2 _ | refine su3 ?_ | refine su4 ?_)⟩)
                | (have hac : accF R r qs l = l := by unfold accF; rw [← hinv, if_neg he1]
                   exact ⟨⟨rfl, rfl, rfl, rfl, trivial⟩, ((stepF r R.budget.units R.budget.bad k qs[k] x).1, k, (stepF r R.budget.units R.budget.bad k qs[k] x).2), sl, s2.v, (stepF r R.budget.units R.budget.bad k qs[k] x).2.l, (k : Int), 0, hinv.symm, (if_neg he1).symm, (if_neg he1).symm, .inr (by rw [hac]; exact hl), by rw [hac], (((((hS.pick (e := blkE b4 (Enc.enc oz) 49) (by repeat constructor)).pick (e := blkE b2 (Enc.enc R) 40) (by repeat constructor)).pick (e := ownE s2.v 69 (stepF r R.budget.units R.budget.bad k qs[k] x).2.l) (by repeat constructor)).pick (e := blkE b34 (Enc.enc (⟨R, sl, (stepF r R.budget.units R.budget.bad k qs[k] x).2.units, 0⟩ : Running)) 84) (by repeat constructor)).pick (e := blkE b8 (Enc.enc (⟨(stepF r R.budget.units R.budget.bad k qs[k] x).1, (k : Int), 0, R.fee, 0, ⟨none, 0, 0⟩⟩ : Outcome)) 49) (by repeat constructor)).sub (by repeat with_reducible first | exact su1 _ | exact su2 _ | refine su3 ?_ | refine su4 ?_)⟩)
            ·
              have hr2 := hc2
              try simp only [sq1,sq2,sq3,sq4,sq5,sq6,sq7,sq8,sq9,sq0] at hc2
              have he0 : (stepF r R.budget.units R.budget.bad k qs[k] x).1 = 0 := by simpa using hc2
              rw [he0] at hS
              refine WC.skip ?_
              refine blockQ_n ?_
              refine thenQ_n (hK9 _ _ ?_)
              refine WC.region ?_
              refine WL.op rfl (opW.add rfl rfl (wrap_i64 (by omega)) ?_)
              refine WL.op rfl (opW.moveI rfl ?_)
              refine WL.nil ?_
              refine thenQ_n ?_
              rw [runL_step hkq, if_neg (fun e => e he0)] at hinv
              have hkeep := stepF_keeps (r := r) (bu := R.budget.units) (bad := R.budget.bad) (i := k) (q := qs[k]) hxw
              exact ⟨ins.length - (k + 1), by omega, k + 1, s2, (stepF r R.budget.units R.budget.bad k qs[k] x).2, ⟨rfl, rfl, rfl, rfl, rfl, rfl, rfl, congrArg (Value.int .i64) (by omega), trivial⟩, (((((hS.pick (e := blkE b4 (Enc.enc oz) 49) (by repeat constructor)).pick (e := blkE b2 (Enc.enc R) 40) (by repeat constructor)).pick (e := ownE s2.v 69 (stepF r R.budget.units R.budget.bad k qs[k] x).2.l) (by repeat constructor)).pick (e := blkE b34 (Enc.enc (⟨R, s2, (stepF r R.budget.units R.budget.bad k qs[k] x).2.units, (stepF r R.budget.units R.budget.bad k qs[k] x).2.space⟩ : Running)) 84) (by repeat constructor)).pick (e := blkE b8 (Enc.enc (⟨0, -1, 0, R.fee, 0, ⟨none, 0, 0⟩⟩ : Outcome)) 49) (by repeat constructor)).sub (by repeat with_reducible first | exact su1 _ | exact su2 _ | refine su3 ?_ | refine su4 ?_), hinv, hkeep.1.trans hxl, hkeep.2, by omega, rfl⟩
          ·
            have hr1 := hc1
            try simp only [sq1,sq2,sq3,sq4,sq5,sq6,sq7,sq8,sq9,sq0] at hc1
            refine WC.exit ?_
            refine thenQ_e ?_
            refine thenQ_e ?_
            refine blockQ_hit ?_
            refine thenQ_n ?_
            first
              | (rw [runL_end (by omega)] at hinv
                 have hac : accF R r qs l = x.l := by unfold accF; rw [← hinv]; rfl
                 exact ⟨⟨rfl, rfl, rfl, rfl, trivial⟩, (0, k, x), s, s.v, x.l, -1, x.space, hinv.symm, rfl, rfl, .inl ⟨rfl, hac⟩, by rw [hac]; exact hxl, hS.sub (by repeat with_reducible first | exact su1 _ | exact su2 _ | refine su3 ?_ | refine su4 ?_)⟩)
              | (have hac : accF R r qs l = l := by unfold accF; rw [← hinv, if_neg he1]
                 exact ⟨⟨rfl, rfl, rfl, rfl, trivial⟩, ((stepF r R.budget.units R.budget.bad k qs[k] x).1, k, (stepF r R.budget.units R.budget.bad k qs[k] x).2), sl, s2.v, (stepF r R.budget.units R.budget.bad k qs[k] x).2.l, (k : Int), 0, hinv.symm, (if_neg he1).symm, (if_neg he1).symm, .inr (by rw [hac]; exact hl), by rw [hac], (((((hS.pick (e := blkE b4 (Enc.enc oz) 49) (by repeat constructor)).pick (e := blkE b2 (Enc.enc R) 40) (by repeat constructor)).pick (e := ownE s2.v 69 (stepF r R.budget.units R.budget.bad k qs[k] x).2.l) (by repeat constructor)).pick (e := blkE b34 (Enc.enc (⟨R, sl, (stepF r R.budget.units R.budget.bad k qs[k] x).2.units, 0⟩ : Running)) 84) (by repeat constructor)).pick (e := blkE b8 (Enc.enc (⟨(stepF r R.budget.units R.budget.bad k qs[k] x).1, (k : Int), 0, R.fee, 0, ⟨none, 0, 0⟩⟩ : Outcome)) 49) (by repeat constructor)).sub (by repeat with_reducible first | exact su1 _ | exact su2 _ | refine su3 ?_ | refine su4 ?_)⟩)
      ·
        rintro f w ⟨hfit, z, sa, zv, zy, zat, zsp, hz, hzat, hzsp, hac, hacl, hS⟩
        refine WC.fits _ hfit (fun g => ?_)
        clear hfit
        obtain ⟨acc, hacc⟩ : ∃ a, accF R r qs l = a := ⟨_, rfl⟩
        rw [hacc] at hac hacl
        refine WC.seq (fun K14 hK14 => ?_)
        refine WC.draw 8 (.look 0 (.look 1 (.look 2 (.look 3 (.look 4 (.look 5 (.look 6 (.look 7 (.one 8 (.one 9 (.one 10 (.one 11 .nil)))))))))))) (by kernel_rfl) (fun _ _ _ h => h) (fun w1 hw1 => ?_)
        replace hS := hS.bel hw1
        have hS1 := hS
        have hT := St.start w1
        refine ML.look rfl rfl rfl (fun w hw => (by have hS := hS1.bel hw; exact opW.moveV (v := .pointer (some ⟨b34, 0, none⟩)) rfl ⟨rfl, rfl⟩)) ?_
        refine ML.look rfl rfl rfl (fun w hw => (by have hS := hS1.bel hw; exact opW.nilCheckB rfl ⟨rfl, rfl⟩)) ?_
        refine ML.look rfl rfl rfl (fun w hw => (by have hS := hS1.bel hw; exact opW.fieldAddrB rfl ⟨rfl, rfl⟩)) ?_
        refine ML.look rfl rfl rfl (fun w hw => (by have hS := hS1.bel hw; exact opW.loadV rfl (hS.ld1 (b := b34) (cs := Enc.enc (⟨R, sa, z.2.2.units, zsp⟩ : Running)) (by repeat constructor) (Running.at_units (⟨R, sa, z.2.2.units, zsp⟩ : Running))) ⟨rfl, rfl⟩)) ?_
        refine ML.look rfl rfl rfl (fun w hw => (by have hS := hS1.bel hw; exact opW.moveV (v := .pointer (some ⟨b34, 0, none⟩)) rfl ⟨rfl, rfl⟩)) ?_
        refine ML.look rfl rfl rfl (fun w hw => (by have hS := hS1.bel hw; exact opW.nilCheckB rfl ⟨rfl, rfl⟩)) ?_
        refine ML.look rfl rfl rfl (fun w hw => (by have hS := hS1.bel hw; exact opW.fieldAddrB rfl ⟨rfl, rfl⟩)) ?_
        refine ML.look rfl rfl rfl (fun w hw => (by have hS := hS1.bel hw; exact opW.loadV rfl (hS.ld1 (b := b34) (cs := Enc.enc (⟨R, sa, z.2.2.units, zsp⟩ : Running)) (by repeat constructor) (Running.at_space (⟨R, sa, z.2.2.units, zsp⟩ : Running))) ⟨rfl, rfl⟩)) ?_
        refine ML.put1 rfl rfl rfl rfl (opW.fieldAddrB rfl ?_)
        refine ML.put0 rfl rfl rfl (opW.storeF (b := b8) (o := 2) (v := .int .u64 ((z.2.2.units : Nat) : Int)) (sz := 1) (cs := Enc.enc (⟨z.1, zat, 0, R.fee, 0, ⟨none, 0, 0⟩⟩ : Outcome)) (cs' := Enc.enc (⟨z.1, zat, z.2.2.units, R.fee, 0, ⟨none, 0, 0⟩⟩ : Outcome)) hS rfl rfl (by repeat constructor) rfl (by rw [Enc.size_eq]; decide) (one_int _ _) (Outcome.set_units (⟨z.1, zat, 0, R.fee, 0, ⟨none, 0, 0⟩⟩ : Outcome) z.2.2.units) ?_)
        intro w hS; replace hS := hS _ (by repeat constructor)
        refine ML.put1 rfl rfl rfl rfl (opW.fieldAddrB rfl ?_)
        refine ML.put0 rfl rfl rfl (opW.storeF (b := b8) (o := 4) (v := .int .u64 ((zsp : Nat) : Int)) (sz := 1) (cs := Enc.enc (⟨z.1, zat, z.2.2.units, R.fee, 0, ⟨none, 0, 0⟩⟩ : Outcome)) (cs' := Enc.enc (⟨z.1, zat, z.2.2.units, R.fee, zsp, ⟨none, 0, 0⟩⟩ : Outcome)) hS rfl rfl (by repeat constructor) rfl (by rw [Enc.size_eq]; decide) (one_int _ _) (Outcome.set_space (⟨z.1, zat, z.2.2.units, R.fee, 0, ⟨none, 0, 0⟩⟩ : Outcome) zsp) ?_)
        intro w hS; replace hS := hS _ (by repeat constructor)
        refine ML.nil ?_
        refine thenQ_n (hK14 _ _ ?_)
        refine WC.mid (fun f w => ∃ ch : SlV, Fits [(4, .pointer (some ⟨b4, 0, none⟩)), (8, .pointer (some ⟨b8, 0, none⟩))] f ∧ St w0 [blkE b8 (Enc.enc (⟨z.1, zat, z.2.2.units, R.fee, zsp, ch⟩ : Outcome)) 49, ownE ch.v 74 (chgF r acc), blkE b34 (Enc.enc (⟨R, sa, z.2.2.units, zsp⟩ : Running)) 84, ownE zv 69 zy, blkE b2 (Enc.enc R) 40, blkE b4 (Enc.enc oz) 49] w) ?_ ?_
        ·
          refine WC.seq (fun K15 hK15 => ?_)
          refine WC.region ?_
          refine WL.op rfl (opW.fieldAddrB rfl ?_)
          refine WL.op rfl (opW.loadV rfl (hS.ld1 (b := b2) (cs := Enc.enc R) (by repeat constructor) (Ready.at_roles R)) ?_)
          refine WL.op rfl (opW.lenV rfl ((hr.bel hS.old)) ?_)
          refine WL.op rfl (opW.moveI rfl ?_)
          refine WL.nil ?_
          refine thenQ_n (hK15 _ _ ?_)
          refine WC.block ?_
          refine WC.loop (fun m f w => ∃ (k : Nat) (ch : SlV), Fits [(4, .pointer (some ⟨b4, 0, none⟩)), (7, .pointer (some ⟨b34, 0, none⟩)), (8, .pointer (some ⟨b8, 0, none⟩)), (77, R.roles.v), (78, .int .i64 (r.length : Int)), (79, .int .i64 (k : Int))] f ∧ St w0 [blkE b8 (Enc.enc (⟨z.1, zat, z.2.2.units, R.fee, zsp, ch⟩ : Outcome)) 49, ownE ch.v 74 (chgF (r.take k) (acc.take k)), blkE b34 (Enc.enc (⟨R, sa, z.2.2.units, zsp⟩ : Running)) 84, ownE zv 69 zy, blkE b2 (Enc.enc R) 40, blkE b4 (Enc.enc oz) 49] w ∧ k ≤ r.length ∧ m = r.length - k) (r.length) ?_ ?_
          ·
            exact ⟨0, ⟨none, 0, 0⟩, ⟨rfl, rfl, rfl, rfl, rfl, rfl, trivial⟩, (show St w0 [blkE b8 (Enc.enc (⟨z.1, zat, z.2.2.units, R.fee, zsp, (⟨none, 0, 0⟩ : SlV)⟩ : Outcome)) 49, ownE (⟨none, 0, 0⟩ : SlV).v 74 ([] : List Holding), blkE b34 (Enc.enc (⟨R, sa, z.2.2.units, zsp⟩ : Running)) 84, ownE zv 69 zy, blkE b2 (Enc.enc R) 40, blkE b4 (Enc.enc oz) 49] w from ((hS.nilOwn (α := Holding) 74).pick (e := blkE b8 (Enc.enc (⟨z.1, zat, z.2.2.units, R.fee, zsp, ⟨none, 0, 0⟩⟩ : Outcome)) 49) (by repeat constructor))), Nat.zero_le _, rfl⟩
          ·
            rintro m f w ⟨k, ch, hfit, hS, hk0, hm⟩
            refine WC.fits _ hfit (fun g => ?_)
            clear hfit
            refine WC.seq (fun K16 hK16 => ?_)
            refine WC.region ?_
            refine WL.op rfl (opW.lss rfl rfl ?_)
            refine WL.nil ?_
            refine thenQ_n (hK16 _ _ ?_)
            refine WC.seq (fun K17 hK17 => ?_)
            refine WC.cond _ rfl (fun hc3 => ?_) (fun hc3 => ?_)
            ·
              have hr3 := hc3
              try simp only [sq1,sq2,sq3,sq4,sq5,sq6,sq7,sq8,sq9,sq0] at hc3
              have hkr : k < r.length := by omega
              have hka : k < acc.length := by omega
              have hcl := chgF_len (r.take k) (acc.take k)
              rw [List.length_take] at hcl
              refine WC.skip ?_
              refine thenQ_n (hK17 _ _ ?_)
              refine WC.seq (fun K18 hK18 => ?_)
              refine WC.block ?_
              refine WC.seq (fun K19 hK19 => ?_)
              refine WC.region ?_
              refine WL.op rfl (opW.moveI rfl ?_)
              refine WL.op rfl (opW.idxV rfl ((hr.bel hS.old)) rfl (by omega) ?_)
              refine WL.op rfl (opW.loadV rfl (((hr.bel hS.old).isPt hkr).ldA (Enc.size_eq r[k])) ?_)
              refine WL.op rfl (opW.allocA hS ?_)
              intro b13 w _ hS
              refine WL.op rfl (opW.assignI rfl ?_)
              refine WL.op0 (opW.storeE hS rfl rfl (by repeat constructor) (by first | rfl | exact Enc.size_eq _) ?_)
              intro w hS; replace hS := hS _ (by repeat constructor)
              refine WL.nil ?_
              refine thenQ_n (hK19 _ _ ?_)
              refine WC.seq (fun K20 hK20 => ?_)
              refine WC.region ?_
              refine WL.op rfl (opW.fieldAddrB rfl ?_)
              refine WL.op rfl (opW.loadV rfl (hS.ld1 (b := b13) (cs := Enc.enc r[k]) (by repeat constructor) (Role.at_writes r[k])) ?_)
              refine WL.nil ?_
              refine thenQ_n (hK20 _ _ ?_)
              refine WC.cond _ rfl (fun hc4 => ?_) (fun hc4 => ?_)
              ·
                have hr4 := hc4
                try simp only [sq1,sq2,sq3,sq4,sq5,sq6,sq7,sq8,sq9,sq0] at hc4
                have hwr : r[k].writes = true := hc4
                obtain ⟨hk, hhk⟩ : ∃ y, (⟨r[k].key, acc[k]⟩ : Holding) = y := ⟨_, rfl⟩
                refine WC.draw 13 (.look 0 (.look 1 (.look 2 (.look 3 (.look 4 (.look 5 (.look 6 (.look 7 (.look 8 (.look 9 (.look 10 (.look 11 (.one 12 (.one 13 (.one 14 (.one 15 .nil)))))))))))))))) (by kernel_rfl) (fun _ _ _ h => h) (fun w1 hw1 => ?_)
                replace hS := hS.bel hw1
                have hS1 := hS
                have hT := St.start w1
                refine ML.look rfl rfl rfl (fun w hw => (by have hS := hS1.bel hw; exact opW.fieldAddrB rfl ⟨rfl, rfl⟩)) ?_
                refine ML.look rfl rfl rfl (fun w hw => (by have hS := hS1.bel hw; exact opW.loadV rfl (hS.ld1 (b := b8) (cs := Enc.enc (⟨z.1, zat, z.2.2.units, R.fee, zsp, ch⟩ : Outcome)) (by repeat constructor) (Outcome.at_changed (⟨z.1, zat, z.2.2.units, R.fee, zsp, ch⟩ : Outcome))) ⟨rfl, rfl⟩)) ?_
                refine ML.look rfl rfl rfl (fun w hw => (by have hS := hS1.bel hw; exact opW.fieldAddrB rfl ⟨rfl, rfl⟩)) ?_
                refine ML.look rfl rfl rfl (fun w hw => (by have hS := hS1.bel hw; exact opW.loadV rfl (hS.ldF (b := b13) (cs := Enc.enc r[k]) (o := 0) (by repeat constructor) (Role.ex_key _) (by rw [Enc.size_eq]; decide)) ⟨rfl, rfl⟩)) ?_
                refine ML.look rfl rfl rfl (fun w hw => (by have hS := hS1.bel hw; exact opW.moveV (v := .pointer (some ⟨b34, 0, none⟩)) rfl ⟨rfl, rfl⟩)) ?_
                refine ML.look rfl rfl rfl (fun w hw => (by have hS := hS1.bel hw; exact opW.nilCheckB rfl ⟨rfl, rfl⟩)) ?_
                refine ML.look rfl rfl rfl (fun w hw => (by have hS := hS1.bel hw; exact opW.fieldAddrB rfl ⟨rfl, rfl⟩)) ?_
                refine ML.look rfl rfl rfl (fun w hw => (by have hS := hS1.bel hw; exact opW.loadV rfl (hS.ld1 (b := b34) (cs := Enc.enc (⟨R, sa, z.2.2.units, zsp⟩ : Running)) (by repeat constructor) (Running.at_l (⟨R, sa, z.2.2.units, zsp⟩ : Running))) ⟨rfl, rfl⟩)) ?_
                refine ML.look rfl rfl rfl (fun w hw => (by have hS := hS1.bel hw; exact opW.moveI rfl ⟨rfl, rfl⟩)) ?_
                refine ML.look rfl rfl rfl (fun w hw => (by have hS := hS1.bel hw; exact opW.idxV rfl ((accAt (z := zv) (y := zy) hS (by repeat constructor) hac)) rfl (by omega) ⟨rfl, rfl⟩)) ?_
                refine ML.look rfl rfl rfl (fun w hw => (by have hS := hS1.bel hw; exact opW.loadV rfl (((accAt (z := zv) (y := zy) hS (by repeat constructor) hac).isPt hka).ldA (Enc.size_eq acc[k])) ⟨rfl, rfl⟩)) ?_
                refine ML.look rfl rfl rfl (fun w hw => (by have hS := hS1.bel hw; exact opW.buildE (r := ((⟨r[k].key, acc[k]⟩ : Holding) : Holding)) (ps := Holding.parts ((⟨r[k].key, acc[k]⟩ : Holding) : Holding)) (Holding.enc_eq _) (by first | (simp only [sysK, az, budK, enc_vset, enc_vz, Account.enc_eq, Account.parts, Role.enc_eq, Role.parts, Instr.enc_eq, Instr.parts, Ask.enc_eq, Ask.parts, Cut.enc_eq, Cut.parts, PairS.enc_eq, PairS.parts, RAsk.enc_eq, RAsk.parts, Header.enc_eq, Header.parts, Lookup.enc_eq, Lookup.parts, Message.enc_eq, Message.parts, Tx.enc_eq, Tx.parts, Budget.enc_eq, Budget.parts, Ready.enc_eq, Ready.parts, Holding.enc_eq, Holding.parts, Outcome.enc_eq, Outcome.parts, Running.enc_eq, Running.parts, StS.enc_eq, StS.parts]; rfl) | rfl) (by (repeat' (first | exact trivial | refine And.intro ?_ ?_)) <;> first | rfl | exact Enc.size_eq _ | (simp; done)) ⟨rfl, rfl⟩)) ?_
                refine ML.one rfl rfl rfl (opW.buildSl hT (([⟨r[k].key, acc[k]⟩] : List Holding)) [.agg (Enc.enc (⟨r[k].key, acc[k]⟩ : Holding))] rfl rfl rfl rfl (by decide) ?_)
                intro b98 w hw hT
                refine ⟨hT.old, ?_⟩
                have hS := hS1.merge hT
                try simp only [List.cons_append, List.nil_append] at hS
                refine ML.put1 rfl rfl rfl rfl (opW.appendOwn (α := Holding) (xs := (chgF (r.take k) (acc.take k))) (ys := [⟨r[k].key, acc[k]⟩]) rfl hS rfl (by repeat constructor) (hS.sl (v := .slice (some ⟨b98, 0, none⟩) 1 1) (xs := ([⟨r[k].key, acc[k]⟩] : List Holding)) (by repeat constructor)) (by simp only [List.length_cons, List.length_nil]; omega) (by simp only [maxLen, List.length_cons, List.length_nil]; omega) ?_)
                intro v99 w hS; replace hS := hS _ (by repeat constructor)
                rw [hhk] at hS
                obtain ⟨ch2, rfl⟩ := (hS.sl (v := v99) (xs := (chgF (r.take k) (acc.take k)) ++ [hk]) (by repeat constructor)).asV
                refine ML.put1 rfl rfl rfl rfl (opW.fieldAddrB rfl ?_)
                refine ML.put0 rfl rfl rfl (opW.storeF (b := b8) (o := 5) (v := ch2.v) (sz := 1) (cs := Enc.enc (⟨z.1, zat, z.2.2.units, R.fee, zsp, ch⟩ : Outcome)) (cs' := Enc.enc (⟨z.1, zat, z.2.2.units, R.fee, zsp, ch2⟩ : Outcome)) hS rfl rfl (by repeat constructor) rfl (by rw [Enc.size_eq]; decide) (Enc.one (α := SlV) ch2) (Outcome.set_changed (⟨z.1, zat, z.2.2.units, R.fee, zsp, ch⟩ : Outcome) ch2) ?_)
                intro w hS; replace hS := hS _ (by repeat constructor)
                refine ML.nil ?_
                refine blockQ_n ?_
                refine thenQ_n (hK18 _ _ ?_)
                refine WC.region ?_
                refine WL.op rfl (opW.add rfl rfl (wrap_i64 (by omega)) ?_)
                refine WL.op rfl (opW.moveI rfl ?_)
                refine WL.nil ?_
                refine thenQ_n ?_
                first
                  | (have hst : (chgF (r.take (k + 1)) (acc.take (k + 1))) = (chgF (r.take k) (acc.take k)) ++ [hk] := by rw [chgF_step hkr hka, if_pos hwr, hhk]
                     rw [← hst] at hS
                     exact ⟨r.length - (k + 1), by omega, k + 1, ch2, ⟨rfl, rfl, rfl, rfl, rfl, congrArg (Value.int .i64) (by omega), trivial⟩, ((((((hS.pick (e := blkE b4 (Enc.enc oz) 49) (by repeat constructor)).pick (e := blkE b2 (Enc.enc R) 40) (by repeat constructor)).pick (e := ownE zv 69 zy) (by repeat constructor)).pick (e := blkE b34 (Enc.enc (⟨R, sa, z.2.2.units, zsp⟩ : Running)) 84) (by repeat constructor)).pick (e := ownE ch2.v 74 (chgF (r.take (k + 1)) (acc.take (k + 1)))) (by repeat constructor)).pick (e := blkE b8 (Enc.enc (⟨z.1, zat, z.2.2.units, R.fee, zsp, ch2⟩ : Outcome)) 49) (by repeat constructor)).sub (by repeat with_reducible first | exact su1 _ | exact su2 _ | refine su3 ?_ | refine su4 ?_), by omega, rfl⟩)
                  | (have hst : (chgF (r.take (k + 1)) (acc.take (k + 1))) = (chgF (r.take k) (acc.take k)) := by rw [chgF_step hkr hka, if_neg (by rw [hwr]; decide), List.append_nil]
                     rw [← hst] at hS
                     exact ⟨r.length - (k + 1), by omega, k + 1, ch, ⟨rfl, rfl, rfl, rfl, rfl, congrArg (Value.int .i64) (by omega), trivial⟩, ((((((hS.pick (e := blkE b4 (Enc.enc oz) 49) (by repeat constructor)).pick (e := blkE b2 (Enc.enc R) 40) (by repeat constructor)).pick (e := ownE zv 69 zy) (by repeat constructor)).pick (e := blkE b34 (Enc.enc (⟨R, sa, z.2.2.units, zsp⟩ : Running)) 84) (by repeat constructor)).pick (e := ownE ch.v 74 (chgF (r.take (k + 1)) (acc.take (k + 1)))) (by repeat constructor)).pick (e := blkE b8 (Enc.enc (⟨z.1, zat, z.2.2.units, R.fee, zsp, ch⟩ : Outcome)) 49) (by repeat constructor)).sub (by repeat with_reducible first | exact su1 _ | exact su2 _ | refine su3 ?_ | refine su4 ?_), by omega, rfl⟩)
              ·
                have hr4 := hc4
                try simp only [sq1,sq2,sq3,sq4,sq5,sq6,sq7,sq8,sq9,sq0] at hc4
                have hwr : r[k].writes = false := hc4
                refine WC.skip ?_
                refine blockQ_n ?_
                refine thenQ_n (hK18 _ _ ?_)
                refine WC.region ?_
                refine WL.op rfl (opW.add rfl rfl (wrap_i64 (by omega)) ?_)
                refine WL.op rfl (opW.moveI rfl ?_)
                refine WL.nil ?_
                refine thenQ_n ?_
                first
                  | (have hst : (chgF (r.take (k + 1)) (acc.take (k + 1))) = (chgF (r.take k) (acc.take k)) ++ [hk] := by rw [chgF_step hkr hka, if_pos hwr, hhk]
                     rw [← hst] at hS
                     exact ⟨r.length - (k + 1), by omega, k + 1, ch2, ⟨rfl, rfl, rfl, rfl, rfl, congrArg (Value.int .i64) (by omega), trivial⟩, ((((((hS.pick (e := blkE b4 (Enc.enc oz) 49) (by repeat constructor)).pick (e := blkE b2 (Enc.enc R) 40) (by repeat constructor)).pick (e := ownE zv 69 zy) (by repeat constructor)).pick (e := blkE b34 (Enc.enc (⟨R, sa, z.2.2.units, zsp⟩ : Running)) 84) (by repeat constructor)).pick (e := ownE ch2.v 74 (chgF (r.take (k + 1)) (acc.take (k + 1)))) (by repeat constructor)).pick (e := blkE b8 (Enc.enc (⟨z.1, zat, z.2.2.units, R.fee, zsp, ch2⟩ : Outcome)) 49) (by repeat constructor)).sub (by repeat with_reducible first | exact su1 _ | exact su2 _ | refine su3 ?_ | refine su4 ?_), by omega, rfl⟩)
                  | (have hst : (chgF (r.take (k + 1)) (acc.take (k + 1))) = (chgF (r.take k) (acc.take k)) := by rw [chgF_step hkr hka, if_neg (by rw [hwr]; decide), List.append_nil]
                     rw [← hst] at hS
                     exact ⟨r.length - (k + 1), by omega, k + 1, ch, ⟨rfl, rfl, rfl, rfl, rfl, congrArg (Value.int .i64) (by omega), trivial⟩, ((((((hS.pick (e := blkE b4 (Enc.enc oz) 49) (by repeat constructor)).pick (e := blkE b2 (Enc.enc R) 40) (by repeat constructor)).pick (e := ownE zv 69 zy) (by repeat constructor)).pick (e := blkE b34 (Enc.enc (⟨R, sa, z.2.2.units, zsp⟩ : Running)) 84) (by repeat constructor)).pick (e := ownE ch.v 74 (chgF (r.take (k + 1)) (acc.take (k + 1)))) (by repeat constructor)).pick (e := blkE b8 (Enc.enc (⟨z.1, zat, z.2.2.units, R.fee, zsp, ch⟩ : Outcome)) 49) (by repeat constructor)).sub (by repeat with_reducible first | exact su1 _ | exact su2 _ | refine su3 ?_ | refine su4 ?_), by omega, rfl⟩)
            ·
              have hr3 := hc3
              try simp only [sq1,sq2,sq3,sq4,sq5,sq6,sq7,sq8,sq9,sq0] at hc3
              refine WC.exit ?_
              refine thenQ_e ?_
              refine thenQ_e ?_
              refine blockQ_hit ?_
              refine thenQ_n ?_
              rw [chgF_all (r := r) (l := acc) (k := k) (by omega) (by omega)] at hS
              exact ⟨ch, ⟨rfl, rfl, trivial⟩, hS⟩
        ·
          rintro f w ⟨ch, hfit, hS⟩
          refine WC.fits _ hfit (fun g => ?_)
          clear hfit
          refine WC.seq (fun K21 hK21 => ?_)
          refine WC.region ?_
          refine WL.op rfl (opW.fieldAddrB rfl ?_)
          refine WL.op rfl (opW.loadV rfl (hS.ld1 (b := b8) (cs := Enc.enc (⟨z.1, zat, z.2.2.units, R.fee, zsp, ch⟩ : Outcome)) (by repeat constructor) (Outcome.at_changed (⟨z.1, zat, z.2.2.units, R.fee, zsp, ch⟩ : Outcome))) ?_)
          refine WL.op rfl (opW.call (clip_h _ ch.v (chgF r acc) (hS.sl (v := ch.v) (xs := (chgF r acc)) (by repeat constructor))) rfl ?_)
          rintro v104 w ⟨hv104, hw⟩; replace hS := hS.bel hw
          replace hS := hS.cutOwn (v := ch.v) (T := 74) (xs := (chgF r acc)) (by repeat constructor)
          rw [← hv104] at hS
          obtain ⟨ch3, rfl⟩ := (hS.sl (v := v104) (xs := (chgF r acc)) (by repeat constructor)).asV
          refine WL.op rfl (opW.fieldAddrB rfl ?_)
          refine WL.op0 (opW.storeF (b := b8) (o := 5) (v := ch3.v) (sz := 1) (cs := Enc.enc (⟨z.1, zat, z.2.2.units, R.fee, zsp, ch⟩ : Outcome)) (cs' := Enc.enc (⟨z.1, zat, z.2.2.units, R.fee, zsp, ch3⟩ : Outcome)) hS rfl rfl (by repeat constructor) rfl (by rw [Enc.size_eq]; decide) (Enc.one (α := SlV) ch3) (Outcome.set_changed (⟨z.1, zat, z.2.2.units, R.fee, zsp, ch⟩ : Outcome) ch3) ?_)
          intro w hS; replace hS := hS _ (by repeat constructor)
          refine WL.nil ?_
          refine thenQ_n (hK21 _ _ ?_)
          refine WC.seq (fun K22 hK22 => ?_)
          refine WC.region ?_
          refine WL.op rfl (opW.loadV rfl (hS.ldA (b := b8) (cs := Enc.enc (⟨z.1, zat, z.2.2.units, R.fee, zsp, ch3⟩ : Outcome)) (by repeat constructor) (Enc.size_eq (⟨z.1, zat, z.2.2.units, R.fee, zsp, ch3⟩ : Outcome))) ?_)
          refine WL.op0 (opW.storeE hS rfl rfl (by repeat constructor) (by first | rfl | exact Enc.size_eq _) ?_)
          intro w hS; replace hS := hS _ (by repeat constructor)
          refine WL.op rfl (opW.assignI rfl ?_)
          refine WL.nil ?_
          refine thenQ_n (hK22 _ _ ?_)
          refine WC.ret ?_
          refine bodyQ_ret (.cell (hS.ldA (b := b4) (cs := Enc.enc (⟨z.1, zat, z.2.2.units, R.fee, zsp, ch3⟩ : Outcome)) (by repeat constructor) (Enc.size_eq (⟨z.1, zat, z.2.2.units, R.fee, zsp, ch3⟩ : Outcome))) (.tmpI rfl .nil)) ?_
          refine .inr ⟨hbad, ch3, ?_, by rw [hacc]; exact hS.own_new (by repeat constructor), hS.old⟩
          unfold outF
          rw [hz, ← hzat, ← hzsp]
          rfl

end Go.Fer
