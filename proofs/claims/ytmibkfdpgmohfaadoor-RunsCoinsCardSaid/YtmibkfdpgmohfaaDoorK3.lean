/- the programs there are -/
import Derived.Test.YtmibkfdpgmohfaaDoorK2
set_option linter.all false
namespace Go.Fer
open Go Go.Proofs Go.RowKit

theorem ML.forkO {P : Program} {n nh : Nat} {I : World → Prop} {ops : Array Oper} {Q : Exit → Fr → World → Prop} {f : Fr} {w : World} {ri rj : Sched} {i j : Nat} {di dj : Option Nat} {opi opj : Op} {Ti Tj : TypeId} {posi posj : String} {afi afj : Array Edge}
    (hi : ops[i]? = some ⟨di, opi, Ti, posi, afi, none⟩) (hj : ops[j]? = some ⟨dj, opj, Tj, posj, afj, none⟩) (hdi : di.all (fun x => Nat.blt x n) = true) (hdj : dj.all (fun x => Nat.blt x n) = true)
    (h1 : opW P f ⟨di, opi, Ti, posi, afi, none⟩ w (fun v w' => I w' ∧ ML P n ops nh I Q ri (putO f di v) w'))
    (h2 : opW P f ⟨dj, opj, Tj, posj, afj, none⟩ w (fun v w' => I w' ∧ ML P n ops nh I Q rj (putO f dj v) w')) : ML P n ops nh I Q (.fork i j ri rj) f w := by
  have hdi : ∀ x, di = some x → x < n := by intro x hx; subst hx; simpa using hdi
  have hdj : ∀ x, dj = some x → x < n := by intro x hx; subst hx; simpa using hdj
  unfold ML at h1 h2 ⊢
  intro listed a hsel hok hinv ha hnp
  simp only [mixOk, Bool.and_eq_true, decide_eq_true_eq] at hok
  obtain ⟨⟨⟨⟨⟨g1, g2⟩, g3⟩, g4⟩, g5⟩, g6⟩ := hok
  have hho : headOk .any ops nh listed := (hinv.resolve_right (fun h => by cases h)).1
  have hri : i ∈ Region.ready .any ops listed := by rw [g3]; simp
  have hrj : j ∈ Region.ready .any ops listed := by rw [g3]; simp
  refine ⟨fun h0 => (by rw [g3] at h0; cases h0), fun x hx => ?_⟩
  rw [g3] at hx
  rcases List.mem_cons.1 hx with rfl | hx
  · unfold wpOp
    simp only [hi, Region.wanted, if_true]
    exact .inl (wp_of_opW ha h1 fun v w' ⟨hI, hk⟩ => ⟨fun _ _ => hI, hk _ _ hsel g5 (.inl ⟨hho.set hri g1, hI⟩) (ha.put (dst := di) hdi v) hnp⟩)
  · obtain rfl : x = j := by simpa using hx
    unfold wpOp
    simp only [hj, Region.wanted, if_true]
    refine .inl (wp_of_opW ha h2 fun v w' ⟨hI, hk⟩ => ⟨fun _ _ => hI, ?_⟩)
    show wpAnyB P .any ops nh I _ (ways ri) _ _ _
    rw [g4]
    exact hk _ _ hsel g6 (.inl ⟨hho.set hrj g2, hI⟩) (ha.put (dst := dj) hdj v) hnp

def budK : Key := (vz 32).set 0 3
theorem bud_ne : budK ≠ sysK := by decide +kernel
def progBV : Value := .func (.func 35) #[] #[]
def progSV : Value := .func (.func 36) #[] #[]
/-- the program that a key names -/
def progF (k : Key) : Option Value := if k = budK then some progBV else if k = sysK then some progSV else none
theorem progK1 (k : Key) : aget k (aput sysK progSV (aput budK progBV [])) = progF k := by
  rw [aget_aput, aget_aput]
  unfold progF aget
  split
  · next h => subst h; rw [if_neg (fun e => bud_ne e.symm)]
  · rfl
theorem progK2 (k : Key) : aget k (aput budK progBV (aput sysK progSV [])) = progF k := by
  rw [aget_aput, aget_aput]
  rfl

theorem bud_ok (w0 : World) : Ret Tryd.prog 14 #[] w0 (fun u w' => u = .agg (Enc.enc budK) ∧ Bel w0 w') := by
  refine Ret.enter (args := []) Tryd.func14 rfl Tryd.ntmps14 Tryd.results14 rfl ?_
  have hS := St.start w0
  refine WC.seq (fun K1 hK1 => ?_)
  refine WC.region ?_
  refine WL.op rfl (opW.allocA hS ?_)
  intro b0 w _ hS
  refine WL.nil ?_
  refine thenQ_n (hK1 _ _ ?_)
  refine WC.seq (fun K2 hK2 => ?_)
  refine WC.region ?_
  refine WL.op rfl (opW.buildVec (k := budK) (by first | rfl | (simp only [sysK, az, budK, enc_vset, enc_vz]; rfl)) (by intro p hp; first | (exfalso; simp at hp; done) | (simp only [List.map_cons, List.map_nil, List.mem_cons, List.not_mem_nil, or_false] at hp; rcases hp with rfl | rfl | rfl | rfl <;> exact ⟨by simp, rfl⟩)) ?_)
  refine WL.op0 (opW.storeE hS rfl rfl (by first | exact .h0 | exact .h1 | exact .h2 | exact .h3 | exact .h4 | exact .h5 | exact .h6 | exact .h7 | exact .h8 | exact .h9 | exact .h10 | exact .h11 | exact .h12 | exact .h13 | exact .h14) (by first | rfl | exact Enc.size_eq _) ?_)
  intro w hS; replace hS := hS _ (by first | exact .h0 | exact .h1 | exact .h2 | exact .h3 | exact .h4 | exact .h5 | exact .h6 | exact .h7 | exact .h8 | exact .h9 | exact .h10 | exact .h11 | exact .h12 | exact .h13 | exact .h14)
  refine WL.nil ?_
  refine thenQ_n (hK2 _ _ ?_)
  refine WC.ret ?_
  refine bodyQ_ret (.cell (hS.ldA (by first | exact .h0 | exact .h1 | exact .h2 | exact .h3 | exact .h4 | exact .h5 | exact .h6 | exact .h7 | exact .h8 | exact .h9 | exact .h10 | exact .h11 | exact .h12 | exact .h13 | exact .h14) (Enc.size_eq budK)) .nil) ?_
  exact ⟨rfl, hS.old⟩

theorem programs_ok (w0 : World) : Ret Tryd.prog 30 #[] w0 (fun u w' => ∃ kvs : List (Key × Value), (∀ k, aget k kvs = progF k) ∧ NewM w0 w' u idV kvs ∧ Bel w0 w') := by
  refine Ret.enter (args := []) Tryd.func30 rfl Tryd.ntmps30 Tryd.results30 rfl ?_
  have hS := St.start w0
  refine WC.seq (fun K1 hK1 => ?_)
  refine WC.region ?_
  refine WL.op rfl (opW.assignV rfl ?_)
  refine WL.nil ?_
  refine thenQ_n (hK1 _ _ ?_)
  refine WC.seq (fun K2 hK2 => ?_)
  refine WC.draw 7 (.fork 0 1 (.one 1 (.fork 2 3 (.one 3 (.one 4 (.look 5 (.look 6 .nil)))) (.fork 2 4 (.one 4 (.look 5 (.look 6 .nil))) (.one 2 (.look 5 (.look 6 .nil)))))) (.fork 0 3 (.fork 2 3 (.one 3 (.one 4 (.look 5 (.look 6 .nil)))) (.fork 2 4 (.one 4 (.look 5 (.look 6 .nil))) (.one 2 (.look 5 (.look 6 .nil))))) (.one 0 (.fork 2 4 (.one 4 (.look 5 (.look 6 .nil))) (.one 2 (.look 5 (.look 6 .nil))))))) (by kernel_rfl) (fun _ _ _ h => h) (fun w1 hw1 => ?_)
  replace hS := hS.bel hw1
  have hS1 := hS
  have hT := St.start w1
  refine ML.fork rfl rfl rfl rfl ?_ ?_ 
  · refine opW.makeMap Key (idV : Value → Value) hT ?_
    intro r1 w hw hT
    refine ⟨hT.old, ?_⟩
    have hS := hS1.merge hT
    try simp only [List.cons_append, List.nil_append] at hS
    refine ML.one rfl rfl rfl (opW.call (bud_ok _) rfl ?_)
    rintro _ w ⟨rfl, hw⟩; replace hT := hT.bel hw
    refine ⟨hT.old, ?_⟩
    have hS := hS1.merge hT
    try simp only [List.cons_append, List.nil_append] at hS
    refine ML.forkO rfl rfl rfl rfl ?_ ?_
    · refine opW.insert (κ := Key) (ν := Value) (k := budK) (v := progBV) (vv := idV) hT (by first | exact .h0 | exact .h1 | exact .h2 | exact .h3 | exact .h4 | exact .h5 | exact .h6 | exact .h7 | exact .h8 | exact .h9 | exact .h10 | exact .h11 | exact .h12 | exact .h13 | exact .h14) rfl rfl rfl ?_
      intro w hT; replace hT := hT _ (by first | exact .h0 | exact .h1 | exact .h2 | exact .h3 | exact .h4 | exact .h5 | exact .h6 | exact .h7 | exact .h8 | exact .h9 | exact .h10 | exact .h11 | exact .h12 | exact .h13 | exact .h14)
      refine ⟨hT.old, ?_⟩
      simp only [putO]
      have hS := hS1.merge hT
      try simp only [List.cons_append, List.nil_append] at hS
      refine ML.one rfl rfl rfl (opW.call (sys_ok _) rfl ?_)
      rintro _ w ⟨rfl, hw⟩; replace hT := hT.bel hw
      refine ⟨hT.old, ?_⟩
      have hS := hS1.merge hT
      try simp only [List.cons_append, List.nil_append] at hS
      refine ML.one0 rfl rfl (opW.insert (κ := Key) (ν := Value) (k := sysK) (v := progSV) (vv := idV) hT (by first | exact .h0 | exact .h1 | exact .h2 | exact .h3 | exact .h4 | exact .h5 | exact .h6 | exact .h7 | exact .h8 | exact .h9 | exact .h10 | exact .h11 | exact .h12 | exact .h13 | exact .h14) rfl rfl rfl ?_)
      intro w hT; replace hT := hT _ (by first | exact .h0 | exact .h1 | exact .h2 | exact .h3 | exact .h4 | exact .h5 | exact .h6 | exact .h7 | exact .h8 | exact .h9 | exact .h10 | exact .h11 | exact .h12 | exact .h13 | exact .h14)
      refine ⟨hT.old, ?_⟩
      have hS := hS1.merge hT
      try simp only [List.cons_append, List.nil_append] at hS
      refine ML.look rfl rfl rfl (fun w hw => (by have hS := hS1.bel hw; exact opW.moveV (v := .map (some r1)) rfl ⟨rfl, rfl⟩)) ?_
      refine ML.look rfl rfl rfl (fun w hw => (by have hS := hS1.bel hw; exact opW.assignV (v := .map (some r1)) rfl ⟨rfl, rfl⟩)) ?_
      refine ML.nil ?_
      refine thenQ_n (hK2 _ _ ?_)
      refine WC.ret ?_
      refine bodyQ_ret (.tmpV (v := .map (some r1)) rfl .nil) ?_
      first | exact ⟨_, progK1, hS.map_new (by first | exact .h0 | exact .h1 | exact .h2 | exact .h3 | exact .h4 | exact .h5 | exact .h6 | exact .h7 | exact .h8 | exact .h9 | exact .h10 | exact .h11 | exact .h12 | exact .h13 | exact .h14), hS.old⟩ | exact ⟨_, progK2, hS.map_new (by first | exact .h0 | exact .h1 | exact .h2 | exact .h3 | exact .h4 | exact .h5 | exact .h6 | exact .h7 | exact .h8 | exact .h9 | exact .h10 | exact .h11 | exact .h12 | exact .h13 | exact .h14), hS.old⟩
    · refine opW.call (sys_ok _) rfl ?_
      rintro _ w ⟨rfl, hw⟩; replace hT := hT.bel hw
      refine ⟨hT.old, ?_⟩
      simp only [putO]
      have hS := hS1.merge hT
      try simp only [List.cons_append, List.nil_append] at hS
      refine ML.forkO rfl rfl rfl rfl ?_ ?_
      · refine opW.insert (κ := Key) (ν := Value) (k := budK) (v := progBV) (vv := idV) hT (by first | exact .h0 | exact .h1 | exact .h2 | exact .h3 | exact .h4 | exact .h5 | exact .h6 | exact .h7 | exact .h8 | exact .h9 | exact .h10 | exact .h11 | exact .h12 | exact .h13 | exact .h14) rfl rfl rfl ?_
        intro w hT; replace hT := hT _ (by first | exact .h0 | exact .h1 | exact .h2 | exact .h3 | exact .h4 | exact .h5 | exact .h6 | exact .h7 | exact .h8 | exact .h9 | exact .h10 | exact .h11 | exact .h12 | exact .h13 | exact .h14)
        refine ⟨hT.old, ?_⟩
        simp only [putO]
        have hS := hS1.merge hT
        try simp only [List.cons_append, List.nil_append] at hS
        refine ML.one0 rfl rfl (opW.insert (κ := Key) (ν := Value) (k := sysK) (v := progSV) (vv := idV) hT (by first | exact .h0 | exact .h1 | exact .h2 | exact .h3 | exact .h4 | exact .h5 | exact .h6 | exact .h7 | exact .h8 | exact .h9 | exact .h10 | exact .h11 | exact .h12 | exact .h13 | exact .h14) rfl rfl rfl ?_)
        intro w hT; replace hT := hT _ (by first | exact .h0 | exact .h1 | exact .h2 | exact .h3 | exact .h4 | exact .h5 | exact .h6 | exact .h7 | exact .h8 | exact .h9 | exact .h10 | exact .h11 | exact .h12 | exact .h13 | exact .h14)
        refine ⟨hT.old, ?_⟩
        have hS := hS1.merge hT
        try simp only [List.cons_append, List.nil_append] at hS
        refine ML.look rfl rfl rfl (fun w hw => (by have hS := hS1.bel hw; exact opW.moveV (v := .map (some r1)) rfl ⟨rfl, rfl⟩)) ?_
        refine ML.look rfl rfl rfl (fun w hw => (by have hS := hS1.bel hw; exact opW.assignV (v := .map (some r1)) rfl ⟨rfl, rfl⟩)) ?_
        refine ML.nil ?_
        refine thenQ_n (hK2 _ _ ?_)
        refine WC.ret ?_
        refine bodyQ_ret (.tmpV (v := .map (some r1)) rfl .nil) ?_
        first | exact ⟨_, progK1, hS.map_new (by first | exact .h0 | exact .h1 | exact .h2 | exact .h3 | exact .h4 | exact .h5 | exact .h6 | exact .h7 | exact .h8 | exact .h9 | exact .h10 | exact .h11 | exact .h12 | exact .h13 | exact .h14), hS.old⟩ | exact ⟨_, progK2, hS.map_new (by first | exact .h0 | exact .h1 | exact .h2 | exact .h3 | exact .h4 | exact .h5 | exact .h6 | exact .h7 | exact .h8 | exact .h9 | exact .h10 | exact .h11 | exact .h12 | exact .h13 | exact .h14), hS.old⟩
      · refine opW.insert (κ := Key) (ν := Value) (k := sysK) (v := progSV) (vv := idV) hT (by first | exact .h0 | exact .h1 | exact .h2 | exact .h3 | exact .h4 | exact .h5 | exact .h6 | exact .h7 | exact .h8 | exact .h9 | exact .h10 | exact .h11 | exact .h12 | exact .h13 | exact .h14) rfl rfl rfl ?_
        intro w hT; replace hT := hT _ (by first | exact .h0 | exact .h1 | exact .h2 | exact .h3 | exact .h4 | exact .h5 | exact .h6 | exact .h7 | exact .h8 | exact .h9 | exact .h10 | exact .h11 | exact .h12 | exact .h13 | exact .h14)
        refine ⟨hT.old, ?_⟩
        simp only [putO]
        have hS := hS1.merge hT
        try simp only [List.cons_append, List.nil_append] at hS
        refine ML.one0 rfl rfl (opW.insert (κ := Key) (ν := Value) (k := budK) (v := progBV) (vv := idV) hT (by first | exact .h0 | exact .h1 | exact .h2 | exact .h3 | exact .h4 | exact .h5 | exact .h6 | exact .h7 | exact .h8 | exact .h9 | exact .h10 | exact .h11 | exact .h12 | exact .h13 | exact .h14) rfl rfl rfl ?_)
        intro w hT; replace hT := hT _ (by first | exact .h0 | exact .h1 | exact .h2 | exact .h3 | exact .h4 | exact .h5 | exact .h6 | exact .h7 | exact .h8 | exact .h9 | exact .h10 | exact .h11 | exact .h12 | exact .h13 | exact .h14)
        refine ⟨hT.old, ?_⟩
        have hS := hS1.merge hT
        try simp only [List.cons_append, List.nil_append] at hS
        refine ML.look rfl rfl rfl (fun w hw => (by have hS := hS1.bel hw; exact opW.moveV (v := .map (some r1)) rfl ⟨rfl, rfl⟩)) ?_
        refine ML.look rfl rfl rfl (fun w hw => (by have hS := hS1.bel hw; exact opW.assignV (v := .map (some r1)) rfl ⟨rfl, rfl⟩)) ?_
        refine ML.nil ?_
        refine thenQ_n (hK2 _ _ ?_)
        refine WC.ret ?_
        refine bodyQ_ret (.tmpV (v := .map (some r1)) rfl .nil) ?_
        first | exact ⟨_, progK1, hS.map_new (by first | exact .h0 | exact .h1 | exact .h2 | exact .h3 | exact .h4 | exact .h5 | exact .h6 | exact .h7 | exact .h8 | exact .h9 | exact .h10 | exact .h11 | exact .h12 | exact .h13 | exact .h14), hS.old⟩ | exact ⟨_, progK2, hS.map_new (by first | exact .h0 | exact .h1 | exact .h2 | exact .h3 | exact .h4 | exact .h5 | exact .h6 | exact .h7 | exact .h8 | exact .h9 | exact .h10 | exact .h11 | exact .h12 | exact .h13 | exact .h14), hS.old⟩
  · refine opW.call (bud_ok _) rfl ?_
    rintro _ w ⟨rfl, hw⟩; replace hT := hT.bel hw
    refine ⟨hT.old, ?_⟩
    have hS := hS1.merge hT
    try simp only [List.cons_append, List.nil_append] at hS
    refine ML.fork rfl rfl rfl rfl ?_ ?_ 
    · refine opW.makeMap Key (idV : Value → Value) hT ?_
      intro r1 w hw hT
      refine ⟨hT.old, ?_⟩
      have hS := hS1.merge hT
      try simp only [List.cons_append, List.nil_append] at hS
      refine ML.forkO rfl rfl rfl rfl ?_ ?_
      · refine opW.insert (κ := Key) (ν := Value) (k := budK) (v := progBV) (vv := idV) hT (by first | exact .h0 | exact .h1 | exact .h2 | exact .h3 | exact .h4 | exact .h5 | exact .h6 | exact .h7 | exact .h8 | exact .h9 | exact .h10 | exact .h11 | exact .h12 | exact .h13 | exact .h14) rfl rfl rfl ?_
        intro w hT; replace hT := hT _ (by first | exact .h0 | exact .h1 | exact .h2 | exact .h3 | exact .h4 | exact .h5 | exact .h6 | exact .h7 | exact .h8 | exact .h9 | exact .h10 | exact .h11 | exact .h12 | exact .h13 | exact .h14)
        refine ⟨hT.old, ?_⟩
        simp only [putO]
        have hS := hS1.merge hT
        try simp only [List.cons_append, List.nil_append] at hS
        refine ML.one rfl rfl rfl (opW.call (sys_ok _) rfl ?_)
        rintro _ w ⟨rfl, hw⟩; replace hT := hT.bel hw
        refine ⟨hT.old, ?_⟩
        have hS := hS1.merge hT
        try simp only [List.cons_append, List.nil_append] at hS
        refine ML.one0 rfl rfl (opW.insert (κ := Key) (ν := Value) (k := sysK) (v := progSV) (vv := idV) hT (by first | exact .h0 | exact .h1 | exact .h2 | exact .h3 | exact .h4 | exact .h5 | exact .h6 | exact .h7 | exact .h8 | exact .h9 | exact .h10 | exact .h11 | exact .h12 | exact .h13 | exact .h14) rfl rfl rfl ?_)
        intro w hT; replace hT := hT _ (by first | exact .h0 | exact .h1 | exact .h2 | exact .h3 | exact .h4 | exact .h5 | exact .h6 | exact .h7 | exact .h8 | exact .h9 | exact .h10 | exact .h11 | exact .h12 | exact .h13 | exact .h14)
        refine ⟨hT.old, ?_⟩
        have hS := hS1.merge hT
        try simp only [List.cons_append, List.nil_append] at hS
        refine ML.look rfl rfl rfl (fun w hw => (by have hS := hS1.bel hw; exact opW.moveV (v := .map (some r1)) rfl ⟨rfl, rfl⟩)) ?_
        refine ML.look rfl rfl rfl (fun w hw => (by have hS := hS1.bel hw; exact opW.assignV (v := .map (some r1)) rfl ⟨rfl, rfl⟩)) ?_
        refine ML.nil ?_
        refine thenQ_n (hK2 _ _ ?_)
        refine WC.ret ?_
        refine bodyQ_ret (.tmpV (v := .map (some r1)) rfl .nil) ?_
        first | exact ⟨_, progK1, hS.map_new (by first | exact .h0 | exact .h1 | exact .h2 | exact .h3 | exact .h4 | exact .h5 | exact .h6 | exact .h7 | exact .h8 | exact .h9 | exact .h10 | exact .h11 | exact .h12 | exact .h13 | exact .h14), hS.old⟩ | exact ⟨_, progK2, hS.map_new (by first | exact .h0 | exact .h1 | exact .h2 | exact .h3 | exact .h4 | exact .h5 | exact .h6 | exact .h7 | exact .h8 | exact .h9 | exact .h10 | exact .h11 | exact .h12 | exact .h13 | exact .h14), hS.old⟩
      · refine opW.call (sys_ok _) rfl ?_
        rintro _ w ⟨rfl, hw⟩; replace hT := hT.bel hw
        refine ⟨hT.old, ?_⟩
        simp only [putO]
        have hS := hS1.merge hT
        try simp only [List.cons_append, List.nil_append] at hS
        refine ML.forkO rfl rfl rfl rfl ?_ ?_
        · refine opW.insert (κ := Key) (ν := Value) (k := budK) (v := progBV) (vv := idV) hT (by first | exact .h0 | exact .h1 | exact .h2 | exact .h3 | exact .h4 | exact .h5 | exact .h6 | exact .h7 | exact .h8 | exact .h9 | exact .h10 | exact .h11 | exact .h12 | exact .h13 | exact .h14) rfl rfl rfl ?_
          intro w hT; replace hT := hT _ (by first | exact .h0 | exact .h1 | exact .h2 | exact .h3 | exact .h4 | exact .h5 | exact .h6 | exact .h7 | exact .h8 | exact .h9 | exact .h10 | exact .h11 | exact .h12 | exact .h13 | exact .h14)
          refine ⟨hT.old, ?_⟩
          simp only [putO]
          have hS := hS1.merge hT
          try simp only [List.cons_append, List.nil_append] at hS
          refine ML.one0 rfl rfl (opW.insert (κ := Key) (ν := Value) (k := sysK) (v := progSV) (vv := idV) hT (by first | exact .h0 | exact .h1 | exact .h2 | exact .h3 | exact .h4 | exact .h5 | exact .h6 | exact .h7 | exact .h8 | exact .h9 | exact .h10 | exact .h11 | exact .h12 | exact .h13 | exact .h14) rfl rfl rfl ?_)
          intro w hT; replace hT := hT _ (by first | exact .h0 | exact .h1 | exact .h2 | exact .h3 | exact .h4 | exact .h5 | exact .h6 | exact .h7 | exact .h8 | exact .h9 | exact .h10 | exact .h11 | exact .h12 | exact .h13 | exact .h14)
          refine ⟨hT.old, ?_⟩
          have hS := hS1.merge hT
          try simp only [List.cons_append, List.nil_append] at hS
          refine ML.look rfl rfl rfl (fun w hw => (by have hS := hS1.bel hw; exact opW.moveV (v := .map (some r1)) rfl ⟨rfl, rfl⟩)) ?_
          refine ML.look rfl rfl rfl (fun w hw => (by have hS := hS1.bel hw; exact opW.assignV (v := .map (some r1)) rfl ⟨rfl, rfl⟩)) ?_
          refine ML.nil ?_
          refine thenQ_n (hK2 _ _ ?_)
          refine WC.ret ?_
          refine bodyQ_ret (.tmpV (v := .map (some r1)) rfl .nil) ?_
          first | exact ⟨_, progK1, hS.map_new (by first | exact .h0 | exact .h1 | exact .h2 | exact .h3 | exact .h4 | exact .h5 | exact .h6 | exact .h7 | exact .h8 | exact .h9 | exact .h10 | exact .h11 | exact .h12 | exact .h13 | exact .h14), hS.old⟩ | exact ⟨_, progK2, hS.map_new (by first | exact .h0 | exact .h1 | exact .h2 | exact .h3 | exact .h4 | exact .h5 | exact .h6 | exact .h7 | exact .h8 | exact .h9 | exact .h10 | exact .h11 | exact .h12 | exact .h13 | exact .h14), hS.old⟩
        · refine opW.insert (κ := Key) (ν := Value) (k := sysK) (v := progSV) (vv := idV) hT (by first | exact .h0 | exact .h1 | exact .h2 | exact .h3 | exact .h4 | exact .h5 | exact .h6 | exact .h7 | exact .h8 | exact .h9 | exact .h10 | exact .h11 | exact .h12 | exact .h13 | exact .h14) rfl rfl rfl ?_
          intro w hT; replace hT := hT _ (by first | exact .h0 | exact .h1 | exact .h2 | exact .h3 | exact .h4 | exact .h5 | exact .h6 | exact .h7 | exact .h8 | exact .h9 | exact .h10 | exact .h11 | exact .h12 | exact .h13 | exact .h14)
          refine ⟨hT.old, ?_⟩
          simp only [putO]
          have hS := hS1.merge hT
          try simp only [List.cons_append, List.nil_append] at hS
          refine ML.one0 rfl rfl (opW.insert (κ := Key) (ν := Value) (k := budK) (v := progBV) (vv := idV) hT (by first | exact .h0 | exact .h1 | exact .h2 | exact .h3 | exact .h4 | exact .h5 | exact .h6 | exact .h7 | exact .h8 | exact .h9 | exact .h10 | exact .h11 | exact .h12 | exact .h13 | exact .h14) rfl rfl rfl ?_)
          intro w hT; replace hT := hT _ (by first | exact .h0 | exact .h1 | exact .h2 | exact .h3 | exact .h4 | exact .h5 | exact .h6 | exact .h7 | exact .h8 | exact .h9 | exact .h10 | exact .h11 | exact .h12 | exact .h13 | exact .h14)
          refine ⟨hT.old, ?_⟩
          have hS := hS1.merge hT
          try simp only [List.cons_append, List.nil_append] at hS
          refine ML.look rfl rfl rfl (fun w hw => (by have hS := hS1.bel hw; exact opW.moveV (v := .map (some r1)) rfl ⟨rfl, rfl⟩)) ?_
          refine ML.look rfl rfl rfl (fun w hw => (by have hS := hS1.bel hw; exact opW.assignV (v := .map (some r1)) rfl ⟨rfl, rfl⟩)) ?_
          refine ML.nil ?_
          refine thenQ_n (hK2 _ _ ?_)
          refine WC.ret ?_
          refine bodyQ_ret (.tmpV (v := .map (some r1)) rfl .nil) ?_
          first | exact ⟨_, progK1, hS.map_new (by first | exact .h0 | exact .h1 | exact .h2 | exact .h3 | exact .h4 | exact .h5 | exact .h6 | exact .h7 | exact .h8 | exact .h9 | exact .h10 | exact .h11 | exact .h12 | exact .h13 | exact .h14), hS.old⟩ | exact ⟨_, progK2, hS.map_new (by first | exact .h0 | exact .h1 | exact .h2 | exact .h3 | exact .h4 | exact .h5 | exact .h6 | exact .h7 | exact .h8 | exact .h9 | exact .h10 | exact .h11 | exact .h12 | exact .h13 | exact .h14), hS.old⟩
    · refine opW.call (sys_ok _) rfl ?_
      rintro _ w ⟨rfl, hw⟩; replace hT := hT.bel hw
      refine ⟨hT.old, ?_⟩
      have hS := hS1.merge hT
      try simp only [List.cons_append, List.nil_append] at hS
      refine ML.one rfl rfl rfl (opW.makeMap Key (idV : Value → Value) hT ?_)
      intro r1 w hw hT
      refine ⟨hT.old, ?_⟩
      have hS := hS1.merge hT
      try simp only [List.cons_append, List.nil_append] at hS
      refine ML.forkO rfl rfl rfl rfl ?_ ?_
      · refine opW.insert (κ := Key) (ν := Value) (k := budK) (v := progBV) (vv := idV) hT (by first | exact .h0 | exact .h1 | exact .h2 | exact .h3 | exact .h4 | exact .h5 | exact .h6 | exact .h7 | exact .h8 | exact .h9 | exact .h10 | exact .h11 | exact .h12 | exact .h13 | exact .h14) rfl rfl rfl ?_
        intro w hT; replace hT := hT _ (by first | exact .h0 | exact .h1 | exact .h2 | exact .h3 | exact .h4 | exact .h5 | exact .h6 | exact .h7 | exact .h8 | exact .h9 | exact .h10 | exact .h11 | exact .h12 | exact .h13 | exact .h14)
        refine ⟨hT.old, ?_⟩
        simp only [putO]
        have hS := hS1.merge hT
        try simp only [List.cons_append, List.nil_append] at hS
        refine ML.one0 rfl rfl (opW.insert (κ := Key) (ν := Value) (k := sysK) (v := progSV) (vv := idV) hT (by first | exact .h0 | exact .h1 | exact .h2 | exact .h3 | exact .h4 | exact .h5 | exact .h6 | exact .h7 | exact .h8 | exact .h9 | exact .h10 | exact .h11 | exact .h12 | exact .h13 | exact .h14) rfl rfl rfl ?_)
        intro w hT; replace hT := hT _ (by first | exact .h0 | exact .h1 | exact .h2 | exact .h3 | exact .h4 | exact .h5 | exact .h6 | exact .h7 | exact .h8 | exact .h9 | exact .h10 | exact .h11 | exact .h12 | exact .h13 | exact .h14)
        refine ⟨hT.old, ?_⟩
        have hS := hS1.merge hT
        try simp only [List.cons_append, List.nil_append] at hS
        refine ML.look rfl rfl rfl (fun w hw => (by have hS := hS1.bel hw; exact opW.moveV (v := .map (some r1)) rfl ⟨rfl, rfl⟩)) ?_
        refine ML.look rfl rfl rfl (fun w hw => (by have hS := hS1.bel hw; exact opW.assignV (v := .map (some r1)) rfl ⟨rfl, rfl⟩)) ?_
        refine ML.nil ?_
        refine thenQ_n (hK2 _ _ ?_)
        refine WC.ret ?_
        refine bodyQ_ret (.tmpV (v := .map (some r1)) rfl .nil) ?_
        first | exact ⟨_, progK1, hS.map_new (by first | exact .h0 | exact .h1 | exact .h2 | exact .h3 | exact .h4 | exact .h5 | exact .h6 | exact .h7 | exact .h8 | exact .h9 | exact .h10 | exact .h11 | exact .h12 | exact .h13 | exact .h14), hS.old⟩ | exact ⟨_, progK2, hS.map_new (by first | exact .h0 | exact .h1 | exact .h2 | exact .h3 | exact .h4 | exact .h5 | exact .h6 | exact .h7 | exact .h8 | exact .h9 | exact .h10 | exact .h11 | exact .h12 | exact .h13 | exact .h14), hS.old⟩
      · refine opW.insert (κ := Key) (ν := Value) (k := sysK) (v := progSV) (vv := idV) hT (by first | exact .h0 | exact .h1 | exact .h2 | exact .h3 | exact .h4 | exact .h5 | exact .h6 | exact .h7 | exact .h8 | exact .h9 | exact .h10 | exact .h11 | exact .h12 | exact .h13 | exact .h14) rfl rfl rfl ?_
        intro w hT; replace hT := hT _ (by first | exact .h0 | exact .h1 | exact .h2 | exact .h3 | exact .h4 | exact .h5 | exact .h6 | exact .h7 | exact .h8 | exact .h9 | exact .h10 | exact .h11 | exact .h12 | exact .h13 | exact .h14)
        refine ⟨hT.old, ?_⟩
        simp only [putO]
        have hS := hS1.merge hT
        try simp only [List.cons_append, List.nil_append] at hS
        refine ML.one0 rfl rfl (opW.insert (κ := Key) (ν := Value) (k := budK) (v := progBV) (vv := idV) hT (by first | exact .h0 | exact .h1 | exact .h2 | exact .h3 | exact .h4 | exact .h5 | exact .h6 | exact .h7 | exact .h8 | exact .h9 | exact .h10 | exact .h11 | exact .h12 | exact .h13 | exact .h14) rfl rfl rfl ?_)
        intro w hT; replace hT := hT _ (by first | exact .h0 | exact .h1 | exact .h2 | exact .h3 | exact .h4 | exact .h5 | exact .h6 | exact .h7 | exact .h8 | exact .h9 | exact .h10 | exact .h11 | exact .h12 | exact .h13 | exact .h14)
        refine ⟨hT.old, ?_⟩
        have hS := hS1.merge hT
        try simp only [List.cons_append, List.nil_append] at hS
        refine ML.look rfl rfl rfl (fun w hw => (by have hS := hS1.bel hw; exact opW.moveV (v := .map (some r1)) rfl ⟨rfl, rfl⟩)) ?_
        refine ML.look rfl rfl rfl (fun w hw => (by have hS := hS1.bel hw; exact opW.assignV (v := .map (some r1)) rfl ⟨rfl, rfl⟩)) ?_
        refine ML.nil ?_
        refine thenQ_n (hK2 _ _ ?_)
        refine WC.ret ?_
        refine bodyQ_ret (.tmpV (v := .map (some r1)) rfl .nil) ?_
        first | exact ⟨_, progK1, hS.map_new (by first | exact .h0 | exact .h1 | exact .h2 | exact .h3 | exact .h4 | exact .h5 | exact .h6 | exact .h7 | exact .h8 | exact .h9 | exact .h10 | exact .h11 | exact .h12 | exact .h13 | exact .h14), hS.old⟩ | exact ⟨_, progK2, hS.map_new (by first | exact .h0 | exact .h1 | exact .h2 | exact .h3 | exact .h4 | exact .h5 | exact .h6 | exact .h7 | exact .h8 | exact .h9 | exact .h10 | exact .h11 | exact .h12 | exact .h13 | exact .h14), hS.old⟩

end Go.Fer
