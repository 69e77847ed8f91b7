/- All -/
import Derived.Test.YtppgmnljciakhaaD
set_option linter.all false
namespace Go.Fer
open Go Go.Proofs Go.RowKit

/-- lists of lists of lists, new -/
abbrev Nl := SlV × List Bt
def nlE (x : Nl) : List Ent := ownE x.1.v 32 (x.2.map Prod.fst) :: bE x.2
def naL (o : SlV) (NL : List Nl) : List Ent := ownE o.v 46 (NL.map Prod.fst) :: NL.flatMap nlE
def naE (o : SlV) (NL : List Nl) : Ent := starE (naL o NL)
def nlC (NL : List Nl) : Cn := NL.map fun x => x.2.map Prod.snd
theorem St.addN {w0 w : World} {x : Nl} {e : Ent} {F : List Ent} (hS : St w0 (ownE x.1.v 32 (x.2.map Prod.fst) :: e :: (bE x.2 ++ F)) w) : St w0 (e :: (F ++ nlE x)) w :=
  hS.perm ((List.Perm.swap _ _ _).trans (.cons _ (List.perm_append_comm (l₁ := ownE x.1.v 32 (x.2.map Prod.fst) :: bE x.2) (l₂ := F))))
theorem cnt_mem {q : List Bt} {j : Nat} (hj : j < q.length) : q[j].2.length ≤ cnt q := by
  have h : q[j].2.length ∈ q.map fun b => b.2.length := List.mem_map.2 ⟨q[j], List.getElem_mem hj, rfl⟩
  unfold cnt
  generalize (q.map fun b => b.2.length) = l at h
  induction l with
  | nil => cases h
  | cons a l ih =>
    rw [List.sum_cons]
    rcases List.mem_cons.1 h with h | h
    · omega
    · have := ih h; omega
theorem LnOk.at {L : LnD} (h : LnOk L) {j : Nat} (hj : j < L.q.length) : ∃ hm : (L.f + j) % L.cs.length < L.cs.length, L.cs[(L.f + j) % L.cs.length] = (L.q[j]).1 := by
  have hm : (L.f + j) % L.cs.length < L.cs.length := Nat.mod_lt _ (by have := h.1; omega)
  refine ⟨hm, ?_⟩
  have := h.2.2.2 j hj
  rw [List.getElem?_eq_getElem hm] at this
  exact Option.some.inj this
/-! as they are read -/
def LanR (w : World) (v : Value) (c : List (List I64)) : Prop := ∃ bs : List SlV, SlR w v bs ∧ bs.length = c.length ∧ ∀ m (h1 : m < bs.length) (h2 : m < c.length), SlR w bs[m].v c[m]
theorem LanR.bel {w w' : World} {v : Value} {c : List (List I64)} (h : LanR w v c) (hb : Bel w w') : LanR w' v c := by
  obtain ⟨bs, h1, h2, h3⟩ := h
  exact ⟨bs, h1.bel hb, h2, fun m a b => (h3 m a b).bel hb⟩
def NestR (w : World) (v : Value) (C : Cn) : Prop := ∃ ls : List SlV, SlR w v ls ∧ ls.length = C.length ∧ ∀ k (h1 : k < ls.length) (h2 : k < C.length), LanR w ls[k].v C[k]
theorem NestR.bel {w w' : World} {v : Value} {C : Cn} (h : NestR w v C) (hb : Bel w w') : NestR w' v C := by
  obtain ⟨bs, h1, h2, h3⟩ := h
  exact ⟨bs, h1.bel hb, h2, fun m a b => (h3 m a b).bel hb⟩
theorem nestA {w : World} {o : SlV} {NL : List Nl} (hs : ∀ e ∈ naL o NL, e.A w) : NestR w o.v (nlC NL) := by
  have own : ∀ {α : Type} [Enc α] {v : Value} {T : TypeId} {xs : List α}, ownE v T xs ∈ naL o NL → SlR w v xs := by
    intro α _ v T xs h
    have := hs _ h
    rw [ownE_A] at this; exact this.sl
  refine ⟨NL.map Prod.fst, own List.mem_cons_self, by simp [nlC], fun k h1 h2 => ?_⟩
  have hk : k < NL.length := by simpa using h1
  have hm : NL[k] ∈ NL := List.getElem_mem hk
  refine ⟨NL[k].2.map Prod.fst, ?_, by simp [nlC], fun m a b => ?_⟩
  · rw [List.getElem_map]
    exact own (List.mem_cons_of_mem _ (List.mem_flatMap.2 ⟨_, hm, List.mem_cons_self⟩))
  · have hmm : m < NL[k].2.length := by simpa using a
    have e1 : (nlC NL)[k][m] = (NL[k].2[m]).2 := by simp [nlC]
    rw [List.getElem_map, e1]
    exact own (List.mem_cons_of_mem _ (List.mem_flatMap.2 ⟨_, hm, List.mem_cons_of_mem _ (List.mem_map.2 ⟨NL[k].2[m], List.getElem_mem hmm, rfl⟩)⟩))
theorem St.nestE {w0 w : World} {S : List Ent} {o : SlV} {NL : List Nl} (h : St w0 S w) (he : Has (naE o NL) S) : NestR w o.v (nlC NL) := by
  have h1 := h.get he
  unfold naE at h1
  rw [starE_A] at h1
  exact nestA h1.2
section
variable {α : Type} [DecidableEq α] {x y : List α} {k : Nat}
theorem eqT_done (h : x.take k = y.take k) (hk : ¬ (k < x.length ∧ k < y.length)) : decide ((x.length : Int) = (y.length : Int)) = decide (x = y) := by
  by_cases he : x.length = y.length
  · have h1 : x = y := by rw [← List.take_of_length_le (l := x) (i := k) (by omega), h, List.take_of_length_le (by omega)]
    simp [h1]
  · rw [decide_eq_false (by omega), decide_eq_false (fun e => he (by rw [e]))]
theorem eqT_step (h : x.take k = y.take k) (h1 : k < x.length) (h2 : k < y.length) (e : x[k] = y[k]) : x.take (k + 1) = y.take (k + 1) := by
  rw [List.take_succ_eq_append_getElem h1, List.take_succ_eq_append_getElem h2, h, e]
theorem eqT_ne (h1 : k < x.length) (h2 : k < y.length) (e : ¬ x[k] = y[k]) : decide (x = y) = false := by
  refine decide_eq_false fun h => e ?_
  subst h; rfl
end
theorem I64.ext' {a b : I64} (h : a.n = b.n) : a = b := by cases a; cases b; simp only at h; rw [h]

set_option maxRecDepth 20000 in
set_option maxHeartbeats 4000000 in
theorem all_ok (w0 : World) (p : Nat) (d : LaD) (N : Nat) (ha : LaAt w0 p d) (hok : LaOk N d) (hN : N ≤ 1000) : Ret Try.prog 17 #[.pointer (some ⟨p, 0, none⟩)] w0 (fun u w' => ∃ (o : SlV) (NL : List Nl), u = o.v ∧ nlC NL = d.C ∧ NewE w0 w' (naE o NL) ∧ Bel w0 w') := by
  refine Ret.enter (args := [.pointer (some ⟨p, 0, none⟩)]) Try.func17 rfl Try.ntmps17 Try.results17 rfl ?_
  have hS := St.start w0
  have hdn := hok.n
  refine WC.seq (fun K1 hK1 => ?_)
  refine WC.region ?_
  refine WL.op rfl (opW.assignV (v := .slice none 0 0) rfl ?_)
  refine WL.nil ?_
  refine thenQ_n (hK1 _ _ ?_)
  refine WC.seq (fun K2 hK2 => ?_)
  refine WC.seq (fun K3 hK3 => ?_)
  refine WC.region ?_
  refine WL.op rfl (opW.moveV (v := .pointer (some ⟨p, 0, none⟩)) rfl ?_)
  refine WL.op rfl (opW.eqlP rfl rfl ?_)
  refine WL.nil ?_
  refine thenQ_n (hK3 _ _ ?_)
  refine WC.cond _ rfl (fun hc0 => ?_) (fun hc0 => ?_)
  ·
    have hr0 := hc0
    try simp only [decide_eq_true_eq, decide_eq_false_iff_not, Bool.and_eq_true, Bool.or_eq_true, Bool.and_eq_false_iff, Bool.or_eq_false_iff, Bool.not_eq_true', Bool.not_eq_false', Int.not_lt, Int.not_le] at hc0
    simp at hr0
  ·
    have hr0 := hc0
    try simp only [decide_eq_true_eq, decide_eq_false_iff_not, Bool.and_eq_true, Bool.or_eq_true, Bool.and_eq_false_iff, Bool.or_eq_false_iff, Bool.not_eq_true', Bool.not_eq_false', Int.not_lt, Int.not_le] at hc0
    refine WC.skip ?_
    refine thenQ_n (hK2 _ _ ?_)
    refine WC.seq (fun K4 hK4 => ?_)
    refine WC.seq (fun K5 hK5 => ?_)
    refine WC.region ?_
    refine WL.op rfl (opW.moveV (v := .pointer (some ⟨p, 0, none⟩)) rfl ?_)
    refine WL.op rfl (opW.nilCheckB rfl ?_)
    refine WL.op rfl (opW.fieldAddrB rfl ?_)
    refine WL.op rfl (opW.loadV rfl ((ha.bel hS.old).b.at1 (LaS.at_lanes _)) ?_)
    refine WL.op rfl (opW.lenV rfl ((ha.bel hS.old).l) ?_)
    refine WL.op rfl (opW.moveI rfl ?_)
    refine WL.nil ?_
    refine thenQ_n (hK5 _ _ ?_)
    refine WC.block ?_
    refine WC.loop (fun q1 f w => ∃ (k : Nat) (o : SlV) (NL : List Nl), Fits [(0, .pointer (some ⟨p, 0, none⟩)), (2, o.v), (13, .int .i64 (d.D.length : Int)), (14, .int .i64 (k : Int))] f ∧ St w0 (ownE o.v 46 (NL.map Prod.fst) :: NL.flatMap nlE) w ∧ nlC NL = d.C.take k ∧ k ≤ d.D.length ∧ q1 = d.D.length - k) (d.D.length) ?_ ?_
    ·
      exact ⟨0, ⟨none, 0, 0⟩, [], ⟨rfl, rfl, (by show Value.int .i64 ((d.D.map LnD.r).length : Int) = _; rw [List.length_map]), rfl, trivial⟩, hS.nilOwn 46, by rw [List.take_zero]; rfl, Nat.zero_le _, rfl⟩
    ·
      rintro q1 f w ⟨k, o, NL, hfit, hS, hnl, hk0, hm⟩
      refine WC.fits _ hfit (fun g => ?_)
      clear hfit
      refine WC.seq (fun K6 hK6 => ?_)
      refine WC.region ?_
      refine WL.op rfl (opW.lss rfl rfl ?_)
      refine WL.nil ?_
      refine thenQ_n (hK6 _ _ ?_)
      refine WC.seq (fun K7 hK7 => ?_)
      refine WC.cond _ rfl (fun hc1 => ?_) (fun hc1 => ?_)
      ·
        have hr1 := hc1
        try simp only [decide_eq_true_eq, decide_eq_false_iff_not, Bool.and_eq_true, Bool.or_eq_true, Bool.and_eq_false_iff, Bool.or_eq_false_iff, Bool.not_eq_true', Bool.not_eq_false', Int.not_lt, Int.not_le] at hc1
        have hk : k < d.D.length := by omega
        obtain ⟨L, hL⟩ : ∃ L, d.D[k] = L := ⟨_, rfl⟩
        have hat := hok.at hk
        rw [hL] at hat
        obtain ⟨hokL, hqL, hcL⟩ := hat
        have hkr : k < (d.D.map LnD.r).length := by rw [List.length_map]; exact hk
        have hgr : (d.D.map LnD.r)[k] = L.r := by rw [List.getElem_map, hL]
        have hlq := ha.q L (hL ▸ List.getElem_mem hk)
        have hc4 := hokL.2.1
        have hnn : NL.length = k := by have h := congrArg List.length hnl; simp [nlC, d.C_len] at h; omega
        refine WC.skip ?_
        refine thenQ_n (hK7 _ _ ?_)
        refine WC.seq (fun K8 hK8 => ?_)
        refine WC.block ?_
        refine WC.seq (fun K9 hK9 => ?_)
        refine WC.region ?_
        refine WL.op rfl (opW.moveI rfl ?_)
        refine WL.op rfl (opW.assignI rfl ?_)
        refine WL.nil ?_
        refine thenQ_n (hK9 _ _ ?_)
        refine WC.seq (fun K10 hK10 => ?_)
        refine WC.region ?_
        refine WL.op rfl (opW.moveV (v := .pointer (some ⟨p, 0, none⟩)) rfl ?_)
        refine WL.op rfl (opW.nilCheckB rfl ?_)
        refine WL.op rfl (opW.fieldAddrB rfl ?_)
        refine WL.op rfl (opW.loadV rfl ((ha.bel hS.old).b.at1 (LaS.at_lanes _)) ?_)
        refine WL.op rfl (opW.moveI rfl ?_)
        refine WL.op rfl (opW.idxV rfl ((ha.bel hS.old).l) rfl (by omega) ?_)
        refine WL.op rfl (opW.assignV (v := (elemP d.lv.v k (Enc.sz Ring))) rfl ?_)
        refine WL.nil ?_
        refine thenQ_n (hK10 _ _ ?_)
        refine WC.seq (fun K11 hK11 => ?_)
        refine WC.region ?_
        refine WL.op rfl (opW.assignV (v := .slice none 0 0) rfl ?_)
        refine WL.nil ?_
        refine thenQ_n (hK11 _ _ ?_)
        refine WC.seq (fun K12 hK12 => ?_)
        refine WC.seq (fun K13 hK13 => ?_)
        refine WC.region ?_
        refine WL.op rfl (opW.moveV (v := (elemP d.lv.v k (Enc.sz Ring))) rfl ?_)
        refine WL.op rfl (opW.nilCheck rfl ((show Pt _ (elemP d.lv.v k (Enc.sz Ring)) (Enc.enc L.r) from (congrArg Enc.enc hgr) ▸ (ha.bel hS.old).l.isPt hkr).isP) ?_)
        refine WL.op rfl (opW.fieldAddr rfl ((show Pt _ (elemP d.lv.v k (Enc.sz Ring)) (Enc.enc L.r) from (congrArg Enc.enc hgr) ▸ (ha.bel hS.old).l.isPt hkr).isP) ?_)
        refine WL.op rfl (opW.loadV rfl (Ld.pt1 (show Pt _ (elemP d.lv.v k (Enc.sz Ring)) (Enc.enc L.r) from (congrArg Enc.enc hgr) ▸ (ha.bel hS.old).l.isPt hkr) 2 (LnD.at_many L)) ?_)
        refine WL.op rfl (opW.moveI rfl ?_)
        refine WL.nil ?_
        refine thenQ_n (hK13 _ _ ?_)
        refine WC.block ?_
        refine WC.loop (fun q2 f w => ∃ (j : Nat) (sa : SlV) (bs : List Bt), Fits [(0, .pointer (some ⟨p, 0, none⟩)), (2, o.v), (4, (elemP d.lv.v k (Enc.sz Ring))), (5, sa.v), (13, .int .i64 (d.D.length : Int)), (14, .int .i64 (k : Int)), (26, .int .i64 (L.q.length : Int)), (27, .int .i64 (j : Int))] f ∧ St w0 (ownE sa.v 32 (bs.map Prod.fst) :: ownE o.v 46 (NL.map Prod.fst) :: (bE bs ++ NL.flatMap nlE)) w ∧ bs.map Prod.snd = (L.q.map Prod.snd).take j ∧ j ≤ L.q.length ∧ q2 = L.q.length - j) (L.q.length) ?_ ?_
        ·
          exact ⟨0, ⟨none, 0, 0⟩, [], ⟨rfl, rfl, rfl, rfl, rfl, rfl, rfl, rfl, trivial⟩, hS.nilOwn 32, by rw [List.take_zero]; rfl, Nat.zero_le _, rfl⟩
        ·
          rintro q2 f w ⟨j, sa, bs, hfit, hS, hbs, hj0, hm2⟩
          refine WC.fits _ hfit (fun g => ?_)
          clear hfit
          refine WC.seq (fun K14 hK14 => ?_)
          refine WC.region ?_
          refine WL.op rfl (opW.lss rfl rfl ?_)
          refine WL.nil ?_
          refine thenQ_n (hK14 _ _ ?_)
          refine WC.seq (fun K15 hK15 => ?_)
          refine WC.cond _ rfl (fun hc2 => ?_) (fun hc2 => ?_)
          ·
            have hr2 := hc2
            try simp only [decide_eq_true_eq, decide_eq_false_iff_not, Bool.and_eq_true, Bool.or_eq_true, Bool.and_eq_false_iff, Bool.or_eq_false_iff, Bool.not_eq_true', Bool.not_eq_false', Int.not_lt, Int.not_le] at hc2
            have hj : j < L.q.length := by omega
            obtain ⟨hjm, hje⟩ := hokL.at hj
            have hqj : SlR w0 (L.q[j]).1.v L.q[j].2 := hlq.2 _ (List.getElem_mem hj)
            have hcm := cnt_mem hj
            have hbn : bs.length = j := by have h := congrArg List.length hbs; simp at h; omega
            have hjs : j < (L.q.map Prod.snd).length := by rw [List.length_map]; exact hj
            have hbx : ∀ s : SlV, (bs ++ [(s, L.q[j].2)]).map Prod.snd = (L.q.map Prod.snd).take (j + 1) := fun s => by rw [List.take_succ_eq_append_getElem hjs, List.map_append, hbs, List.getElem_map]; rfl
            replace hbx := fun s => hbx s
            refine WC.skip ?_
            refine thenQ_n (hK15 _ _ ?_)
            refine WC.seq (fun K16 hK16 => ?_)
            refine WC.block ?_
            refine WC.seq (fun K17 hK17 => ?_)
            refine WC.region ?_
            refine WL.op rfl (opW.moveI rfl ?_)
            refine WL.op rfl (opW.assignI rfl ?_)
            refine WL.nil ?_
            refine thenQ_n (hK17 _ _ ?_)
            refine WC.draw 13 (.look 0 (.look 1 (.look 2 (.look 3 (.look 4 (.look 5 (.look 6 (.one 7 (.look 8 (.look 9 (.one 10 (.one 11 (.one 12 (.one 13 (.one 14 .nil))))))))))))))) (by kernel_rfl) (fun _ _ _ h => h) (fun w1 hw1 => ?_)
            replace hS := hS.bel hw1
            have hS1 := hS
            have hT := St.start w1
            refine ML.look rfl rfl rfl (fun w hw => (by have hS := hS1.bel hw; exact opW.moveV (v := sa.v) rfl ⟨rfl, rfl⟩)) ?_
            refine ML.look rfl rfl rfl (fun w hw => (by have hS := hS1.bel hw; exact opW.moveV (v := (elemP d.lv.v k (Enc.sz Ring))) rfl ⟨rfl, rfl⟩)) ?_
            refine ML.look rfl rfl rfl (fun w hw => (by have hS := hS1.bel hw; exact opW.nilCheck rfl ((show Pt _ (elemP d.lv.v k (Enc.sz Ring)) (Enc.enc L.r) from (congrArg Enc.enc hgr) ▸ (ha.bel hS.old).l.isPt hkr).isP) ⟨rfl, rfl⟩)) ?_
            refine ML.look rfl rfl rfl (fun w hw => (by have hS := hS1.bel hw; exact opW.fieldAddr rfl ((show Pt _ (elemP d.lv.v k (Enc.sz Ring)) (Enc.enc L.r) from (congrArg Enc.enc hgr) ▸ (ha.bel hS.old).l.isPt hkr).isP) ⟨rfl, rfl⟩)) ?_
            refine ML.look rfl rfl rfl (fun w hw => (by have hS := hS1.bel hw; exact opW.loadV rfl (Ld.pt1 (show Pt _ (elemP d.lv.v k (Enc.sz Ring)) (Enc.enc L.r) from (congrArg Enc.enc hgr) ▸ (ha.bel hS.old).l.isPt hkr) 0 (LnD.at_l L)) ⟨rfl, rfl⟩)) ?_
            refine ML.look rfl rfl rfl (fun w hw => (by have hS := hS1.bel hw; exact opW.moveV (v := (elemP d.lv.v k (Enc.sz Ring))) rfl ⟨rfl, rfl⟩)) ?_
            refine ML.look rfl rfl rfl (fun w hw => (by have hS := hS1.bel hw; exact opW.moveI rfl ⟨rfl, rfl⟩)) ?_
            refine ML.one rfl rfl rfl (opW.call (at_ok _ (elemP d.lv.v k (Enc.sz Ring)) L j (show Pt _ (elemP d.lv.v k (Enc.sz Ring)) (Enc.enc L.r) from (congrArg Enc.enc hgr) ▸ (ha.bel hS.old).l.isPt hkr) (hlq.1.bel hS.old) (by omega) hc4 (by have := hokL.2.2.1; omega) (by omega)) rfl ?_)
            rintro _ w ⟨rfl, hw⟩; replace hT := hT.bel hw
            refine ⟨hT.old, ?_⟩
            have hS := hS1.merge hT
            try simp only [List.cons_append, List.nil_append] at hS
            refine ML.look rfl rfl rfl (fun w hw => (by have hS := hS1.bel hw; exact opW.idxV rfl ((hlq.1.bel hS.old)) rfl (by omega) ⟨rfl, rfl⟩)) ?_
            refine ML.look rfl rfl rfl (fun w hw => (by have hS := hS1.bel hw; exact opW.loadV rfl ((show Ld _ _ _ _ ((L.q[j]).1.v) from hje ▸ (((hlq.1.bel hS.old).isPt hjm).ld rfl))) ⟨rfl, rfl⟩)) ?_
            refine ML.one rfl rfl rfl (opW.call (clone_i _ _ L.q[j].2 (hqj.bel hS.old) (by omega)) rfl ?_)
            rintro v40 w ⟨hn40, hw⟩; replace hT := hT.newOwn hw hn40.1 hn40.2
            refine ⟨hT.old, ?_⟩
            have hS := hS1.merge hT
            try simp only [List.cons_append, List.nil_append] at hS
            refine ML.one rfl rfl rfl (opW.call (clip_i _ _ L.q[j].2 (hS.sl (v := v40) (xs := L.q[j].2) (by first | exact .h0 | exact .h1 | exact .h2 | exact .h3 | exact .h4 | exact .h5 | exact .h6 | exact .h7 | exact .h8 | exact .h9 | exact .h10 | exact .h11 | exact .h12 | exact .h13 | exact .h14))) rfl ?_)
            rintro v41 w ⟨h41, hw⟩; replace hT := hT.bel hw
            replace hT := hT.clipS (v := v40) (xs := L.q[j].2) (by first | exact .h0 | exact .h1 | exact .h2 | exact .h3 | exact .h4 | exact .h5 | exact .h6 | exact .h7 | exact .h8 | exact .h9 | exact .h10 | exact .h11 | exact .h12 | exact .h13 | exact .h14)
            rw [← h41] at hT
            obtain ⟨s41, rfl⟩ := (hT.sl (v := v41) (xs := L.q[j].2) (by first | exact .h0 | exact .h1 | exact .h2 | exact .h3 | exact .h4 | exact .h5 | exact .h6 | exact .h7 | exact .h8 | exact .h9 | exact .h10 | exact .h11 | exact .h12 | exact .h13 | exact .h14)).asV
            refine ⟨hT.old, ?_⟩
            have hS := hS1.merge hT
            try simp only [List.cons_append, List.nil_append] at hS
            refine ML.one rfl rfl rfl (opW.buildSl hT (([s41] : List SlV)) [s41.v] rfl rfl rfl rfl (by decide) ?_)
            intro b42 w hw hT
            refine ⟨hT.old, ?_⟩
            have hS := hS1.merge hT
            try simp only [List.cons_append, List.nil_append] at hS
            refine ML.put1 rfl rfl rfl rfl (opW.appendOwn (α := SlV) (v := sa.v) (xs := (bs.map Prod.fst)) rfl hS rfl (by first | exact .h0 | exact .h1 | exact .h2 | exact .h3 | exact .h4 | exact .h5 | exact .h6 | exact .h7 | exact .h8 | exact .h9 | exact .h10 | exact .h11 | exact .h12 | exact .h13 | exact .h14) (hS.sl (xs := ([s41] : List SlV)) (by first | exact .h0 | exact .h1 | exact .h2 | exact .h3 | exact .h4 | exact .h5 | exact .h6 | exact .h7 | exact .h8 | exact .h9 | exact .h10 | exact .h11 | exact .h12 | exact .h13 | exact .h14)) (by rw [List.length_map]; simp only [List.length_cons, List.length_nil]; omega) (by rw [List.length_map]; simp only [maxLen, List.length_cons, List.length_nil]; omega) ?_)
            intro v43 w hS; replace hS := hS _ (by first | exact .h0 | exact .h1 | exact .h2 | exact .h3 | exact .h4 | exact .h5 | exact .h6 | exact .h7 | exact .h8 | exact .h9 | exact .h10 | exact .h11 | exact .h12 | exact .h13 | exact .h14)
            obtain ⟨s43, rfl⟩ := (hS.sl (v := v43) (xs := (bs.map Prod.fst) ++ [s41]) (by first | exact .h0 | exact .h1 | exact .h2 | exact .h3 | exact .h4 | exact .h5 | exact .h6 | exact .h7 | exact .h8 | exact .h9 | exact .h10 | exact .h11 | exact .h12 | exact .h13 | exact .h14)).asV
            refine ML.put1 rfl rfl rfl rfl (opW.assignV (v := s43.v) rfl ?_)
            refine ML.nil ?_
            refine blockQ_n ?_
            refine thenQ_n (hK16 _ _ ?_)
            refine WC.region ?_
            refine WL.op rfl (opW.add rfl rfl (wrap_i64 (by omega)) ?_)
            refine WL.op rfl (opW.moveI rfl ?_)
            refine WL.nil ?_
            refine thenQ_n ?_
            exact ⟨L.q.length - (j + 1), by omega, j + 1, s43, bs ++ [(s41, L.q[j].2)], ⟨rfl, rfl, rfl, rfl, rfl, rfl, rfl, congrArg (Value.int .i64) (by omega), trivial⟩, (by rw [List.map_append]; exact St.pushB [_, _] (b := (s41, L.q[j].2)) ((hS.pick (e := ownE s41.v 3 L.q[j].2) (by first | exact .h0 | exact .h1 | exact .h2 | exact .h3 | exact .h4 | exact .h5 | exact .h6 | exact .h7 | exact .h8 | exact .h9 | exact .h10 | exact .h11 | exact .h12 | exact .h13 | exact .h14)).sub (.cons₂ _ (.cons _ (List.Sublist.refl _))))), hbx _, by omega, rfl⟩
          ·
            have hr2 := hc2
            try simp only [decide_eq_true_eq, decide_eq_false_iff_not, Bool.and_eq_true, Bool.or_eq_true, Bool.and_eq_false_iff, Bool.or_eq_false_iff, Bool.not_eq_true', Bool.not_eq_false', Int.not_lt, Int.not_le] at hc2
            obtain rfl : j = L.q.length := by omega
            rw [List.take_of_length_le (by rw [List.length_map]; exact Nat.le_refl _)] at hbs
            have hbn : bs.length = L.q.length := by have h := congrArg List.length hbs; simpa using h
            refine WC.exit ?_
            refine thenQ_e ?_
            refine thenQ_e ?_
            refine blockQ_hit ?_
            refine thenQ_n (hK12 _ _ ?_)
            refine WC.region ?_
            refine WL.op rfl (opW.moveV (v := o.v) rfl ?_)
            refine WL.op rfl (opW.moveV (v := sa.v) rfl ?_)
            refine WL.op rfl (opW.call (clip_s _ _ (bs.map Prod.fst) (hS.sl (v := sa.v) (xs := (bs.map Prod.fst)) (by first | exact .h0 | exact .h1 | exact .h2 | exact .h3 | exact .h4 | exact .h5 | exact .h6 | exact .h7 | exact .h8 | exact .h9 | exact .h10 | exact .h11 | exact .h12 | exact .h13 | exact .h14))) rfl ?_)
            rintro v47 w ⟨h47, hw⟩; replace hS := hS.bel hw
            replace hS := hS.clipS (v := sa.v) (xs := (bs.map Prod.fst)) (by first | exact .h0 | exact .h1 | exact .h2 | exact .h3 | exact .h4 | exact .h5 | exact .h6 | exact .h7 | exact .h8 | exact .h9 | exact .h10 | exact .h11 | exact .h12 | exact .h13 | exact .h14)
            rw [← h47] at hS
            obtain ⟨s47, rfl⟩ := (hS.sl (v := v47) (xs := (bs.map Prod.fst)) (by first | exact .h0 | exact .h1 | exact .h2 | exact .h3 | exact .h4 | exact .h5 | exact .h6 | exact .h7 | exact .h8 | exact .h9 | exact .h10 | exact .h11 | exact .h12 | exact .h13 | exact .h14)).asV
            have hnx : nlC (NL ++ [(s47, bs)]) = d.C.take (k + 1) := by
              have hkC : k < d.C.length := by rw [d.C_len]; exact hk
              rw [List.take_succ_eq_append_getElem hkC, ← hnl]
              have e : d.C[k] = bs.map Prod.snd := by rw [hbs]; simp [LaD.C, hL]
              rw [e]; simp [nlC]
            refine WL.op rfl (opW.buildSl hS (([s47] : List SlV)) [s47.v] rfl rfl rfl rfl (by decide) ?_)
            intro b48 w hw hS
            refine WL.op rfl (opW.appendOwn (α := SlV) (v := o.v) (xs := (NL.map Prod.fst)) rfl hS rfl (by first | exact .h0 | exact .h1 | exact .h2 | exact .h3 | exact .h4 | exact .h5 | exact .h6 | exact .h7 | exact .h8 | exact .h9 | exact .h10 | exact .h11 | exact .h12 | exact .h13 | exact .h14) (hS.sl (xs := ([s47] : List SlV)) (by first | exact .h0 | exact .h1 | exact .h2 | exact .h3 | exact .h4 | exact .h5 | exact .h6 | exact .h7 | exact .h8 | exact .h9 | exact .h10 | exact .h11 | exact .h12 | exact .h13 | exact .h14)) (by rw [List.length_map]; simp only [List.length_cons, List.length_nil]; have := hok.n; omega) (by rw [List.length_map]; simp only [maxLen, List.length_cons, List.length_nil]; have := hok.n; omega) ?_)
            intro v49 w hS; replace hS := hS _ (by first | exact .h0 | exact .h1 | exact .h2 | exact .h3 | exact .h4 | exact .h5 | exact .h6 | exact .h7 | exact .h8 | exact .h9 | exact .h10 | exact .h11 | exact .h12 | exact .h13 | exact .h14)
            obtain ⟨s49, rfl⟩ := (hS.sl (v := v49) (xs := (NL.map Prod.fst) ++ [s47]) (by first | exact .h0 | exact .h1 | exact .h2 | exact .h3 | exact .h4 | exact .h5 | exact .h6 | exact .h7 | exact .h8 | exact .h9 | exact .h10 | exact .h11 | exact .h12 | exact .h13 | exact .h14)).asV
            refine WL.op rfl (opW.assignV (v := s49.v) rfl ?_)
            refine WL.nil ?_
            refine blockQ_n ?_
            refine thenQ_n (hK8 _ _ ?_)
            refine WC.region ?_
            refine WL.op rfl (opW.add rfl rfl (wrap_i64 (by omega)) ?_)
            refine WL.op rfl (opW.moveI rfl ?_)
            refine WL.nil ?_
            refine thenQ_n ?_
            exact ⟨d.D.length - (k + 1), by omega, k + 1, s49, NL ++ [(s47, bs)], ⟨rfl, rfl, rfl, congrArg (Value.int .i64) (by omega), trivial⟩, (by rw [List.map_append, List.flatMap_append]; show St w0 (_ :: (NL.flatMap nlE ++ (nlE (s47, bs) ++ []))) _; rw [List.append_nil]; exact St.addN (x := (s47, bs)) ((hS.pick (e := ownE s47.v 32 (bs.map Prod.fst)) (by first | exact .h0 | exact .h1 | exact .h2 | exact .h3 | exact .h4 | exact .h5 | exact .h6 | exact .h7 | exact .h8 | exact .h9 | exact .h10 | exact .h11 | exact .h12 | exact .h13 | exact .h14)).sub (.cons₂ _ (.cons _ (List.Sublist.refl _))))), hnx, by omega, rfl⟩
      ·
        have hr1 := hc1
        try simp only [decide_eq_true_eq, decide_eq_false_iff_not, Bool.and_eq_true, Bool.or_eq_true, Bool.and_eq_false_iff, Bool.or_eq_false_iff, Bool.not_eq_true', Bool.not_eq_false', Int.not_lt, Int.not_le] at hc1
        obtain rfl : k = d.D.length := by omega
        rw [List.take_of_length_le (by rw [d.C_len]; exact Nat.le_refl _)] at hnl
        refine WC.exit ?_
        refine thenQ_e ?_
        refine thenQ_e ?_
        refine blockQ_hit ?_
        refine thenQ_n (hK4 _ _ ?_)
        refine WC.seq (fun K18 hK18 => ?_)
        refine WC.region ?_
        refine WL.op rfl (opW.moveV (v := o.v) rfl ?_)
        refine WL.op rfl (opW.call (clip_t _ _ (NL.map Prod.fst) (hS.sl (v := o.v) (xs := (NL.map Prod.fst)) (by first | exact .h0 | exact .h1 | exact .h2 | exact .h3 | exact .h4 | exact .h5 | exact .h6 | exact .h7 | exact .h8 | exact .h9 | exact .h10 | exact .h11 | exact .h12 | exact .h13 | exact .h14))) rfl ?_)
        rintro v52 w ⟨h52, hw⟩; replace hS := hS.bel hw
        replace hS := hS.clipS (v := o.v) (xs := (NL.map Prod.fst)) (by first | exact .h0 | exact .h1 | exact .h2 | exact .h3 | exact .h4 | exact .h5 | exact .h6 | exact .h7 | exact .h8 | exact .h9 | exact .h10 | exact .h11 | exact .h12 | exact .h13 | exact .h14)
        rw [← h52] at hS
        obtain ⟨s52, rfl⟩ := (hS.sl (v := v52) (xs := (NL.map Prod.fst)) (by first | exact .h0 | exact .h1 | exact .h2 | exact .h3 | exact .h4 | exact .h5 | exact .h6 | exact .h7 | exact .h8 | exact .h9 | exact .h10 | exact .h11 | exact .h12 | exact .h13 | exact .h14)).asV
        refine WL.op rfl (opW.assignV (v := s52.v) rfl ?_)
        refine WL.nil ?_
        refine thenQ_n (hK18 _ _ ?_)
        refine WC.ret ?_
        refine bodyQ_ret (.tmpV (v := s52.v) rfl .nil) ?_
        refine ⟨s52, NL, rfl, hnl, ?_, hS.old⟩
        have h := hS.perm (List.Perm.of_eq (List.append_nil (naL s52 NL)).symm)
        exact (St.closed (S := []) h).takeE .here

theorem allNil_ok (w0 : World) : Ret Try.prog 17 #[.pointer none] w0 (fun u w' => u = .slice none 0 0 ∧ Bel w0 w') := by
  refine Ret.enter (args := [.pointer none]) Try.func17 rfl Try.ntmps17 Try.results17 rfl ?_
  have hS := St.start w0
  refine WC.seq (fun K1 hK1 => ?_)
  refine WC.region ?_
  refine WL.op rfl (opW.assignV (v := .slice none 0 0) rfl ?_)
  refine WL.nil ?_
  refine thenQ_n (hK1 _ _ ?_)
  refine WC.seq (fun K2 hK2 => ?_)
  refine WC.seq (fun K3 hK3 => ?_)
  refine WC.region ?_
  refine WL.op rfl (opW.moveV (v := .pointer none) rfl ?_)
  refine WL.op rfl (opW.eqlP rfl rfl ?_)
  refine WL.nil ?_
  refine thenQ_n (hK3 _ _ ?_)
  refine WC.cond _ rfl (fun hc0 => ?_) (fun hc0 => ?_)
  ·
    have hr0 := hc0
    try simp only [decide_eq_true_eq, decide_eq_false_iff_not, Bool.and_eq_true, Bool.or_eq_true, Bool.and_eq_false_iff, Bool.or_eq_false_iff, Bool.not_eq_true', Bool.not_eq_false', Int.not_lt, Int.not_le] at hc0
    refine WC.seq (fun K4 hK4 => ?_)
    refine WC.region ?_
    refine WL.op rfl (opW.assignV (v := .slice none 0 0) rfl ?_)
    refine WL.nil ?_
    refine thenQ_n (hK4 _ _ ?_)
    refine WC.ret ?_
    refine thenQ_r ?_
    refine bodyQ_ret (.tmpV (v := .slice none 0 0) rfl .nil) ?_
    exact ⟨rfl, hS.old⟩
  ·
    have hr0 := hc0
    try simp only [decide_eq_true_eq, decide_eq_false_iff_not, Bool.and_eq_true, Bool.or_eq_true, Bool.and_eq_false_iff, Bool.or_eq_false_iff, Bool.not_eq_true', Bool.not_eq_false', Int.not_lt, Int.not_le] at hc0
    simp at hr0

end Go.Fer
