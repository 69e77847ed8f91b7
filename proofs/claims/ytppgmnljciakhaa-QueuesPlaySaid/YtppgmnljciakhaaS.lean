/- the document -/
import Derived.Test.YtppgmnljciakhaaK
import Derived.Test.YtppgmnljciakhaaN
set_option linter.all false
namespace Go.Fer
open Go Go.Proofs Go.RowKit

structure RnD where
  fv : Value
  ds : List SlV
  s : SlV
  q : List Bt
def rnE (R : RnD) : List Ent := ownE R.fv 32 (R.ds ++ R.q.map Prod.fst) :: bE R.q
structure RnOk (N : Nat) (R : RnD) : Prop where
  t : TailR R.s.v R.fv R.ds (R.q.map Prod.fst)
  a : R.ds.length ≤ N
  b : R.q.length ≤ N
  c : cnt R.q ≤ 64 * N
structure RfD where
  sv : SlV
  D : List RnD
def RfD.C (d : RfD) : Cn := d.D.map fun R => R.q.map Prod.snd
theorem RfD.C_len (d : RfD) : d.C.length = d.D.length := List.length_map _
def rfE (p : Nat) (d : RfD) : Ent := starE (blkE p (Enc.enc (RLa.mk d.sv)) 45 :: ownE d.sv.v 46 (d.D.map RnD.s) :: d.D.flatMap rnE)
structure RfOk (N : Nat) (d : RfD) : Prop where
  n : d.D.length ≤ 64
  all : ∀ R ∈ d.D, RnOk N R
theorem RnOk.up {N M : Nat} {R : RnD} (h : RnOk N R) (hN : N ≤ M) : RnOk M R := ⟨h.t, Nat.le_trans h.a hN, Nat.le_trans h.b hN, by have := h.c; omega⟩
theorem RfOk.up {N M : Nat} {d : RfD} (h : RfOk N d) (hN : N ≤ M) : RfOk M d := ⟨h.n, fun R hR => (h.all R hR).up hN⟩
theorem RfOk.set {N M : Nat} {d : RfD} (h : RfOk N d) (hN : N ≤ M) {k : Nat} {R : RnD} (hR : RnOk M R) {sv : SlV} : RfOk M ⟨sv, d.D.set k R⟩ := by
  refine ⟨by simpa using h.n, fun R' hR' => ?_⟩
  rcases List.mem_or_eq_of_mem_set hR' with h4 | rfl
  · exact (h.all _ h4).up hN
  · exact hR
structure RfAt (w : World) (p : Nat) (d : RfD) : Prop where
  b : Pt w (.pointer (some ⟨p, 0, none⟩)) (Enc.enc (RLa.mk d.sv))
  l : SlR w d.sv.v (d.D.map RnD.s)
  q : ∀ R ∈ d.D, SlR w R.s.v (R.q.map Prod.fst) ∧ ∀ b ∈ R.q, SlR w b.1.v b.2
section
variable {w0 w : World} {S : List Ent} {p : Nat} {d : RfD}
theorem RfAt.bel {w' : World} (h : RfAt w p d) (hb : Bel w w') : RfAt w' p d := ⟨h.b.bel hb, h.l.bel hb, fun L hL => ⟨(h.q L hL).1.bel hb, fun b hb' => ((h.q L hL).2 b hb').bel hb⟩⟩
theorem St.rfOpen (hS : St w0 (rfE p d :: S) w) : St w0 (blkE p (Enc.enc (RLa.mk d.sv)) 45 :: ownE d.sv.v 46 (d.D.map RnD.s) :: (d.D.flatMap rnE ++ S)) w := hS.opened
theorem St.rfClose (hS : St w0 (blkE p (Enc.enc (RLa.mk d.sv)) 45 :: ownE d.sv.v 46 (d.D.map RnD.s) :: (d.D.flatMap rnE ++ S)) w) : St w0 (rfE p d :: S) w := St.closed hS
theorem St.rfAt (h : St w0 S w) (he : Has (rfE p d) S) {N : Nat} (hok : RfOk N d) : RfAt w p d := by
  have h1 := h.get he
  unfold rfE at h1
  rw [starE_A] at h1
  refine ⟨?_, ?_, fun R hR => ⟨?_, fun b hb => ?_⟩⟩
  · have := h1.2 (blkE p (Enc.enc (RLa.mk d.sv)) 45) (by simp)
    unfold blkE at this
    exact Pt.blk this
  · have := h1.2 (ownE d.sv.v 46 (d.D.map RnD.s)) (by simp)
    rw [ownE_A] at this; exact this.sl
  · have := h1.2 (ownE R.fv 32 (R.ds ++ R.q.map Prod.fst)) (List.mem_cons_of_mem _ (List.mem_cons_of_mem _ (List.mem_flatMap.2 ⟨R, hR, List.mem_cons_self⟩)))
    rw [ownE_A] at this; exact (hok.all R hR).t.sl this
  · have := h1.2 (ownE b.1.v 3 b.2) (List.mem_cons_of_mem _ (List.mem_cons_of_mem _ (List.mem_flatMap.2 ⟨R, hR, List.mem_cons_of_mem _ (List.mem_map.2 ⟨b, hb, rfl⟩)⟩)))
    rw [ownE_A] at this; exact this.sl
theorem RfAt.nest (h : RfAt w p d) : NestR w d.sv.v d.C := by
  refine ⟨_, h.l, by simp [RfD.C], fun k h1 h2 => ?_⟩
  have hk : k < d.D.length := by simpa using h1
  have hm := h.q _ (List.getElem_mem hk)
  refine ⟨d.D[k].q.map Prod.fst, ?_, by simp [RfD.C], fun m a b => ?_⟩
  · rw [List.getElem_map]; exact hm.1
  · have hmm : m < d.D[k].q.length := by simpa using a
    have e1 : d.C[k][m] = (d.D[k].q[m]).2 := by simp [RfD.C]
    rw [List.getElem_map, e1]
    exact hm.2 _ (List.getElem_mem hmm)
theorem St.swapOwn {a b : Ent} {fv fv' : Value} {l l' : List SlV} (h : (fv' = fv ∧ l' = l) ∨ (fv' = .slice none 0 0 ∧ l' = [])) (hS : St w0 (a :: b :: ownE fv 32 l :: S) w) : St w0 (a :: b :: ownE fv' 32 l' :: S) w := by
  rcases h with ⟨rfl, rfl⟩ | ⟨rfl, rfl⟩
  · exact hS
  · have h1 : St w0 (a :: b :: S) w := hS.sub (.cons₂ _ (.cons₂ _ (.cons _ (List.Sublist.refl _))))
    exact ((h1.nilOwn (α := SlV) 32).pick (e := b) .h2).pick (e := a) .h2
end
theorem RfD.laneC_at (d : RfD) {k : Nat} (h : k < d.D.length) : laneC d.C (k : Int) = d.D[k].q.map Prod.snd := by
  rw [Go.Fer.laneC_at (by rw [d.C_len]; exact h)]; simp [RfD.C]
theorem RfD.C_set (d : RfD) {k : Nat} {R : RnD} {sv : SlV} : RfD.C ⟨sv, d.D.set k R⟩ = d.C.set k (R.q.map Prod.snd) := by simp [RfD.C, List.map_set]
def newR (s : SlV) (n : Nat) : RfD := ⟨s, List.replicate n ⟨.slice none 0 0, [], ⟨none, 0, 0⟩, []⟩⟩
theorem newR_flat (n : Nat) : (List.replicate n (⟨.slice none 0 0, [], ⟨none, 0, 0⟩, []⟩ : RnD)).flatMap rnE = List.replicate n (ownE (SlV.v ⟨none, 0, 0⟩) 32 ([] : List SlV)) := by
  induction n with
  | zero => rfl
  | succ n ih => rw [List.replicate_succ, List.flatMap_cons, ih, List.replicate_succ]; rfl
theorem newR_ok (s : SlV) {n : Nat} (h : n ≤ 64) : RfOk 0 (newR s n) := by
  refine ⟨by simpa [newR] using h, fun R hR => ?_⟩
  obtain rfl := List.eq_of_mem_replicate hR
  exact ⟨.inl rfl, Nat.le_refl _, Nat.le_refl _, Nat.le_refl _⟩
theorem newR_C (s : SlV) (n : Nat) : (newR s n).C = List.replicate n [] := by simp [newR, RfD.C]

theorem rnew_ok (w0 : World) (i : Int) : Ret Try.prog 10 #[.int .i64 i] w0 (fun u w' => (inR (i - 1) 64 = false ∧ u = .tuple #[.pointer none, .int .i64 1] ∧ Bel w0 w') ∨ (inR (i - 1) 64 = true ∧ ∃ p d, u = .tuple #[.pointer (some ⟨p, 0, none⟩), .int .i64 0] ∧ RfOk 0 d ∧ d.C = List.replicate i.toNat [] ∧ NewE w0 w' (rfE p d) ∧ Bel w0 w')) := by
  refine Ret.enter (args := [.int .i64 i]) Try.func10 rfl Try.ntmps10 Try.results10 rfl ?_
  have hS := St.start w0
  refine WC.seq (fun K1 hK1 => ?_)
  refine WC.region ?_
  refine WL.op rfl (opW.assignV rfl ?_)
  refine WL.op rfl (opW.assignI rfl ?_)
  refine WL.nil ?_
  refine thenQ_n (hK1 _ _ ?_)
  refine WC.seq (fun K2 hK2 => ?_)
  refine WC.seq (fun K3 hK3 => ?_)
  refine WC.region ?_
  refine WL.op rfl (opW.moveI rfl ?_)
  refine WL.op rfl (opW.lss rfl rfl ?_)
  refine WL.op rfl (opW.moveB rfl ?_)
  refine WL.gd _ 6 _ rfl rfl rfl rfl (fun hg7 => opW.moveI rfl ⟨rfl, Bel.refl _⟩) (fun w hw => ?_)
  replace hS := hS.bel hw
  refine WL.gd _ 6 _ rfl rfl rfl rfl (fun hg8 => opW.gtr (by first | exact gv_of rfl hg8 | rfl) rfl ⟨rfl, Bel.refl _⟩) (fun w hw => ?_)
  replace hS := hS.bel hw
  refine WL.op rfl (opW.pickOr rfl rfl (by first | rfl) ?_)
  refine WL.nil ?_
  refine thenQ_n (hK3 _ _ ?_)
  refine WC.cond _ rfl (fun hc0 => ?_) (fun hc0 => ?_)
  ·
    have hr0 := hc0
    try simp only [decide_eq_true_eq, decide_eq_false_iff_not, Bool.and_eq_true, Bool.or_eq_true, Bool.and_eq_false_iff, Bool.or_eq_false_iff, Bool.not_eq_true', Bool.not_eq_false', Int.not_lt, Int.not_le] at hc0
    refine WC.seq (fun K4 hK4 => ?_)
    refine WC.region ?_
    refine WL.op rfl (opW.assignV rfl ?_)
    refine WL.op rfl (opW.assignI rfl ?_)
    refine WL.nil ?_
    refine thenQ_n (hK4 _ _ ?_)
    refine WC.ret ?_
    refine thenQ_r ?_
    refine bodyQ_ret (.tmp (.tmpI rfl .nil)) ?_
    exact .inl ⟨by simp at hr0; simp [inR]; omega, rfl, hS.old⟩
  ·
    have hr0 := hc0
    try simp only [decide_eq_true_eq, decide_eq_false_iff_not, Bool.and_eq_true, Bool.or_eq_true, Bool.and_eq_false_iff, Bool.or_eq_false_iff, Bool.not_eq_true', Bool.not_eq_false', Int.not_lt, Int.not_le] at hc0
    have hb : 1 ≤ i ∧ i ≤ 64 := by simp at hr0; omega
    obtain ⟨n, rfl⟩ : ∃ n : Nat, i = (n : Int) := ⟨i.toNat, by omega⟩
    refine WC.skip ?_
    refine thenQ_n (hK2 _ _ ?_)
    refine WC.seq (fun K5 hK5 => ?_)
    refine WC.region ?_
    refine WL.op rfl (opW.moveI rfl ?_)
    refine WL.op rfl (opW.makeSl (α := SlV) (n := n) ⟨none, 0, 0⟩ rfl hS rfl rfl (by omega) (by simp only [maxLen]; omega) ?_)
    intro b11 w _ hS
    refine WL.op rfl (opW.buildE (r := ((RLa.mk (⟨some ⟨b11, 0, none⟩, n, n⟩ : SlV)) : RLa)) (ps := RLa.parts ((RLa.mk (⟨some ⟨b11, 0, none⟩, n, n⟩ : SlV)) : RLa)) (RLa.enc_eq _) (by first | rfl | (simp only [enc_vset, enc_vz, Ring.enc_eq, Ring.parts, LaS.enc_eq, LaS.parts, RLa.enc_eq, RLa.parts, Act.enc_eq, Act.parts]; rfl)) (by (repeat' (first | exact trivial | refine And.intro ?_ ?_)) <;> first | rfl | exact Enc.size_eq _ | (simp; done)) ?_)
    refine WL.op rfl (opW.boxA hS rfl ?_)
    intro b13 w _ hS
    refine WL.op rfl (opW.assignV (v := .pointer (some ⟨b13, 0, none⟩)) rfl ?_)
    refine WL.op rfl (opW.assignI rfl ?_)
    refine WL.nil ?_
    refine thenQ_n (hK5 _ _ ?_)
    refine WC.ret ?_
    refine bodyQ_ret (.tmpV (v := .pointer (some ⟨b13, 0, none⟩)) rfl (.tmpI rfl .nil)) ?_
    refine .inr ⟨by simp [inR]; omega, b13, (newR (⟨some ⟨b11, 0, none⟩, n, n⟩ : SlV) n), rfl, newR_ok _ (by omega), newR_C _ _, ?_, hS.old⟩
    have h1 : St w0 (blkE b13 (Enc.enc (RLa.mk (⟨some ⟨b11, 0, none⟩, n, n⟩ : SlV))) 45 :: ownE (SlV.v (⟨some ⟨b11, 0, none⟩, n, n⟩ : SlV)) 46 (List.replicate n (⟨none, 0, 0⟩ : SlV)) :: []) w := hS
    have h2 := (h1.nils n).perm (List.perm_append_comm)
    have h3 : St w0 (blkE b13 (Enc.enc (RLa.mk (⟨some ⟨b11, 0, none⟩, n, n⟩ : SlV))) 45 :: ownE (SlV.v (⟨some ⟨b11, 0, none⟩, n, n⟩ : SlV)) 46 ((newR (⟨some ⟨b11, 0, none⟩, n, n⟩ : SlV) n).D.map RnD.s) :: ((newR (⟨some ⟨b11, 0, none⟩, n, n⟩ : SlV) n).D.flatMap rnE ++ [])) w := by
      have e1 : (newR (⟨some ⟨b11, 0, none⟩, n, n⟩ : SlV) n).D.map RnD.s = List.replicate n (⟨none, 0, 0⟩ : SlV) := List.map_replicate
      rw [e1, show (newR (⟨some ⟨b11, 0, none⟩, n, n⟩ : SlV) n).D.flatMap rnE = _ from newR_flat n, List.append_nil]
      exact h2
    exact (h3.rfClose (d := (newR (⟨some ⟨b11, 0, none⟩, n, n⟩ : SlV) n))).takeE .here

set_option maxRecDepth 20000 in
set_option maxHeartbeats 4000000 in
theorem rpush_ok (wb w0 : World) (S : List Ent) (p : Nat) (d : RfD) (N : Nat) (i : Int) (v : Value) (xs : List I64) (hS0 : St wb (rfE p d :: S) w0) (hok : RfOk N d) (hN : N ≤ 900) (hl : ∀ w, St wb S w → SlR w v xs) : Ret Try.prog 16 #[.pointer (some ⟨p, 0, none⟩), .int .i64 i, v] w0 (fun u w' => ∃ d' : RfD, u = .int .i64 (if okB d.C i xs then 0 else 1) ∧ d'.C = pushR d.C i xs ∧ RfOk (N + 1) d' ∧ St wb (rfE p d' :: S) w') := by
  refine Ret.enter (args := [.pointer (some ⟨p, 0, none⟩), .int .i64 i, v]) Try.func16 rfl Try.ntmps16 Try.results16 rfl ?_
  have hS := St.start w0
  replace hS := hS0.rfOpen
  refine WC.seq (fun K1 hK1 => ?_)
  refine WC.region ?_
  refine WL.op rfl (opW.assignI rfl ?_)
  refine WL.nil ?_
  refine thenQ_n (hK1 _ _ ?_)
  refine WC.seq (fun K2 hK2 => ?_)
  refine WC.seq (fun K3 hK3 => ?_)
  refine WC.region ?_
  refine WL.op rfl (opW.moveI rfl ?_)
  refine WL.op rfl (opW.lss rfl rfl ?_)
  refine WL.op rfl (opW.moveB rfl ?_)
  refine WL.gd _ 9 _ rfl rfl rfl rfl (fun hg10 => opW.moveI rfl ⟨rfl, Bel.refl _⟩) (fun w hw => ?_)
  replace hS := hS.bel hw
  refine WL.gd _ 9 _ rfl rfl rfl rfl (fun hg11 => opW.moveV (v := .pointer (some ⟨p, 0, none⟩)) rfl ⟨rfl, Bel.refl _⟩) (fun w hw => ?_)
  replace hS := hS.bel hw
  refine WL.gd _ 9 _ rfl rfl rfl rfl (fun hg12 => opW.nilCheckB (by first | exact gv_of rfl hg12 | rfl) ⟨rfl, Bel.refl _⟩) (fun w hw => ?_)
  replace hS := hS.bel hw
  refine WL.gd _ 9 _ rfl rfl rfl rfl (fun hg13 => opW.fieldAddrB (by first | exact gv_of rfl hg13 | rfl) ⟨rfl, Bel.refl _⟩) (fun w hw => ?_)
  replace hS := hS.bel hw
  refine WL.gd _ 9 _ rfl rfl rfl rfl (fun hg14 => opW.loadV (by first | exact gv_of rfl hg14 | rfl) (hS.ld1 (by first | exact .h0 | exact .h1 | exact .h2 | exact .h3 | exact .h4 | exact .h5 | exact .h6 | exact .h7 | exact .h8 | exact .h9 | exact .h10 | exact .h11 | exact .h12 | exact .h13 | exact .h14) (RLa.at_l (RLa.mk d.sv))) ⟨rfl, Bel.refl _⟩) (fun w hw => ?_)
  replace hS := hS.bel hw
  refine WL.gd _ 9 _ rfl rfl rfl rfl (fun hg15 => opW.lenV (by first | exact gv_of rfl hg15 | rfl) (hS.sl (v := d.sv.v) (xs := (d.D.map RnD.s)) (by first | exact .h0 | exact .h1 | exact .h2 | exact .h3 | exact .h4 | exact .h5 | exact .h6 | exact .h7 | exact .h8 | exact .h9 | exact .h10 | exact .h11 | exact .h12 | exact .h13 | exact .h14)) ⟨rfl, Bel.refl _⟩) (fun w hw => ?_)
  replace hS := hS.bel hw
  refine WL.gd _ 9 _ rfl rfl rfl rfl (fun hg16 => opW.geq (by first | exact gv_of rfl hg16 | rfl) (by first | exact gv_of rfl hg16 | rfl) ⟨rfl, Bel.refl _⟩) (fun w hw => ?_)
  replace hS := hS.bel hw
  refine WL.op rfl (opW.pickOr rfl rfl (by first | rfl) ?_)
  refine WL.op rfl (opW.moveB rfl ?_)
  refine WL.gd _ 18 _ rfl rfl rfl rfl (fun hg19 => opW.moveV (v := v) rfl ⟨rfl, Bel.refl _⟩) (fun w hw => ?_)
  replace hS := hS.bel hw
  refine WL.gd _ 18 _ rfl rfl rfl rfl (fun hg20 => opW.lenV (by first | exact gv_of rfl hg20 | rfl) ((hl _ (hS.drop1.drop1.sub (List.sublist_append_right _ _)))) ⟨rfl, Bel.refl _⟩) (fun w hw => ?_)
  replace hS := hS.bel hw
  refine WL.gd _ 18 _ rfl rfl rfl rfl (fun hg21 => opW.lss (by first | exact gv_of rfl hg21 | rfl) rfl ⟨rfl, Bel.refl _⟩) (fun w hw => ?_)
  replace hS := hS.bel hw
  refine WL.op rfl (opW.pickOr rfl rfl (by first | rfl) ?_)
  refine WL.op rfl (opW.moveB rfl ?_)
  refine WL.gd _ 23 _ rfl rfl rfl rfl (fun hg24 => opW.moveV (v := v) rfl ⟨rfl, Bel.refl _⟩) (fun w hw => ?_)
  replace hS := hS.bel hw
  refine WL.gd _ 23 _ rfl rfl rfl rfl (fun hg25 => opW.lenV (by first | exact gv_of rfl hg25 | rfl) ((hl _ (hS.drop1.drop1.sub (List.sublist_append_right _ _)))) ⟨rfl, Bel.refl _⟩) (fun w hw => ?_)
  replace hS := hS.bel hw
  refine WL.gd _ 23 _ rfl rfl rfl rfl (fun hg26 => opW.gtr (by first | exact gv_of rfl hg26 | rfl) rfl ⟨rfl, Bel.refl _⟩) (fun w hw => ?_)
  replace hS := hS.bel hw
  refine WL.op rfl (opW.pickOr rfl rfl (by first | rfl) ?_)
  refine WL.nil ?_
  refine thenQ_n (hK3 _ _ ?_)
  refine WC.cond _ rfl (fun hc0 => ?_) (fun hc0 => ?_)
  ·
    have hr0 := hc0
    try simp only [decide_eq_true_eq, decide_eq_false_iff_not, Bool.and_eq_true, Bool.or_eq_true, Bool.and_eq_false_iff, Bool.or_eq_false_iff, Bool.not_eq_true', Bool.not_eq_false', Int.not_lt, Int.not_le] at hc0
    refine WC.seq (fun K4 hK4 => ?_)
    refine WC.region ?_
    refine WL.op rfl (opW.assignI rfl ?_)
    refine WL.nil ?_
    refine thenQ_n (hK4 _ _ ?_)
    refine WC.ret ?_
    refine thenQ_r ?_
    refine bodyQ_ret (.tmpI rfl .nil) ?_
    have hb : okB d.C i xs = false := by
      cases hI : inR i d.D.length
      · simp [okB, d.C_len, hI]
      · simp only [inR, Bool.and_eq_true, decide_eq_true_eq] at hI
        have hI2 : inR i d.D.length = true := by simp [inR, hI]
        simp at hr0; simp [okB, d.C_len, hI2]; omega
    rw [hb, pushR, hb]
    exact ⟨d, rfl, rfl, hok.up (Nat.le_succ _), hS.rfClose⟩
  ·
    have hr0 := hc0
    try simp only [decide_eq_true_eq, decide_eq_false_iff_not, Bool.and_eq_true, Bool.or_eq_true, Bool.and_eq_false_iff, Bool.or_eq_false_iff, Bool.not_eq_true', Bool.not_eq_false', Int.not_lt, Int.not_le] at hc0
    have hb : (0 ≤ i ∧ i < (d.D.length : Int)) ∧ 1 ≤ xs.length ∧ xs.length ≤ 64 := by
      simp at hr0; omega
    obtain ⟨⟨hi1, hi2⟩, hx1, hx2⟩ := hb
    have hi : inR i d.D.length = true := by simp [inR, hi1, hi2]
    have hbb : okB d.C i xs = true := by simp [okB, d.C_len, hi, hx1, hx2]
    obtain ⟨k, rfl, hk⟩ := inR_at hi
    obtain ⟨R, hR⟩ : ∃ R, d.D[k] = R := ⟨_, rfl⟩
    have hokR : RnOk N R := hR ▸ hok.all _ (List.getElem_mem hk)
    obtain ⟨htR, hdR, hqR, hcR⟩ := hokR
    have hkm : k < (d.D.map RnD.s).length := by rw [List.length_map]; exact hk
    have hgm : (d.D.map RnD.s)[k] = R.s := by rw [List.getElem_map, hR]
    have hlc : laneC d.C (k : Int) = R.q.map Prod.snd := by rw [d.laneC_at hk, hR]
    replace hS : St wb (blkE p (Enc.enc (RLa.mk d.sv)) 45 :: ownE d.sv.v 46 (d.D.map RnD.s) :: ownE d.D[k].fv 32 (d.D[k].ds ++ d.D[k].q.map Prod.fst) :: (bE d.D[k].q ++ ((d.D.take k ++ d.D.drop (k + 1)).flatMap rnE ++ S))) _ := hS.nthOut rnE [_, _] hk
    rw [hR] at hS
    refine WC.skip ?_
    refine thenQ_n (hK2 _ _ ?_)
    refine WC.seq (fun K5 hK5 => ?_)
    refine WC.drawI 17 (.look 0 (.look 1 (.look 2 (.look 3 (.look 4 (.look 5 (.look 6 (.look 7 (.look 8 (.look 9 (.look 10 (.look 11 (.look 12 (.one 13 (.one 14 (.one 15 (.look 16 (.one 17 .nil)))))))))))))))))) (by kernel_rfl) (fun _ _ _ h => h) (fun w1 hw1 => ?_)
    replace hS := hS.bel hw1
    have hS1 := hS
    refine ⟨fun w => ∃ E : List Ent, St wb (blkE p (Enc.enc (RLa.mk d.sv)) 45 :: ownE d.sv.v 46 (d.D.map RnD.s) :: E) w, ⟨_, hS⟩, ?_⟩
    refine ML.look rfl rfl rfl (fun w hw => (by obtain ⟨E, hS⟩ := hw; exact opW.moveV (v := .pointer (some ⟨p, 0, none⟩)) rfl ⟨rfl, rfl⟩)) ?_
    refine ML.look rfl rfl rfl (fun w hw => (by obtain ⟨E, hS⟩ := hw; exact opW.nilCheckB rfl ⟨rfl, rfl⟩)) ?_
    refine ML.look rfl rfl rfl (fun w hw => (by obtain ⟨E, hS⟩ := hw; exact opW.fieldAddrB rfl ⟨rfl, rfl⟩)) ?_
    refine ML.look rfl rfl rfl (fun w hw => (by obtain ⟨E, hS⟩ := hw; exact opW.loadV rfl (hS.ld1 (by first | exact .h0 | exact .h1 | exact .h2 | exact .h3 | exact .h4 | exact .h5 | exact .h6 | exact .h7 | exact .h8 | exact .h9 | exact .h10 | exact .h11 | exact .h12 | exact .h13 | exact .h14) (RLa.at_l (RLa.mk d.sv))) ⟨rfl, rfl⟩)) ?_
    refine ML.look rfl rfl rfl (fun w hw => (by obtain ⟨E, hS⟩ := hw; exact opW.moveI rfl ⟨rfl, rfl⟩)) ?_
    refine ML.look rfl rfl rfl (fun w hw => (by obtain ⟨E, hS⟩ := hw; exact opW.moveV (v := .pointer (some ⟨p, 0, none⟩)) rfl ⟨rfl, rfl⟩)) ?_
    refine ML.look rfl rfl rfl (fun w hw => (by obtain ⟨E, hS⟩ := hw; exact opW.nilCheckB rfl ⟨rfl, rfl⟩)) ?_
    refine ML.look rfl rfl rfl (fun w hw => (by obtain ⟨E, hS⟩ := hw; exact opW.fieldAddrB rfl ⟨rfl, rfl⟩)) ?_
    refine ML.look rfl rfl rfl (fun w hw => (by obtain ⟨E, hS⟩ := hw; exact opW.loadV rfl (hS.ld1 (by first | exact .h0 | exact .h1 | exact .h2 | exact .h3 | exact .h4 | exact .h5 | exact .h6 | exact .h7 | exact .h8 | exact .h9 | exact .h10 | exact .h11 | exact .h12 | exact .h13 | exact .h14) (RLa.at_l (RLa.mk d.sv))) ⟨rfl, rfl⟩)) ?_
    refine ML.look rfl rfl rfl (fun w hw => (by obtain ⟨E, hS⟩ := hw; exact opW.moveI rfl ⟨rfl, rfl⟩)) ?_
    refine ML.look rfl rfl rfl (fun w hw => (by obtain ⟨E, hS⟩ := hw; exact opW.idxV rfl (hS.sl (v := d.sv.v) (xs := (d.D.map RnD.s)) (by first | exact .h0 | exact .h1 | exact .h2 | exact .h3 | exact .h4 | exact .h5 | exact .h6 | exact .h7 | exact .h8 | exact .h9 | exact .h10 | exact .h11 | exact .h12 | exact .h13 | exact .h14)) rfl (by omega) ⟨rfl, rfl⟩)) ?_
    refine ML.look rfl rfl rfl (fun w hw => (by obtain ⟨E, hS⟩ := hw; exact opW.loadV rfl ((show Ld _ _ _ _ R.s.v from hgm ▸ ((hS.sl (v := d.sv.v) (xs := (d.D.map RnD.s)) (by first | exact .h0 | exact .h1 | exact .h2 | exact .h3 | exact .h4 | exact .h5 | exact .h6 | exact .h7 | exact .h8 | exact .h9 | exact .h10 | exact .h11 | exact .h12 | exact .h13 | exact .h14)).isPt hkm).ld rfl)) ⟨rfl, rfl⟩)) ?_
    refine ML.look rfl rfl rfl (fun w hw => (by obtain ⟨E, hS⟩ := hw; exact opW.moveV (v := v) rfl ⟨rfl, rfl⟩)) ?_
    refine ML.one rfl rfl rfl (opW.appendNil (α := I64) rfl hS rfl (hl _ (hS.drop1.drop1.drop1.sub ((List.sublist_append_right _ _).trans (List.sublist_append_right _ _)))) (by omega) (by simp only [maxLen]; omega) ?_)
    intro v41 w hw hS
    obtain ⟨s41, rfl⟩ := (hS.sl (v := v41) (xs := xs) (by first | exact .h0 | exact .h1 | exact .h2 | exact .h3 | exact .h4 | exact .h5 | exact .h6 | exact .h7 | exact .h8 | exact .h9 | exact .h10 | exact .h11 | exact .h12 | exact .h13 | exact .h14)).asV
    refine ⟨⟨_, (hS.pick (e := ownE d.sv.v 46 (d.D.map RnD.s)) (by first | exact .h0 | exact .h1 | exact .h2 | exact .h3 | exact .h4 | exact .h5 | exact .h6 | exact .h7 | exact .h8 | exact .h9 | exact .h10 | exact .h11 | exact .h12 | exact .h13 | exact .h14)).pick (e := blkE p (Enc.enc (RLa.mk d.sv)) 45) (by first | exact .h0 | exact .h1 | exact .h2 | exact .h3 | exact .h4 | exact .h5 | exact .h6 | exact .h7 | exact .h8 | exact .h9 | exact .h10 | exact .h11 | exact .h12 | exact .h13 | exact .h14)⟩, ?_⟩
    refine ML.one rfl rfl rfl (opW.buildSl hS (([s41] : List SlV)) [s41.v] rfl rfl rfl rfl (by decide) ?_)
    intro b42 w hw hS
    refine ⟨⟨_, (hS.pick (e := ownE d.sv.v 46 (d.D.map RnD.s)) (by first | exact .h0 | exact .h1 | exact .h2 | exact .h3 | exact .h4 | exact .h5 | exact .h6 | exact .h7 | exact .h8 | exact .h9 | exact .h10 | exact .h11 | exact .h12 | exact .h13 | exact .h14)).pick (e := blkE p (Enc.enc (RLa.mk d.sv)) 45) (by first | exact .h0 | exact .h1 | exact .h2 | exact .h3 | exact .h4 | exact .h5 | exact .h6 | exact .h7 | exact .h8 | exact .h9 | exact .h10 | exact .h11 | exact .h12 | exact .h13 | exact .h14)⟩, ?_⟩
    refine ML.one rfl rfl rfl (opW.appendTR (α := SlV) (v := R.fv) (ds := R.ds) (xs := (R.q.map Prod.fst)) (ys := [s41]) rfl hS rfl htR (by first | exact .h0 | exact .h1 | exact .h2 | exact .h3 | exact .h4 | exact .h5 | exact .h6 | exact .h7 | exact .h8 | exact .h9 | exact .h10 | exact .h11 | exact .h12 | exact .h13 | exact .h14) (hS.sl (xs := ([s41] : List SlV)) (by first | exact .h0 | exact .h1 | exact .h2 | exact .h3 | exact .h4 | exact .h5 | exact .h6 | exact .h7 | exact .h8 | exact .h9 | exact .h10 | exact .h11 | exact .h12 | exact .h13 | exact .h14)) (Nat.succ_pos 0) (by rw [List.length_map]; simp only [List.length_cons, List.length_nil]; omega) (by rw [List.length_map]; simp only [maxLen, List.length_cons, List.length_nil]; omega) ?_)
    intro fv2 v43 ds2 w hds htr hS; replace hS := hS _ (by first | exact .h0 | exact .h1 | exact .h2 | exact .h3 | exact .h4 | exact .h5 | exact .h6 | exact .h7 | exact .h8 | exact .h9 | exact .h10 | exact .h11 | exact .h12 | exact .h13 | exact .h14)
    obtain ⟨s43, rfl⟩ := (htr.sl (hS.own (v := fv2) (e := 32) (xs := ds2 ++ ((R.q.map Prod.fst) ++ [s41])) (by first | exact .h0 | exact .h1 | exact .h2 | exact .h3 | exact .h4 | exact .h5 | exact .h6 | exact .h7 | exact .h8 | exact .h9 | exact .h10 | exact .h11 | exact .h12 | exact .h13 | exact .h14))).asV
    rw [show (R.q.map Prod.fst) ++ [s41] = (R.q ++ [(s41, xs)]).map Prod.fst from (by simp)] at hS htr
    refine ⟨⟨_, (hS.pick (e := ownE d.sv.v 46 (d.D.map RnD.s)) (by first | exact .h0 | exact .h1 | exact .h2 | exact .h3 | exact .h4 | exact .h5 | exact .h6 | exact .h7 | exact .h8 | exact .h9 | exact .h10 | exact .h11 | exact .h12 | exact .h13 | exact .h14)).pick (e := blkE p (Enc.enc (RLa.mk d.sv)) 45) (by first | exact .h0 | exact .h1 | exact .h2 | exact .h3 | exact .h4 | exact .h5 | exact .h6 | exact .h7 | exact .h8 | exact .h9 | exact .h10 | exact .h11 | exact .h12 | exact .h13 | exact .h14)⟩, ?_⟩
    refine ML.look rfl rfl rfl (fun w hw => (by obtain ⟨E, hS⟩ := hw; exact opW.idxV rfl (hS.sl (v := d.sv.v) (xs := (d.D.map RnD.s)) (by first | exact .h0 | exact .h1 | exact .h2 | exact .h3 | exact .h4 | exact .h5 | exact .h6 | exact .h7 | exact .h8 | exact .h9 | exact .h10 | exact .h11 | exact .h12 | exact .h13 | exact .h14)) rfl (by omega) ⟨rfl, rfl⟩)) ?_
    refine ML.put0 rfl rfl rfl (opW.storeOwn (v := d.sv.v) (u := s43.v) (sz := 1) (xs := (d.D.map RnD.s)) (i := k) (off := 0) (y' := s43) hS (by first | exact .h0 | exact .h1 | exact .h2 | exact .h3 | exact .h4 | exact .h5 | exact .h6 | exact .h7 | exact .h8 | exact .h9 | exact .h10 | exact .h11 | exact .h12 | exact .h13 | exact .h14) hkm (ptrAdd_zero d.sv.v k (Enc.sz SlV)).symm rfl (by rfl) (by decide) (Enc.one (α := SlV) s43) (spl_all (by rfl)) ?_)
    intro w hS; replace hS := hS _ (by first | exact .h0 | exact .h1 | exact .h2 | exact .h3 | exact .h4 | exact .h5 | exact .h6 | exact .h7 | exact .h8 | exact .h9 | exact .h10 | exact .h11 | exact .h12 | exact .h13 | exact .h14)
    refine ML.nil ?_
    refine thenQ_n (hK5 _ _ ?_)
    refine WC.seq (fun K6 hK6 => ?_)
    refine WC.region ?_
    refine WL.op rfl (opW.assignI rfl ?_)
    refine WL.nil ?_
    refine thenQ_n (hK6 _ _ ?_)
    refine WC.ret ?_
    refine bodyQ_ret (.tmpI rfl .nil) ?_
    rw [hbb, if_pos rfl]
    have h1 := St.pushB [_, _, _] (b := (s41, xs)) hS.drop1
    have h2 := St.nthIn rnE [_, _] hk (x := (⟨fv2, ds2, s43, R.q ++ [(s41, xs)]⟩ : RnD)) h1
    have h3 : St wb (rfE p ⟨d.sv, d.D.set k (⟨fv2, ds2, s43, R.q ++ [(s41, xs)]⟩ : RnD)⟩ :: S) _ := St.rfClose (by rw [List.map_set]; exact h2)
    refine ⟨⟨d.sv, d.D.set k (⟨fv2, ds2, s43, R.q ++ [(s41, xs)]⟩ : RnD)⟩, rfl, ?_, hok.set (Nat.le_succ N) ⟨htr, by show ds2.length ≤ N + 1; omega, by show (R.q ++ [(s41, xs)]).length ≤ N + 1; simp; omega, by show cnt (R.q ++ [(s41, xs)]) ≤ 64 * (N + 1); rw [cnt_app]; show cnt R.q + xs.length ≤ _; omega⟩, h3⟩
    rw [d.C_set, pushR, hbb, if_pos rfl, hlc, Int.toNat_natCast, List.map_append]; rfl

set_option maxRecDepth 20000 in
set_option maxHeartbeats 4000000 in
theorem rpop_neg (wb w0 : World) (S : List Ent) (p : Nat) (d : RfD) (N : Nat) (i : Int) (hS0 : St wb (rfE p d :: S) w0) (hok : RfOk N d) (hN : N ≤ 900) (hi : i < 0) : Ret Try.prog 12 #[.pointer (some ⟨p, 0, none⟩), .int .i64 i] w0 (fun u w' => ∃ (b : Bt) (d' : RfD), u = .tuple #[b.1.v, .bool (!(laneC d.C i).isEmpty)] ∧ b.2 = (laneC d.C i).headD [] ∧ d'.C = popR d.C i ∧ RfOk (N + 1) d' ∧ St wb (ownE b.1.v 3 b.2 :: rfE p d' :: S) w') := by
  refine Ret.enter (args := [.pointer (some ⟨p, 0, none⟩), .int .i64 i]) Try.func12 rfl Try.ntmps12 Try.results12 rfl ?_
  have hS := St.start w0
  replace hS := hS0.rfOpen
  refine WC.seq (fun K1 hK1 => ?_)
  refine WC.region ?_
  refine WL.op rfl (opW.assignV (v := .slice none 0 0) rfl ?_)
  refine WL.op rfl (opW.assignB rfl ?_)
  refine WL.nil ?_
  refine thenQ_n (hK1 _ _ ?_)
  refine WC.seq (fun K2 hK2 => ?_)
  refine WC.seq (fun K3 hK3 => ?_)
  refine WC.region ?_
  refine WL.op rfl (opW.moveI rfl ?_)
  refine WL.op rfl (opW.boolT (decide_eq_true hi) (opW.lss rfl rfl ⟨rfl, rfl⟩) ?_)
  refine WL.op rfl (opW.moveB rfl ?_)
  refine WL.gF 9 rfl rfl rfl rfl ?_
  refine WL.gF 9 rfl rfl rfl rfl ?_
  refine WL.gF 9 rfl rfl rfl rfl ?_
  refine WL.gF 9 rfl rfl rfl rfl ?_
  refine WL.gF 9 rfl rfl rfl rfl ?_
  refine WL.gF 9 rfl rfl rfl rfl ?_
  refine WL.gF 9 rfl rfl rfl rfl ?_
  refine WL.op rfl (opW.pickT rfl rfl ?_)
  refine WL.op rfl (opW.moveB rfl ?_)
  refine WL.gF 18 rfl rfl rfl rfl ?_
  refine WL.gF 18 rfl rfl rfl rfl ?_
  refine WL.gF 18 rfl rfl rfl rfl ?_
  refine WL.gF 18 rfl rfl rfl rfl ?_
  refine WL.gF 18 rfl rfl rfl rfl ?_
  refine WL.gF 18 rfl rfl rfl rfl ?_
  refine WL.gF 18 rfl rfl rfl rfl ?_
  refine WL.gF 18 rfl rfl rfl rfl ?_
  refine WL.gF 18 rfl rfl rfl rfl ?_
  refine WL.op rfl (opW.pickT rfl rfl ?_)
  refine WL.nil ?_
  refine thenQ_n (hK3 _ _ ?_)
  refine WC.cond _ rfl (fun hc0 => ?_) (fun hc0 => ?_)
  ·
    have hr0 := hc0
    try simp only [decide_eq_true_eq, decide_eq_false_iff_not, Bool.and_eq_true, Bool.or_eq_true, Bool.and_eq_false_iff, Bool.or_eq_false_iff, Bool.not_eq_true', Bool.not_eq_false', Int.not_lt, Int.not_le] at hc0
    refine WC.seq (fun K4 hK4 => ?_)
    refine WC.region ?_
    refine WL.op rfl (opW.assignV (v := .slice none 0 0) rfl ?_)
    refine WL.op rfl (opW.assignB rfl ?_)
    refine WL.nil ?_
    refine thenQ_n (hK4 _ _ ?_)
    refine WC.ret ?_
    refine thenQ_r ?_
    refine bodyQ_ret (.tmpV (v := .slice none 0 0) rfl (.tmpB rfl .nil)) ?_
    have hi : inR i d.C.length = false := by rw [d.C_len]; simp [inR]; omega
    rw [laneC_no hi]
    exact ⟨nb, d, rfl, rfl, by rw [popR, hi]; rfl, hok.up (Nat.le_succ N), hS.rfClose.nilOwn 3⟩
  ·
    have hr0 := hc0
    try simp only [decide_eq_true_eq, decide_eq_false_iff_not, Bool.and_eq_true, Bool.or_eq_true, Bool.and_eq_false_iff, Bool.or_eq_false_iff, Bool.not_eq_true', Bool.not_eq_false', Int.not_lt, Int.not_le] at hc0
    exact absurd hr0 (by decide)

set_option maxRecDepth 20000 in
set_option maxHeartbeats 4000000 in
theorem rpop_high (wb w0 : World) (S : List Ent) (p : Nat) (d : RfD) (N : Nat) (i : Int) (hS0 : St wb (rfE p d :: S) w0) (hok : RfOk N d) (hN : N ≤ 900) (h0 : 0 ≤ i) (hi : (d.D.length : Int) ≤ i) : Ret Try.prog 12 #[.pointer (some ⟨p, 0, none⟩), .int .i64 i] w0 (fun u w' => ∃ (b : Bt) (d' : RfD), u = .tuple #[b.1.v, .bool (!(laneC d.C i).isEmpty)] ∧ b.2 = (laneC d.C i).headD [] ∧ d'.C = popR d.C i ∧ RfOk (N + 1) d' ∧ St wb (ownE b.1.v 3 b.2 :: rfE p d' :: S) w') := by
  refine Ret.enter (args := [.pointer (some ⟨p, 0, none⟩), .int .i64 i]) Try.func12 rfl Try.ntmps12 Try.results12 rfl ?_
  have hS := St.start w0
  replace hS := hS0.rfOpen
  refine WC.seq (fun K1 hK1 => ?_)
  refine WC.region ?_
  refine WL.op rfl (opW.assignV (v := .slice none 0 0) rfl ?_)
  refine WL.op rfl (opW.assignB rfl ?_)
  refine WL.nil ?_
  refine thenQ_n (hK1 _ _ ?_)
  refine WC.seq (fun K2 hK2 => ?_)
  refine WC.seq (fun K3 hK3 => ?_)
  refine WC.region ?_
  refine WL.op rfl (opW.moveI rfl ?_)
  refine WL.op rfl (opW.boolF (decide_eq_false (by omega)) (opW.lss rfl rfl ⟨rfl, rfl⟩) ?_)
  refine WL.op rfl (opW.moveB rfl ?_)
  refine WL.gT 9 rfl rfl rfl (WL.op rfl (opW.moveI rfl ?_))
  refine WL.gT 9 rfl rfl rfl (WL.op rfl (opW.moveV (v := .pointer (some ⟨p, 0, none⟩)) rfl ?_))
  refine WL.gT 9 rfl rfl rfl (WL.op rfl (opW.nilCheckB rfl ?_))
  refine WL.gT 9 rfl rfl rfl (WL.op rfl (opW.fieldAddrB rfl ?_))
  refine WL.gT 9 rfl rfl rfl (WL.op rfl (opW.loadV rfl (hS.ld1 (by first | exact .h0 | exact .h1 | exact .h2 | exact .h3 | exact .h4 | exact .h5 | exact .h6 | exact .h7 | exact .h8 | exact .h9 | exact .h10 | exact .h11 | exact .h12 | exact .h13 | exact .h14) (RLa.at_l (RLa.mk d.sv))) ?_))
  refine WL.gT 9 rfl rfl rfl (WL.op rfl (opW.lenV rfl (hS.sl (v := d.sv.v) (xs := (d.D.map RnD.s)) (by first | exact .h0 | exact .h1 | exact .h2 | exact .h3 | exact .h4 | exact .h5 | exact .h6 | exact .h7 | exact .h8 | exact .h9 | exact .h10 | exact .h11 | exact .h12 | exact .h13 | exact .h14)) ?_))
  refine WL.gT 9 rfl rfl rfl (WL.op rfl (opW.boolT (decide_eq_true (by rw [List.length_map]; exact hi)) (opW.geq rfl rfl ⟨rfl, rfl⟩) ?_))
  refine WL.op rfl (opW.pickT rfl rfl ?_)
  refine WL.op rfl (opW.moveB rfl ?_)
  refine WL.gF 18 rfl rfl rfl rfl ?_
  refine WL.gF 18 rfl rfl rfl rfl ?_
  refine WL.gF 18 rfl rfl rfl rfl ?_
  refine WL.gF 18 rfl rfl rfl rfl ?_
  refine WL.gF 18 rfl rfl rfl rfl ?_
  refine WL.gF 18 rfl rfl rfl rfl ?_
  refine WL.gF 18 rfl rfl rfl rfl ?_
  refine WL.gF 18 rfl rfl rfl rfl ?_
  refine WL.gF 18 rfl rfl rfl rfl ?_
  refine WL.op rfl (opW.pickT rfl rfl ?_)
  refine WL.nil ?_
  refine thenQ_n (hK3 _ _ ?_)
  refine WC.cond _ rfl (fun hc0 => ?_) (fun hc0 => ?_)
  ·
    have hr0 := hc0
    try simp only [decide_eq_true_eq, decide_eq_false_iff_not, Bool.and_eq_true, Bool.or_eq_true, Bool.and_eq_false_iff, Bool.or_eq_false_iff, Bool.not_eq_true', Bool.not_eq_false', Int.not_lt, Int.not_le] at hc0
    refine WC.seq (fun K4 hK4 => ?_)
    refine WC.region ?_
    refine WL.op rfl (opW.assignV (v := .slice none 0 0) rfl ?_)
    refine WL.op rfl (opW.assignB rfl ?_)
    refine WL.nil ?_
    refine thenQ_n (hK4 _ _ ?_)
    refine WC.ret ?_
    refine thenQ_r ?_
    refine bodyQ_ret (.tmpV (v := .slice none 0 0) rfl (.tmpB rfl .nil)) ?_
    have hi : inR i d.C.length = false := by rw [d.C_len]; simp [inR]; omega
    rw [laneC_no hi]
    exact ⟨nb, d, rfl, rfl, by rw [popR, hi]; rfl, hok.up (Nat.le_succ N), hS.rfClose.nilOwn 3⟩
  ·
    have hr0 := hc0
    try simp only [decide_eq_true_eq, decide_eq_false_iff_not, Bool.and_eq_true, Bool.or_eq_true, Bool.and_eq_false_iff, Bool.or_eq_false_iff, Bool.not_eq_true', Bool.not_eq_false', Int.not_lt, Int.not_le] at hc0
    exact absurd hr0 (by decide)

theorem rcount_neg (w0 : World) (p : Nat) (d : RfD) (i : Int) (ha : RfAt w0 p d) (hi : i < 0) : Ret Try.prog 19 #[.pointer (some ⟨p, 0, none⟩), .int .i64 i] w0 (fun u w' => u = .int .i64 (cntC d.C i : Nat) ∧ Bel w0 w') := by
  refine Ret.enter (args := [.pointer (some ⟨p, 0, none⟩), .int .i64 i]) Try.func19 rfl Try.ntmps19 Try.results19 rfl ?_
  have hS := St.start w0
  refine WC.seq (fun K1 hK1 => ?_)
  refine WC.region ?_
  refine WL.op rfl (opW.assignI rfl ?_)
  refine WL.nil ?_
  refine thenQ_n (hK1 _ _ ?_)
  refine WC.seq (fun K2 hK2 => ?_)
  refine WC.seq (fun K3 hK3 => ?_)
  refine WC.region ?_
  refine WL.op rfl (opW.moveI rfl ?_)
  refine WL.op rfl (opW.boolT (decide_eq_true hi) (opW.lss rfl rfl ⟨rfl, rfl⟩) ?_)
  refine WL.op rfl (opW.moveB rfl ?_)
  refine WL.gF 9 rfl rfl rfl rfl ?_
  refine WL.gF 9 rfl rfl rfl rfl ?_
  refine WL.gF 9 rfl rfl rfl rfl ?_
  refine WL.gF 9 rfl rfl rfl rfl ?_
  refine WL.gF 9 rfl rfl rfl rfl ?_
  refine WL.gF 9 rfl rfl rfl rfl ?_
  refine WL.gF 9 rfl rfl rfl rfl ?_
  refine WL.op rfl (opW.pickT rfl rfl ?_)
  refine WL.nil ?_
  refine thenQ_n (hK3 _ _ ?_)
  refine WC.cond _ rfl (fun hc0 => ?_) (fun hc0 => ?_)
  ·
    have hr0 := hc0
    try simp only [decide_eq_true_eq, decide_eq_false_iff_not, Bool.and_eq_true, Bool.or_eq_true, Bool.and_eq_false_iff, Bool.or_eq_false_iff, Bool.not_eq_true', Bool.not_eq_false', Int.not_lt, Int.not_le] at hc0
    refine WC.seq (fun K4 hK4 => ?_)
    refine WC.region ?_
    refine WL.op rfl (opW.assignI rfl ?_)
    refine WL.nil ?_
    refine thenQ_n (hK4 _ _ ?_)
    refine WC.ret ?_
    refine thenQ_r ?_
    refine bodyQ_ret (.tmpI rfl .nil) ?_
    rw [cntC, laneC_no (by rw [d.C_len]; simp [inR]; omega)]
    exact ⟨rfl, hS.old⟩
  ·
    have hr0 := hc0
    try simp only [decide_eq_true_eq, decide_eq_false_iff_not, Bool.and_eq_true, Bool.or_eq_true, Bool.and_eq_false_iff, Bool.or_eq_false_iff, Bool.not_eq_true', Bool.not_eq_false', Int.not_lt, Int.not_le] at hc0
    exact absurd hr0 (by decide)

theorem rcount_high (w0 : World) (p : Nat) (d : RfD) (i : Int) (ha : RfAt w0 p d) (h0 : 0 ≤ i) (hi : (d.D.length : Int) ≤ i) : Ret Try.prog 19 #[.pointer (some ⟨p, 0, none⟩), .int .i64 i] w0 (fun u w' => u = .int .i64 (cntC d.C i : Nat) ∧ Bel w0 w') := by
  refine Ret.enter (args := [.pointer (some ⟨p, 0, none⟩), .int .i64 i]) Try.func19 rfl Try.ntmps19 Try.results19 rfl ?_
  have hS := St.start w0
  refine WC.seq (fun K1 hK1 => ?_)
  refine WC.region ?_
  refine WL.op rfl (opW.assignI rfl ?_)
  refine WL.nil ?_
  refine thenQ_n (hK1 _ _ ?_)
  refine WC.seq (fun K2 hK2 => ?_)
  refine WC.seq (fun K3 hK3 => ?_)
  refine WC.region ?_
  refine WL.op rfl (opW.moveI rfl ?_)
  refine WL.op rfl (opW.boolF (decide_eq_false (by omega)) (opW.lss rfl rfl ⟨rfl, rfl⟩) ?_)
  refine WL.op rfl (opW.moveB rfl ?_)
  refine WL.gT 9 rfl rfl rfl (WL.op rfl (opW.moveI rfl ?_))
  refine WL.gT 9 rfl rfl rfl (WL.op rfl (opW.moveV (v := .pointer (some ⟨p, 0, none⟩)) rfl ?_))
  refine WL.gT 9 rfl rfl rfl (WL.op rfl (opW.nilCheckB rfl ?_))
  refine WL.gT 9 rfl rfl rfl (WL.op rfl (opW.fieldAddrB rfl ?_))
  refine WL.gT 9 rfl rfl rfl (WL.op rfl (opW.loadV rfl ((ha.bel hS.old).b.at1 (RLa.at_l _)) ?_))
  refine WL.gT 9 rfl rfl rfl (WL.op rfl (opW.lenV rfl ((ha.bel hS.old).l) ?_))
  refine WL.gT 9 rfl rfl rfl (WL.op rfl (opW.boolT (decide_eq_true (by rw [List.length_map]; exact hi)) (opW.geq rfl rfl ⟨rfl, rfl⟩) ?_))
  refine WL.op rfl (opW.pickT rfl rfl ?_)
  refine WL.nil ?_
  refine thenQ_n (hK3 _ _ ?_)
  refine WC.cond _ rfl (fun hc0 => ?_) (fun hc0 => ?_)
  ·
    have hr0 := hc0
    try simp only [decide_eq_true_eq, decide_eq_false_iff_not, Bool.and_eq_true, Bool.or_eq_true, Bool.and_eq_false_iff, Bool.or_eq_false_iff, Bool.not_eq_true', Bool.not_eq_false', Int.not_lt, Int.not_le] at hc0
    refine WC.seq (fun K4 hK4 => ?_)
    refine WC.region ?_
    refine WL.op rfl (opW.assignI rfl ?_)
    refine WL.nil ?_
    refine thenQ_n (hK4 _ _ ?_)
    refine WC.ret ?_
    refine thenQ_r ?_
    refine bodyQ_ret (.tmpI rfl .nil) ?_
    rw [cntC, laneC_no (by rw [d.C_len]; simp [inR]; omega)]
    exact ⟨rfl, hS.old⟩
  ·
    have hr0 := hc0
    try simp only [decide_eq_true_eq, decide_eq_false_iff_not, Bool.and_eq_true, Bool.or_eq_true, Bool.and_eq_false_iff, Bool.or_eq_false_iff, Bool.not_eq_true', Bool.not_eq_false', Int.not_lt, Int.not_le] at hc0
    exact absurd hr0 (by decide)

theorem cnt_append (a b : List Bt) : cnt (a ++ b) = cnt a + cnt b := by simp [cnt]
theorem cnt_take {q : List Bt} {m : Nat} (hm : m < q.length) : cnt (q.take (m + 1)) = cnt (q.take m) + q[m].2.length := by
  rw [List.take_succ_eq_append_getElem hm, cnt_app]
theorem cnt_take_le (q : List Bt) (m : Nat) : cnt (q.take m) ≤ cnt q := by
  have h := congrArg cnt (List.take_append_drop m q)
  rw [cnt_append] at h
  omega

theorem rcount_in (w0 : World) (p : Nat) (d : RfD) (k : Nat) (ha : RfAt w0 p d) (hk : k < d.D.length) (hb : cnt d.D[k].q ≤ 1000000) (hkb : d.D.length ≤ 64) : Ret Try.prog 19 #[.pointer (some ⟨p, 0, none⟩), .int .i64 (k : Int)] w0 (fun u w' => u = .int .i64 (cntC d.C (k : Int) : Nat) ∧ Bel w0 w') := by
  refine Ret.enter (args := [.pointer (some ⟨p, 0, none⟩), .int .i64 (k : Int)]) Try.func19 rfl Try.ntmps19 Try.results19 rfl ?_
  have hS := St.start w0
  obtain ⟨R, hR⟩ : ∃ R, d.D[k] = R := ⟨_, rfl⟩
  have hkm : k < (d.D.map RnD.s).length := by rw [List.length_map]; exact hk
  have hgm : (d.D.map RnD.s)[k] = R.s := by rw [List.getElem_map, hR]
  have hlq := ha.q R (hR ▸ List.getElem_mem hk)
  rw [hR] at hb
  have hqb := hlq.1.le
  simp only [maxLen, List.length_map] at hqb
  have hcc : cntC d.C (k : Int) = cnt R.q := by rw [cntC, d.laneC_at hk, hR, cnt_map]
  rw [hcc]
  refine WC.seq (fun K1 hK1 => ?_)
  refine WC.region ?_
  refine WL.op rfl (opW.assignI rfl ?_)
  refine WL.nil ?_
  refine thenQ_n (hK1 _ _ ?_)
  refine WC.seq (fun K2 hK2 => ?_)
  refine WC.seq (fun K3 hK3 => ?_)
  refine WC.region ?_
  refine WL.op rfl (opW.moveI rfl ?_)
  refine WL.op rfl (opW.boolF (decide_eq_false (by omega)) (opW.lss rfl rfl ⟨rfl, rfl⟩) ?_)
  refine WL.op rfl (opW.moveB rfl ?_)
  refine WL.gT 9 rfl rfl rfl (WL.op rfl (opW.moveI rfl ?_))
  refine WL.gT 9 rfl rfl rfl (WL.op rfl (opW.moveV (v := .pointer (some ⟨p, 0, none⟩)) rfl ?_))
  refine WL.gT 9 rfl rfl rfl (WL.op rfl (opW.nilCheckB rfl ?_))
  refine WL.gT 9 rfl rfl rfl (WL.op rfl (opW.fieldAddrB rfl ?_))
  refine WL.gT 9 rfl rfl rfl (WL.op rfl (opW.loadV rfl ((ha.bel hS.old).b.at1 (RLa.at_l _)) ?_))
  refine WL.gT 9 rfl rfl rfl (WL.op rfl (opW.lenV rfl ((ha.bel hS.old).l) ?_))
  refine WL.gT 9 rfl rfl rfl (WL.op rfl (opW.boolF (decide_eq_false (by rw [List.length_map]; omega)) (opW.geq rfl rfl ⟨rfl, rfl⟩) ?_))
  refine WL.op rfl (opW.pickT rfl rfl ?_)
  refine WL.nil ?_
  refine thenQ_n (hK3 _ _ ?_)
  refine WC.cond _ rfl (fun hc0 => ?_) (fun hc0 => ?_)
  ·
    have hr0 := hc0
    try simp only [decide_eq_true_eq, decide_eq_false_iff_not, Bool.and_eq_true, Bool.or_eq_true, Bool.and_eq_false_iff, Bool.or_eq_false_iff, Bool.not_eq_true', Bool.not_eq_false', Int.not_lt, Int.not_le] at hc0
    exact absurd hr0 (by decide)
  ·
    have hr0 := hc0
    try simp only [decide_eq_true_eq, decide_eq_false_iff_not, Bool.and_eq_true, Bool.or_eq_true, Bool.and_eq_false_iff, Bool.or_eq_false_iff, Bool.not_eq_true', Bool.not_eq_false', Int.not_lt, Int.not_le] at hc0
    refine WC.skip ?_
    refine thenQ_n (hK2 _ _ ?_)
    refine WC.seq (fun K4 hK4 => ?_)
    refine WC.region ?_
    refine WL.op rfl (opW.assignI rfl ?_)
    refine WL.nil ?_
    refine thenQ_n (hK4 _ _ ?_)
    refine WC.seq (fun K5 hK5 => ?_)
    refine WC.seq (fun K6 hK6 => ?_)
    refine WC.region ?_
    refine WL.op rfl (opW.assignI rfl ?_)
    refine WL.nil ?_
    refine thenQ_n (hK6 _ _ ?_)
    refine WC.block ?_
    refine WC.loop (fun q1 f w => ∃ m : Nat, Fits [(0, .pointer (some ⟨p, 0, none⟩)), (1, .int .i64 (k : Int)), (5, .int .i64 (cnt (R.q.take m) : Int)), (6, .int .i64 (m : Int))] f ∧ St w0 [] w ∧ m ≤ R.q.length ∧ q1 = R.q.length - m) (R.q.length) ?_ ?_
    ·
      exact ⟨0, ⟨rfl, rfl, rfl, rfl, trivial⟩, hS, Nat.zero_le _, rfl⟩
    ·
      rintro q1 f w ⟨m, hfit, hS, hm0, hmm⟩
      refine WC.fits _ hfit (fun g => ?_)
      clear hfit
      refine WC.seq (fun K7 hK7 => ?_)
      refine WC.seq (fun K8 hK8 => ?_)
      refine WC.region ?_
      refine WL.op rfl (opW.moveI rfl ?_)
      refine WL.op rfl (opW.moveV (v := .pointer (some ⟨p, 0, none⟩)) rfl ?_)
      refine WL.op rfl (opW.nilCheckB rfl ?_)
      refine WL.op rfl (opW.fieldAddrB rfl ?_)
      refine WL.op rfl (opW.loadV rfl ((ha.bel hS.old).b.at1 (RLa.at_l _)) ?_)
      refine WL.op rfl (opW.moveI rfl ?_)
      refine WL.op rfl (opW.idxV rfl ((ha.bel hS.old).l) rfl (by omega) ?_)
      refine WL.op rfl (opW.loadV rfl ((show Ld _ _ _ _ R.s.v from hgm ▸ (((ha.bel hS.old).l).isPt hkm).ld rfl)) ?_)
      refine WL.op rfl (opW.lenV rfl ((hlq.1.bel hS.old)) ?_)
      refine WL.op rfl (opW.lss rfl rfl ?_)
      refine WL.nil ?_
      refine thenQ_n (hK8 _ _ ?_)
      refine WC.cond _ rfl (fun hc1 => ?_) (fun hc1 => ?_)
      ·
        have hr1 := hc1
        try simp only [decide_eq_true_eq, decide_eq_false_iff_not, Bool.and_eq_true, Bool.or_eq_true, Bool.and_eq_false_iff, Bool.or_eq_false_iff, Bool.not_eq_true', Bool.not_eq_false', Int.not_lt, Int.not_le] at hc1
        rw [List.length_map] at hr1
        have hml : m < R.q.length := by simp at hr1; omega
        have hcb := cnt_take_le R.q (m + 1)
        have hct := cnt_take hml
        have hmp : m < (R.q.map Prod.fst).length := by rw [List.length_map]; exact hml
        have hgq : (R.q.map Prod.fst)[m] = (R.q[m]).1 := List.getElem_map ..
        refine WC.skip ?_
        refine thenQ_n (hK7 _ _ ?_)
        refine WC.seq (fun K9 hK9 => ?_)
        refine WC.block ?_
        refine WC.region ?_
        refine WL.op rfl (opW.moveI rfl ?_)
        refine WL.op rfl (opW.moveV (v := .pointer (some ⟨p, 0, none⟩)) rfl ?_)
        refine WL.op rfl (opW.nilCheckB rfl ?_)
        refine WL.op rfl (opW.fieldAddrB rfl ?_)
        refine WL.op rfl (opW.loadV rfl ((ha.bel hS.old).b.at1 (RLa.at_l _)) ?_)
        refine WL.op rfl (opW.moveI rfl ?_)
        refine WL.op rfl (opW.idxV rfl ((ha.bel hS.old).l) rfl (by omega) ?_)
        refine WL.op rfl (opW.loadV rfl ((show Ld _ _ _ _ R.s.v from hgm ▸ (((ha.bel hS.old).l).isPt hkm).ld rfl)) ?_)
        refine WL.op rfl (opW.moveI rfl ?_)
        refine WL.op rfl (opW.idxV rfl ((hlq.1.bel hS.old)) rfl (by omega) ?_)
        refine WL.op rfl (opW.loadV rfl ((show Ld _ _ _ _ ((R.q[m]).1.v) from hgq ▸ (((hlq.1.bel hS.old)).isPt hmp).ld rfl)) ?_)
        refine WL.op rfl (opW.lenV rfl (((hlq.2 _ (List.getElem_mem hml)).bel hS.old)) ?_)
        refine WL.op rfl (opW.add rfl rfl (wrap_i64 (by omega)) ?_)
        refine WL.op rfl (opW.assignI rfl ?_)
        refine WL.nil ?_
        refine blockQ_n ?_
        refine thenQ_n (hK9 _ _ ?_)
        refine WC.region ?_
        refine WL.op rfl (opW.moveI rfl ?_)
        refine WL.op rfl (opW.add rfl rfl (wrap_i64 (by omega)) ?_)
        refine WL.op rfl (opW.assignI rfl ?_)
        refine WL.nil ?_
        refine thenQ_n ?_
        exact ⟨R.q.length - (m + 1), by omega, m + 1, ⟨rfl, rfl, congrArg (Value.int .i64) (by rw [cnt_take hml]; simp), congrArg (Value.int .i64) (by omega), trivial⟩, hS, by omega, rfl⟩
      ·
        have hr1 := hc1
        try simp only [decide_eq_true_eq, decide_eq_false_iff_not, Bool.and_eq_true, Bool.or_eq_true, Bool.and_eq_false_iff, Bool.or_eq_false_iff, Bool.not_eq_true', Bool.not_eq_false', Int.not_lt, Int.not_le] at hc1
        rw [List.length_map] at hr1
        obtain rfl : m = R.q.length := by simp at hr1; omega
        refine WC.exit ?_
        refine thenQ_e ?_
        refine thenQ_e ?_
        refine blockQ_hit ?_
        refine thenQ_n (hK5 _ _ ?_)
        refine WC.seq (fun K10 hK10 => ?_)
        refine WC.region ?_
        refine WL.op rfl (opW.moveI rfl ?_)
        refine WL.op rfl (opW.assignI rfl ?_)
        refine WL.nil ?_
        refine thenQ_n (hK10 _ _ ?_)
        refine WC.ret ?_
        refine bodyQ_ret (.tmpI rfl .nil) ?_
        exact ⟨congrArg (Value.int .i64) (by rw [List.take_length]), hS.old⟩

set_option maxRecDepth 20000 in
set_option maxHeartbeats 4000000 in
theorem rpop_in (wb w0 : World) (S : List Ent) (p : Nat) (d : RfD) (N k : Nat) (hS0 : St wb (rfE p d :: S) w0) (hok : RfOk N d) (hN : N ≤ 900) (hk : k < d.D.length) : Ret Try.prog 12 #[.pointer (some ⟨p, 0, none⟩), .int .i64 (k : Int)] w0 (fun u w' => ∃ (b : Bt) (d' : RfD), u = .tuple #[b.1.v, .bool (!(laneC d.C (k : Int)).isEmpty)] ∧ b.2 = (laneC d.C (k : Int)).headD [] ∧ d'.C = popR d.C (k : Int) ∧ RfOk (N + 1) d' ∧ St wb (ownE b.1.v 3 b.2 :: rfE p d' :: S) w') := by
  refine Ret.enter (args := [.pointer (some ⟨p, 0, none⟩), .int .i64 (k : Int)]) Try.func12 rfl Try.ntmps12 Try.results12 rfl ?_
  have hS := St.start w0
  replace hS := hS0.rfOpen
  obtain ⟨R, hR⟩ : ∃ R, d.D[k] = R := ⟨_, rfl⟩
  have hokR : RnOk N R := hR ▸ hok.all _ (List.getElem_mem hk)
  obtain ⟨htR, hdR, hqR, hcR⟩ := hokR
  have hkm : k < (d.D.map RnD.s).length := by rw [List.length_map]; exact hk
  have hgm : (d.D.map RnD.s)[k] = R.s := by rw [List.getElem_map, hR]
  have hlc : laneC d.C (k : Int) = R.q.map Prod.snd := by rw [d.laneC_at hk, hR]
  replace hS : St wb (blkE p (Enc.enc (RLa.mk d.sv)) 45 :: ownE d.sv.v 46 (d.D.map RnD.s) :: ownE d.D[k].fv 32 (d.D[k].ds ++ d.D[k].q.map Prod.fst) :: (bE d.D[k].q ++ ((d.D.take k ++ d.D.drop (k + 1)).flatMap rnE ++ S))) _ := hS.nthOut rnE [_, _] hk
  rw [hR] at hS
  refine WC.seq (fun K1 hK1 => ?_)
  refine WC.region ?_
  refine WL.op rfl (opW.assignV (v := .slice none 0 0) rfl ?_)
  refine WL.op rfl (opW.assignB rfl ?_)
  refine WL.nil ?_
  refine thenQ_n (hK1 _ _ ?_)
  refine WC.seq (fun K2 hK2 => ?_)
  refine WC.seq (fun K3 hK3 => ?_)
  refine WC.region ?_
  refine WL.op rfl (opW.moveI rfl ?_)
  refine WL.op rfl (opW.boolF (decide_eq_false (by omega)) (opW.lss rfl rfl ⟨rfl, rfl⟩) ?_)
  refine WL.op rfl (opW.moveB rfl ?_)
  refine WL.gT 9 rfl rfl rfl (WL.op rfl (opW.moveI rfl ?_))
  refine WL.gT 9 rfl rfl rfl (WL.op rfl (opW.moveV (v := .pointer (some ⟨p, 0, none⟩)) rfl ?_))
  refine WL.gT 9 rfl rfl rfl (WL.op rfl (opW.nilCheckB rfl ?_))
  refine WL.gT 9 rfl rfl rfl (WL.op rfl (opW.fieldAddrB rfl ?_))
  refine WL.gT 9 rfl rfl rfl (WL.op rfl (opW.loadV rfl (hS.ld1 (by first | exact .h0 | exact .h1 | exact .h2 | exact .h3 | exact .h4 | exact .h5 | exact .h6 | exact .h7 | exact .h8 | exact .h9 | exact .h10 | exact .h11 | exact .h12 | exact .h13 | exact .h14) (RLa.at_l (RLa.mk d.sv))) ?_))
  refine WL.gT 9 rfl rfl rfl (WL.op rfl (opW.lenV rfl (hS.sl (v := d.sv.v) (xs := (d.D.map RnD.s)) (by first | exact .h0 | exact .h1 | exact .h2 | exact .h3 | exact .h4 | exact .h5 | exact .h6 | exact .h7 | exact .h8 | exact .h9 | exact .h10 | exact .h11 | exact .h12 | exact .h13 | exact .h14)) ?_))
  refine WL.gT 9 rfl rfl rfl (WL.op rfl (opW.boolF (decide_eq_false (by rw [List.length_map]; omega)) (opW.geq rfl rfl ⟨rfl, rfl⟩) ?_))
  refine WL.op rfl (opW.pickT rfl rfl ?_)
  refine WL.op rfl (opW.moveB rfl ?_)
  refine WL.gT 18 rfl rfl rfl (WL.op rfl (opW.moveV (v := .pointer (some ⟨p, 0, none⟩)) rfl ?_))
  refine WL.gT 18 rfl rfl rfl (WL.op rfl (opW.nilCheckB rfl ?_))
  refine WL.gT 18 rfl rfl rfl (WL.op rfl (opW.fieldAddrB rfl ?_))
  refine WL.gT 18 rfl rfl rfl (WL.op rfl (opW.loadV rfl (hS.ld1 (by first | exact .h0 | exact .h1 | exact .h2 | exact .h3 | exact .h4 | exact .h5 | exact .h6 | exact .h7 | exact .h8 | exact .h9 | exact .h10 | exact .h11 | exact .h12 | exact .h13 | exact .h14) (RLa.at_l (RLa.mk d.sv))) ?_))
  refine WL.gT 18 rfl rfl rfl (WL.op rfl (opW.moveI rfl ?_))
  refine WL.gT 18 rfl rfl rfl (WL.op rfl (opW.idxV rfl (hS.sl (v := d.sv.v) (xs := (d.D.map RnD.s)) (by first | exact .h0 | exact .h1 | exact .h2 | exact .h3 | exact .h4 | exact .h5 | exact .h6 | exact .h7 | exact .h8 | exact .h9 | exact .h10 | exact .h11 | exact .h12 | exact .h13 | exact .h14)) rfl (by omega) ?_))
  refine WL.gT 18 rfl rfl rfl (WL.op rfl (opW.loadV rfl ((show Ld _ _ _ _ R.s.v from hgm ▸ ((hS.sl (v := d.sv.v) (xs := (d.D.map RnD.s)) (by first | exact .h0 | exact .h1 | exact .h2 | exact .h3 | exact .h4 | exact .h5 | exact .h6 | exact .h7 | exact .h8 | exact .h9 | exact .h10 | exact .h11 | exact .h12 | exact .h13 | exact .h14)).isPt hkm).ld rfl)) ?_))
  refine WL.gT 18 rfl rfl rfl (WL.op rfl (opW.lenV rfl ((htR.sl (hS.own (v := R.fv) (e := 32) (xs := R.ds ++ (R.q.map Prod.fst)) (by first | exact .h0 | exact .h1 | exact .h2 | exact .h3 | exact .h4 | exact .h5 | exact .h6 | exact .h7 | exact .h8 | exact .h9 | exact .h10 | exact .h11 | exact .h12 | exact .h13 | exact .h14)))) ?_))
  refine WL.gT 18 rfl rfl rfl (WL.op rfl (opW.eql rfl rfl ?_))
  refine WL.op rfl (opW.pickT rfl rfl ?_)
  refine WL.nil ?_
  refine thenQ_n (hK3 _ _ ?_)
  refine WC.cond _ rfl (fun hc0 => ?_) (fun hc0 => ?_)
  ·
    have hr0 := hc0
    try simp only [decide_eq_true_eq, decide_eq_false_iff_not, Bool.and_eq_true, Bool.or_eq_true, Bool.and_eq_false_iff, Bool.or_eq_false_iff, Bool.not_eq_true', Bool.not_eq_false', Int.not_lt, Int.not_le] at hc0
    rw [List.length_map] at hr0
    have hq0 : R.q = [] := List.length_eq_zero_iff.1 (by simpa using hr0)
    refine WC.seq (fun K4 hK4 => ?_)
    refine WC.region ?_
    refine WL.op rfl (opW.assignV (v := .slice none 0 0) rfl ?_)
    refine WL.op rfl (opW.assignB rfl ?_)
    refine WL.nil ?_
    refine thenQ_n (hK4 _ _ ?_)
    refine WC.ret ?_
    refine thenQ_r ?_
    refine bodyQ_ret (.tmpV (v := .slice none 0 0) rfl (.tmpB rfl .nil)) ?_
    have h2 := St.nthIn rnE [_, _] hk (x := R) hS
    rw [← hR, List.set_getElem_self] at h2
    have hkC : k < d.C.length := by rw [d.C_len]; exact hk
    have hc0 : d.C[k] = [] := by simp [RfD.C, hR, hq0]
    rw [hlc, hq0]
    refine ⟨nb, d, rfl, rfl, ?_, hok.up (Nat.le_succ N), (St.rfClose h2).nilOwn 3⟩
    rw [popR, inR_nat hkC, if_pos rfl, hlc, hq0, Int.toNat_natCast]
    show d.C = d.C.set k []
    rw [← hc0, List.set_getElem_self]
  ·
    have hr0 := hc0
    try simp only [decide_eq_true_eq, decide_eq_false_iff_not, Bool.and_eq_true, Bool.or_eq_true, Bool.and_eq_false_iff, Bool.or_eq_false_iff, Bool.not_eq_true', Bool.not_eq_false', Int.not_lt, Int.not_le] at hc0
    obtain ⟨b, q, hq⟩ : ∃ b q, R.q = b :: q := by
      cases h : R.q with
      | nil => rw [h] at hr0; simp at hr0
      | cons b q => exact ⟨b, q, rfl⟩
    have hq1 : 0 < (R.q.map Prod.fst).length := by rw [hq]; exact Nat.succ_pos _
    have hg0 : (R.q.map Prod.fst)[0] = b.1 := by simp [hq]
    obtain ⟨s50, h50⟩ := (((htR.sl (hS.own (v := R.fv) (e := 32) (xs := R.ds ++ (R.q.map Prod.fst)) (by first | exact .h0 | exact .h1 | exact .h2 | exact .h3 | exact .h4 | exact .h5 | exact .h6 | exact .h7 | exact .h8 | exact .h9 | exact .h10 | exact .h11 | exact .h12 | exact .h13 | exact .h14)))).cut (l := 1) (h := (R.q.map Prod.fst).length) (m := capV R.s.v) hq1 (Nat.le_refl _) ((htR.sl (hS.own (v := R.fv) (e := 32) (xs := R.ds ++ (R.q.map Prod.fst)) (by first | exact .h0 | exact .h1 | exact .h2 | exact .h3 | exact .h4 | exact .h5 | exact .h6 | exact .h7 | exact .h8 | exact .h9 | exact .h10 | exact .h11 | exact .h12 | exact .h13 | exact .h14)))).cap (Nat.le_refl _)).asV
    obtain ⟨fv', ds', htr, hdl, hsw⟩ := TailR.cut (x := b.1) (xs := q.map Prod.fst) (by have h := htR; rw [hq] at h; exact h) (by have h := hS.own (v := R.fv) (e := 32) (xs := R.ds ++ (R.q.map Prod.fst)) (by first | exact .h0 | exact .h1 | exact .h2 | exact .h3 | exact .h4 | exact .h5 | exact .h6 | exact .h7 | exact .h8 | exact .h9 | exact .h10 | exact .h11 | exact .h12 | exact .h13 | exact .h14); rw [hq] at h; exact h)
    replace htr : TailR s50.v fv' ds' (q.map Prod.fst) := by have h := h50; rw [hq] at h; rw [← h]; exact htr
    refine WC.skip ?_
    refine thenQ_n (hK2 _ _ ?_)
    refine WC.seq (fun K5 hK5 => ?_)
    refine WC.region ?_
    refine WL.op rfl (opW.moveV (v := .pointer (some ⟨p, 0, none⟩)) rfl ?_)
    refine WL.op rfl (opW.nilCheckB rfl ?_)
    refine WL.op rfl (opW.fieldAddrB rfl ?_)
    refine WL.op rfl (opW.loadV rfl (hS.ld1 (by first | exact .h0 | exact .h1 | exact .h2 | exact .h3 | exact .h4 | exact .h5 | exact .h6 | exact .h7 | exact .h8 | exact .h9 | exact .h10 | exact .h11 | exact .h12 | exact .h13 | exact .h14) (RLa.at_l (RLa.mk d.sv))) ?_)
    refine WL.op rfl (opW.moveI rfl ?_)
    refine WL.op rfl (opW.idxV rfl (hS.sl (v := d.sv.v) (xs := (d.D.map RnD.s)) (by first | exact .h0 | exact .h1 | exact .h2 | exact .h3 | exact .h4 | exact .h5 | exact .h6 | exact .h7 | exact .h8 | exact .h9 | exact .h10 | exact .h11 | exact .h12 | exact .h13 | exact .h14)) rfl (by omega) ?_)
    refine WL.op rfl (opW.loadV rfl ((show Ld _ _ _ _ R.s.v from hgm ▸ ((hS.sl (v := d.sv.v) (xs := (d.D.map RnD.s)) (by first | exact .h0 | exact .h1 | exact .h2 | exact .h3 | exact .h4 | exact .h5 | exact .h6 | exact .h7 | exact .h8 | exact .h9 | exact .h10 | exact .h11 | exact .h12 | exact .h13 | exact .h14)).isPt hkm).ld rfl)) ?_)
    refine WL.op rfl (opW.idxV (k := .i64) (i := 0) (v := R.s.v) rfl (htR.sl (hS.own (v := R.fv) (e := 32) (xs := R.ds ++ (R.q.map Prod.fst)) (by first | exact .h0 | exact .h1 | exact .h2 | exact .h3 | exact .h4 | exact .h5 | exact .h6 | exact .h7 | exact .h8 | exact .h9 | exact .h10 | exact .h11 | exact .h12 | exact .h13 | exact .h14))) rfl (by omega) ?_)
    refine WL.op rfl (opW.loadV rfl ((show Ld _ _ _ _ b.1.v from hg0 ▸ (((htR.sl (hS.own (v := R.fv) (e := 32) (xs := R.ds ++ (R.q.map Prod.fst)) (by first | exact .h0 | exact .h1 | exact .h2 | exact .h3 | exact .h4 | exact .h5 | exact .h6 | exact .h7 | exact .h8 | exact .h9 | exact .h10 | exact .h11 | exact .h12 | exact .h13 | exact .h14)))).isPt hq1).ld rfl)) ?_)
    refine WL.op rfl (opW.assignV (v := b.1.v) rfl ?_)
    refine WL.nil ?_
    refine thenQ_n (hK5 _ _ ?_)
    refine WC.seq (fun K6 hK6 => ?_)
    refine WC.draw 14 (.look 0 (.look 1 (.look 2 (.look 3 (.look 4 (.look 5 (.look 6 (.look 7 (.look 8 (.look 9 (.look 10 (.look 11 (.look 12 (.look 13 (.one 14 .nil))))))))))))))) (by kernel_rfl) (fun _ _ _ h => h) (fun w1 hw1 => ?_)
    replace hS := hS.bel hw1
    have hS1 := hS
    have hT := St.start w1
    refine ML.look rfl rfl rfl (fun w hw => (by have hS := hS1.bel hw; exact opW.moveV (v := .pointer (some ⟨p, 0, none⟩)) rfl ⟨rfl, rfl⟩)) ?_
    refine ML.look rfl rfl rfl (fun w hw => (by have hS := hS1.bel hw; exact opW.nilCheckB rfl ⟨rfl, rfl⟩)) ?_
    refine ML.look rfl rfl rfl (fun w hw => (by have hS := hS1.bel hw; exact opW.fieldAddrB rfl ⟨rfl, rfl⟩)) ?_
    refine ML.look rfl rfl rfl (fun w hw => (by have hS := hS1.bel hw; exact opW.loadV rfl (hS.ld1 (by first | exact .h0 | exact .h1 | exact .h2 | exact .h3 | exact .h4 | exact .h5 | exact .h6 | exact .h7 | exact .h8 | exact .h9 | exact .h10 | exact .h11 | exact .h12 | exact .h13 | exact .h14) (RLa.at_l (RLa.mk d.sv))) ⟨rfl, rfl⟩)) ?_
    refine ML.look rfl rfl rfl (fun w hw => (by have hS := hS1.bel hw; exact opW.moveI rfl ⟨rfl, rfl⟩)) ?_
    refine ML.look rfl rfl rfl (fun w hw => (by have hS := hS1.bel hw; exact opW.moveV (v := .pointer (some ⟨p, 0, none⟩)) rfl ⟨rfl, rfl⟩)) ?_
    refine ML.look rfl rfl rfl (fun w hw => (by have hS := hS1.bel hw; exact opW.nilCheckB rfl ⟨rfl, rfl⟩)) ?_
    refine ML.look rfl rfl rfl (fun w hw => (by have hS := hS1.bel hw; exact opW.fieldAddrB rfl ⟨rfl, rfl⟩)) ?_
    refine ML.look rfl rfl rfl (fun w hw => (by have hS := hS1.bel hw; exact opW.loadV rfl (hS.ld1 (by first | exact .h0 | exact .h1 | exact .h2 | exact .h3 | exact .h4 | exact .h5 | exact .h6 | exact .h7 | exact .h8 | exact .h9 | exact .h10 | exact .h11 | exact .h12 | exact .h13 | exact .h14) (RLa.at_l (RLa.mk d.sv))) ⟨rfl, rfl⟩)) ?_
    refine ML.look rfl rfl rfl (fun w hw => (by have hS := hS1.bel hw; exact opW.moveI rfl ⟨rfl, rfl⟩)) ?_
    refine ML.look rfl rfl rfl (fun w hw => (by have hS := hS1.bel hw; exact opW.idxV rfl (hS.sl (v := d.sv.v) (xs := (d.D.map RnD.s)) (by first | exact .h0 | exact .h1 | exact .h2 | exact .h3 | exact .h4 | exact .h5 | exact .h6 | exact .h7 | exact .h8 | exact .h9 | exact .h10 | exact .h11 | exact .h12 | exact .h13 | exact .h14)) rfl (by omega) ⟨rfl, rfl⟩)) ?_
    refine ML.look rfl rfl rfl (fun w hw => (by have hS := hS1.bel hw; exact opW.loadV rfl ((show Ld _ _ _ _ R.s.v from hgm ▸ ((hS.sl (v := d.sv.v) (xs := (d.D.map RnD.s)) (by first | exact .h0 | exact .h1 | exact .h2 | exact .h3 | exact .h4 | exact .h5 | exact .h6 | exact .h7 | exact .h8 | exact .h9 | exact .h10 | exact .h11 | exact .h12 | exact .h13 | exact .h14)).isPt hkm).ld rfl)) ⟨rfl, rfl⟩)) ?_
    refine ML.look rfl rfl rfl (fun w hw => (by have hS := hS1.bel hw; exact opW.cutS (l := 1) (h' := (R.q.map Prod.fst).length) (m := capV R.s.v) (htR.sl (hS.own (v := R.fv) (e := 32) (xs := R.ds ++ (R.q.map Prod.fst)) (by first | exact .h0 | exact .h1 | exact .h2 | exact .h3 | exact .h4 | exact .h5 | exact .h6 | exact .h7 | exact .h8 | exact .h9 | exact .h10 | exact .h11 | exact .h12 | exact .h13 | exact .h14))) ⟨rfl, Nat.le_refl _⟩ ⟨⟨rfl, rfl⟩, ((htR.sl (hS.own (v := R.fv) (e := 32) (xs := R.ds ++ (R.q.map Prod.fst)) (by first | exact .h0 | exact .h1 | exact .h2 | exact .h3 | exact .h4 | exact .h5 | exact .h6 | exact .h7 | exact .h8 | exact .h9 | exact .h10 | exact .h11 | exact .h12 | exact .h13 | exact .h14)))).cap⟩ ⟨⟨_, rfl⟩, hq1⟩ ⟨rfl, rfl⟩)) ?_
    refine ML.look rfl rfl rfl (fun w hw => (by have hS := hS1.bel hw; exact opW.idxV rfl (hS.sl (v := d.sv.v) (xs := (d.D.map RnD.s)) (by first | exact .h0 | exact .h1 | exact .h2 | exact .h3 | exact .h4 | exact .h5 | exact .h6 | exact .h7 | exact .h8 | exact .h9 | exact .h10 | exact .h11 | exact .h12 | exact .h13 | exact .h14)) rfl (by omega) ⟨rfl, rfl⟩)) ?_
    refine ML.put0 rfl rfl rfl (opW.storeOwn (v := d.sv.v) (u := s50.v) (sz := 1) (xs := (d.D.map RnD.s)) (i := k) (off := 0) (y' := s50) hS (by first | exact .h0 | exact .h1 | exact .h2 | exact .h3 | exact .h4 | exact .h5 | exact .h6 | exact .h7 | exact .h8 | exact .h9 | exact .h10 | exact .h11 | exact .h12 | exact .h13 | exact .h14) hkm (ptrAdd_zero d.sv.v k (Enc.sz SlV)).symm h50 (by rfl) (by decide) (Enc.one (α := SlV) s50) (spl_all (by rfl)) ?_)
    intro w hS; replace hS := hS _ (by first | exact .h0 | exact .h1 | exact .h2 | exact .h3 | exact .h4 | exact .h5 | exact .h6 | exact .h7 | exact .h8 | exact .h9 | exact .h10 | exact .h11 | exact .h12 | exact .h13 | exact .h14)
    refine ML.nil ?_
    refine thenQ_n (hK6 _ _ ?_)
    refine WC.seq (fun K7 hK7 => ?_)
    refine WC.region ?_
    refine WL.op rfl (opW.moveV (v := b.1.v) rfl ?_)
    refine WL.op rfl (opW.assignV (v := b.1.v) rfl ?_)
    refine WL.op rfl (opW.assignB rfl ?_)
    refine WL.nil ?_
    refine thenQ_n (hK7 _ _ ?_)
    refine WC.ret ?_
    refine bodyQ_ret (.tmpV (v := b.1.v) rfl (.tmpB rfl .nil)) ?_
    have h1 := St.popB [_, _, _] hS
    rw [hq] at h1
    have h2 := h1.perm (List.perm_middle (l₁ := [blkE p (Enc.enc (RLa.mk d.sv)) 45, ownE d.sv.v 46 ((d.D.map RnD.s).set k s50), ownE R.fv 32 (R.ds ++ (b :: q).map Prod.fst)]) (l₂ := bE q ++ ((d.D.take k ++ d.D.drop (k + 1)).flatMap rnE ++ S)) (a := ownE b.1.v 3 b.2)).symm
    have h3 := St.swapOwn (fv' := fv') (l' := ds' ++ q.map Prod.fst) hsw h2
    have h4 := h3.perm (List.perm_middle (l₁ := [blkE p (Enc.enc (RLa.mk d.sv)) 45, ownE d.sv.v 46 ((d.D.map RnD.s).set k s50), ownE fv' 32 (ds' ++ q.map Prod.fst)]) (l₂ := bE q ++ ((d.D.take k ++ d.D.drop (k + 1)).flatMap rnE ++ S)) (a := ownE b.1.v 3 b.2))
    have h5 := St.nthIn rnE [_, _, _] hk (x := (⟨fv', ds', s50, q⟩ : RnD)) h4
    have h6 := h5.perm (List.perm_middle (l₁ := blkE p (Enc.enc (RLa.mk d.sv)) 45 :: ownE d.sv.v 46 ((d.D.map RnD.s).set k s50) :: ((d.D.set k (⟨fv', ds', s50, q⟩ : RnD)).flatMap rnE)) (l₂ := S) (a := ownE b.1.v 3 b.2)).symm
    have h7 : St wb (rfE p ⟨d.sv, d.D.set k (⟨fv', ds', s50, q⟩ : RnD)⟩ :: ownE b.1.v 3 b.2 :: S) _ := St.rfClose (by rw [List.map_set]; exact h6)
    have hct := cnt_tail R.q
    rw [hq] at hct hqR
    have hct2 : cnt R.q = b.2.length + cnt q := by rw [hq]; exact hct
    rw [hlc, hq]
    refine ⟨b, ⟨d.sv, d.D.set k (⟨fv', ds', s50, q⟩ : RnD)⟩, rfl, rfl, ?_, hok.set (Nat.le_succ N) ⟨htr, by show ds'.length ≤ N + 1; omega, by show q.length ≤ N + 1; simp only [List.length_cons] at hqR; omega, by show cnt q ≤ 64 * (N + 1); omega⟩, h7.swap⟩
    rw [d.C_set, popR, inR_nat (by rw [d.C_len]; exact hk), if_pos rfl, hlc, Int.toNat_natCast, hq]; rfl

theorem rpop_ok (wb w0 : World) (S : List Ent) (p : Nat) (d : RfD) (N : Nat) (i : Int) (hS0 : St wb (rfE p d :: S) w0) (hok : RfOk N d) (hN : N ≤ 900) : Ret Try.prog 12 #[.pointer (some ⟨p, 0, none⟩), .int .i64 i] w0 (fun u w' => ∃ (b : Bt) (d' : RfD), u = .tuple #[b.1.v, .bool (!(laneC d.C i).isEmpty)] ∧ b.2 = (laneC d.C i).headD [] ∧ d'.C = popR d.C i ∧ RfOk (N + 1) d' ∧ St wb (ownE b.1.v 3 b.2 :: rfE p d' :: S) w') := by
  by_cases h0 : i < 0
  · exact rpop_neg wb w0 S p d N i hS0 hok hN h0
  · by_cases h1 : (d.D.length : Int) ≤ i
    · exact rpop_high wb w0 S p d N i hS0 hok hN (by omega) h1
    · obtain ⟨k, rfl⟩ : ∃ k : Nat, i = (k : Int) := ⟨i.toNat, by omega⟩
      exact rpop_in wb w0 S p d N k hS0 hok hN (by omega)
theorem rcount_ok (w0 : World) (p : Nat) (d : RfD) (N : Nat) (i : Int) (ha : RfAt w0 p d) (hok : RfOk N d) (hN : N ≤ 1000) : Ret Try.prog 19 #[.pointer (some ⟨p, 0, none⟩), .int .i64 i] w0 (fun u w' => u = .int .i64 (cntC d.C i : Nat) ∧ Bel w0 w') := by
  by_cases h0 : i < 0
  · exact rcount_neg w0 p d i ha h0
  · by_cases h1 : (d.D.length : Int) ≤ i
    · exact rcount_high w0 p d i ha (by omega) h1
    · obtain ⟨k, rfl⟩ : ∃ k : Nat, i = (k : Int) := ⟨i.toNat, by omega⟩
      have hk : k < d.D.length := by omega
      have hc := (hok.all _ (List.getElem_mem hk)).c
      exact rcount_in w0 p d k ha hk (by omega) hok.n

end Go.Fer
