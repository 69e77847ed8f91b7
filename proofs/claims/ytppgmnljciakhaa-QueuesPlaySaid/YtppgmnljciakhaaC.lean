/- lanes, called -/
import Derived.Test.YtppgmnljciakhaaB
set_option linter.all false
namespace Go.Fer
open Go Go.Proofs Go.RowKit

structure LaD where
  lv : SlV
  cv : SlV
  D : List LnD
def cnt (q : List Bt) : Nat := (q.map fun b => b.2.length).sum
def cI (L : LnD) : I64 := ⟨(cnt L.q : Int)⟩
def laL (p : Nat) (d : LaD) : List Ent := [blkE p (Enc.enc (LaS.mk d.lv d.cv)) 50, ownE d.lv.v 57 (d.D.map LnD.r), ownE d.cv.v 3 (d.D.map cI)]
def laE (p : Nat) (d : LaD) : Ent := starE (laL p d ++ d.D.flatMap lnE)
def restE (D : List LnD) (k : Nat) : List Ent := (D.take k ++ D.drop (k + 1)).flatMap lnE
structure LaOk (N : Nat) (d : LaD) : Prop where
  n : d.D.length ≤ 64
  all : ∀ L ∈ d.D, LnOk L ∧ L.q.length ≤ N ∧ cnt L.q ≤ 64 * N
theorem LaOk.at {N : Nat} {d : LaD} (h : LaOk N d) {k : Nat} (hk : k < d.D.length) : LnOk d.D[k] ∧ d.D[k].q.length ≤ N ∧ cnt d.D[k].q ≤ 64 * N := h.all _ (List.getElem_mem hk)
theorem LaOk.set {N M : Nat} {d : LaD} (h : LaOk N d) (hNM : N ≤ M) {k : Nat} {L : LnD} (h1 : LnOk L) (h2 : L.q.length ≤ M) (h3 : cnt L.q ≤ 64 * M) {lv cv : SlV} : LaOk M ⟨lv, cv, d.D.set k L⟩ := by
  refine ⟨by simpa using h.n, fun L' hL => ?_⟩
  rcases List.mem_or_eq_of_mem_set hL with h4 | rfl
  · obtain ⟨a, b, c⟩ := h.all _ h4; exact ⟨a, by omega, by omega⟩
  · exact ⟨h1, h2, h3⟩
theorem LaOk.up {N M : Nat} {d : LaD} (h : LaOk N d) (hNM : N ≤ M) : LaOk M d := ⟨h.n, fun L hL => by obtain ⟨a, b, c⟩ := h.all _ hL; exact ⟨a, by omega, by omega⟩⟩
section
variable {w0 w : World} {S : List Ent} {p : Nat} {d : LaD}
theorem St.laOpen (hS : St w0 (laE p d :: S) w) : St w0 (blkE p (Enc.enc (LaS.mk d.lv d.cv)) 50 :: ownE d.lv.v 57 (d.D.map LnD.r) :: ownE d.cv.v 3 (d.D.map cI) :: (d.D.flatMap lnE ++ S)) w := by
  have := hS.opened; rw [List.append_assoc] at this; exact this
theorem St.laClose (hS : St w0 (blkE p (Enc.enc (LaS.mk d.lv d.cv)) 50 :: ownE d.lv.v 57 (d.D.map LnD.r) :: ownE d.cv.v 3 (d.D.map cI) :: (d.D.flatMap lnE ++ S)) w) : St w0 (laE p d :: S) w :=
  St.closed (by rw [List.append_assoc]; exact hS)
structure LaAt (w : World) (p : Nat) (d : LaD) : Prop where
  b : Pt w (.pointer (some ⟨p, 0, none⟩)) (Enc.enc (LaS.mk d.lv d.cv))
  l : SlR w d.lv.v (d.D.map LnD.r)
  c : SlR w d.cv.v (d.D.map cI)
  q : ∀ L ∈ d.D, SlR w L.l.v L.cs ∧ ∀ b ∈ L.q, SlR w b.1.v b.2
theorem LaAt.bel {w' : World} (h : LaAt w p d) (hb : Bel w w') : LaAt w' p d := ⟨h.b.bel hb, h.l.bel hb, h.c.bel hb, fun L hL => ⟨(h.q L hL).1.bel hb, fun b hb' => ((h.q L hL).2 b hb').bel hb⟩⟩
theorem St.laAt (h : St w0 S w) (he : Has (laE p d) S) : LaAt w p d := by
  have h1 := h.get he
  unfold laE at h1
  rw [starE_A] at h1
  refine ⟨?_, ?_, ?_, fun L hL => ⟨?_, fun b hb => ?_⟩⟩
  · have := h1.2 (blkE p (Enc.enc (LaS.mk d.lv d.cv)) 50) (by simp [laL])
    unfold blkE at this
    exact Pt.blk this
  · have := h1.2 (ownE d.lv.v 57 (d.D.map LnD.r)) (by simp [laL])
    rw [ownE_A] at this; exact this.sl
  · have := h1.2 (ownE d.cv.v 3 (d.D.map cI)) (by simp [laL])
    rw [ownE_A] at this; exact this.sl
  · have := h1.2 (ownE L.l.v 32 L.cs) (List.mem_append_right _ (List.mem_flatMap.2 ⟨L, hL, List.mem_cons_self⟩))
    rw [ownE_A] at this; exact this.sl
  · have := h1.2 (ownE b.1.v 3 b.2) (List.mem_append_right _ (List.mem_flatMap.2 ⟨L, hL, List.mem_cons_of_mem _ (List.mem_map.2 ⟨b, hb, rfl⟩)⟩))
    rw [ownE_A] at this; exact this.sl
theorem St.clipS {α : Type} [Enc α] {v : Value} {E : TypeId} {xs : List α} {S' : List Ent} (hS : St w0 S w) (hT : Turn (ownE v E xs) (ownE (cutV v 0 xs.length xs.length (Enc.sz α)) E xs) S S') : St w0 S' w :=
  hS.ownFront (k := xs.length) (m := xs.length) (Nat.le_refl _) (Nat.le_refl _) (hS.sl hT.has).cap (show Turn _ (ownE _ E (xs.take xs.length)) S S' from (by rw [List.take_length]; exact hT))
theorem lanes_out {D : List LnD} {k : Nat} (hk : k < D.length) : (D.flatMap lnE).Perm (lnE D[k] ++ restE D k) := by
  have e : D.take k ++ D[k] :: D.drop (k + 1) = D := by rw [← List.drop_eq_getElem_cons hk, List.take_append_drop]
  have h := (List.perm_middle (l₁ := D.take k) (l₂ := D.drop (k + 1)) (a := D[k])).flatMap_right lnE
  rwa [e, List.flatMap_cons] at h
theorem lanes_in {D : List LnD} {k : Nat} (hk : k < D.length) (L : LnD) : ((D.set k L).flatMap lnE).Perm (lnE L ++ restE D k) := by
  have h := (List.perm_middle (l₁ := D.take k) (l₂ := D.drop (k + 1)) (a := L)).flatMap_right lnE
  rw [List.set_eq_take_append_cons_drop, if_pos hk]
  rwa [List.flatMap_cons] at h
theorem St.laneOut (A : List Ent) {D : List LnD} {k : Nat} (hS : St w0 (A ++ (D.flatMap lnE ++ S)) w) (hk : k < D.length) : St w0 (A ++ (lnE D[k] ++ (restE D k ++ S))) w := by
  refine hS.perm (List.Perm.append_left _ ?_)
  rw [← List.append_assoc]
  exact (lanes_out hk).append_right S
theorem St.laneIn (A : List Ent) {D : List LnD} {k : Nat} (hk : k < D.length) {L : LnD} (hS : St w0 (A ++ (lnE L ++ (restE D k ++ S))) w) : St w0 (A ++ ((D.set k L).flatMap lnE ++ S)) w := by
  refine hS.perm (List.Perm.append_left _ ?_)
  rw [← List.append_assoc]
  exact ((lanes_in hk L).append_right S).symm
end
/-! what they are, plainly -/
abbrev Cn := List (List (List I64))
def inR (i : Int) (n : Nat) : Bool := decide (0 ≤ i) && decide (i < (n : Int))
def laneC (C : Cn) (i : Int) : List (List I64) := if inR i C.length then C.getD i.toNat [] else []
def popR (C : Cn) (i : Int) : Cn := if inR i C.length then C.set i.toNat (laneC C i).tail else C
def okB (C : Cn) (i : Int) (xs : List I64) : Bool := inR i C.length && (decide (1 ≤ xs.length) && decide (xs.length ≤ 64))
def pushR (C : Cn) (i : Int) (xs : List I64) : Cn := if okB C i xs then C.set i.toNat (laneC C i ++ [xs]) else C
def cntC (C : Cn) (i : Int) : Nat := ((laneC C i).map List.length).sum
def LaD.C (d : LaD) : Cn := d.D.map fun L => L.q.map Prod.snd
theorem LaD.C_len (d : LaD) : d.C.length = d.D.length := List.length_map _
theorem inR_nat {k n : Nat} (h : k < n) : inR (k : Int) n = true := by simp [inR, h]
theorem inR_at {i : Int} {n : Nat} (h : inR i n = true) : ∃ k : Nat, i = (k : Int) ∧ k < n := by
  simp only [inR, Bool.and_eq_true, decide_eq_true_eq] at h
  exact ⟨i.toNat, by omega, by omega⟩
theorem laneC_at {C : Cn} {k : Nat} (h : k < C.length) : laneC C (k : Int) = C[k] := by
  unfold laneC; rw [inR_nat h, if_pos rfl, Int.toNat_natCast, List.getD_eq_getElem?_getD, List.getElem?_eq_getElem h]; rfl
theorem laneC_no {C : Cn} {i : Int} (h : inR i C.length = false) : laneC C i = [] := by unfold laneC; rw [h]; rfl
theorem LaD.laneC_at (d : LaD) {k : Nat} (h : k < d.D.length) : laneC d.C (k : Int) = d.D[k].q.map Prod.snd := by
  rw [Go.Fer.laneC_at (by rw [d.C_len]; exact h)]; simp [LaD.C]
theorem LaD.C_set (d : LaD) {k : Nat} {L : LnD} {lv cv : SlV} : LaD.C ⟨lv, cv, d.D.set k L⟩ = d.C.set k (L.q.map Prod.snd) := by simp [LaD.C, List.map_set]
theorem cnt_map (q : List Bt) : cnt q = ((q.map Prod.snd).map List.length).sum := by simp [cnt, List.map_map, Function.comp_def]
theorem cntC_at (d : LaD) {k : Nat} (h : k < d.D.length) : cntC d.C (k : Int) = cnt d.D[k].q := by rw [cntC, d.laneC_at h, cnt_map]
def nb : Bt := (⟨none, 0, 0⟩, [])
theorem St.popB (A : List Ent) {w0 w : World} {q : List Bt} {S : List Ent} (hS : St w0 (A ++ (bE q ++ S)) w) : St w0 (ownE (q.headD nb).1.v 3 (q.headD nb).2 :: (A ++ (bE q.tail ++ S))) w := by
  cases q with
  | nil => exact hS.nilOwn _
  | cons b q => exact hS.perm (List.perm_middle (l₁ := A) (l₂ := bE q ++ S) (a := ownE b.1.v 3 b.2))
theorem bE_app (q : List Bt) (b : Bt) : bE (q ++ [b]) = bE q ++ [ownE b.1.v 3 b.2] := by simp [bE]
theorem cnt_app (q : List Bt) (b : Bt) : cnt (q ++ [b]) = cnt q + b.2.length := by simp [cnt]
section
variable {w0 w : World} {S : List Ent} {p : Nat} {d : LaD}
theorem St.laBack {e : Ent} {k : Nat} {L : LnD} (hk : k < d.D.length) (hS : St w0 (e :: ownE d.lv.v 57 ((d.D.map LnD.r).set k L.r) :: ownE L.l.v 32 L.cs :: blkE p (Enc.enc (LaS.mk d.lv d.cv)) 50 :: ownE d.cv.v 3 ((d.D.map cI).set k (cI L)) :: (bE L.q ++ (restE d.D k ++ S))) w) : St w0 (e :: laE p ⟨d.lv, d.cv, d.D.set k L⟩ :: S) w := by
  have h1 := (((hS.pick (e := ownE d.cv.v 3 ((d.D.map cI).set k (cI L))) .h4).pick (e := ownE d.lv.v 57 ((d.D.map LnD.r).set k L.r)) .h2).pick (e := blkE p (Enc.enc (LaS.mk d.lv d.cv)) 50) .h4).pick (e := e) .h3
  have h2 := St.laneIn [e, blkE p (Enc.enc (LaS.mk d.lv d.cv)) 50, ownE d.lv.v 57 ((d.D.map LnD.r).set k L.r), ownE d.cv.v 3 ((d.D.map cI).set k (cI L))] hk (L := L) h1
  rw [← List.map_set, ← List.map_set] at h2
  have h3 := h2.perm (List.perm_middle (l₁ := blkE p (Enc.enc (LaS.mk d.lv d.cv)) 50 :: ownE d.lv.v 57 ((d.D.set k L).map LnD.r) :: ownE d.cv.v 3 ((d.D.set k L).map cI) :: ((d.D.set k L).flatMap lnE)) (l₂ := S) (a := e)).symm
  exact (h3.laClose (d := ⟨d.lv, d.cv, d.D.set k L⟩)).swap
theorem St.laBack0 {k : Nat} {L : LnD} (hk : k < d.D.length) (hS : St w0 (ownE d.lv.v 57 ((d.D.map LnD.r).set k L.r) :: ownE L.l.v 32 L.cs :: blkE p (Enc.enc (LaS.mk d.lv d.cv)) 50 :: ownE d.cv.v 3 ((d.D.map cI).set k (cI L)) :: (bE L.q ++ (restE d.D k ++ S))) w) : St w0 (laE p ⟨d.lv, d.cv, d.D.set k L⟩ :: S) w :=
  ((hS.nilOwn (α := I64) 3).laBack hk).drop1
theorem St.pushB (A : List Ent) {q : List Bt} {b : Bt} (hS : St w0 (ownE b.1.v 3 b.2 :: (A ++ (bE q ++ S))) w) : St w0 (A ++ (bE (q ++ [b]) ++ S)) w := by
  rw [bE_app, List.append_assoc, ← List.append_assoc]
  refine St.perm ?_ (List.perm_middle (l₁ := A ++ bE q) (l₂ := S) (a := ownE b.1.v 3 b.2)).symm
  rw [List.append_assoc]; exact hS
end
theorem cnt_tail (q : List Bt) : cnt q = (q.headD nb).2.length + cnt q.tail := by cases q <;> simp [cnt, nb]
theorem headD_snd (q : List Bt) : (q.map Prod.snd).headD [] = (q.headD nb).2 := by cases q <;> rfl

theorem clone_i (w0 : World) (v : Value) (xs : List I64) (hx : SlR w0 v xs) (hl : xs.length ≤ 100000) : Ret Try.prog 25 #[v] w0 (fun u w' => New w0 w' u 3 xs ∧ Bel w0 w') := by
  refine Ret.enter (args := [v]) Try.func25 rfl Try.ntmps25 Try.results25 rfl ?_
  have hS := St.start w0
  obtain ⟨a, c, rfl⟩ := hx.eq
  refine WC.seq (fun K1 hK1 => ?_)
  refine WC.region ?_
  refine WL.op rfl (opW.assignV (v := .slice none 0 0) rfl ?_)
  refine WL.nil ?_
  refine thenQ_n (hK1 _ _ ?_)
  refine WC.seq (fun K2 hK2 => ?_)
  refine WC.seq (fun K3 hK3 => ?_)
  refine WC.region ?_
  refine WL.op rfl (opW.moveV (v := .slice a xs.length c) rfl ?_)
  refine WL.op rfl (opW.eqlNil rfl rfl ?_)
  refine WL.nil ?_
  refine thenQ_n (hK3 _ _ ?_)
  refine WC.cond _ rfl (fun hc0 => ?_) (fun hc0 => ?_)
  ·
    have hr0 := hc0
    try simp only [decide_eq_true_eq, decide_eq_false_iff_not, Bool.and_eq_true, Bool.or_eq_true, Bool.and_eq_false_iff, Bool.or_eq_false_iff, Bool.not_eq_true', Bool.not_eq_false', Int.not_lt, Int.not_le] at hc0
    refine WC.seq (fun K4 hK4 => ?_)
    refine WC.region ?_
    refine WL.op rfl (opW.assignV (v := .slice none 0 0) rfl ?_)
    refine WL.nil ?_
    refine thenQ_n (hK4 _ _ ?_)
    refine WC.ret ?_
    refine thenQ_r ?_
    refine bodyQ_ret (.tmpV (v := .slice none 0 0) rfl .nil) ?_
    cases a with
    | none =>
      obtain ⟨rfl, _, _⟩ := hx.none_nil
      exact ⟨New.nil _ _ _, hS.old⟩
    | some a => cases hc0
  ·
    have hr0 := hc0
    try simp only [decide_eq_true_eq, decide_eq_false_iff_not, Bool.and_eq_true, Bool.or_eq_true, Bool.and_eq_false_iff, Bool.or_eq_false_iff, Bool.not_eq_true', Bool.not_eq_false', Int.not_lt, Int.not_le] at hc0
    refine WC.skip ?_
    refine thenQ_n (hK2 _ _ ?_)
    refine WC.seq (fun K5 hK5 => ?_)
    refine WC.region ?_
    refine WL.op rfl (opW.buildSl hS ([] : List I64) [] rfl rfl rfl rfl (by simp) ?_)
    intro b5 w _ hS
    refine WL.op rfl (opW.moveV (v := .slice a xs.length c) rfl ?_)
    refine WL.op rfl (opW.appendOwn (α := I64) rfl hS rfl (by first | exact .h0 | exact .h1 | exact .h2 | exact .h3 | exact .h4 | exact .h5 | exact .h6 | exact .h7 | exact .h8 | exact .h9 | exact .h10 | exact .h11 | exact .h12 | exact .h13 | exact .h14) ((hx.bel hS.old)) (by (try simp only [List.length_append, List.length_cons, List.length_nil, List.length_map]); omega) (by simp only [maxLen]; (try simp only [List.length_append, List.length_cons, List.length_nil, List.length_map]); omega) ?_)
    intro v7 w hS; replace hS := hS _ (by first | exact .h0 | exact .h1 | exact .h2 | exact .h3 | exact .h4 | exact .h5 | exact .h6 | exact .h7 | exact .h8 | exact .h9 | exact .h10 | exact .h11 | exact .h12 | exact .h13 | exact .h14)
    refine WL.op rfl (opW.assignV (v := v7) rfl ?_)
    refine WL.nil ?_
    refine thenQ_n (hK5 _ _ ?_)
    refine WC.ret ?_
    refine bodyQ_ret (.tmpV (v := v7) rfl .nil) ?_
    have h1 := hS.own_new (by first | exact .h0 | exact .h1 | exact .h2 | exact .h3 | exact .h4 | exact .h5 | exact .h6 | exact .h7 | exact .h8 | exact .h9 | exact .h10 | exact .h11 | exact .h12 | exact .h13 | exact .h14); simp only [List.nil_append] at h1; exact ⟨h1, hS.old⟩

theorem clip_i (w0 : World) (v : Value) (xs : List I64) (hx : SlR w0 v xs) : Ret Try.prog 24 #[v] w0 (fun u w' => u = cutV v 0 xs.length xs.length (Enc.sz (I64)) ∧ Bel w0 w') := by
  refine Ret.enter (args := [v]) Try.func24 rfl Try.ntmps24 Try.results24 rfl ?_
  have hS := St.start w0
  refine WC.seq (fun K1 hK1 => ?_)
  refine WC.region ?_
  refine WL.op rfl (opW.assignV (v := .slice none 0 0) rfl ?_)
  refine WL.nil ?_
  refine thenQ_n (hK1 _ _ ?_)
  refine WC.seq (fun K2 hK2 => ?_)
  refine WC.region ?_
  refine WL.op rfl (opW.moveV (v := v) rfl ?_)
  refine WL.op rfl (opW.moveV (v := v) rfl ?_)
  refine WL.op rfl (opW.lenV rfl ((hx.bel hS.old)) ?_)
  refine WL.op rfl (opW.moveV (v := v) rfl ?_)
  refine WL.op rfl (opW.lenV rfl ((hx.bel hS.old)) ?_)
  refine WL.op rfl (opW.cutS (hx.bel hS.old) ⟨⟨_, rfl⟩, hx.cap⟩ ⟨⟨_, rfl⟩, Nat.le_refl _⟩ ⟨rfl, Nat.zero_le _⟩ ?_)
  refine WL.op rfl (opW.assignV rfl ?_)
  refine WL.nil ?_
  refine thenQ_n (hK2 _ _ ?_)
  refine WC.ret ?_
  refine bodyQ_ret (.tmp .nil) ?_
  exact ⟨rfl, hS.old⟩

theorem clip_s (w0 : World) (v : Value) (xs : List SlV) (hx : SlR w0 v xs) : Ret Try.prog 27 #[v] w0 (fun u w' => u = cutV v 0 xs.length xs.length (Enc.sz (SlV)) ∧ Bel w0 w') := by
  refine Ret.enter (args := [v]) Try.func27 rfl Try.ntmps27 Try.results27 rfl ?_
  have hS := St.start w0
  refine WC.seq (fun K1 hK1 => ?_)
  refine WC.region ?_
  refine WL.op rfl (opW.assignV (v := .slice none 0 0) rfl ?_)
  refine WL.nil ?_
  refine thenQ_n (hK1 _ _ ?_)
  refine WC.seq (fun K2 hK2 => ?_)
  refine WC.region ?_
  refine WL.op rfl (opW.moveV (v := v) rfl ?_)
  refine WL.op rfl (opW.moveV (v := v) rfl ?_)
  refine WL.op rfl (opW.lenV rfl ((hx.bel hS.old)) ?_)
  refine WL.op rfl (opW.moveV (v := v) rfl ?_)
  refine WL.op rfl (opW.lenV rfl ((hx.bel hS.old)) ?_)
  refine WL.op rfl (opW.cutS (hx.bel hS.old) ⟨⟨_, rfl⟩, hx.cap⟩ ⟨⟨_, rfl⟩, Nat.le_refl _⟩ ⟨rfl, Nat.zero_le _⟩ ?_)
  refine WL.op rfl (opW.assignV rfl ?_)
  refine WL.nil ?_
  refine thenQ_n (hK2 _ _ ?_)
  refine WC.ret ?_
  refine bodyQ_ret (.tmp .nil) ?_
  exact ⟨rfl, hS.old⟩

theorem clip_t (w0 : World) (v : Value) (xs : List SlV) (hx : SlR w0 v xs) : Ret Try.prog 28 #[v] w0 (fun u w' => u = cutV v 0 xs.length xs.length (Enc.sz (SlV)) ∧ Bel w0 w') := by
  refine Ret.enter (args := [v]) Try.func28 rfl Try.ntmps28 Try.results28 rfl ?_
  have hS := St.start w0
  refine WC.seq (fun K1 hK1 => ?_)
  refine WC.region ?_
  refine WL.op rfl (opW.assignV (v := .slice none 0 0) rfl ?_)
  refine WL.nil ?_
  refine thenQ_n (hK1 _ _ ?_)
  refine WC.seq (fun K2 hK2 => ?_)
  refine WC.region ?_
  refine WL.op rfl (opW.moveV (v := v) rfl ?_)
  refine WL.op rfl (opW.moveV (v := v) rfl ?_)
  refine WL.op rfl (opW.lenV rfl ((hx.bel hS.old)) ?_)
  refine WL.op rfl (opW.moveV (v := v) rfl ?_)
  refine WL.op rfl (opW.lenV rfl ((hx.bel hS.old)) ?_)
  refine WL.op rfl (opW.cutS (hx.bel hS.old) ⟨⟨_, rfl⟩, hx.cap⟩ ⟨⟨_, rfl⟩, Nat.le_refl _⟩ ⟨rfl, Nat.zero_le _⟩ ?_)
  refine WL.op rfl (opW.assignV rfl ?_)
  refine WL.nil ?_
  refine thenQ_n (hK2 _ _ ?_)
  refine WC.ret ?_
  refine bodyQ_ret (.tmp .nil) ?_
  exact ⟨rfl, hS.old⟩

theorem has_ok (w0 : World) (p : Nat) (s : LaS) (rs : List Ring) (i : Int) (hp : Pt w0 (.pointer (some ⟨p, 0, none⟩)) (Enc.enc s)) (hr : SlR w0 s.lanes.v rs) : Ret Try.prog 21 #[.pointer (some ⟨p, 0, none⟩), .int .i64 i] w0 (fun u w' => u = .bool (inR i rs.length) ∧ Bel w0 w') := by
  refine Ret.enter (args := [.pointer (some ⟨p, 0, none⟩), .int .i64 i]) Try.func21 rfl Try.ntmps21 Try.results21 rfl ?_
  have hS := St.start w0
  refine WC.seq (fun K1 hK1 => ?_)
  refine WC.region ?_
  refine WL.op rfl (opW.assignB rfl ?_)
  refine WL.nil ?_
  refine thenQ_n (hK1 _ _ ?_)
  refine WC.seq (fun K2 hK2 => ?_)
  refine WC.region ?_
  refine WL.op rfl (opW.moveV (v := .pointer (some ⟨p, 0, none⟩)) rfl ?_)
  refine WL.op rfl (opW.neqP rfl rfl ?_)
  refine WL.op rfl (opW.moveB rfl ?_)
  refine WL.gd _ 7 _ rfl rfl rfl rfl (fun hg8 => opW.moveI rfl ⟨rfl, Bel.refl _⟩) (fun w hw => ?_)
  replace hS := hS.bel hw
  refine WL.gd _ 7 _ rfl rfl rfl rfl (fun hg9 => opW.geq (by first | exact gv_of rfl hg9 | rfl) rfl ⟨rfl, Bel.refl _⟩) (fun w hw => ?_)
  replace hS := hS.bel hw
  refine WL.op rfl (opW.pickAnd rfl (by first | rfl) rfl ?_)
  refine WL.op rfl (opW.moveB rfl ?_)
  refine WL.gd _ 11 _ rfl rfl rfl rfl (fun hg12 => opW.moveI rfl ⟨rfl, Bel.refl _⟩) (fun w hw => ?_)
  replace hS := hS.bel hw
  refine WL.gd _ 11 _ rfl rfl rfl rfl (fun hg13 => opW.moveV (v := .pointer (some ⟨p, 0, none⟩)) rfl ⟨rfl, Bel.refl _⟩) (fun w hw => ?_)
  replace hS := hS.bel hw
  refine WL.gd _ 11 _ rfl rfl rfl rfl (fun hg14 => opW.nilCheckB (by first | exact gv_of rfl hg14 | rfl) ⟨rfl, Bel.refl _⟩) (fun w hw => ?_)
  replace hS := hS.bel hw
  refine WL.gd _ 11 _ rfl rfl rfl rfl (fun hg15 => opW.fieldAddrB (by first | exact gv_of rfl hg15 | rfl) ⟨rfl, Bel.refl _⟩) (fun w hw => ?_)
  replace hS := hS.bel hw
  refine WL.gd _ 11 _ rfl rfl rfl rfl (fun hg16 => opW.loadV (by first | exact gv_of rfl hg16 | rfl) ((hp.bel hS.old).at1 (LaS.at_lanes _)) ⟨rfl, Bel.refl _⟩) (fun w hw => ?_)
  replace hS := hS.bel hw
  refine WL.gd _ 11 _ rfl rfl rfl rfl (fun hg17 => opW.lenV (by first | exact gv_of rfl hg17 | rfl) ((hr.bel hS.old)) ⟨rfl, Bel.refl _⟩) (fun w hw => ?_)
  replace hS := hS.bel hw
  refine WL.gd _ 11 _ rfl rfl rfl rfl (fun hg18 => opW.lss (by first | exact gv_of rfl hg18 | rfl) (by first | exact gv_of rfl hg18 | rfl) ⟨rfl, Bel.refl _⟩) (fun w hw => ?_)
  replace hS := hS.bel hw
  refine WL.op rfl (opW.pickAnd rfl (by first | rfl) rfl ?_)
  refine WL.op rfl (opW.assignB rfl ?_)
  refine WL.nil ?_
  refine thenQ_n (hK2 _ _ ?_)
  refine WC.ret ?_
  refine bodyQ_ret (.tmpB rfl .nil) ?_
  exact ⟨congrArg Value.bool (by simp [inR, Bool.and_comm]), hS.old⟩

theorem hasNil_ok (w0 : World) (i : Int) : Ret Try.prog 21 #[.pointer none, .int .i64 i] w0 (fun u w' => u = .bool false ∧ Bel w0 w') := by
  refine Ret.enter (args := [.pointer none, .int .i64 i]) Try.func21 rfl Try.ntmps21 Try.results21 rfl ?_
  have hS := St.start w0
  refine WC.seq (fun K1 hK1 => ?_)
  refine WC.region ?_
  refine WL.op rfl (opW.assignB rfl ?_)
  refine WL.nil ?_
  refine thenQ_n (hK1 _ _ ?_)
  refine WC.seq (fun K2 hK2 => ?_)
  refine WC.region ?_
  refine WL.op rfl (opW.moveV (v := .pointer none) rfl ?_)
  refine WL.op rfl (opW.neqP rfl rfl ?_)
  refine WL.op rfl (opW.moveB rfl ?_)
  refine WL.gF 7 rfl rfl rfl rfl ?_
  refine WL.gF 7 rfl rfl rfl rfl ?_
  refine WL.op rfl (opW.pickT rfl rfl ?_)
  refine WL.op rfl (opW.moveB rfl ?_)
  refine WL.gF 11 rfl rfl rfl rfl ?_
  refine WL.gF 11 rfl rfl rfl rfl ?_
  refine WL.gF 11 rfl rfl rfl rfl ?_
  refine WL.gF 11 rfl rfl rfl rfl ?_
  refine WL.gF 11 rfl rfl rfl rfl ?_
  refine WL.gF 11 rfl rfl rfl rfl ?_
  refine WL.gF 11 rfl rfl rfl rfl ?_
  refine WL.op rfl (opW.pickT rfl rfl ?_)
  refine WL.op rfl (opW.assignB rfl ?_)
  refine WL.nil ?_
  refine thenQ_n (hK2 _ _ ?_)
  refine WC.ret ?_
  refine bodyQ_ret (.tmpB rfl .nil) ?_
  exact ⟨rfl, hS.old⟩

end Go.Fer
