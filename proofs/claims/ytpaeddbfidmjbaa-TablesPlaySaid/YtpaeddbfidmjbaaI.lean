/- the document's registry -/
import Derived.Test.YtpaeddbfidmjbaaD
set_option linter.all false
namespace Go.Fer
open Go Go.Proofs Go.RowKit

structure RTab where
  key : Vector UInt8 32
  keys : SlV
def RTab.parts (x : RTab) : List (Array Value) := [Enc.enc x.key, #[x.keys.v]]
theorem RTab.sizes (x : RTab) : x.parts.map Array.size = [32, 1] := by
  simp only [RTab.parts, List.map, Enc.size_eq]; rfl
instance : Enc RTab where
  enc x := joinA x.parts
  sz := 33
  pos := by omega
  size_eq x := by rw [joinA_size, RTab.sizes]; rfl
  one x := joinA_one (all_cons (Enc.one _) (all_cons (Enc.one (α := SlV) _) all_nil))
theorem RTab.enc_eq (x : RTab) : Enc.enc x = joinA x.parts := rfl
theorem RTab.ex_key (x : RTab) : (Enc.enc x).extract 0 (0 + 32) = Enc.enc x.key := joinA_ex [] [#[x.keys.v]] _ (by rw [joinA_size]; simp only [List.map, Enc.size_eq]; rfl) (by rw [Enc.size_eq]; rfl)
theorem RTab.at_keys (x : RTab) : (Enc.enc x)[32]? = some (x.keys.v) := joinA_at [Enc.enc x.key] [] _ (by rw [joinA_size]; simp only [List.map, Enc.size_eq]; rfl)
theorem RTab.set_key (x : RTab) (v : Vector UInt8 32) : spl (Enc.enc x) 0 (Enc.enc v) = Enc.enc { x with key := v } := by
  have h := spl_join [] [#[x.keys.v]] (Enc.enc x.key) (Enc.enc v) (by first | (rw [Enc.size_eq, Enc.size_eq]; done) | rfl)
  rw [show (joinA []).size = 0 from (by rw [joinA_size]; simp only [List.map, Enc.size_eq]; rfl)] at h
  exact h
theorem RTab.set_keys (x : RTab) (v : SlV) : spl (Enc.enc x) 32 #[v.v] = Enc.enc { x with keys := v } := by
  have h := spl_join [Enc.enc x.key] [] (#[x.keys.v]) (#[v.v]) (by first | (rw [Enc.size_eq, Enc.size_eq]; done) | rfl)
  rw [show (joinA [Enc.enc x.key]).size = 32 from (by rw [joinA_size]; simp only [List.map, Enc.size_eq]; rfl)] at h
  exact h
def RTab.ok (w : World) (x : RTab) : Prop := (∃ l : List (Vector UInt8 32), SlR w x.keys.v l ∧ ∀ e ∈ l, True)
theorem RTab.ok.bel {w w' : World} {x : RTab} (hb : Bel w w') (h : RTab.ok w x) : RTab.ok w' x := by
  unfold RTab.ok at h ⊢
  obtain ⟨l0, g0⟩ := h
  exact (⟨_, g0.1.bel hb, fun e he => trivial⟩)
theorem rdw_RTab : RdW Try.prog 68 RTab RTab.ok := by
  intro H enc w fuel cs d ps hr
  obtain ⟨hend, fuel', hf⟩ := rdS Try.underlying68 inferInstance hr
  obtain ⟨d0, ps0, h0⟩ := hf 0 _ 36 0 32 rfl rfl rfl inferInstance
  obtain ⟨x0, e0, i0⟩ := rd_of rdw_vec h0
  obtain ⟨d1, ps1, h1⟩ := hf 1 _ 29 32 1 rfl rfl rfl inferInstance
  obtain ⟨x1, e1, i1⟩ := rd_slv (α := Vector UInt8 32) inferInstance rdw_vec inferInstance h1
  have k1 := cells_cut e1 hend
  have k0 := cells_cut e0 k1
  refine ⟨⟨x0, x1⟩, ?_, i1⟩
  rw [RTab.enc_eq]; simp only [RTab.parts, joinA_toList_cons, joinA_nil]
  rw [List.drop_zero] at k0; rw [k0]; try simp

structure RReg where
  l : SlV
def RReg.parts (x : RReg) : List (Array Value) := [#[x.l.v]]
theorem RReg.sizes (x : RReg) : x.parts.map Array.size = [1] := by
  simp only [RReg.parts, List.map, Enc.size_eq]; rfl
instance : Enc RReg where
  enc x := joinA x.parts
  sz := 1
  pos := by omega
  size_eq x := by rw [joinA_size, RReg.sizes]; rfl
  one x := joinA_one (all_cons (Enc.one (α := SlV) _) all_nil)
theorem RReg.enc_eq (x : RReg) : Enc.enc x = joinA x.parts := rfl
theorem RReg.at_l (x : RReg) : (Enc.enc x)[0]? = some (x.l.v) := joinA_at [] [] _ (by rw [joinA_size]; simp only [List.map, Enc.size_eq]; rfl)
theorem RReg.set_l (x : RReg) (v : SlV) : spl (Enc.enc x) 0 #[v.v] = Enc.enc { x with l := v } := by
  have h := spl_join [] [] (#[x.l.v]) (#[v.v]) (by first | (rw [Enc.size_eq, Enc.size_eq]; done) | rfl)
  rw [show (joinA []).size = 0 from (by rw [joinA_size]; simp only [List.map, Enc.size_eq]; rfl)] at h
  exact h
def RReg.ok (w : World) (x : RReg) : Prop := (∃ l : List (RTab), SlR w x.l.v l ∧ ∀ e ∈ l, RTab.ok w e)
theorem RReg.ok.bel {w w' : World} {x : RReg} (hb : Bel w w') (h : RReg.ok w x) : RReg.ok w' x := by
  unfold RReg.ok at h ⊢
  obtain ⟨l0, g0⟩ := h
  exact (⟨_, g0.1.bel hb, fun e he => (RTab.ok.bel hb (g0.2 e he))⟩)
theorem rdw_RReg : RdW Try.prog 51 RReg RReg.ok := by
  intro H enc w fuel cs d ps hr
  obtain ⟨hend, fuel', hf⟩ := rdS Try.underlying51 inferInstance hr
  obtain ⟨d0, ps0, h0⟩ := hf 0 _ 49 0 1 rfl rfl rfl inferInstance
  obtain ⟨x0, e0, i0⟩ := rd_slv (α := RTab) inferInstance rdw_RTab inferInstance h0
  have k0 := cells_cut e0 hend
  refine ⟨⟨x0⟩, ?_, i0⟩
  rw [RReg.enc_eq]; simp only [RReg.parts, joinA_toList_cons, joinA_nil]
  rw [List.drop_zero] at k0; rw [k0]; try simp

theorem find_lemma {d : TbD} {k : Key} {l : List Key} (h : d.find k = some l) : ∃ x, aget k d.kvs = some x ∧ x.2 = l := by
  unfold TbD.find at h
  cases hx : aget k d.kvs with
  | none => rw [hx] at h; cases h
  | some x => rw [hx] at h; cases h; exact ⟨x, rfl, rfl⟩
/-- a copy: the map is its own, the lists are another one's -/
@[irreducible] def tcE (p : Nat) (d : TbD) : Ent := starE [blkE p (Enc.enc (TbS.mk (some d.r))) 59, mapE d.r Prod.fst d.kvs]
theorem St.tcClose {w0 w : World} {S : List Ent} {p : Nat} (d : TbD) (h : St w0 (blkE p (Enc.enc (TbS.mk (some d.r))) 59 :: mapE d.r Prod.fst d.kvs :: S) w) : St w0 (tcE p d :: S) w := by
  unfold tcE
  exact St.closed (l := [blkE p (Enc.enc (TbS.mk (some d.r))) 59, mapE d.r Prod.fst d.kvs]) h
def SubM (o d : TbD) : Prop := ∀ k x, aget k o.kvs = some x → aget k d.kvs = some x
theorem SubM.refl (d : TbD) : SubM d d := fun _ _ h => h
theorem SubM.trans {a b c : TbD} (h : SubM a b) (h' : SubM b c) : SubM a c := fun k x hx => h' k x (h k x hx)
theorem SubM.ok {o d : TbD} (h : SubM o d) (hd : TbOk d) : TbOk o := by
  intro k l hl
  obtain ⟨x, h1, h2⟩ := find_lemma hl
  exact hd k l (by unfold TbD.find; rw [h k x h1, ← h2]; rfl)
theorem St.tcAt {w0 w : World} {S : List Ent} {p p2 : Nat} {d o : TbD} (h : St w0 S w) (he : Has (tbE p d) S) (hc : Has (tcE p2 o) S) (hs : SubM o d) : TbAt w p2 o := by
  have h1 := h.get hc
  unfold tcE at h1
  rw [starE_A] at h1
  have h3 := (h.tbAt he).2.2
  refine ⟨?_, ?_, fun k x hx => h3 k x (hs k x hx)⟩
  · have := h1.2 (blkE p2 (Enc.enc (TbS.mk (some o.r))) 59) (by simp)
    unfold blkE at this
    exact Pt.blk this
  · have := h1.2 (mapE o.r Prod.fst o.kvs) (by simp)
    rw [mapE_A] at this; exact this
/-! the document's registry -/
structure RtD where
  v : SlV
  l : List (RTab × List Key)
def ktE (l : List (RTab × List Key)) : List Ent := l.map fun x => ownE x.1.keys.v 36 x.2
@[irreducible] def rtE (p : Nat) (d : RtD) : Ent := starE (blkE p (Enc.enc (RReg.mk d.v)) 51 :: ownE d.v.v 68 (d.l.map Prod.fst) :: ktE d.l)
@[irreducible] def rcE (p : Nat) (d : RtD) : Ent := starE [blkE p (Enc.enc (RReg.mk d.v)) 51, ownE d.v.v 68 (d.l.map Prod.fst)]
theorem St.rtOpen {w0 w : World} {S : List Ent} {p : Nat} {d : RtD} (h : St w0 (rtE p d :: S) w) : St w0 (blkE p (Enc.enc (RReg.mk d.v)) 51 :: ownE d.v.v 68 (d.l.map Prod.fst) :: (ktE d.l ++ S)) w := by
  unfold rtE at h
  exact h.opened
theorem St.rtClose {w0 w : World} {S : List Ent} {p : Nat} (d : RtD) (h : St w0 (blkE p (Enc.enc (RReg.mk d.v)) 51 :: ownE d.v.v 68 (d.l.map Prod.fst) :: (ktE d.l ++ S)) w) : St w0 (rtE p d :: S) w := by
  unfold rtE
  exact St.closed (l := blkE p (Enc.enc (RReg.mk d.v)) 51 :: ownE d.v.v 68 (d.l.map Prod.fst) :: ktE d.l) h
theorem St.rcClose {w0 w : World} {S : List Ent} {p : Nat} (d : RtD) (h : St w0 (blkE p (Enc.enc (RReg.mk d.v)) 51 :: ownE d.v.v 68 (d.l.map Prod.fst) :: S) w) : St w0 (rcE p d :: S) w := by
  unfold rcE
  exact St.closed (l := [blkE p (Enc.enc (RReg.mk d.v)) 51, ownE d.v.v 68 (d.l.map Prod.fst)]) h
def RtAt (w : World) (p : Nat) (d : RtD) : Prop := Pt w (.pointer (some ⟨p, 0, none⟩)) (Enc.enc (RReg.mk d.v)) ∧ SlR w d.v.v (d.l.map Prod.fst) ∧ ∀ x ∈ d.l, SlR w x.1.keys.v x.2
theorem RtAt.bel {w w' : World} {p : Nat} {d : RtD} (h : RtAt w p d) (hb : Bel w w') : RtAt w' p d := ⟨h.1.bel hb, h.2.1.bel hb, fun x hx => (h.2.2 x hx).bel hb⟩
theorem St.rtAt {w0 w : World} {S : List Ent} {p : Nat} {d : RtD} (h : St w0 S w) (he : Has (rtE p d) S) : RtAt w p d := by
  have h1 := h.get he
  unfold rtE at h1
  rw [starE_A] at h1
  refine ⟨?_, ?_, fun x hx => ?_⟩
  · have := h1.2 (blkE p (Enc.enc (RReg.mk d.v)) 51) List.mem_cons_self
    unfold blkE at this
    exact Pt.blk this
  · have := h1.2 (ownE d.v.v 68 (d.l.map Prod.fst)) (List.mem_cons_of_mem _ List.mem_cons_self)
    rw [ownE_A] at this; exact this.sl
  · have := h1.2 (ownE x.1.keys.v 36 x.2) (List.mem_cons_of_mem _ (List.mem_cons_of_mem _ (List.mem_map.2 ⟨x, hx, rfl⟩)))
    rw [ownE_A] at this; exact this.sl
theorem St.rcAt {w0 w : World} {S : List Ent} {p p2 : Nat} {d o : RtD} (h : St w0 S w) (he : Has (rtE p d) S) (hc : Has (rcE p2 o) S) (hs : ∀ x ∈ o.l, x ∈ d.l) : RtAt w p2 o := by
  have h1 := h.get hc
  unfold rcE at h1
  rw [starE_A] at h1
  have h3 := (h.rtAt he).2.2
  refine ⟨?_, ?_, fun x hx => h3 x (hs x hx)⟩
  · have := h1.2 (blkE p2 (Enc.enc (RReg.mk o.v)) 51) (by simp)
    unfold blkE at this
    exact Pt.blk this
  · have := h1.2 (ownE o.v.v 68 (o.l.map Prod.fst)) (by simp)
    rw [ownE_A] at this; exact this.sl
def rfind : List (RTab × List Key) → Key → Option (List Key)
  | [], _ => none
  | x :: l, k => if x.1.key = k then some x.2 else rfind l k
theorem rfind_append (a b : List (RTab × List Key)) (k : Key) : rfind (a ++ b) k = match rfind a k with | some x => some x | none => rfind b k := by
  induction a with
  | nil => rfl
  | cons x a ih =>
    simp only [List.cons_append, rfind]
    split
    · rfl
    · exact ih
theorem rfind_hit {l : List (RTab × List Key)} {k : Key} {i : Nat} (hi : i < l.length) (hno : rfind (l.take i) k = none) (h : l[i].1.key = k) : rfind l k = some l[i].2 := by
  have e : l = l.take i ++ (l[i] :: l.drop (i + 1)) := by rw [← List.drop_eq_getElem_cons hi]; exact (List.take_append_drop i l).symm
  rw [show rfind l k = rfind (l.take i ++ (l[i] :: l.drop (i + 1))) k from congrArg (fun z => rfind z k) e, rfind_append, hno]
  simp only [rfind]
  rw [if_pos h]
theorem rfind_go {l : List (RTab × List Key)} {k : Key} {i : Nat} (hi : i < l.length) (hno : rfind (l.take i) k = none) (h : l[i].1.key ≠ k) : rfind (l.take (i + 1)) k = none := by
  rw [List.take_succ_eq_append_getElem hi, rfind_append, hno]
  simp only [rfind]
  rw [if_neg h]
def RtOk (l : List (RTab × List Key)) : Prop := ∀ x ∈ l, x.2.length ≤ 256
theorem RtOk.find {l : List (RTab × List Key)} (h : RtOk l) {k : Key} {x : List Key} (hf : rfind l k = some x) : x.length ≤ 256 := by
  induction l with
  | nil => cases hf
  | cons y l ih =>
    simp only [rfind] at hf
    split at hf
    · cases hf; exact h y List.mem_cons_self
    · exact ih (fun z hz => h z (List.mem_cons_of_mem _ hz)) hf
def rputC (l : List (RTab × List Key)) (t : Key) (ks : List Key) : Int := if 1 ≤ ks.length ∧ ks.length ≤ 256 then (if (rfind l t).isSome = true then 12 else 0) else 1
/-- the two registries have the same tables -/
def RelF (d : TbD) (m : RtD) : Prop := ∀ k, d.find k = rfind m.l k
theorem RelF.put {d : TbD} {m : RtD} (h : RelF d m) (t : Key) (ks : List Key) : rputC m.l t ks = putC d t ks := by
  unfold rputC putC
  rw [← h t]
  unfold TbD.find
  cases aget t d.kvs <;> rfl
theorem RelF.step {d d' : TbD} {m m' : RtD} {t : Key} {ks : List Key} {a : RTab} (h : RelF d m) (hz : putC d t ks = 0) (h1 : ∀ k, d'.find k = if k = t then some ks else d.find k) (h2 : m'.l = m.l ++ [(a, ks)]) (h3 : a.key = t) : RelF d' m' := by
  intro k
  rw [h1, h2, rfind_append, ← h k]
  have hn : d.find t = none := by
    unfold putC at hz
    split at hz
    · split at hz
      · cases hz
      · rename_i h5
        unfold TbD.find
        cases hx : aget t d.kvs with
        | none => rfl
        | some x => rw [hx] at h5; exact absurd rfl h5
    · cases hz
  by_cases hk : k = t
  · subst hk
    rw [if_pos rfl, hn]
    simp only [rfind]
    rw [if_pos h3]
  · rw [if_neg hk]
    cases d.find k with
    | some x => rfl
    | none =>
      simp only [rfind]
      rw [if_neg (fun e => hk (by rw [← h3, e]))]
theorem ResIs.same {f g : Key → Option (List Key)} {ls : List LkM} {e e' : Int} {a b a' b' : List Key} (hfg : ∀ k, f k = g k) (h : ResIs f ls e a b) (h' : ResIs g ls e' a' b') : e' = e ∧ a' = a ∧ b' = b := by
  have hfg : f = g := funext hfg
  subst hfg
  rcases h with ⟨h1, rfl⟩ | ⟨h1, _, rfl, rfl⟩
  · rcases h' with ⟨h2, rfl⟩ | ⟨h2, _⟩
    · rw [h1] at h2; cases h2; exact ⟨rfl, rfl, rfl⟩
    · rw [h1] at h2; cases h2
  · rcases h' with ⟨h2, _⟩ | ⟨h2, _, rfl, rfl⟩
    · rw [h1] at h2; cases h2
    · rw [h1] at h2; cases h2; exact ⟨rfl, rfl, rfl⟩
theorem Has.right {e : Ent} {S : List Ent} : ∀ (L : List Ent), Has e S → Has e (L ++ S)
  | [], h => h
  | _ :: L, h => .there (Has.right L h)
theorem tadd_perm {K S : List Ent} {x a b : Ent} : (x :: a :: b :: (K ++ S)).Perm (a :: b :: ((K ++ [x]) ++ S)) := by
  have h := (List.perm_middle (l₁ := a :: b :: K) (a := x) (l₂ := S)).symm
  rw [List.append_assoc]
  exact h

theorem rfind_ok (w0 : World) (p : Nat) (d : RtD) (k : Key) (ha : RtAt w0 p d) (hok : RtOk d.l) : Ret Try.prog 23 #[.pointer (some ⟨p, 0, none⟩), .agg (Enc.enc k)] w0 (fun u w' => ∃ v e l, u = .tuple #[v, .int .i64 e] ∧ ((rfind d.l k = some l ∧ e = 0) ∨ (rfind d.l k = none ∧ e = 11 ∧ l = [])) ∧ New w0 w' v 36 l ∧ Bel w0 w') := by
  refine Ret.enter (args := [.pointer (some ⟨p, 0, none⟩), .agg (Enc.enc k)]) Try.func23 rfl Try.ntmps23 Try.results23 rfl ?_
  have hS := St.start w0
  have hml : (d.l.map Prod.fst).length = d.l.length := List.length_map _
  refine WC.seq (fun K1 hK1 => ?_)
  refine WC.region ?_
  refine WL.op rfl (opW.boxA hS rfl ?_)
  intro b3 w _ hS
  refine WL.op rfl (opW.assignV (v := .slice none 0 0) rfl ?_)
  refine WL.op rfl (opW.assignI rfl ?_)
  refine WL.nil ?_
  refine thenQ_n (hK1 _ _ ?_)
  refine WC.seq (fun K2 hK2 => ?_)
  refine WC.seq (fun K3 hK3 => ?_)
  refine WC.region ?_
  refine WL.op rfl (opW.assignI rfl ?_)
  refine WL.nil ?_
  refine thenQ_n (hK3 _ _ ?_)
  refine WC.block ?_
  refine WC.loop (fun q f w => ∃ i : Nat, Fits [(0, .pointer (some ⟨p, 0, none⟩)), (3, .pointer (some ⟨b3, 0, none⟩)), (6, .int .i64 (i : Int))] f ∧ St w0 [blkE b3 (Enc.enc k) 36] w ∧ rfind (d.l.take i) k = none ∧ i ≤ d.l.length ∧ q = d.l.length - i) (d.l.length) ?_ ?_
  ·
    exact ⟨0, ⟨rfl, rfl, rfl, trivial⟩, hS, rfl, Nat.zero_le _, rfl⟩
  ·
    rintro q f w ⟨i, hfit, hS, hno, hi0, hm⟩
    refine WC.fits _ hfit (fun g => ?_)
    clear hfit
    refine WC.seq (fun K4 hK4 => ?_)
    refine WC.seq (fun K5 hK5 => ?_)
    refine WC.region ?_
    refine WL.op rfl (opW.moveI rfl ?_)
    refine WL.op rfl (opW.moveV (v := .pointer (some ⟨p, 0, none⟩)) rfl ?_)
    refine WL.op rfl (opW.nilCheckB rfl ?_)
    refine WL.op rfl (opW.fieldAddrB rfl ?_)
    refine WL.op rfl (opW.loadV rfl ((ha.1.bel hS.old).at1 (RReg.at_l _)) ?_)
    refine WL.op rfl (opW.lenV rfl ((ha.2.1.bel hS.old)) ?_)
    refine WL.op rfl (opW.lss rfl rfl ?_)
    refine WL.nil ?_
    refine thenQ_n (hK5 _ _ ?_)
    refine WC.cond _ rfl (fun hc0 => ?_) (fun hc0 => ?_)
    ·
      have hr0 := hc0
      try simp only [decide_eq_true_eq, decide_eq_false_iff_not, Bool.and_eq_true, Bool.or_eq_true, Bool.and_eq_false_iff, Bool.or_eq_false_iff, Bool.not_eq_true', Bool.not_eq_false', Int.not_lt, Int.not_le] at hc0
      have hil : i < d.l.length := by omega
      have him : i < (d.l.map Prod.fst).length := by omega
      have hge : (d.l.map Prod.fst)[i] = d.l[i].1 := by simp
      have hle := ha.2.1.le
      simp only [maxLen] at hle
      refine WC.skip ?_
      refine thenQ_n (hK4 _ _ ?_)
      refine WC.seq (fun K6 hK6 => ?_)
      refine WC.block ?_
      refine WC.seq (fun K7 hK7 => ?_)
      refine WC.draw 10 (.look 0 (.look 1 (.look 2 (.look 3 (.look 4 (.look 5 (.look 6 (.look 7 (.look 8 (.look 9 .nil)))))))))) (by kernel_rfl) (fun _ _ _ h => h) (fun w1 hw1 => ?_)
      replace hS := hS.bel hw1
      have hS1 := hS
      have hT := St.start w1
      refine ML.look rfl rfl rfl (fun w hw => (by have hS := hS1.bel hw; exact opW.moveV (v := .pointer (some ⟨p, 0, none⟩)) rfl ⟨rfl, rfl⟩)) ?_
      refine ML.look rfl rfl rfl (fun w hw => (by have hS := hS1.bel hw; exact opW.nilCheckB rfl ⟨rfl, rfl⟩)) ?_
      refine ML.look rfl rfl rfl (fun w hw => (by have hS := hS1.bel hw; exact opW.fieldAddrB rfl ⟨rfl, rfl⟩)) ?_
      refine ML.look rfl rfl rfl (fun w hw => (by have hS := hS1.bel hw; exact opW.loadV rfl ((ha.1.bel hS.old).at1 (RReg.at_l _)) ⟨rfl, rfl⟩)) ?_
      refine ML.look rfl rfl rfl (fun w hw => (by have hS := hS1.bel hw; exact opW.moveI rfl ⟨rfl, rfl⟩)) ?_
      refine ML.look rfl rfl rfl (fun w hw => (by have hS := hS1.bel hw; exact opW.idxV rfl ((ha.2.1.bel hS.old)) rfl (by omega) ⟨rfl, rfl⟩)) ?_
      refine ML.look rfl rfl rfl (fun w hw => (by have hS := hS1.bel hw; exact opW.fieldAddr rfl ((ha.2.1.bel hS.old).isP him) ⟨rfl, rfl⟩)) ?_
      refine ML.look rfl rfl rfl (fun w hw => (by have hS := hS1.bel hw; exact opW.loadV rfl (Ld.ptA ((ha.2.1.bel hS.old).isPt him) 0 ((RTab.ex_key _).trans (by rw [hge])) (by rw [Enc.size_eq]; decide)) ⟨rfl, rfl⟩)) ?_
      refine ML.look rfl rfl rfl (fun w hw => (by have hS := hS1.bel hw; exact opW.loadV rfl (hS.ldA (cs := Enc.enc k) (by first | exact .h0 | exact .h1 | exact .h2 | exact .h3 | exact .h4 | exact .h5 | exact .h6 | exact .h7 | exact .h8 | exact .h9 | exact .h10 | exact .h11 | exact .h12 | exact .h13 | exact .h14) (Enc.size_eq _)) ⟨rfl, rfl⟩)) ?_
      refine ML.look rfl rfl rfl (fun w hw => (by have hS := hS1.bel hw; exact opW.eqlE rfl rfl ⟨rfl, rfl⟩)) ?_
      refine ML.nil ?_
      refine thenQ_n (hK7 _ _ ?_)
      refine WC.cond _ rfl (fun hc1 => ?_) (fun hc1 => ?_)
      ·
        have hr1 := hc1
        try simp only [decide_eq_true_eq, decide_eq_false_iff_not, Bool.and_eq_true, Bool.or_eq_true, Bool.and_eq_false_iff, Bool.or_eq_false_iff, Bool.not_eq_true', Bool.not_eq_false', Int.not_lt, Int.not_le] at hc1
        have hhit := rfind_hit hil hno (of_decide_eq_true hr1)
        have hlb := hok _ (List.getElem_mem hil)
        have hKs := ha.2.2 _ (List.getElem_mem hil)
        refine WC.seq (fun K8 hK8 => ?_)
        refine WC.region ?_
        refine WL.op rfl (opW.moveV (v := .pointer (some ⟨p, 0, none⟩)) rfl ?_)
        refine WL.op rfl (opW.nilCheckB rfl ?_)
        refine WL.op rfl (opW.fieldAddrB rfl ?_)
        refine WL.op rfl (opW.loadV rfl ((ha.1.bel hS.old).at1 (RReg.at_l _)) ?_)
        refine WL.op rfl (opW.moveI rfl ?_)
        refine WL.op rfl (opW.idxV rfl ((ha.2.1.bel hS.old)) rfl (by omega) ?_)
        refine WL.op rfl (opW.fieldAddr rfl ((ha.2.1.bel hS.old).isP him) ?_)
        refine WL.op rfl (opW.loadV rfl (Ld.pt1 ((ha.2.1.bel hS.old).isPt him) 32 ((RTab.at_keys _).trans (by rw [hge]))) ?_)
        refine WL.op rfl (opW.appendNil (α := Vector UInt8 32) rfl hS rfl ((hKs.bel hS.old)) (by omega) (by simp only [maxLen]; omega) ?_)
        intro v34 w hw hS
        refine WL.op rfl (opW.assignV (v := v34) rfl ?_)
        refine WL.op rfl (opW.assignI rfl ?_)
        refine WL.nil ?_
        refine thenQ_n (hK8 _ _ ?_)
        refine WC.ret ?_
        refine blockQ_r ?_
        refine thenQ_r ?_
        refine thenQ_r ?_
        refine blockQ_r ?_
        refine thenQ_r ?_
        refine bodyQ_ret (.tmpV (v := v34) rfl (.tmpI rfl .nil)) ?_
        exact ⟨_, _, d.l[i].2, rfl, .inl ⟨hhit, rfl⟩, hS.own_new (by first | exact .h0 | exact .h1 | exact .h2 | exact .h3 | exact .h4 | exact .h5 | exact .h6 | exact .h7 | exact .h8 | exact .h9 | exact .h10 | exact .h11 | exact .h12 | exact .h13 | exact .h14), hS.old⟩
      ·
        have hr1 := hc1
        try simp only [decide_eq_true_eq, decide_eq_false_iff_not, Bool.and_eq_true, Bool.or_eq_true, Bool.and_eq_false_iff, Bool.or_eq_false_iff, Bool.not_eq_true', Bool.not_eq_false', Int.not_lt, Int.not_le] at hc1
        refine WC.skip ?_
        refine blockQ_n ?_
        refine thenQ_n (hK6 _ _ ?_)
        refine WC.region ?_
        refine WL.op rfl (opW.moveI rfl ?_)
        refine WL.op rfl (opW.add rfl rfl (wrap_i64 (by omega)) ?_)
        refine WL.op rfl (opW.assignI rfl ?_)
        refine WL.nil ?_
        refine thenQ_n ?_
        exact ⟨d.l.length - (i + 1), by omega, i + 1, ⟨rfl, rfl, congrArg (Value.int .i64) (by omega), trivial⟩, hS, rfind_go hil hno (of_decide_eq_false hr1), by omega, rfl⟩
    ·
      have hr0 := hc0
      try simp only [decide_eq_true_eq, decide_eq_false_iff_not, Bool.and_eq_true, Bool.or_eq_true, Bool.and_eq_false_iff, Bool.or_eq_false_iff, Bool.not_eq_true', Bool.not_eq_false', Int.not_lt, Int.not_le] at hc0
      have hii : i = d.l.length := by omega
      rw [hii, List.take_length] at hno
      refine WC.exit ?_
      refine thenQ_e ?_
      refine thenQ_e ?_
      refine blockQ_hit ?_
      refine thenQ_n (hK2 _ _ ?_)
      refine WC.seq (fun K9 hK9 => ?_)
      refine WC.region ?_
      refine WL.op rfl (opW.assignV (v := .slice none 0 0) rfl ?_)
      refine WL.op rfl (opW.assignI rfl ?_)
      refine WL.nil ?_
      refine thenQ_n (hK9 _ _ ?_)
      refine WC.ret ?_
      refine bodyQ_ret (.tmpV (v := .slice none 0 0) rfl (.tmpI rfl .nil)) ?_
      exact ⟨_, _, [], rfl, .inr ⟨hno, rfl, rfl⟩, New.nil _ _ _, hS.old⟩

theorem rput_ok (wb w0 : World) (S : List Ent) (p : Nat) (d : RtD) (t : Key) (v : Value) (l : List Key) (hS0 : St wb (rtE p d :: S) w0) (hok : RtOk d.l) (hl : ∀ w, St wb S w → SlR w v l) (hdl : d.l.length ≤ 5000) : Ret Try.prog 19 #[.pointer (some ⟨p, 0, none⟩), .agg (Enc.enc t), v] w0 (fun u w' => ∃ d' : RtD, u = .int .i64 (rputC d.l t l) ∧ ((rputC d.l t l) = 0 → ∃ a : RTab, d'.l = d.l ++ [(a, l)] ∧ a.key = t) ∧ ((rputC d.l t l) ≠ 0 → d' = d) ∧ RtOk d'.l ∧ d'.l.length ≤ d.l.length + 1 ∧ St wb (rtE p d' :: S) w') := by
  refine Ret.enter (args := [.pointer (some ⟨p, 0, none⟩), .agg (Enc.enc t), v]) Try.func19 rfl Try.ntmps19 Try.results19 rfl ?_
  have hS := St.start w0
  replace hS := hS0
  refine WC.seq (fun K1 hK1 => ?_)
  refine WC.region ?_
  refine WL.op rfl (opW.boxA hS rfl ?_)
  intro b4 w _ hS
  refine WL.op rfl (opW.assignI rfl ?_)
  refine WL.nil ?_
  refine thenQ_n (hK1 _ _ ?_)
  refine WC.seq (fun K2 hK2 => ?_)
  refine WC.seq (fun K3 hK3 => ?_)
  refine WC.region ?_
  refine WL.op rfl (opW.moveV (v := v) rfl ?_)
  refine WL.op rfl (opW.lenV rfl ((hl _ hS.drop1.drop1)) ?_)
  refine WL.op rfl (opW.lss rfl rfl ?_)
  refine WL.op rfl (opW.moveB rfl ?_)
  refine WL.gd _ 12 _ rfl rfl rfl rfl (fun hg13 => opW.moveV (v := v) rfl ⟨rfl, Bel.refl _⟩) (fun w hw => ?_)
  replace hS := hS.bel hw
  refine WL.gd _ 12 _ rfl rfl rfl rfl (fun hg14 => opW.lenV (by first | exact gv_of rfl hg14 | rfl) ((hl _ hS.drop1.drop1)) ⟨rfl, Bel.refl _⟩) (fun w hw => ?_)
  replace hS := hS.bel hw
  refine WL.gd _ 12 _ rfl rfl rfl rfl (fun hg15 => opW.gtr (by first | exact gv_of rfl hg15 | rfl) rfl ⟨rfl, Bel.refl _⟩) (fun w hw => ?_)
  replace hS := hS.bel hw
  refine WL.op rfl (opW.pickOr rfl rfl (by first | rfl) ?_)
  refine WL.nil ?_
  refine thenQ_n (hK3 _ _ ?_)
  refine WC.cond _ rfl (fun hc0 => ?_) (fun hc0 => ?_)
  ·
    have hr0 := hc0
    try simp only [decide_eq_true_eq, decide_eq_false_iff_not, Bool.and_eq_true, Bool.or_eq_true, Bool.and_eq_false_iff, Bool.or_eq_false_iff, Bool.not_eq_true', Bool.not_eq_false', Int.not_lt, Int.not_le] at hc0
    refine WC.seq (fun K4 hK4 => ?_)
    refine WC.region ?_
    refine WL.op rfl (opW.assignI rfl ?_)
    refine WL.nil ?_
    refine thenQ_n (hK4 _ _ ?_)
    refine WC.ret ?_
    refine thenQ_r ?_
    refine bodyQ_ret (.tmpI rfl .nil) ?_
    have hz : (rputC d.l t l) = 1 := if_neg (by simp only [Bool.or_eq_true, decide_eq_true_eq] at hr0; omega)
    rw [hz]
    exact ⟨d, rfl, fun h => absurd h (by decide), fun _ => rfl, hok, by omega, hS.drop1⟩
  ·
    have hr0 := hc0
    try simp only [decide_eq_true_eq, decide_eq_false_iff_not, Bool.and_eq_true, Bool.or_eq_true, Bool.and_eq_false_iff, Bool.or_eq_false_iff, Bool.not_eq_true', Bool.not_eq_false', Int.not_lt, Int.not_le] at hc0
    have hlen : 1 ≤ l.length ∧ l.length ≤ 256 := by simp only [Bool.or_eq_false_iff, decide_eq_false_iff_not] at hr0; omega
    refine WC.skip ?_
    refine thenQ_n (hK2 _ _ ?_)
    refine WC.seq (fun K5 hK5 => ?_)
    refine WC.region ?_
    refine WL.op rfl (opW.moveV (v := .pointer (some ⟨p, 0, none⟩)) rfl ?_)
    refine WL.op rfl (opW.loadV rfl (hS.ldA (cs := Enc.enc t) (by first | exact .h0 | exact .h1 | exact .h2 | exact .h3 | exact .h4 | exact .h5 | exact .h6 | exact .h7 | exact .h8 | exact .h9 | exact .h10 | exact .h11 | exact .h12 | exact .h13 | exact .h14) (Enc.size_eq _)) ?_)
    refine WL.op rfl (opW.call (rfind_ok _ p d t (hS.rtAt (by first | exact .h0 | exact .h1 | exact .h2 | exact .h3 | exact .h4 | exact .h5 | exact .h6 | exact .h7 | exact .h8 | exact .h9 | exact .h10 | exact .h11 | exact .h12 | exact .h13 | exact .h14)) hok) rfl ?_)
    rintro _ w ⟨v20, e20, l20, rfl, hf, hn20, hw⟩
    replace hS := hS.bel hw
    refine WL.op rfl (opW.moveV (v := .tuple #[v20, .int .i64 e20]) rfl ?_)
    refine WL.op rfl (opW.extract rfl rfl ?_)
    refine WL.op rfl (opW.extract rfl rfl ?_)
    refine WL.op rfl (opW.assignV (v := v20) rfl ?_)
    refine WL.op rfl (opW.assignI rfl ?_)
    refine WL.nil ?_
    refine thenQ_n (hK5 _ _ ?_)
    refine WC.seq (fun K6 hK6 => ?_)
    refine WC.seq (fun K7 hK7 => ?_)
    refine WC.region ?_
    refine WL.op rfl (opW.moveI rfl ?_)
    refine WL.op rfl (opW.eql rfl rfl ?_)
    refine WL.nil ?_
    refine thenQ_n (hK7 _ _ ?_)
    refine WC.cond _ rfl (fun hc1 => ?_) (fun hc1 => ?_)
    ·
      have hr1 := hc1
      try simp only [decide_eq_true_eq, decide_eq_false_iff_not, Bool.and_eq_true, Bool.or_eq_true, Bool.and_eq_false_iff, Bool.or_eq_false_iff, Bool.not_eq_true', Bool.not_eq_false', Int.not_lt, Int.not_le] at hc1
      refine WC.seq (fun K8 hK8 => ?_)
      refine WC.region ?_
      refine WL.op rfl (opW.assignI rfl ?_)
      refine WL.nil ?_
      refine thenQ_n (hK8 _ _ ?_)
      refine WC.ret ?_
      refine thenQ_r ?_
      refine bodyQ_ret (.tmpI rfl .nil) ?_
      have hz : (rputC d.l t l) = 12 := by
        unfold rputC
        rw [if_pos hlen]
        rcases hf with ⟨h1, _⟩ | ⟨_, h1, _⟩
        · rw [h1]; rfl
        · exact absurd (of_decide_eq_true hr1) (by omega)
      rw [hz]
      exact ⟨d, rfl, fun h => absurd h (by decide), fun _ => rfl, hok, by omega, hS.drop1⟩
    ·
      have hr1 := hc1
      try simp only [decide_eq_true_eq, decide_eq_false_iff_not, Bool.and_eq_true, Bool.or_eq_true, Bool.and_eq_false_iff, Bool.or_eq_false_iff, Bool.not_eq_true', Bool.not_eq_false', Int.not_lt, Int.not_le] at hc1
      have hz : (rputC d.l t l) = 0 := by
        unfold rputC
        rw [if_pos hlen]
        rcases hf with ⟨_, h1⟩ | ⟨h1, _⟩
        · exact absurd h1 (of_decide_eq_false hr1)
        · rw [h1]; rfl
      replace hS := hS.swap
      replace hS := hS.rtOpen
      have hml : (d.l.map Prod.fst).length = d.l.length := List.length_map _
      refine WC.skip ?_
      refine thenQ_n (hK6 _ _ ?_)
      refine WC.seq (fun K9 hK9 => ?_)
      refine WC.draw 10 (.look 0 (.look 1 (.look 2 (.look 3 (.look 4 (.look 5 (.look 6 (.one 7 (.look 8 (.one 9 (.one 10 (.one 11 (.one 12 (.one 13 .nil)))))))))))))) (by kernel_rfl) (fun _ _ _ h => h) (fun w1 hw1 => ?_)
      replace hS := hS.bel hw1
      have hS1 := hS
      have hT := St.start w1
      refine ML.look rfl rfl rfl (fun w hw => (by have hS := hS1.bel hw; exact opW.moveV (v := .pointer (some ⟨p, 0, none⟩)) rfl ⟨rfl, rfl⟩)) ?_
      refine ML.look rfl rfl rfl (fun w hw => (by have hS := hS1.bel hw; exact opW.moveV (v := .pointer (some ⟨p, 0, none⟩)) rfl ⟨rfl, rfl⟩)) ?_
      refine ML.look rfl rfl rfl (fun w hw => (by have hS := hS1.bel hw; exact opW.nilCheckB rfl ⟨rfl, rfl⟩)) ?_
      refine ML.look rfl rfl rfl (fun w hw => (by have hS := hS1.bel hw; exact opW.fieldAddrB rfl ⟨rfl, rfl⟩)) ?_
      refine ML.look rfl rfl rfl (fun w hw => (by have hS := hS1.bel hw; exact opW.loadV rfl (hS.ld1 (by first | exact .h0 | exact .h1 | exact .h2 | exact .h3 | exact .h4 | exact .h5 | exact .h6 | exact .h7 | exact .h8 | exact .h9 | exact .h10 | exact .h11 | exact .h12 | exact .h13 | exact .h14) (RReg.at_l _)) ⟨rfl, rfl⟩)) ?_
      refine ML.look rfl rfl rfl (fun w hw => (by have hS := hS1.bel hw; exact opW.loadV rfl (hS.ldA (cs := Enc.enc t) (.there (.there (Has.right _ .h0))) (Enc.size_eq _)) ⟨rfl, rfl⟩)) ?_
      refine ML.look rfl rfl rfl (fun w hw => (by have hS := hS1.bel hw; exact opW.moveV (v := v) rfl ⟨rfl, rfl⟩)) ?_
      refine ML.one rfl rfl rfl (opW.appendNil (α := Vector UInt8 32) rfl hT rfl (hl _ (hS.sub (.cons _ (.cons _ ((List.sublist_cons_self _ _).trans (List.sublist_append_right _ _)))))) (by omega) (by simp only [maxLen]; omega) ?_)
      intro v32 w hw hT
      obtain ⟨s32, rfl⟩ := (hT.sl (v := v32) (xs := l) (by first | exact .h0 | exact .h1 | exact .h2 | exact .h3 | exact .h4 | exact .h5 | exact .h6 | exact .h7 | exact .h8 | exact .h9 | exact .h10 | exact .h11 | exact .h12 | exact .h13 | exact .h14)).asV
      refine ⟨hT.old, ?_⟩
      have hS := hS1.merge hT
      try simp only [List.cons_append, List.nil_append] at hS
      refine ML.look rfl rfl rfl (fun w hw => (by have hS := hS1.bel hw; exact opW.buildE (r := ((⟨t, s32⟩ : RTab) : RTab)) (ps := RTab.parts ((⟨t, s32⟩ : RTab) : RTab)) (RTab.enc_eq _) (by first | (simp only [kK, enc_vset, enc_vz, Lookup.enc_eq, Lookup.parts, Act.enc_eq, Act.parts, TbS.enc_eq, TbS.parts, RTab.enc_eq, RTab.parts, RReg.enc_eq, RReg.parts]; rfl) | rfl) (by (repeat' (first | exact trivial | refine And.intro ?_ ?_)) <;> first | rfl | exact Enc.size_eq _ | (simp; done)) ⟨rfl, rfl⟩)) ?_
      refine ML.one rfl rfl rfl (opW.buildSl hT (([(⟨t, s32⟩ : RTab)] : List RTab)) [.agg (Enc.enc (⟨t, s32⟩ : RTab))] rfl rfl rfl rfl (by decide) ?_)
      intro b34 w hw hT
      refine ⟨hT.old, ?_⟩
      have hS := hS1.merge hT
      try simp only [List.cons_append, List.nil_append] at hS
      refine ML.put1 rfl rfl rfl rfl (opW.appendOwn (α := RTab) rfl hS rfl (by first | exact .h0 | exact .h1 | exact .h2 | exact .h3 | exact .h4 | exact .h5 | exact .h6 | exact .h7 | exact .h8 | exact .h9 | exact .h10 | exact .h11 | exact .h12 | exact .h13 | exact .h14) (hS.sl (by first | exact .h0 | exact .h1 | exact .h2 | exact .h3 | exact .h4 | exact .h5 | exact .h6 | exact .h7 | exact .h8 | exact .h9 | exact .h10 | exact .h11 | exact .h12 | exact .h13 | exact .h14)) (by simp only [List.length_cons, List.length_nil]; omega) (by simp only [maxLen, List.length_cons, List.length_nil]; omega) ?_)
      intro v35 w hS; replace hS := hS _ (by first | exact .h0 | exact .h1 | exact .h2 | exact .h3 | exact .h4 | exact .h5 | exact .h6 | exact .h7 | exact .h8 | exact .h9 | exact .h10 | exact .h11 | exact .h12 | exact .h13 | exact .h14)
      obtain ⟨s35, rfl⟩ := (hS.sl (v := v35) (xs := d.l.map Prod.fst ++ [(⟨t, s32⟩ : RTab)]) (by first | exact .h0 | exact .h1 | exact .h2 | exact .h3 | exact .h4 | exact .h5 | exact .h6 | exact .h7 | exact .h8 | exact .h9 | exact .h10 | exact .h11 | exact .h12 | exact .h13 | exact .h14)).asV
      refine ML.put1 rfl rfl rfl rfl (opW.nilCheckB rfl ?_)
      refine ML.put1 rfl rfl rfl rfl (opW.fieldAddrB rfl ?_)
      refine ML.put0 rfl rfl rfl (opW.storeF (v := s35.v) (sz := 1) (cs' := Enc.enc (RReg.mk s35)) hS rfl rfl (by first | exact .h0 | exact .h1 | exact .h2 | exact .h3 | exact .h4 | exact .h5 | exact .h6 | exact .h7 | exact .h8 | exact .h9 | exact .h10 | exact .h11 | exact .h12 | exact .h13 | exact .h14) rfl (by rw [Enc.size_eq]; decide) (Enc.one s35) (RReg.set_l (RReg.mk d.v) s35) ?_)
      intro w hS; replace hS := hS _ (by first | exact .h0 | exact .h1 | exact .h2 | exact .h3 | exact .h4 | exact .h5 | exact .h6 | exact .h7 | exact .h8 | exact .h9 | exact .h10 | exact .h11 | exact .h12 | exact .h13 | exact .h14)
      refine ML.nil ?_
      refine thenQ_n (hK9 _ _ ?_)
      refine WC.seq (fun K10 hK10 => ?_)
      refine WC.region ?_
      refine WL.op rfl (opW.assignI rfl ?_)
      refine WL.nil ?_
      refine thenQ_n (hK10 _ _ ?_)
      refine WC.ret ?_
      refine bodyQ_ret (.tmpI rfl .nil) ?_
      rw [hz]
      refine ⟨(⟨s35, d.l ++ [(⟨t, s32⟩, l)]⟩ : RtD), rfl, fun _ => ⟨_, rfl, rfl⟩, fun h => absurd rfl h, fun x hx => ?_, by simp, St.rtClose (⟨s35, d.l ++ [(⟨t, s32⟩, l)]⟩ : RtD) ?_⟩
      · rcases List.mem_append.1 hx with hx | hx
        · exact hok x hx
        · simp only [List.mem_cons, List.not_mem_nil, or_false] at hx; subst hx; exact hlen.2
      · have h9 : St wb (ownE s32.v 36 l :: blkE p (Enc.enc (RReg.mk s35)) 51 :: ownE s35.v 68 (d.l.map Prod.fst ++ [(⟨t, s32⟩ : RTab)]) :: (ktE d.l ++ S)) _ := hS.sub (.cons _ (.cons₂ _ (.cons₂ _ (.cons₂ _ ((List.Sublist.refl _).append (List.sublist_cons_self _ _))))))
        have h10 := h9.perm tadd_perm
        simp only [List.map_append, List.map_cons, List.map_nil, ktE] at h10 ⊢
        exact h10

theorem rresolve_ok (w0 : World) (p : Nat) (d : RtD) (v : Value) (xs : List Lookup) (ls : List LkM) (ha : RtAt w0 p d) (hok : RtOk d.l) (hx : SlR w0 v xs) (hls : LkIs w0 xs ls) (hb : lenL ls ≤ 50000) : Ret Try.prog 24 #[.pointer (some ⟨p, 0, none⟩), v] w0 (fun u w' => ∃ v1 v2 e a b, u = .tuple #[v1, v2, .int .i64 e] ∧ St w0 [ownE v1 36 a, ownE v2 36 b] w' ∧ ResIs (rfind d.l) ls e a b) := by
  refine Ret.enter (args := [.pointer (some ⟨p, 0, none⟩), v]) Try.func24 rfl Try.ntmps24 Try.results24 rfl ?_
  have hS := St.start w0
  refine WC.seq (fun K1 hK1 => ?_)
  refine WC.region ?_
  refine WL.op rfl (opW.assignV (v := .slice none 0 0) rfl ?_)
  refine WL.op rfl (opW.assignV (v := .slice none 0 0) rfl ?_)
  refine WL.op rfl (opW.assignI rfl ?_)
  refine WL.nil ?_
  refine thenQ_n (hK1 _ _ ?_)
  refine WC.seq (fun K2 hK2 => ?_)
  refine WC.region ?_
  refine WL.op rfl (opW.assignV (v := .slice none 0 0) rfl ?_)
  refine WL.op rfl (opW.assignV (v := .slice none 0 0) rfl ?_)
  refine WL.nil ?_
  refine thenQ_n (hK2 _ _ ?_)
  refine WC.seq (fun K3 hK3 => ?_)
  refine WC.seq (fun K4 hK4 => ?_)
  refine WC.region ?_
  refine WL.op rfl (opW.assignI rfl ?_)
  refine WL.nil ?_
  refine thenQ_n (hK4 _ _ ?_)
  refine WC.block ?_
  refine WC.loop (fun q f w => ∃ (k : Nat) (vw vr : Value) (W Rd : List Key), Fits [(0, .pointer (some ⟨p, 0, none⟩)), (1, v), (7, vw), (8, vr), (9, .int .i64 (k : Int))] f ∧ St w0 [ownE vw 36 W, ownE vr 36 Rd] w ∧ resF (rfind d.l) (ls.take k) = .ok W Rd ∧ k ≤ xs.length ∧ q = xs.length - k) (xs.length) ?_ ?_
  ·
    exact ⟨0, _, _, [], [], ⟨rfl, rfl, rfl, rfl, rfl, trivial⟩, (hS.nilOwn 36).nilOwn 36, rfl, Nat.zero_le _, rfl⟩
  ·
    rintro q f w ⟨k, vw, vr, W, Rd, hfit, hS, hres, hk0, hm⟩
    refine WC.fits _ hfit (fun g => ?_)
    clear hfit
    refine WC.seq (fun K5 hK5 => ?_)
    refine WC.seq (fun K6 hK6 => ?_)
    refine WC.region ?_
    refine WL.op rfl (opW.moveI rfl ?_)
    refine WL.op rfl (opW.moveV (v := v) rfl ?_)
    refine WL.op rfl (opW.lenV rfl ((hx.bel hS.old)) ?_)
    refine WL.op rfl (opW.lss rfl rfl ?_)
    refine WL.nil ?_
    refine thenQ_n (hK6 _ _ ?_)
    refine WC.cond _ rfl (fun hc0 => ?_) (fun hc0 => ?_)
    ·
      have hr0 := hc0
      try simp only [decide_eq_true_eq, decide_eq_false_iff_not, Bool.and_eq_true, Bool.or_eq_true, Bool.and_eq_false_iff, Bool.or_eq_false_iff, Bool.not_eq_true', Bool.not_eq_false', Int.not_lt, Int.not_le] at hc0
      have hkl : k < xs.length := by omega
      have hlen := hls.len
      have hkm : k < ls.length := by omega
      obtain ⟨et, hlw, hlr⟩ := hls.at hkl hkm
      have hle := hx.le
      simp only [maxLen] at hle
      have hln := lenL_step hkm
      have hlt := lenL_take ls (k + 1)
      have hrl := resF_len _ _ _ _ hres
      refine WC.skip ?_
      refine thenQ_n (hK5 _ _ ?_)
      refine WC.seq (fun K7 hK7 => ?_)
      refine WC.block ?_
      refine WC.seq (fun K8 hK8 => ?_)
      refine WC.region ?_
      refine WL.op rfl (opW.moveV (v := .pointer (some ⟨p, 0, none⟩)) rfl ?_)
      refine WL.op rfl (opW.moveV (v := v) rfl ?_)
      refine WL.op rfl (opW.moveI rfl ?_)
      refine WL.op rfl (opW.idxV rfl ((hx.bel hS.old)) rfl (by omega) ?_)
      refine WL.op rfl (opW.fieldAddr rfl ((hx.bel hS.old).isP hkl) ?_)
      refine WL.op rfl (opW.loadV rfl (Ld.ptA ((hx.bel hS.old).isPt hkl) 0 (Lookup.ex_table _) (by rw [Enc.size_eq]; decide)) ?_)
      refine WL.op rfl (opW.call (rfind_ok _ p d xs[k].table (ha.bel hS.old) hok) rfl ?_)
      rintro _ w ⟨v27, e27, l27, rfl, hf, hn27, hw⟩
      replace hS := hS.newOwn hw hn27.1 hn27.2
      refine WL.op rfl (opW.moveV (v := .tuple #[v27, .int .i64 e27]) rfl ?_)
      refine WL.op rfl (opW.extract rfl rfl ?_)
      refine WL.op rfl (opW.extract rfl rfl ?_)
      refine WL.op rfl (opW.assignV (v := v27) rfl ?_)
      refine WL.op rfl (opW.assignI rfl ?_)
      refine WL.nil ?_
      refine thenQ_n (hK8 _ _ ?_)
      refine WC.seq (fun K9 hK9 => ?_)
      refine WC.seq (fun K10 hK10 => ?_)
      refine WC.region ?_
      refine WL.op rfl (opW.moveI rfl ?_)
      refine WL.op rfl (opW.neq rfl rfl ?_)
      refine WL.nil ?_
      refine thenQ_n (hK10 _ _ ?_)
      refine WC.cond _ rfl (fun hc1 => ?_) (fun hc1 => ?_)
      ·
        have hr1 := hc1
        try simp only [decide_eq_true_eq, decide_eq_false_iff_not, Bool.and_eq_true, Bool.or_eq_true, Bool.and_eq_false_iff, Bool.or_eq_false_iff, Bool.not_eq_true', Bool.not_eq_false', Int.not_lt, Int.not_le] at hc1
        obtain ⟨hfn, rfl⟩ : rfind d.l ls[k].table = none ∧ e27 = 11 := by
          rw [← et]
          rcases hf with ⟨_, h⟩ | ⟨h1, h2, _⟩
          · rw [h] at hr1; simp at hr1
          · exact ⟨h1, h2⟩
        refine WC.seq (fun K11 hK11 => ?_)
        refine WC.region ?_
        refine WL.op rfl (opW.moveI rfl ?_)
        refine WL.op rfl (opW.assignV (v := .slice none 0 0) rfl ?_)
        refine WL.op rfl (opW.assignV (v := .slice none 0 0) rfl ?_)
        refine WL.op rfl (opW.assignI rfl ?_)
        refine WL.nil ?_
        refine thenQ_n (hK11 _ _ ?_)
        refine WC.ret ?_
        refine thenQ_r ?_
        refine blockQ_r ?_
        refine thenQ_r ?_
        refine thenQ_r ?_
        refine blockQ_r ?_
        refine thenQ_r ?_
        refine bodyQ_ret (.tmpV (v := .slice none 0 0) rfl (.tmpV (v := .slice none 0 0) rfl (.tmpI rfl .nil))) ?_
        refine ⟨_, _, _, [], [], rfl, ((hS.sub (S' := []) (List.nil_sublist _)).nilOwn 36).nilOwn 36, .inr ⟨?_, by decide, rfl, rfl⟩⟩
        rw [show ls = ls.take k ++ ls.drop k from (List.take_append_drop _ _).symm, resF_append, hres, List.drop_eq_getElem_cons hkm]
        simp only [resF]
        rw [hfn]
      ·
        have hr1 := hc1
        try simp only [decide_eq_true_eq, decide_eq_false_iff_not, Bool.and_eq_true, Bool.or_eq_true, Bool.and_eq_false_iff, Bool.or_eq_false_iff, Bool.not_eq_true', Bool.not_eq_false', Int.not_lt, Int.not_le] at hc1
        obtain ⟨hfd, rfl⟩ : rfind d.l ls[k].table = some l27 ∧ e27 = 0 := by
          rw [← et]
          rcases hf with h | ⟨_, h, _⟩
          · exact h
          · rw [h] at hr1; simp at hr1
        have hl2 := hok.find hfd
        refine WC.skip ?_
        refine thenQ_n (hK9 _ _ ?_)
        refine WC.seq (fun K12 hK12 => ?_)
        refine WC.seq (fun K13 hK13 => ?_)
        refine WC.region ?_
        refine WL.op rfl (opW.assignI rfl ?_)
        refine WL.nil ?_
        refine thenQ_n (hK13 _ _ ?_)
        refine WC.block ?_
        refine WC.loop (fun q2 f w => ∃ (m : Nat) (vw2 : Value) (ys : List Key), Fits [(0, .pointer (some ⟨p, 0, none⟩)), (1, v), (7, vw2), (8, vr), (9, .int .i64 (k : Int)), (10, v27), (12, .int .i64 (m : Int))] f ∧ St w0 [ownE vw2 36 (W ++ ys), ownE v27 36 l27, ownE vr 36 Rd] w ∧ pick l27 (ls[k].ws.take m) = some ys ∧ m ≤ ls[k].ws.length ∧ q2 = ls[k].ws.length - m) (ls[k].ws.length) ?_ ?_
        ·
          exact ⟨0, vw, [], ⟨rfl, rfl, rfl, rfl, rfl, rfl, rfl, trivial⟩, (by rw [List.append_nil]; exact (hS.pick (e := ownE vw 36 W) (by first | exact .h0 | exact .h1 | exact .h2 | exact .h3 | exact .h4 | exact .h5 | exact .h6 | exact .h7 | exact .h8 | exact .h9 | exact .h10 | exact .h11 | exact .h12 | exact .h13 | exact .h14)).sub (by repeat (first | with_reducible exact List.nil_sublist _ | with_reducible exact List.Sublist.refl _ | with_reducible refine List.Sublist.cons₂ _ ?_ | with_reducible refine List.Sublist.cons _ ?_))), rfl, Nat.zero_le _, rfl⟩
        ·
          rintro q2 f w ⟨m, vw2, ys, hfit, hS, hpk, hm0, hmm⟩
          refine WC.fits _ hfit (fun g => ?_)
          clear hfit
          refine WC.seq (fun K14 hK14 => ?_)
          refine WC.seq (fun K15 hK15 => ?_)
          refine WC.region ?_
          refine WL.op rfl (opW.moveI rfl ?_)
          refine WL.op rfl (opW.moveV (v := v) rfl ?_)
          refine WL.op rfl (opW.moveI rfl ?_)
          refine WL.op rfl (opW.idxV rfl ((hx.bel hS.old)) rfl (by omega) ?_)
          refine WL.op rfl (opW.fieldAddr rfl ((hx.bel hS.old).isP hkl) ?_)
          refine WL.op rfl (opW.loadV rfl (Ld.pt1 ((hx.bel hS.old).isPt hkl) 32 (Lookup.at_writes _)) ?_)
          refine WL.op rfl (opW.lenV rfl ((hlw.bel hS.old)) ?_)
          refine WL.op rfl (opW.lss rfl rfl ?_)
          refine WL.nil ?_
          refine thenQ_n (hK15 _ _ ?_)
          refine WC.cond _ rfl (fun hc2 => ?_) (fun hc2 => ?_)
          ·
            have hr2 := hc2
            try simp only [decide_eq_true_eq, decide_eq_false_iff_not, Bool.and_eq_true, Bool.or_eq_true, Bool.and_eq_false_iff, Bool.or_eq_false_iff, Bool.not_eq_true', Bool.not_eq_false', Int.not_lt, Int.not_le] at hc2
            have hml : m < ls[k].ws.length := by omega
            have hyl := pick_len _ _ _ hpk
            have hwl := hlw.le
            simp only [maxLen] at hwl
            have hub := u8_lt ls[k].ws[m]
            simp only [List.length_take] at hyl
            refine WC.skip ?_
            refine thenQ_n (hK14 _ _ ?_)
            refine WC.seq (fun K16 hK16 => ?_)
            refine WC.block ?_
            refine WC.seq (fun K17 hK17 => ?_)
            refine WC.seq (fun K18 hK18 => ?_)
            refine WC.region ?_
            refine WL.op rfl (opW.moveV (v := v) rfl ?_)
            refine WL.op rfl (opW.moveI rfl ?_)
            refine WL.op rfl (opW.idxV rfl ((hx.bel hS.old)) rfl (by omega) ?_)
            refine WL.op rfl (opW.fieldAddr rfl ((hx.bel hS.old).isP hkl) ?_)
            refine WL.op rfl (opW.loadV rfl (Ld.pt1 ((hx.bel hS.old).isPt hkl) 32 (Lookup.at_writes _)) ?_)
            refine WL.op rfl (opW.moveI rfl ?_)
            refine WL.op rfl (opW.idxV rfl ((hlw.bel hS.old)) rfl (by omega) ?_)
            refine WL.op rfl (opW.loadV rfl (((hlw.bel hS.old).isPt hml).ld rfl) ?_)
            refine WL.op rfl (opW.conv rfl (wrap_i64 (by omega)) ?_)
            refine WL.op rfl (opW.moveV (v := v27) rfl ?_)
            refine WL.op rfl (opW.lenV rfl ((hS.sl (v := v27) (xs := l27) (by first | exact .h0 | exact .h1 | exact .h2 | exact .h3 | exact .h4 | exact .h5 | exact .h6 | exact .h7 | exact .h8 | exact .h9 | exact .h10 | exact .h11 | exact .h12 | exact .h13 | exact .h14))) ?_)
            refine WL.op rfl (opW.geq rfl rfl ?_)
            refine WL.nil ?_
            refine thenQ_n (hK18 _ _ ?_)
            refine WC.cond _ rfl (fun hc3 => ?_) (fun hc3 => ?_)
            ·
              have hr3 := hc3
              try simp only [decide_eq_true_eq, decide_eq_false_iff_not, Bool.and_eq_true, Bool.or_eq_true, Bool.and_eq_false_iff, Bool.or_eq_false_iff, Bool.not_eq_true', Bool.not_eq_false', Int.not_lt, Int.not_le] at hc3
              refine WC.seq (fun K19 hK19 => ?_)
              refine WC.region ?_
              refine WL.op rfl (opW.assignV (v := .slice none 0 0) rfl ?_)
              refine WL.op rfl (opW.assignV (v := .slice none 0 0) rfl ?_)
              refine WL.op rfl (opW.assignI rfl ?_)
              refine WL.nil ?_
              refine thenQ_n (hK19 _ _ ?_)
              refine WC.ret ?_
              refine thenQ_r ?_
              refine blockQ_r ?_
              refine thenQ_r ?_
              refine thenQ_r ?_
              refine blockQ_r ?_
              refine thenQ_r ?_
              refine blockQ_r ?_
              refine thenQ_r ?_
              refine thenQ_r ?_
              refine blockQ_r ?_
              refine thenQ_r ?_
              refine bodyQ_ret (.tmpV (v := .slice none 0 0) rfl (.tmpV (v := .slice none 0 0) rfl (.tmpI rfl .nil))) ?_
              refine ⟨_, _, _, [], [], rfl, ((hS.sub (S' := []) (List.nil_sublist _)).nilOwn 36).nilOwn 36, .inr ⟨?_, by decide, rfl, rfl⟩⟩
              rw [show ls = ls.take k ++ ls.drop k from (List.take_append_drop _ _).symm, resF_append, hres, List.drop_eq_getElem_cons hkm]
              simp only [resF]
              rw [hfd]
              simp only [pick_fail (l := l27) hml (by omega)]
            ·
              have hr3 := hc3
              try simp only [decide_eq_true_eq, decide_eq_false_iff_not, Bool.and_eq_true, Bool.or_eq_true, Bool.and_eq_false_iff, Bool.or_eq_false_iff, Bool.not_eq_true', Bool.not_eq_false', Int.not_lt, Int.not_le] at hc3
              have hjb : ls[k].ws[m].toNat < l27.length := by omega
              refine WC.skip ?_
              refine thenQ_n (hK17 _ _ ?_)
              refine WC.region ?_
              refine WL.op rfl (opW.moveV (v := vw2) rfl ?_)
              refine WL.op rfl (opW.moveV (v := v27) rfl ?_)
              refine WL.op rfl (opW.moveV (v := v) rfl ?_)
              refine WL.op rfl (opW.moveI rfl ?_)
              refine WL.op rfl (opW.idxV rfl ((hx.bel hS.old)) rfl (by omega) ?_)
              refine WL.op rfl (opW.fieldAddr rfl ((hx.bel hS.old).isP hkl) ?_)
              refine WL.op rfl (opW.loadV rfl (Ld.pt1 ((hx.bel hS.old).isPt hkl) 32 (Lookup.at_writes _)) ?_)
              refine WL.op rfl (opW.moveI rfl ?_)
              refine WL.op rfl (opW.idxV rfl ((hlw.bel hS.old)) rfl (by omega) ?_)
              refine WL.op rfl (opW.loadV rfl (((hlw.bel hS.old).isPt hml).ld rfl) ?_)
              refine WL.op rfl (opW.idxV rfl ((hS.sl (v := v27) (xs := l27) (by first | exact .h0 | exact .h1 | exact .h2 | exact .h3 | exact .h4 | exact .h5 | exact .h6 | exact .h7 | exact .h8 | exact .h9 | exact .h10 | exact .h11 | exact .h12 | exact .h13 | exact .h14))) rfl (by omega) ?_)
              refine WL.op rfl (opW.loadV rfl (((hS.sl (v := v27) (xs := l27) (by first | exact .h0 | exact .h1 | exact .h2 | exact .h3 | exact .h4 | exact .h5 | exact .h6 | exact .h7 | exact .h8 | exact .h9 | exact .h10 | exact .h11 | exact .h12 | exact .h13 | exact .h14)).isPt hjb).ldA (Enc.size_eq l27[ls[k].ws[m].toNat])) ?_)
              refine WL.op rfl (opW.buildSl hS (([l27[ls[k].ws[m].toNat]] : List Key)) [.agg (Enc.enc l27[ls[k].ws[m].toNat])] rfl rfl rfl rfl (by decide) ?_)
              intro b67 w hw hS
              refine WL.op rfl (opW.appendOwn (α := Vector UInt8 32) rfl hS rfl (by first | exact .h0 | exact .h1 | exact .h2 | exact .h3 | exact .h4 | exact .h5 | exact .h6 | exact .h7 | exact .h8 | exact .h9 | exact .h10 | exact .h11 | exact .h12 | exact .h13 | exact .h14) (hS.sl (xs := ([l27[ls[k].ws[m].toNat]] : List Key)) (by first | exact .h0 | exact .h1 | exact .h2 | exact .h3 | exact .h4 | exact .h5 | exact .h6 | exact .h7 | exact .h8 | exact .h9 | exact .h10 | exact .h11 | exact .h12 | exact .h13 | exact .h14)) (by simp only [List.length_append, List.length_cons, List.length_nil]; omega) (by simp only [maxLen]; simp only [List.length_append, List.length_cons, List.length_nil]; omega) ?_)
              intro v68 w hS; replace hS := hS _ (by first | exact .h0 | exact .h1 | exact .h2 | exact .h3 | exact .h4 | exact .h5 | exact .h6 | exact .h7 | exact .h8 | exact .h9 | exact .h10 | exact .h11 | exact .h12 | exact .h13 | exact .h14)
              refine WL.op rfl (opW.assignV (v := v68) rfl ?_)
              refine WL.nil ?_
              refine blockQ_n ?_
              refine thenQ_n (hK16 _ _ ?_)
              refine WC.region ?_
              refine WL.op rfl (opW.moveI rfl ?_)
              refine WL.op rfl (opW.add rfl rfl (wrap_i64 (by omega)) ?_)
              refine WL.op rfl (opW.assignI rfl ?_)
              refine WL.nil ?_
              refine thenQ_n ?_
              exact ⟨ls[k].ws.length - (m + 1), by omega, m + 1, v68, _, ⟨rfl, rfl, rfl, rfl, rfl, rfl, congrArg (Value.int .i64) (by omega), trivial⟩, (by rw [List.append_assoc] at hS; exact hS.sub (by repeat (first | with_reducible exact List.nil_sublist _ | with_reducible exact List.Sublist.refl _ | with_reducible refine List.Sublist.cons₂ _ ?_ | with_reducible refine List.Sublist.cons _ ?_))), pick_step hml hpk hjb, by omega, rfl⟩
          ·
            have hr2 := hc2
            try simp only [decide_eq_true_eq, decide_eq_false_iff_not, Bool.and_eq_true, Bool.or_eq_true, Bool.and_eq_false_iff, Bool.or_eq_false_iff, Bool.not_eq_true', Bool.not_eq_false', Int.not_lt, Int.not_le] at hc2
            obtain rfl : m = ls[k].ws.length := by omega
            rw [List.take_length] at hpk
            have hyl := pick_len _ _ _ hpk
            refine WC.exit ?_
            refine thenQ_e ?_
            refine thenQ_e ?_
            refine blockQ_hit ?_
            refine thenQ_n (hK12 _ _ ?_)
            refine WC.seq (fun K20 hK20 => ?_)
            refine WC.region ?_
            refine WL.op rfl (opW.assignI rfl ?_)
            refine WL.nil ?_
            refine thenQ_n (hK20 _ _ ?_)
            refine WC.block ?_
            refine WC.loop (fun q3 f w => ∃ (m : Nat) (vr2 : Value) (zs : List Key), Fits [(0, .pointer (some ⟨p, 0, none⟩)), (1, v), (7, vw2), (8, vr2), (9, .int .i64 (k : Int)), (10, v27), (13, .int .i64 (m : Int))] f ∧ St w0 [ownE vw2 36 (W ++ ys), ownE vr2 36 (Rd ++ zs), ownE v27 36 l27] w ∧ pick l27 (ls[k].rs.take m) = some zs ∧ m ≤ ls[k].rs.length ∧ q3 = ls[k].rs.length - m) (ls[k].rs.length) ?_ ?_
            ·
              exact ⟨0, vr, [], ⟨rfl, rfl, rfl, rfl, rfl, rfl, rfl, trivial⟩, (by rw [List.append_nil]; exact ((hS.pick (e := ownE vr 36 Rd) (by first | exact .h0 | exact .h1 | exact .h2 | exact .h3 | exact .h4 | exact .h5 | exact .h6 | exact .h7 | exact .h8 | exact .h9 | exact .h10 | exact .h11 | exact .h12 | exact .h13 | exact .h14)).pick (e := ownE vw2 36 (W ++ ys)) (by first | exact .h0 | exact .h1 | exact .h2 | exact .h3 | exact .h4 | exact .h5 | exact .h6 | exact .h7 | exact .h8 | exact .h9 | exact .h10 | exact .h11 | exact .h12 | exact .h13 | exact .h14)).sub (by repeat (first | with_reducible exact List.nil_sublist _ | with_reducible exact List.Sublist.refl _ | with_reducible refine List.Sublist.cons₂ _ ?_ | with_reducible refine List.Sublist.cons _ ?_))), rfl, Nat.zero_le _, rfl⟩
            ·
              rintro q3 f w ⟨m, vr2, zs, hfit, hS, hpr, hm0, hmm⟩
              refine WC.fits _ hfit (fun g => ?_)
              clear hfit
              refine WC.seq (fun K21 hK21 => ?_)
              refine WC.seq (fun K22 hK22 => ?_)
              refine WC.region ?_
              refine WL.op rfl (opW.moveI rfl ?_)
              refine WL.op rfl (opW.moveV (v := v) rfl ?_)
              refine WL.op rfl (opW.moveI rfl ?_)
              refine WL.op rfl (opW.idxV rfl ((hx.bel hS.old)) rfl (by omega) ?_)
              refine WL.op rfl (opW.fieldAddr rfl ((hx.bel hS.old).isP hkl) ?_)
              refine WL.op rfl (opW.loadV rfl (Ld.pt1 ((hx.bel hS.old).isPt hkl) 33 (Lookup.at_reads _)) ?_)
              refine WL.op rfl (opW.lenV rfl ((hlr.bel hS.old)) ?_)
              refine WL.op rfl (opW.lss rfl rfl ?_)
              refine WL.nil ?_
              refine thenQ_n (hK22 _ _ ?_)
              refine WC.cond _ rfl (fun hc4 => ?_) (fun hc4 => ?_)
              ·
                have hr4 := hc4
                try simp only [decide_eq_true_eq, decide_eq_false_iff_not, Bool.and_eq_true, Bool.or_eq_true, Bool.and_eq_false_iff, Bool.or_eq_false_iff, Bool.not_eq_true', Bool.not_eq_false', Int.not_lt, Int.not_le] at hc4
                have hml : m < ls[k].rs.length := by omega
                have hzl := pick_len _ _ _ hpr
                have hwl := hlr.le
                simp only [maxLen] at hwl
                have hub := u8_lt ls[k].rs[m]
                simp only [List.length_take] at hzl
                refine WC.skip ?_
                refine thenQ_n (hK21 _ _ ?_)
                refine WC.seq (fun K23 hK23 => ?_)
                refine WC.block ?_
                refine WC.seq (fun K24 hK24 => ?_)
                refine WC.seq (fun K25 hK25 => ?_)
                refine WC.region ?_
                refine WL.op rfl (opW.moveV (v := v) rfl ?_)
                refine WL.op rfl (opW.moveI rfl ?_)
                refine WL.op rfl (opW.idxV rfl ((hx.bel hS.old)) rfl (by omega) ?_)
                refine WL.op rfl (opW.fieldAddr rfl ((hx.bel hS.old).isP hkl) ?_)
                refine WL.op rfl (opW.loadV rfl (Ld.pt1 ((hx.bel hS.old).isPt hkl) 33 (Lookup.at_reads _)) ?_)
                refine WL.op rfl (opW.moveI rfl ?_)
                refine WL.op rfl (opW.idxV rfl ((hlr.bel hS.old)) rfl (by omega) ?_)
                refine WL.op rfl (opW.loadV rfl (((hlr.bel hS.old).isPt hml).ld rfl) ?_)
                refine WL.op rfl (opW.conv rfl (wrap_i64 (by omega)) ?_)
                refine WL.op rfl (opW.moveV (v := v27) rfl ?_)
                refine WL.op rfl (opW.lenV rfl ((hS.sl (v := v27) (xs := l27) (by first | exact .h0 | exact .h1 | exact .h2 | exact .h3 | exact .h4 | exact .h5 | exact .h6 | exact .h7 | exact .h8 | exact .h9 | exact .h10 | exact .h11 | exact .h12 | exact .h13 | exact .h14))) ?_)
                refine WL.op rfl (opW.geq rfl rfl ?_)
                refine WL.nil ?_
                refine thenQ_n (hK25 _ _ ?_)
                refine WC.cond _ rfl (fun hc5 => ?_) (fun hc5 => ?_)
                ·
                  have hr5 := hc5
                  try simp only [decide_eq_true_eq, decide_eq_false_iff_not, Bool.and_eq_true, Bool.or_eq_true, Bool.and_eq_false_iff, Bool.or_eq_false_iff, Bool.not_eq_true', Bool.not_eq_false', Int.not_lt, Int.not_le] at hc5
                  refine WC.seq (fun K26 hK26 => ?_)
                  refine WC.region ?_
                  refine WL.op rfl (opW.assignV (v := .slice none 0 0) rfl ?_)
                  refine WL.op rfl (opW.assignV (v := .slice none 0 0) rfl ?_)
                  refine WL.op rfl (opW.assignI rfl ?_)
                  refine WL.nil ?_
                  refine thenQ_n (hK26 _ _ ?_)
                  refine WC.ret ?_
                  refine thenQ_r ?_
                  refine blockQ_r ?_
                  refine thenQ_r ?_
                  refine thenQ_r ?_
                  refine blockQ_r ?_
                  refine blockQ_r ?_
                  refine thenQ_r ?_
                  refine thenQ_r ?_
                  refine blockQ_r ?_
                  refine thenQ_r ?_
                  refine bodyQ_ret (.tmpV (v := .slice none 0 0) rfl (.tmpV (v := .slice none 0 0) rfl (.tmpI rfl .nil))) ?_
                  refine ⟨_, _, _, [], [], rfl, ((hS.sub (S' := []) (List.nil_sublist _)).nilOwn 36).nilOwn 36, .inr ⟨?_, by decide, rfl, rfl⟩⟩
                  rw [show ls = ls.take k ++ ls.drop k from (List.take_append_drop _ _).symm, resF_append, hres, List.drop_eq_getElem_cons hkm]
                  simp only [resF]
                  rw [hfd]
                  simp only [hpk, pick_fail (l := l27) hml (by omega)]
                ·
                  have hr5 := hc5
                  try simp only [decide_eq_true_eq, decide_eq_false_iff_not, Bool.and_eq_true, Bool.or_eq_true, Bool.and_eq_false_iff, Bool.or_eq_false_iff, Bool.not_eq_true', Bool.not_eq_false', Int.not_lt, Int.not_le] at hc5
                  have hjb : ls[k].rs[m].toNat < l27.length := by omega
                  refine WC.skip ?_
                  refine thenQ_n (hK24 _ _ ?_)
                  refine WC.region ?_
                  refine WL.op rfl (opW.moveV (v := vr2) rfl ?_)
                  refine WL.op rfl (opW.moveV (v := v27) rfl ?_)
                  refine WL.op rfl (opW.moveV (v := v) rfl ?_)
                  refine WL.op rfl (opW.moveI rfl ?_)
                  refine WL.op rfl (opW.idxV rfl ((hx.bel hS.old)) rfl (by omega) ?_)
                  refine WL.op rfl (opW.fieldAddr rfl ((hx.bel hS.old).isP hkl) ?_)
                  refine WL.op rfl (opW.loadV rfl (Ld.pt1 ((hx.bel hS.old).isPt hkl) 33 (Lookup.at_reads _)) ?_)
                  refine WL.op rfl (opW.moveI rfl ?_)
                  refine WL.op rfl (opW.idxV rfl ((hlr.bel hS.old)) rfl (by omega) ?_)
                  refine WL.op rfl (opW.loadV rfl (((hlr.bel hS.old).isPt hml).ld rfl) ?_)
                  refine WL.op rfl (opW.idxV rfl ((hS.sl (v := v27) (xs := l27) (by first | exact .h0 | exact .h1 | exact .h2 | exact .h3 | exact .h4 | exact .h5 | exact .h6 | exact .h7 | exact .h8 | exact .h9 | exact .h10 | exact .h11 | exact .h12 | exact .h13 | exact .h14))) rfl (by omega) ?_)
                  refine WL.op rfl (opW.loadV rfl (((hS.sl (v := v27) (xs := l27) (by first | exact .h0 | exact .h1 | exact .h2 | exact .h3 | exact .h4 | exact .h5 | exact .h6 | exact .h7 | exact .h8 | exact .h9 | exact .h10 | exact .h11 | exact .h12 | exact .h13 | exact .h14)).isPt hjb).ldA (Enc.size_eq l27[ls[k].rs[m].toNat])) ?_)
                  refine WL.op rfl (opW.buildSl hS (([l27[ls[k].rs[m].toNat]] : List Key)) [.agg (Enc.enc l27[ls[k].rs[m].toNat])] rfl rfl rfl rfl (by decide) ?_)
                  intro b103 w hw hS
                  refine WL.op rfl (opW.appendOwn (α := Vector UInt8 32) rfl hS rfl (by first | exact .h0 | exact .h1 | exact .h2 | exact .h3 | exact .h4 | exact .h5 | exact .h6 | exact .h7 | exact .h8 | exact .h9 | exact .h10 | exact .h11 | exact .h12 | exact .h13 | exact .h14) (hS.sl (xs := ([l27[ls[k].rs[m].toNat]] : List Key)) (by first | exact .h0 | exact .h1 | exact .h2 | exact .h3 | exact .h4 | exact .h5 | exact .h6 | exact .h7 | exact .h8 | exact .h9 | exact .h10 | exact .h11 | exact .h12 | exact .h13 | exact .h14)) (by simp only [List.length_append, List.length_cons, List.length_nil]; omega) (by simp only [maxLen]; simp only [List.length_append, List.length_cons, List.length_nil]; omega) ?_)
                  intro v104 w hS; replace hS := hS _ (by first | exact .h0 | exact .h1 | exact .h2 | exact .h3 | exact .h4 | exact .h5 | exact .h6 | exact .h7 | exact .h8 | exact .h9 | exact .h10 | exact .h11 | exact .h12 | exact .h13 | exact .h14)
                  refine WL.op rfl (opW.assignV (v := v104) rfl ?_)
                  refine WL.nil ?_
                  refine blockQ_n ?_
                  refine thenQ_n (hK23 _ _ ?_)
                  refine WC.region ?_
                  refine WL.op rfl (opW.moveI rfl ?_)
                  refine WL.op rfl (opW.add rfl rfl (wrap_i64 (by omega)) ?_)
                  refine WL.op rfl (opW.assignI rfl ?_)
                  refine WL.nil ?_
                  refine thenQ_n ?_
                  exact ⟨ls[k].rs.length - (m + 1), by omega, m + 1, v104, _, ⟨rfl, rfl, rfl, rfl, rfl, rfl, congrArg (Value.int .i64) (by omega), trivial⟩, (by rw [List.append_assoc] at hS; exact hS.sub (by repeat (first | with_reducible exact List.nil_sublist _ | with_reducible exact List.Sublist.refl _ | with_reducible refine List.Sublist.cons₂ _ ?_ | with_reducible refine List.Sublist.cons _ ?_))), pick_step hml hpr hjb, by omega, rfl⟩
              ·
                have hr4 := hc4
                try simp only [decide_eq_true_eq, decide_eq_false_iff_not, Bool.and_eq_true, Bool.or_eq_true, Bool.and_eq_false_iff, Bool.or_eq_false_iff, Bool.not_eq_true', Bool.not_eq_false', Int.not_lt, Int.not_le] at hc4
                obtain rfl : m = ls[k].rs.length := by omega
                rw [List.take_length] at hpr
                have hst2 : resF (rfind d.l) (ls.take (k + 1)) = .ok (W ++ ys) (Rd ++ zs) := by
                  rw [List.take_succ_eq_append_getElem hkm, resF_append, hres]
                  simp only [resF]
                  rw [hfd]
                  simp only [hpk, hpr, List.append_nil]
                refine WC.exit ?_
                refine thenQ_e ?_
                refine thenQ_e ?_
                refine blockQ_hit ?_
                refine blockQ_n ?_
                refine thenQ_n (hK7 _ _ ?_)
                refine WC.region ?_
                refine WL.op rfl (opW.moveI rfl ?_)
                refine WL.op rfl (opW.add rfl rfl (wrap_i64 (by omega)) ?_)
                refine WL.op rfl (opW.assignI rfl ?_)
                refine WL.nil ?_
                refine thenQ_n ?_
                exact ⟨xs.length - (k + 1), by omega, k + 1, vw2, vr2, _, _, ⟨rfl, rfl, rfl, rfl, congrArg (Value.int .i64) (by omega), trivial⟩, hS.sub (by repeat (first | with_reducible exact List.nil_sublist _ | with_reducible exact List.Sublist.refl _ | with_reducible refine List.Sublist.cons₂ _ ?_ | with_reducible refine List.Sublist.cons _ ?_)), hst2, by omega, rfl⟩
    ·
      have hr0 := hc0
      try simp only [decide_eq_true_eq, decide_eq_false_iff_not, Bool.and_eq_true, Bool.or_eq_true, Bool.and_eq_false_iff, Bool.or_eq_false_iff, Bool.not_eq_true', Bool.not_eq_false', Int.not_lt, Int.not_le] at hc0
      have hkk : k = xs.length := by omega
      rw [List.take_of_length_le (by rw [hls.len]; omega)] at hres
      refine WC.exit ?_
      refine thenQ_e ?_
      refine thenQ_e ?_
      refine blockQ_hit ?_
      refine thenQ_n (hK3 _ _ ?_)
      refine WC.seq (fun K27 hK27 => ?_)
      refine WC.region ?_
      refine WL.op rfl (opW.moveV (v := vw) rfl ?_)
      refine WL.op rfl (opW.moveV (v := vr) rfl ?_)
      refine WL.op rfl (opW.assignV (v := vw) rfl ?_)
      refine WL.op rfl (opW.assignV (v := vr) rfl ?_)
      refine WL.op rfl (opW.assignI rfl ?_)
      refine WL.nil ?_
      refine thenQ_n (hK27 _ _ ?_)
      refine WC.ret ?_
      refine bodyQ_ret (.tmpV (v := vw) rfl (.tmpV (v := vr) rfl (.tmpI rfl .nil))) ?_
      exact ⟨_, _, _, W, Rd, rfl, hS, .inl ⟨hres, rfl⟩⟩

end Go.Fer
