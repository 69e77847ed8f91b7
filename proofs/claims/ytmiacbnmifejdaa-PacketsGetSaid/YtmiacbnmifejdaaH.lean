/- a message put -/
import Derived.Test.YtmiacbnmifejdaaC
import Derived.Test.YtmiacbnmifejdaaWords
set_option linter.all false
namespace Go.Fer
open Go Go.Proofs Go.RowKit

theorem SlR.ofPt {w : World} {b o n : Nat} {v : Vector UInt8 (n + 1)} (h : Pt w (.pointer (some ⟨b, o, none⟩)) (Enc.enc v)) (hn : n + 1 ≤ maxLen) : SlR w (.slice (some ⟨b, o, none⟩) (n + 1) (n + 1)) v.toList := by
  obtain ⟨b', o', hp, hc⟩ := h
  cases hp
  refine ⟨some ⟨b, o, none⟩, n + 1, by simp, by simp, hn, by simp, fun ad had _ => ?_⟩
  cases had
  refine ⟨rfl, fun j u hu => ?_⟩
  refine hc j u ?_
  rw [← Array.getElem?_toList, enc_vec_flat]
  exact hu
theorem Pt.part {w : World} {b off o : Nat} {cs c : Array Value} (h : Pt w (.pointer (some ⟨b, off, none⟩)) cs) (hc : cs.extract o (o + c.size) = c) : Pt w (.pointer (some ⟨b, off + o, none⟩)) c := by
  obtain ⟨b', o', hp, hx⟩ := h
  cases hp
  refine ⟨b, off + o, rfl, fun j u hu => ?_⟩
  have := hx (o + j) u (by
    rw [← hc, Array.getElem?_extract] at hu
    split at hu
    · exact hu
    · cases hu)
  rw [← Nat.add_assoc] at this
  exact this
theorem St.ptO {w0 w : World} {S : List Ent} {b o : Nat} {cs c : Array Value} {E : TypeId} (h : St w0 S w) (he : Has (blkE b cs E) S) (hc : cs.extract o (o + c.size) = c) : Pt w (.pointer (some ⟨b, o, none⟩)) c := by
  obtain ⟨b', o', hp, hx⟩ := h.pt he
  cases hp
  refine ⟨b, o, rfl, fun j u hu => ?_⟩
  have := hx (o + j) u (by
    rw [← hc, Array.getElem?_extract] at hu
    split at hu
    · exact hu
    · cases hu)
  rw [Nat.zero_add] at this
  exact this
/-- an instruction, a lookup as bytes -/
def listB (l : List UInt8) : List UInt8 := shortB l.length ++ l
def putI (x : UInt8 × List UInt8 × List UInt8) : List UInt8 := x.1 :: (listB x.2.1 ++ listB x.2.2)
def putL (x : Vector UInt8 32 × List UInt8 × List UInt8) : List UInt8 := x.1.toList ++ (listB x.2.1 ++ listB x.2.2)
def putH (c : MC) : List UInt8 := (if c.v0 = true then [128] else []) ++ [c.h.signers, c.h.readSigned, c.h.readOther]
def put1 (c : MC) (k : Nat) : List UInt8 := putH c ++ shortB c.keys.length ++ (c.keys.take k).flatMap Vector.toList
def put2 (c : MC) : List UInt8 := put1 c c.keys.length ++ c.recent.toList
def put3 (c : MC) (k : Nat) : List UInt8 := put2 c ++ shortB c.ins.length ++ (c.ins.take k).flatMap putI
def put4 (c : MC) (k : Nat) : List UInt8 := put3 c c.ins.length ++ shortB c.lks.length ++ (c.lks.take k).flatMap putL
/-- a message as bytes -/
def putF (c : MC) : List UInt8 := if c.v0 = true then put4 c c.lks.length else put3 c c.ins.length
theorem fm_step {α β : Type} (g : α → List β) {l : List α} {k : Nat} (hk : k < l.length) : (l.take (k + 1)).flatMap g = (l.take k).flatMap g ++ g l[k] := by
  rw [List.take_succ_eq_append_getElem hk, List.flatMap_append]; simp
theorem fm_key (l : List (Vector UInt8 32)) (k : Nat) : ((l.take k).flatMap Vector.toList).length ≤ 32 * l.length := by
  induction l generalizing k with
  | nil => simp
  | cons x l ih =>
    cases k with
    | zero => simp
    | succ k => have := ih k; simp only [List.take_succ_cons, List.flatMap_cons, List.length_append, List.length_cons, Vector.length_toList] at this ⊢; omega
theorem listB_len (l : List UInt8) : (listB l).length ≤ 3 + l.length := by unfold listB; have := shortB_le l.length; rw [List.length_append]; omega
theorem fm_ins (l : List (UInt8 × List UInt8 × List UInt8)) (k : Nat) : ((l.take k).flatMap putI).length ≤ 7 * l.length + sumB l := by
  induction l generalizing k with
  | nil => simp
  | cons x l ih =>
    cases k with
    | zero => simp
    | succ k =>
      have := ih k; have h1 := listB_len x.2.1; have h2 := listB_len x.2.2
      simp only [List.take_succ_cons, List.flatMap_cons, List.length_append, List.length_cons, putI, sumB, List.map_cons, List.sum_cons] at this ⊢; omega
theorem fm_lks (l : List (Vector UInt8 32 × List UInt8 × List UInt8)) (k : Nat) : ((l.take k).flatMap putL).length ≤ 38 * l.length + sumB l := by
  induction l generalizing k with
  | nil => simp
  | cons x l ih =>
    cases k with
    | zero => simp
    | succ k =>
      have := ih k; have h1 := listB_len x.2.1; have h2 := listB_len x.2.2
      simp only [List.take_succ_cons, List.flatMap_cons, List.length_append, List.length_cons, putL, sumB, List.map_cons, List.sum_cons, Vector.length_toList] at this ⊢; omega
theorem putH_len (c : MC) : (putH c).length ≤ 4 := by unfold putH; split <;> simp
theorem put1_len (c : MC) (k : Nat) : (put1 c k).length ≤ 7 + 32 * c.size := by
  have h1 := putH_len c; have h2 := shortB_le c.keys.length; have h3 := fm_key c.keys k
  unfold put1 MC.size; simp only [List.length_append]; omega
theorem put2_len (c : MC) : (put2 c).length ≤ 39 + 32 * c.size := by
  have h1 := put1_len c c.keys.length
  unfold put2; simp only [List.length_append, Vector.length_toList]; omega
theorem put3_len (c : MC) (k : Nat) : (put3 c k).length ≤ 42 + 40 * c.size := by
  have h1 := put2_len c; have h2 := shortB_le c.ins.length; have h3 := fm_ins c.ins k
  unfold put3; simp only [List.length_append]; unfold MC.size at *; omega
theorem put4_len (c : MC) (k : Nat) : (put4 c k).length ≤ 45 + 80 * c.size := by
  have h1 := put3_len c c.ins.length; have h2 := shortB_le c.lks.length; have h3 := fm_lks c.lks k
  unfold put4; simp only [List.length_append]; unfold MC.size at *; omega
theorem putF_len (c : MC) : (putF c).length ≤ 45 + 80 * c.size := by
  unfold putF; split
  · exact put4_len c _
  · have := put3_len c c.ins.length; omega
theorem longs_le {α : Type} : ∀ (l : List (α × List UInt8 × List UInt8)) (a n : Nat), longs a l ≤ n → a ≤ n ∧ ∀ i (h : i < l.length), l[i].2.1.length ≤ n ∧ l[i].2.2.length ≤ n
  | [], a, n, h => ⟨h, fun i hi => by simp at hi⟩
  | x :: l, a, n, h => by
    obtain ⟨h1, h2⟩ := longs_le l _ n (show longs (max (max a x.2.1.length) x.2.2.length) l ≤ n from h)
    refine ⟨by omega, fun i hi => ?_⟩
    cases i with
    | zero => exact ⟨by simp; omega, by simp; omega⟩
    | succ i => exact h2 i (by simpa using hi)
theorem mayF_lens {c : MC} (h : mayF c = true) : c.keys.length ≤ 65535 ∧ c.ins.length ≤ 65535 ∧ c.lks.length ≤ 65535 ∧ (∀ i (h : i < c.ins.length), c.ins[i].2.1.length ≤ 65535 ∧ c.ins[i].2.2.length ≤ 65535) ∧ ∀ i (h : i < c.lks.length), c.lks[i].2.1.length ≤ 65535 ∧ c.lks[i].2.2.length ≤ 65535 := by
  unfold mayF at h
  rw [Bool.and_eq_true, decide_eq_true_eq] at h
  have h1 := h.1
  unfold longM at h1
  obtain ⟨h2, h3⟩ := longs_le _ _ _ h1
  obtain ⟨h4, h5⟩ := longs_le _ _ _ h2
  exact ⟨by omega, by omega, by omega, h5, h3⟩
theorem mayF_v0 {c : MC} (h : mayF c = true) (hv : c.v0 = false) : c.lks = [] ∧ c.h.signers.toNat < 128 := by
  unfold mayF at h
  rw [hv] at h
  simp at h
  exact ⟨by first | exact h.2.1 | exact List.eq_nil_of_length_eq_zero (by omega), h.2.2⟩

theorem clip_l (w0 : World) (v : Value) (xs : List UInt8) (hx : SlR w0 v xs) : Ret Try.prog 53 #[v] w0 (fun u w' => u = cutV v 0 xs.length xs.length (Enc.sz (UInt8)) ∧ Bel w0 w') := by
  refine Ret.enter (args := [v]) Try.func53 rfl Try.ntmps53 Try.results53 rfl ?_
  have hS := St.start w0
  refine WC.seq (fun K1 hK1 => ?_)
  refine WC.region ?_
  refine WL.op rfl (opW.assignV (v := .slice none 0 0) rfl ?_)
  refine WL.nil ?_
  refine thenQ_n (hK1 _ _ ?_)
  refine WC.seq (fun K2 hK2 => ?_)
  refine WC.region ?_
  refine WL.op rfl (opW.moveV (v := v) rfl ?_)
  refine WL.op rfl (opW.moveV (v := v) rfl ?_)
  refine WL.op rfl (opW.lenV rfl ((hx.bel hS.old)) ?_)
  refine WL.op rfl (opW.moveV (v := v) rfl ?_)
  refine WL.op rfl (opW.lenV rfl ((hx.bel hS.old)) ?_)
  refine WL.op rfl (opW.cutS (hx.bel hS.old) ⟨⟨_, rfl⟩, hx.cap⟩ ⟨⟨_, rfl⟩, Nat.le_refl _⟩ ⟨rfl, Nat.zero_le _⟩ ?_)
  refine WL.op rfl (opW.assignV rfl ?_)
  refine WL.nil ?_
  refine thenQ_n (hK2 _ _ ?_)
  refine WC.ret ?_
  refine bodyQ_ret (.tmp .nil) ?_
  exact ⟨rfl, hS.old⟩

set_option maxRecDepth 20000 in
set_option maxHeartbeats 4000000 in
theorem put_ok (w0 : World) (m : Message) (c : MC) (ins : List Instr) (lks : List Lookup) (hc : IsM w0 m c ins lks) (hsz0 : c.size ≤ 100000) : Ret Try.prog 25 #[.agg (Enc.enc m)] w0 (fun u w' => ∃ v e, u = .tuple #[v, .int .i64 e] ∧ ((mayF c = false ∧ v = .slice none 0 0 ∧ e = 1) ∨ (mayF c = true ∧ New w0 w' v 5 (putF c) ∧ e = 0)) ∧ Bel w0 w') := by
  refine Ret.enter (args := [.agg (Enc.enc m)]) Try.func25 rfl Try.ntmps25 Try.results25 rfl ?_
  have hS := St.start w0
  refine WC.seq (fun K1 hK1 => ?_)
  refine WC.region ?_
  refine WL.op rfl (opW.boxA hS rfl ?_)
  intro b1 w _ hS
  refine WL.op rfl (opW.assignV (v := .slice none 0 0) rfl ?_)
  refine WL.op rfl (opW.assignI rfl ?_)
  refine WL.nil ?_
  refine thenQ_n (hK1 _ _ ?_)
  refine WC.seq (fun K2 hK2 => ?_)
  refine WC.seq (fun K3 hK3 => ?_)
  refine WC.region ?_
  refine WL.op rfl (opW.loadV rfl (hS.ldA (cs := Enc.enc m) (by first | exact .h0 | exact .h1 | exact .h2 | exact .h3 | exact .h4 | exact .h5 | exact .h6 | exact .h7 | exact .h8 | exact .h9 | exact .h10 | exact .h11 | exact .h12 | exact .h13 | exact .h14) (by exact Enc.size_eq _)) ?_)
  refine WL.op rfl (opW.call (may_ok _ m c ins lks (hc.bel hS.old)) rfl ?_)
  rintro _ w ⟨rfl, hw⟩; replace hS := hS.bel hw
  refine WL.op rfl (opW.not rfl ?_)
  refine WL.nil ?_
  refine thenQ_n (hK3 _ _ ?_)
  refine WC.cond _ rfl (fun hc0 => ?_) (fun hc0 => ?_)
  ·
    have hr0 := hc0
    try simp only [decide_eq_true_eq, decide_eq_false_iff_not, Bool.and_eq_true, Bool.or_eq_true, Bool.and_eq_false_iff, Bool.or_eq_false_iff, Bool.not_eq_true', Bool.not_eq_false', Int.not_lt, Int.not_le] at hc0
    have hmay : mayF c = false := by simpa using hr0
    refine WC.seq (fun K4 hK4 => ?_)
    refine WC.region ?_
    refine WL.op rfl (opW.assignV (v := .slice none 0 0) rfl ?_)
    refine WL.op rfl (opW.assignI rfl ?_)
    refine WL.nil ?_
    refine thenQ_n (hK4 _ _ ?_)
    refine WC.ret ?_
    refine thenQ_r ?_
    refine bodyQ_ret (.tmpV (v := .slice none 0 0) rfl (.tmpI rfl .nil)) ?_
    exact ⟨_, _, rfl, .inl ⟨hmay, rfl, rfl⟩, hS.old⟩
  ·
    have hr0 := hc0
    try simp only [decide_eq_true_eq, decide_eq_false_iff_not, Bool.and_eq_true, Bool.or_eq_true, Bool.and_eq_false_iff, Bool.or_eq_false_iff, Bool.not_eq_true', Bool.not_eq_false', Int.not_lt, Int.not_le] at hc0
    have hmay : mayF c = true := by simpa using hr0
    obtain ⟨hkl, hil, hll, hie, hle⟩ := mayF_lens hmay
    have hki := hc.ii.1
    have hkl2 := hc.ll.1
    refine WC.skip ?_
    refine thenQ_n (hK2 _ _ ?_)
    refine WC.seq (fun K5 hK5 => ?_)
    refine WC.region ?_
    refine WL.op rfl (opW.alloc1 hS rfl ?_)
    intro b4 w _ hS
    obtain ⟨s, hs0⟩ : ∃ s : SlV, s.v = .slice none 0 0 := ⟨⟨none, 0, 0⟩, rfl⟩
    replace hS := hS.nilOwn (α := UInt8) 5
    rw [← hs0] at hS
    replace hS := hS.pick (e := blkE b4 #[s.v] 87) (by first | exact .h0 | exact .h1 | exact .h2 | exact .h3 | exact .h4 | exact .h5 | exact .h6 | exact .h7 | exact .h8 | exact .h9 | exact .h10 | exact .h11 | exact .h12 | exact .h13 | exact .h14)
    refine WL.nil ?_
    refine thenQ_n (hK5 _ _ ?_)
    refine WC.mid (fun f w => ∃ s : SlV, Fits [(1, .pointer (some ⟨b1, 0, none⟩)), (4, .pointer (some ⟨b4, 0, none⟩))] f ∧ St w0 [blkE b4 #[s.v] 87, ownE s.v 5 ((if c.v0 = true then ([128] : List UInt8) else [])), blkE b1 (Enc.enc m) 31] w) ?_ ?_
    ·
      refine WC.seq (fun K6 hK6 => ?_)
      refine WC.region ?_
      refine WL.op rfl (opW.fieldAddrB rfl ?_)
      refine WL.op rfl (opW.loadV rfl (hS.ld1 (by first | exact .h0 | exact .h1 | exact .h2 | exact .h3 | exact .h4 | exact .h5 | exact .h6 | exact .h7 | exact .h8 | exact .h9 | exact .h10 | exact .h11 | exact .h12 | exact .h13 | exact .h14) (Message.at_v0 m)) ?_)
      refine WL.nil ?_
      refine thenQ_n (hK6 _ _ ?_)
      refine WC.cond _ rfl (fun hc1 => ?_) (fun hc1 => ?_)
      ·
        have hr1 := hc1
        try simp only [decide_eq_true_eq, decide_eq_false_iff_not, Bool.and_eq_true, Bool.or_eq_true, Bool.and_eq_false_iff, Bool.or_eq_false_iff, Bool.not_eq_true', Bool.not_eq_false', Int.not_lt, Int.not_le] at hc1
        have hv0 : c.v0 = true := by rw [← hc.v0]; exact hr1
        refine WC.region ?_
        refine WL.op rfl (opW.loadV rfl (hS.ld1 (by first | exact .h0 | exact .h1 | exact .h2 | exact .h3 | exact .h4 | exact .h5 | exact .h6 | exact .h7 | exact .h8 | exact .h9 | exact .h10 | exact .h11 | exact .h12 | exact .h13 | exact .h14) (cs := #[s.v]) (o := 0) rfl) ?_)
        refine WL.op rfl (opW.buildSl hS (([128] : List UInt8)) [.int .u8 128] rfl rfl rfl rfl (by decide) ?_)
        intro b17 w hw hS
        refine WL.op rfl (opW.appendOwn (α := UInt8) (v := s.v) (xs := ([] : List UInt8)) rfl hS rfl (by first | exact .h0 | exact .h1 | exact .h2 | exact .h3 | exact .h4 | exact .h5 | exact .h6 | exact .h7 | exact .h8 | exact .h9 | exact .h10 | exact .h11 | exact .h12 | exact .h13 | exact .h14) (hS.sl (v := .slice (some ⟨b17, 0, none⟩) 1 1) (xs := ([128] : List UInt8)) (by first | exact .h0 | exact .h1 | exact .h2 | exact .h3 | exact .h4 | exact .h5 | exact .h6 | exact .h7 | exact .h8 | exact .h9 | exact .h10 | exact .h11 | exact .h12 | exact .h13 | exact .h14)) (by simp only [List.length_cons, List.length_nil, Vector.length_toList]; omega) (by simp only [List.length_cons, List.length_nil, Vector.length_toList, maxLen]; omega) ?_)
        intro v18 w hS; replace hS := hS _ (by first | exact .h0 | exact .h1 | exact .h2 | exact .h3 | exact .h4 | exact .h5 | exact .h6 | exact .h7 | exact .h8 | exact .h9 | exact .h10 | exact .h11 | exact .h12 | exact .h13 | exact .h14)
        obtain ⟨s18, rfl⟩ := (hS.sl (v := v18) (xs := ([] : List UInt8) ++ [128]) (by first | exact .h0 | exact .h1 | exact .h2 | exact .h3 | exact .h4 | exact .h5 | exact .h6 | exact .h7 | exact .h8 | exact .h9 | exact .h10 | exact .h11 | exact .h12 | exact .h13 | exact .h14)).asV
        refine WL.op0 (opW.storeF (b := b4) (o := 0) (v := s18.v) (sz := 1) (cs := #[s.v]) (cs' := #[s18.v]) hS rfl rfl (by first | exact .h0 | exact .h1 | exact .h2 | exact .h3 | exact .h4 | exact .h5 | exact .h6 | exact .h7 | exact .h8 | exact .h9 | exact .h10 | exact .h11 | exact .h12 | exact .h13 | exact .h14) rfl (Nat.le_refl 1) (Enc.one (α := SlV) s18) rfl ?_)
        intro w hS; replace hS := hS _ (by first | exact .h0 | exact .h1 | exact .h2 | exact .h3 | exact .h4 | exact .h5 | exact .h6 | exact .h7 | exact .h8 | exact .h9 | exact .h10 | exact .h11 | exact .h12 | exact .h13 | exact .h14)
        simp only [List.nil_append] at hS
        have hSm : St w0 [blkE b4 #[s18.v] 87, ownE s18.v 5 ((if c.v0 = true then ([128] : List UInt8) else [])), blkE b1 (Enc.enc m) 31] w := by
          rw [hv0]
          exact (show St w0 [blkE b4 #[s18.v] 87, ownE s18.v 5 ([128]), blkE b1 (Enc.enc m) 31] w from hS.sub (by repeat (first | with_reducible exact List.nil_sublist _ | with_reducible exact List.Sublist.refl _ | with_reducible refine List.Sublist.cons₂ _ ?_ | with_reducible refine List.Sublist.cons _ ?_)))
        refine WL.nil ?_
        refine thenQ_n ?_
        exact ⟨_, ⟨rfl, rfl, trivial⟩, hSm⟩
      ·
        have hr1 := hc1
        try simp only [decide_eq_true_eq, decide_eq_false_iff_not, Bool.and_eq_true, Bool.or_eq_true, Bool.and_eq_false_iff, Bool.or_eq_false_iff, Bool.not_eq_true', Bool.not_eq_false', Int.not_lt, Int.not_le] at hc1
        have hv0 : c.v0 = false := by rw [← hc.v0]; exact hr1
        have hSm : St w0 [blkE b4 #[s.v] 87, ownE s.v 5 ((if c.v0 = true then ([128] : List UInt8) else [])), blkE b1 (Enc.enc m) 31] w := by
          rw [hv0]
          exact (show St w0 [blkE b4 #[s.v] 87, ownE s.v 5 ([]), blkE b1 (Enc.enc m) 31] w from hS.sub (by repeat (first | with_reducible exact List.nil_sublist _ | with_reducible exact List.Sublist.refl _ | with_reducible refine List.Sublist.cons₂ _ ?_ | with_reducible refine List.Sublist.cons _ ?_)))
        refine WC.skip ?_
        refine thenQ_n ?_
        exact ⟨_, ⟨rfl, rfl, trivial⟩, hSm⟩
    ·
      rintro f w ⟨s, hfit, hS⟩
      refine WC.fits _ hfit (fun g => ?_)
      clear hfit
      have hpl : ((if c.v0 = true then ([128] : List UInt8) else [])).length ≤ 1 := by split <;> simp
      refine WC.seq (fun K7 hK7 => ?_)
      refine WC.region ?_
      refine WL.op rfl (opW.loadV rfl (hS.ld1 (by first | exact .h0 | exact .h1 | exact .h2 | exact .h3 | exact .h4 | exact .h5 | exact .h6 | exact .h7 | exact .h8 | exact .h9 | exact .h10 | exact .h11 | exact .h12 | exact .h13 | exact .h14) (cs := #[s.v]) (o := 0) rfl) ?_)
      refine WL.op rfl (opW.fieldAddrB rfl ?_)
      refine WL.op rfl (opW.fieldAddrB rfl ?_)
      refine WL.op rfl (opW.loadV rfl (hS.ld1 (by first | exact .h0 | exact .h1 | exact .h2 | exact .h3 | exact .h4 | exact .h5 | exact .h6 | exact .h7 | exact .h8 | exact .h9 | exact .h10 | exact .h11 | exact .h12 | exact .h13 | exact .h14) (Message.at_header_signers m)) ?_)
      refine WL.op rfl (opW.fieldAddrB rfl ?_)
      refine WL.op rfl (opW.fieldAddrB rfl ?_)
      refine WL.op rfl (opW.loadV rfl (hS.ld1 (by first | exact .h0 | exact .h1 | exact .h2 | exact .h3 | exact .h4 | exact .h5 | exact .h6 | exact .h7 | exact .h8 | exact .h9 | exact .h10 | exact .h11 | exact .h12 | exact .h13 | exact .h14) (Message.at_header_readSigned m)) ?_)
      refine WL.op rfl (opW.fieldAddrB rfl ?_)
      refine WL.op rfl (opW.fieldAddrB rfl ?_)
      refine WL.op rfl (opW.loadV rfl (hS.ld1 (by first | exact .h0 | exact .h1 | exact .h2 | exact .h3 | exact .h4 | exact .h5 | exact .h6 | exact .h7 | exact .h8 | exact .h9 | exact .h10 | exact .h11 | exact .h12 | exact .h13 | exact .h14) (Message.at_header_readOther m)) ?_)
      refine WL.op rfl (opW.buildSl hS (([m.header.signers, m.header.readSigned, m.header.readOther] : List UInt8)) [.int .u8 (m.header.signers.toNat : Int), .int .u8 (m.header.readSigned.toNat : Int), .int .u8 (m.header.readOther.toNat : Int)] rfl rfl rfl rfl (by decide) ?_)
      intro b29 w hw hS
      refine WL.op rfl (opW.appendOwn (α := UInt8) (v := s.v) (xs := (if c.v0 = true then ([128] : List UInt8) else [])) rfl hS rfl (by first | exact .h0 | exact .h1 | exact .h2 | exact .h3 | exact .h4 | exact .h5 | exact .h6 | exact .h7 | exact .h8 | exact .h9 | exact .h10 | exact .h11 | exact .h12 | exact .h13 | exact .h14) (hS.sl (v := .slice (some ⟨b29, 0, none⟩) 3 3) (xs := [m.header.signers, m.header.readSigned, m.header.readOther]) (by first | exact .h0 | exact .h1 | exact .h2 | exact .h3 | exact .h4 | exact .h5 | exact .h6 | exact .h7 | exact .h8 | exact .h9 | exact .h10 | exact .h11 | exact .h12 | exact .h13 | exact .h14)) (by simp only [List.length_cons, List.length_nil, Vector.length_toList]; omega) (by simp only [List.length_cons, List.length_nil, Vector.length_toList, maxLen]; omega) ?_)
      intro v30 w hS; replace hS := hS _ (by first | exact .h0 | exact .h1 | exact .h2 | exact .h3 | exact .h4 | exact .h5 | exact .h6 | exact .h7 | exact .h8 | exact .h9 | exact .h10 | exact .h11 | exact .h12 | exact .h13 | exact .h14)
      obtain ⟨s30, rfl⟩ := (hS.sl (v := v30) (xs := (if c.v0 = true then ([128] : List UInt8) else []) ++ [m.header.signers, m.header.readSigned, m.header.readOther]) (by first | exact .h0 | exact .h1 | exact .h2 | exact .h3 | exact .h4 | exact .h5 | exact .h6 | exact .h7 | exact .h8 | exact .h9 | exact .h10 | exact .h11 | exact .h12 | exact .h13 | exact .h14)).asV
      refine WL.op0 (opW.storeF (b := b4) (o := 0) (v := s30.v) (sz := 1) (cs := #[s.v]) (cs' := #[s30.v]) hS rfl rfl (by first | exact .h0 | exact .h1 | exact .h2 | exact .h3 | exact .h4 | exact .h5 | exact .h6 | exact .h7 | exact .h8 | exact .h9 | exact .h10 | exact .h11 | exact .h12 | exact .h13 | exact .h14) rfl (Nat.le_refl 1) (Enc.one (α := SlV) s30) rfl ?_)
      intro w hS; replace hS := hS _ (by first | exact .h0 | exact .h1 | exact .h2 | exact .h3 | exact .h4 | exact .h5 | exact .h6 | exact .h7 | exact .h8 | exact .h9 | exact .h10 | exact .h11 | exact .h12 | exact .h13 | exact .h14)
      replace hS : St w0 [blkE b4 #[s30.v] 87, ownE s30.v 5 (putH c), blkE b1 (Enc.enc m) 31] w := by
        unfold putH
        rw [← hc.h]
        exact ((hS.pick (e := ownE s30.v 5 ((if c.v0 = true then ([128] : List UInt8) else []) ++ [m.header.signers, m.header.readSigned, m.header.readOther])) (by first | exact .h0 | exact .h1 | exact .h2 | exact .h3 | exact .h4 | exact .h5 | exact .h6 | exact .h7 | exact .h8 | exact .h9 | exact .h10 | exact .h11 | exact .h12 | exact .h13 | exact .h14)).pick (e := blkE b4 #[s30.v] 87) (by first | exact .h0 | exact .h1 | exact .h2 | exact .h3 | exact .h4 | exact .h5 | exact .h6 | exact .h7 | exact .h8 | exact .h9 | exact .h10 | exact .h11 | exact .h12 | exact .h13 | exact .h14)).sub (by repeat (first | with_reducible exact List.nil_sublist _ | with_reducible exact List.Sublist.refl _ | with_reducible refine List.Sublist.cons₂ _ ?_ | with_reducible refine List.Sublist.cons _ ?_))
      refine WL.nil ?_
      refine thenQ_n (hK7 _ _ ?_)
      refine WC.seq (fun K8 hK8 => ?_)
      refine WC.region ?_
      refine WL.op rfl (opW.fieldAddrB rfl ?_)
      refine WL.op rfl (opW.loadV rfl (hS.ld1 (by first | exact .h0 | exact .h1 | exact .h2 | exact .h3 | exact .h4 | exact .h5 | exact .h6 | exact .h7 | exact .h8 | exact .h9 | exact .h10 | exact .h11 | exact .h12 | exact .h13 | exact .h14) (Message.at_keys m)) ?_)
      refine WL.op rfl (opW.lenV rfl ((hc.k.bel hS.old)) ?_)
      refine WL.op rfl (opW.call (many_ok _ _ [blkE b1 (Enc.enc m) 31] b4 s30 (putH c) c.keys.length (by omega) (by have := putH_len c; omega) hS) rfl ?_)
      rintro v34 w ⟨s, hS⟩
      replace hS : St w0 [blkE b4 #[s.v] 87, ownE s.v 5 (put1 c 0), blkE b1 (Enc.enc m) 31] w := by unfold put1; rw [List.take_zero, List.flatMap_nil, List.append_nil]; exact hS
      refine WL.nil ?_
      refine thenQ_n (hK8 _ _ ?_)
      refine WC.seq (fun K9 hK9 => ?_)
      refine WC.seq (fun K10 hK10 => ?_)
      refine WC.region ?_
      refine WL.op rfl (opW.fieldAddrB rfl ?_)
      refine WL.op rfl (opW.loadV rfl (hS.ld1 (by first | exact .h0 | exact .h1 | exact .h2 | exact .h3 | exact .h4 | exact .h5 | exact .h6 | exact .h7 | exact .h8 | exact .h9 | exact .h10 | exact .h11 | exact .h12 | exact .h13 | exact .h14) (Message.at_keys m)) ?_)
      refine WL.op rfl (opW.lenV rfl ((hc.k.bel hS.old)) ?_)
      refine WL.op rfl (opW.moveI rfl ?_)
      refine WL.nil ?_
      refine thenQ_n (hK10 _ _ ?_)
      refine WC.block ?_
      refine WC.loop (fun q f w => ∃ (k : Nat) (s : SlV), Fits [(1, .pointer (some ⟨b1, 0, none⟩)), (4, .pointer (some ⟨b4, 0, none⟩)), (36, m.keys.v), (37, .int .i64 (c.keys.length : Int)), (38, .int .i64 (k : Int))] f ∧ St w0 [blkE b4 #[s.v] 87, ownE s.v 5 (put1 c k), blkE b1 (Enc.enc m) 31] w ∧ k ≤ c.keys.length ∧ q = c.keys.length - k) (c.keys.length) ?_ ?_
      ·
        exact ⟨0, s, ⟨rfl, rfl, rfl, rfl, rfl, trivial⟩, hS, Nat.zero_le _, rfl⟩
      ·
        rintro q f w ⟨k, s, hfit, hS, hk0, hm⟩
        refine WC.fits _ hfit (fun g => ?_)
        clear hfit
        refine WC.seq (fun K11 hK11 => ?_)
        refine WC.region ?_
        refine WL.op rfl (opW.lss rfl rfl ?_)
        refine WL.nil ?_
        refine thenQ_n (hK11 _ _ ?_)
        refine WC.seq (fun K12 hK12 => ?_)
        refine WC.cond _ rfl (fun hc2 => ?_) (fun hc2 => ?_)
        ·
          have hr2 := hc2
          try simp only [decide_eq_true_eq, decide_eq_false_iff_not, Bool.and_eq_true, Bool.or_eq_true, Bool.and_eq_false_iff, Bool.or_eq_false_iff, Bool.not_eq_true', Bool.not_eq_false', Int.not_lt, Int.not_le] at hc2
          have hkc : k < c.keys.length := by omega
          have hl1 := put1_len c k
          refine WC.skip ?_
          refine thenQ_n (hK12 _ _ ?_)
          refine WC.seq (fun K13 hK13 => ?_)
          refine WC.block ?_
          refine WC.seq (fun K14 hK14 => ?_)
          refine WC.region ?_
          refine WL.op rfl (opW.idxV rfl ((hc.k.bel hS.old)) rfl (by omega) ?_)
          refine WL.op rfl (opW.loadV rfl (((hc.k.bel hS.old).isPt hkc).ldA (Enc.size_eq c.keys[k])) ?_)
          refine WL.op rfl (opW.allocA hS ?_)
          intro b6 w _ hS
          refine WL.op0 (opW.storeE hS rfl rfl (by first | exact .h0 | exact .h1 | exact .h2 | exact .h3 | exact .h4 | exact .h5 | exact .h6 | exact .h7 | exact .h8 | exact .h9 | exact .h10 | exact .h11 | exact .h12 | exact .h13 | exact .h14) (by first | rfl | exact Enc.size_eq _) ?_)
          intro w hS; replace hS := hS _ (by first | exact .h0 | exact .h1 | exact .h2 | exact .h3 | exact .h4 | exact .h5 | exact .h6 | exact .h7 | exact .h8 | exact .h9 | exact .h10 | exact .h11 | exact .h12 | exact .h13 | exact .h14)
          refine WL.nil ?_
          refine thenQ_n (hK14 _ _ ?_)
          refine WC.draw 2 (.look 0 (.look 1 (.one 2 (.one 3 .nil)))) (by kernel_rfl) (fun _ _ _ h => h) (fun w1 hw1 => ?_)
          replace hS := hS.bel hw1
          have hS1 := hS
          have hT := St.start w1
          refine ML.look rfl rfl rfl (fun w hw => (by have hS := hS1.bel hw; exact opW.loadV rfl (hS.ld1 (by first | exact .h0 | exact .h1 | exact .h2 | exact .h3 | exact .h4 | exact .h5 | exact .h6 | exact .h7 | exact .h8 | exact .h9 | exact .h10 | exact .h11 | exact .h12 | exact .h13 | exact .h14) (cs := #[s.v]) (o := 0) rfl) ⟨rfl, rfl⟩)) ?_
          refine ML.look rfl rfl rfl (fun w hw => (by have hS := hS1.bel hw; exact opW.cutArrO rfl ⟨rfl, rfl⟩)) ?_
          refine ML.put1 rfl rfl rfl rfl (opW.appendOwn2 (α := UInt8) (v := s.v) (xs := put1 c k) rfl hS rfl (by first | exact .h0 | exact .h1 | exact .h2 | exact .h3 | exact .h4 | exact .h5 | exact .h6 | exact .h7 | exact .h8 | exact .h9 | exact .h10 | exact .h11 | exact .h12 | exact .h13 | exact .h14) (SlR.ofPt (n := 31) (v := c.keys[k]) (hS.pt (by first | exact .h0 | exact .h1 | exact .h2 | exact .h3 | exact .h4 | exact .h5 | exact .h6 | exact .h7 | exact .h8 | exact .h9 | exact .h10 | exact .h11 | exact .h12 | exact .h13 | exact .h14)) (by decide)) (by simp only [List.length_cons, List.length_nil, Vector.length_toList]; omega) (by simp only [List.length_cons, List.length_nil, Vector.length_toList, maxLen]; omega) ?_)
          intro v44 w hS; replace hS := hS _ (by first | exact .h0 | exact .h1 | exact .h2 | exact .h3 | exact .h4 | exact .h5 | exact .h6 | exact .h7 | exact .h8 | exact .h9 | exact .h10 | exact .h11 | exact .h12 | exact .h13 | exact .h14)
          obtain ⟨s44, rfl⟩ := (hS.sl (v := v44) (xs := put1 c k ++ c.keys[k].toList) (by first | exact .h0 | exact .h1 | exact .h2 | exact .h3 | exact .h4 | exact .h5 | exact .h6 | exact .h7 | exact .h8 | exact .h9 | exact .h10 | exact .h11 | exact .h12 | exact .h13 | exact .h14)).asV
          refine ML.put0 rfl rfl rfl (opW.storeF (b := b4) (o := 0) (v := s44.v) (sz := 1) (cs := #[s.v]) (cs' := #[s44.v]) hS rfl rfl (by first | exact .h0 | exact .h1 | exact .h2 | exact .h3 | exact .h4 | exact .h5 | exact .h6 | exact .h7 | exact .h8 | exact .h9 | exact .h10 | exact .h11 | exact .h12 | exact .h13 | exact .h14) rfl (Nat.le_refl 1) (Enc.one (α := SlV) s44) rfl ?_)
          intro w hS; replace hS := hS _ (by first | exact .h0 | exact .h1 | exact .h2 | exact .h3 | exact .h4 | exact .h5 | exact .h6 | exact .h7 | exact .h8 | exact .h9 | exact .h10 | exact .h11 | exact .h12 | exact .h13 | exact .h14)
          refine ML.nil ?_
          replace hS : St w0 [blkE b4 #[s44.v] 87, ownE s44.v 5 (put1 c (k + 1)), blkE b1 (Enc.enc m) 31] w := by
            have e1 : put1 c (k + 1) = put1 c k ++ c.keys[k].toList := by unfold put1; rw [fm_step _ hkc]; simp only [List.append_assoc]
            rw [e1]
            exact ((hS.pick (e := ownE s44.v 5 (put1 c k ++ c.keys[k].toList)) (by first | exact .h0 | exact .h1 | exact .h2 | exact .h3 | exact .h4 | exact .h5 | exact .h6 | exact .h7 | exact .h8 | exact .h9 | exact .h10 | exact .h11 | exact .h12 | exact .h13 | exact .h14)).pick (e := blkE b4 #[s44.v] 87) (by first | exact .h0 | exact .h1 | exact .h2 | exact .h3 | exact .h4 | exact .h5 | exact .h6 | exact .h7 | exact .h8 | exact .h9 | exact .h10 | exact .h11 | exact .h12 | exact .h13 | exact .h14)).sub (by repeat (first | with_reducible exact List.nil_sublist _ | with_reducible exact List.Sublist.refl _ | with_reducible refine List.Sublist.cons₂ _ ?_ | with_reducible refine List.Sublist.cons _ ?_))
          refine blockQ_n ?_
          refine thenQ_n (hK13 _ _ ?_)
          refine WC.region ?_
          refine WL.op rfl (opW.add rfl rfl (wrap_i64 (by omega)) ?_)
          refine WL.op rfl (opW.moveI rfl ?_)
          refine WL.nil ?_
          refine thenQ_n ?_
          exact ⟨c.keys.length - (k + 1), by omega, k + 1, _, ⟨rfl, rfl, rfl, rfl, congrArg (Value.int .i64) (by omega), trivial⟩, hS, by omega, rfl⟩
        ·
          have hr2 := hc2
          try simp only [decide_eq_true_eq, decide_eq_false_iff_not, Bool.and_eq_true, Bool.or_eq_true, Bool.and_eq_false_iff, Bool.or_eq_false_iff, Bool.not_eq_true', Bool.not_eq_false', Int.not_lt, Int.not_le] at hc2
          obtain rfl : k = c.keys.length := by omega
          have hl1 := put1_len c c.keys.length
          refine WC.exit ?_
          refine thenQ_e ?_
          refine thenQ_e ?_
          refine blockQ_hit ?_
          refine thenQ_n (hK9 _ _ ?_)
          refine WC.seq (fun K15 hK15 => ?_)
          refine WC.draw 3 (.look 0 (.look 1 (.look 2 (.one 3 (.one 4 .nil))))) (by kernel_rfl) (fun _ _ _ h => h) (fun w1 hw1 => ?_)
          replace hS := hS.bel hw1
          have hS1 := hS
          have hT := St.start w1
          refine ML.look rfl rfl rfl (fun w hw => (by have hS := hS1.bel hw; exact opW.loadV rfl (hS.ld1 (by first | exact .h0 | exact .h1 | exact .h2 | exact .h3 | exact .h4 | exact .h5 | exact .h6 | exact .h7 | exact .h8 | exact .h9 | exact .h10 | exact .h11 | exact .h12 | exact .h13 | exact .h14) (cs := #[s.v]) (o := 0) rfl) ⟨rfl, rfl⟩)) ?_
          refine ML.look rfl rfl rfl (fun w hw => (by have hS := hS1.bel hw; exact opW.fieldAddrB rfl ⟨rfl, rfl⟩)) ?_
          refine ML.look rfl rfl rfl (fun w hw => (by have hS := hS1.bel hw; exact opW.cutArrO rfl ⟨rfl, rfl⟩)) ?_
          refine ML.put1 rfl rfl rfl rfl (opW.appendOwn2 (α := UInt8) (v := s.v) (xs := put1 c c.keys.length) rfl hS rfl (by first | exact .h0 | exact .h1 | exact .h2 | exact .h3 | exact .h4 | exact .h5 | exact .h6 | exact .h7 | exact .h8 | exact .h9 | exact .h10 | exact .h11 | exact .h12 | exact .h13 | exact .h14) (SlR.ofPt (n := 31) (v := m.recent) (hS.ptO (cs := Enc.enc m) (c := Enc.enc m.recent) (by first | exact .h0 | exact .h1 | exact .h2 | exact .h3 | exact .h4 | exact .h5 | exact .h6 | exact .h7 | exact .h8 | exact .h9 | exact .h10 | exact .h11 | exact .h12 | exact .h13 | exact .h14) (by rw [Enc.size_eq]; exact Message.ex_recent m)) (by decide)) (by simp only [List.length_cons, List.length_nil, Vector.length_toList]; omega) (by simp only [List.length_cons, List.length_nil, Vector.length_toList, maxLen]; omega) ?_)
          intro v49 w hS; replace hS := hS _ (by first | exact .h0 | exact .h1 | exact .h2 | exact .h3 | exact .h4 | exact .h5 | exact .h6 | exact .h7 | exact .h8 | exact .h9 | exact .h10 | exact .h11 | exact .h12 | exact .h13 | exact .h14)
          obtain ⟨s49, rfl⟩ := (hS.sl (v := v49) (xs := put1 c c.keys.length ++ m.recent.toList) (by first | exact .h0 | exact .h1 | exact .h2 | exact .h3 | exact .h4 | exact .h5 | exact .h6 | exact .h7 | exact .h8 | exact .h9 | exact .h10 | exact .h11 | exact .h12 | exact .h13 | exact .h14)).asV
          refine ML.put0 rfl rfl rfl (opW.storeF (b := b4) (o := 0) (v := s49.v) (sz := 1) (cs := #[s.v]) (cs' := #[s49.v]) hS rfl rfl (by first | exact .h0 | exact .h1 | exact .h2 | exact .h3 | exact .h4 | exact .h5 | exact .h6 | exact .h7 | exact .h8 | exact .h9 | exact .h10 | exact .h11 | exact .h12 | exact .h13 | exact .h14) rfl (Nat.le_refl 1) (Enc.one (α := SlV) s49) rfl ?_)
          intro w hS; replace hS := hS _ (by first | exact .h0 | exact .h1 | exact .h2 | exact .h3 | exact .h4 | exact .h5 | exact .h6 | exact .h7 | exact .h8 | exact .h9 | exact .h10 | exact .h11 | exact .h12 | exact .h13 | exact .h14)
          refine ML.nil ?_
          replace hS : St w0 [blkE b4 #[s49.v] 87, ownE s49.v 5 (put2 c), blkE b1 (Enc.enc m) 31] w := by
            unfold put2
            rw [← hc.recent]
            exact ((hS.pick (e := ownE s49.v 5 (put1 c c.keys.length ++ m.recent.toList)) (by first | exact .h0 | exact .h1 | exact .h2 | exact .h3 | exact .h4 | exact .h5 | exact .h6 | exact .h7 | exact .h8 | exact .h9 | exact .h10 | exact .h11 | exact .h12 | exact .h13 | exact .h14)).pick (e := blkE b4 #[s49.v] 87) (by first | exact .h0 | exact .h1 | exact .h2 | exact .h3 | exact .h4 | exact .h5 | exact .h6 | exact .h7 | exact .h8 | exact .h9 | exact .h10 | exact .h11 | exact .h12 | exact .h13 | exact .h14)).sub (by repeat (first | with_reducible exact List.nil_sublist _ | with_reducible exact List.Sublist.refl _ | with_reducible refine List.Sublist.cons₂ _ ?_ | with_reducible refine List.Sublist.cons _ ?_))
          have hl2 := put2_len c
          refine thenQ_n (hK15 _ _ ?_)
          refine WC.seq (fun K16 hK16 => ?_)
          refine WC.region ?_
          refine WL.op rfl (opW.fieldAddrB rfl ?_)
          refine WL.op rfl (opW.loadV rfl (hS.ld1 (by first | exact .h0 | exact .h1 | exact .h2 | exact .h3 | exact .h4 | exact .h5 | exact .h6 | exact .h7 | exact .h8 | exact .h9 | exact .h10 | exact .h11 | exact .h12 | exact .h13 | exact .h14) (Message.at_instrs m)) ?_)
          refine WL.op rfl (opW.lenV rfl ((hc.i.bel hS.old)) ?_)
          refine WL.op rfl (opW.call (many_ok _ _ [blkE b1 (Enc.enc m) 31] b4 s49 (put2 c) ins.length (by omega) (by omega) hS) rfl ?_)
          rintro v53 w ⟨s, hS⟩
          replace hS : St w0 [blkE b4 #[s.v] 87, ownE s.v 5 (put3 c 0), blkE b1 (Enc.enc m) 31] w := by unfold put3; rw [List.take_zero, List.flatMap_nil, List.append_nil, ← hki]; exact hS
          refine WL.nil ?_
          refine thenQ_n (hK16 _ _ ?_)
          refine WC.seq (fun K17 hK17 => ?_)
          refine WC.seq (fun K18 hK18 => ?_)
          refine WC.region ?_
          refine WL.op rfl (opW.fieldAddrB rfl ?_)
          refine WL.op rfl (opW.loadV rfl (hS.ld1 (by first | exact .h0 | exact .h1 | exact .h2 | exact .h3 | exact .h4 | exact .h5 | exact .h6 | exact .h7 | exact .h8 | exact .h9 | exact .h10 | exact .h11 | exact .h12 | exact .h13 | exact .h14) (Message.at_instrs m)) ?_)
          refine WL.op rfl (opW.lenV rfl ((hc.i.bel hS.old)) ?_)
          refine WL.op rfl (opW.moveI rfl ?_)
          refine WL.nil ?_
          refine thenQ_n (hK18 _ _ ?_)
          refine WC.block ?_
          refine WC.loop (fun q f w => ∃ (k : Nat) (s : SlV), Fits [(1, .pointer (some ⟨b1, 0, none⟩)), (4, .pointer (some ⟨b4, 0, none⟩)), (55, m.instrs.v), (56, .int .i64 (ins.length : Int)), (57, .int .i64 (k : Int))] f ∧ St w0 [blkE b4 #[s.v] 87, ownE s.v 5 (put3 c k), blkE b1 (Enc.enc m) 31] w ∧ k ≤ ins.length ∧ q = ins.length - k) (ins.length) ?_ ?_
          ·
            exact ⟨0, s, ⟨rfl, rfl, rfl, rfl, rfl, trivial⟩, hS, Nat.zero_le _, rfl⟩
          ·
            rintro q f w ⟨k, s, hfit, hS, hk0, hm⟩
            refine WC.fits _ hfit (fun g => ?_)
            clear hfit
            refine WC.seq (fun K19 hK19 => ?_)
            refine WC.region ?_
            refine WL.op rfl (opW.lss rfl rfl ?_)
            refine WL.nil ?_
            refine thenQ_n (hK19 _ _ ?_)
            refine WC.seq (fun K20 hK20 => ?_)
            refine WC.cond _ rfl (fun hc3 => ?_) (fun hc3 => ?_)
            ·
              have hr3 := hc3
              try simp only [decide_eq_true_eq, decide_eq_false_iff_not, Bool.and_eq_true, Bool.or_eq_true, Bool.and_eq_false_iff, Bool.or_eq_false_iff, Bool.not_eq_true', Bool.not_eq_false', Int.not_lt, Int.not_le] at hc3
              have hkl2 : k < ins.length := by omega
              have hkc : k < c.ins.length := by omega
              obtain ⟨hp, hla, hld⟩ := hc.ii.2 k hkl2 hkc
              have hle1 := hie k hkc
              have hsz : c.ins[k].2.1.length + c.ins[k].2.2.length ≤ c.size := by have := sumB_ge hkc; unfold MC.size; omega
              have hl1 := put3_len c k
              refine WC.skip ?_
              refine thenQ_n (hK20 _ _ ?_)
              refine WC.seq (fun K21 hK21 => ?_)
              refine WC.block ?_
              refine WC.seq (fun K22 hK22 => ?_)
              refine WC.region ?_
              refine WL.op rfl (opW.idxV rfl ((hc.i.bel hS.old)) rfl (by omega) ?_)
              refine WL.op rfl (opW.loadV rfl (((hc.i.bel hS.old).isPt hkl2).ldA (Enc.size_eq ins[k])) ?_)
              refine WL.op rfl (opW.allocA hS ?_)
              intro b8 w _ hS
              refine WL.op0 (opW.storeE hS rfl rfl (by first | exact .h0 | exact .h1 | exact .h2 | exact .h3 | exact .h4 | exact .h5 | exact .h6 | exact .h7 | exact .h8 | exact .h9 | exact .h10 | exact .h11 | exact .h12 | exact .h13 | exact .h14) (by first | rfl | exact Enc.size_eq _) ?_)
              intro w hS; replace hS := hS _ (by first | exact .h0 | exact .h1 | exact .h2 | exact .h3 | exact .h4 | exact .h5 | exact .h6 | exact .h7 | exact .h8 | exact .h9 | exact .h10 | exact .h11 | exact .h12 | exact .h13 | exact .h14)
              refine WL.nil ?_
              refine thenQ_n (hK22 _ _ ?_)
              refine WC.seq (fun K23 hK23 => ?_)
              refine WC.region ?_
              refine WL.op rfl (opW.loadV rfl (hS.ld1 (by first | exact .h0 | exact .h1 | exact .h2 | exact .h3 | exact .h4 | exact .h5 | exact .h6 | exact .h7 | exact .h8 | exact .h9 | exact .h10 | exact .h11 | exact .h12 | exact .h13 | exact .h14) (cs := #[s.v]) (o := 0) rfl) ?_)
              refine WL.op rfl (opW.fieldAddrB rfl ?_)
              refine WL.op rfl (opW.loadV rfl (hS.ld1 (by first | exact .h0 | exact .h1 | exact .h2 | exact .h3 | exact .h4 | exact .h5 | exact .h6 | exact .h7 | exact .h8 | exact .h9 | exact .h10 | exact .h11 | exact .h12 | exact .h13 | exact .h14) (Instr.at_program ins[k])) ?_)
              refine WL.op rfl (opW.buildSl hS (([ins[k].program] : List UInt8)) [.int .u8 (ins[k].program.toNat : Int)] rfl rfl rfl rfl (by decide) ?_)
              intro b64 w hw hS
              refine WL.op rfl (opW.appendOwn (α := UInt8) (v := s.v) (xs := put3 c k) rfl hS rfl (by first | exact .h0 | exact .h1 | exact .h2 | exact .h3 | exact .h4 | exact .h5 | exact .h6 | exact .h7 | exact .h8 | exact .h9 | exact .h10 | exact .h11 | exact .h12 | exact .h13 | exact .h14) (hS.sl (v := .slice (some ⟨b64, 0, none⟩) 1 1) (xs := [ins[k].program]) (by first | exact .h0 | exact .h1 | exact .h2 | exact .h3 | exact .h4 | exact .h5 | exact .h6 | exact .h7 | exact .h8 | exact .h9 | exact .h10 | exact .h11 | exact .h12 | exact .h13 | exact .h14)) (by simp only [List.length_cons, List.length_nil, Vector.length_toList]; omega) (by simp only [List.length_cons, List.length_nil, Vector.length_toList, maxLen]; omega) ?_)
              intro v65 w hS; replace hS := hS _ (by first | exact .h0 | exact .h1 | exact .h2 | exact .h3 | exact .h4 | exact .h5 | exact .h6 | exact .h7 | exact .h8 | exact .h9 | exact .h10 | exact .h11 | exact .h12 | exact .h13 | exact .h14)
              obtain ⟨s65, rfl⟩ := (hS.sl (v := v65) (xs := put3 c k ++ [ins[k].program]) (by first | exact .h0 | exact .h1 | exact .h2 | exact .h3 | exact .h4 | exact .h5 | exact .h6 | exact .h7 | exact .h8 | exact .h9 | exact .h10 | exact .h11 | exact .h12 | exact .h13 | exact .h14)).asV
              refine WL.op0 (opW.storeF (b := b4) (o := 0) (v := s65.v) (sz := 1) (cs := #[s.v]) (cs' := #[s65.v]) hS rfl rfl (by first | exact .h0 | exact .h1 | exact .h2 | exact .h3 | exact .h4 | exact .h5 | exact .h6 | exact .h7 | exact .h8 | exact .h9 | exact .h10 | exact .h11 | exact .h12 | exact .h13 | exact .h14) rfl (Nat.le_refl 1) (Enc.one (α := SlV) s65) rfl ?_)
              intro w hS; replace hS := hS _ (by first | exact .h0 | exact .h1 | exact .h2 | exact .h3 | exact .h4 | exact .h5 | exact .h6 | exact .h7 | exact .h8 | exact .h9 | exact .h10 | exact .h11 | exact .h12 | exact .h13 | exact .h14)
              replace hS := ((hS.pick (e := ownE s65.v 5 (put3 c k ++ [ins[k].program])) (by first | exact .h0 | exact .h1 | exact .h2 | exact .h3 | exact .h4 | exact .h5 | exact .h6 | exact .h7 | exact .h8 | exact .h9 | exact .h10 | exact .h11 | exact .h12 | exact .h13 | exact .h14)).pick (e := blkE b4 #[s65.v] 87) (by first | exact .h0 | exact .h1 | exact .h2 | exact .h3 | exact .h4 | exact .h5 | exact .h6 | exact .h7 | exact .h8 | exact .h9 | exact .h10 | exact .h11 | exact .h12 | exact .h13 | exact .h14))
              refine WL.nil ?_
              refine thenQ_n (hK23 _ _ ?_)
              refine WC.seq (fun K24 hK24 => ?_)
              refine WC.region ?_
              refine WL.op rfl (opW.fieldAddrB rfl ?_)
              refine WL.op rfl (opW.loadV rfl (hS.ld1 (by first | exact .h0 | exact .h1 | exact .h2 | exact .h3 | exact .h4 | exact .h5 | exact .h6 | exact .h7 | exact .h8 | exact .h9 | exact .h10 | exact .h11 | exact .h12 | exact .h13 | exact .h14) (Instr.at_accounts ins[k])) ?_)
              refine WL.op rfl (opW.call (list_ok _ _ _ b4 s65 (put3 c k ++ [ins[k].program]) _ c.ins[k].2.1 (by omega) (by simp only [List.length_append, List.length_cons, List.length_nil]; omega) (fun w hw => hla.bel hw.old) hS) rfl ?_)
              rintro v68 w ⟨s68, hS⟩
              refine WL.nil ?_
              refine thenQ_n (hK24 _ _ ?_)
              refine WC.region ?_
              refine WL.op rfl (opW.fieldAddrB rfl ?_)
              refine WL.op rfl (opW.loadV rfl (hS.ld1 (by first | exact .h0 | exact .h1 | exact .h2 | exact .h3 | exact .h4 | exact .h5 | exact .h6 | exact .h7 | exact .h8 | exact .h9 | exact .h10 | exact .h11 | exact .h12 | exact .h13 | exact .h14) (Instr.at_data ins[k])) ?_)
              refine WL.op rfl (opW.call (list_ok _ _ _ b4 s68 (put3 c k ++ [ins[k].program] ++ listB c.ins[k].2.1) _ c.ins[k].2.2 (by omega) (by have := listB_len c.ins[k].2.1; simp only [List.length_append, List.length_cons, List.length_nil]; omega) (fun w hw => hld.bel hw.old) hS) rfl ?_)
              rintro v71 w ⟨s71, hS⟩
              replace hS : St w0 [blkE b4 #[s71.v] 87, ownE s71.v 5 (put3 c (k + 1)), blkE b1 (Enc.enc m) 31] w := by
                have e1 : put3 c (k + 1) = put3 c k ++ [ins[k].program] ++ listB c.ins[k].2.1 ++ (shortB c.ins[k].2.2.length ++ c.ins[k].2.2) := by unfold put3; rw [fm_step _ hkc, hp]; simp only [putI, listB, List.append_assoc, List.cons_append, List.nil_append]
                rw [e1]
                exact hS.sub (by repeat (first | with_reducible exact List.nil_sublist _ | with_reducible exact List.Sublist.refl _ | with_reducible refine List.Sublist.cons₂ _ ?_ | with_reducible refine List.Sublist.cons _ ?_))
              refine WL.nil ?_
              refine blockQ_n ?_
              refine thenQ_n (hK21 _ _ ?_)
              refine WC.region ?_
              refine WL.op rfl (opW.add rfl rfl (wrap_i64 (by omega)) ?_)
              refine WL.op rfl (opW.moveI rfl ?_)
              refine WL.nil ?_
              refine thenQ_n ?_
              exact ⟨ins.length - (k + 1), by omega, k + 1, _, ⟨rfl, rfl, rfl, rfl, congrArg (Value.int .i64) (by omega), trivial⟩, hS, by omega, rfl⟩
            ·
              have hr3 := hc3
              try simp only [decide_eq_true_eq, decide_eq_false_iff_not, Bool.and_eq_true, Bool.or_eq_true, Bool.and_eq_false_iff, Bool.or_eq_false_iff, Bool.not_eq_true', Bool.not_eq_false', Int.not_lt, Int.not_le] at hc3
              obtain rfl : k = ins.length := by omega
              rw [hki] at hS
              have hl3 := put3_len c c.ins.length
              refine WC.exit ?_
              refine thenQ_e ?_
              refine thenQ_e ?_
              refine blockQ_hit ?_
              refine thenQ_n (hK17 _ _ ?_)
              refine WC.seq (fun K25 hK25 => ?_)
              refine WC.seq (fun K26 hK26 => ?_)
              refine WC.region ?_
              refine WL.op rfl (opW.fieldAddrB rfl ?_)
              refine WL.op rfl (opW.loadV rfl (hS.ld1 (by first | exact .h0 | exact .h1 | exact .h2 | exact .h3 | exact .h4 | exact .h5 | exact .h6 | exact .h7 | exact .h8 | exact .h9 | exact .h10 | exact .h11 | exact .h12 | exact .h13 | exact .h14) (Message.at_v0 m)) ?_)
              refine WL.nil ?_
              refine thenQ_n (hK26 _ _ ?_)
              refine WC.cond _ rfl (fun hc4 => ?_) (fun hc4 => ?_)
              ·
                have hr4 := hc4
                try simp only [decide_eq_true_eq, decide_eq_false_iff_not, Bool.and_eq_true, Bool.or_eq_true, Bool.and_eq_false_iff, Bool.or_eq_false_iff, Bool.not_eq_true', Bool.not_eq_false', Int.not_lt, Int.not_le] at hc4
                have hv0 : c.v0 = true := by rw [← hc.v0]; exact hr4
                refine WC.seq (fun K27 hK27 => ?_)
                refine WC.region ?_
                refine WL.op rfl (opW.fieldAddrB rfl ?_)
                refine WL.op rfl (opW.loadV rfl (hS.ld1 (by first | exact .h0 | exact .h1 | exact .h2 | exact .h3 | exact .h4 | exact .h5 | exact .h6 | exact .h7 | exact .h8 | exact .h9 | exact .h10 | exact .h11 | exact .h12 | exact .h13 | exact .h14) (Message.at_lookups m)) ?_)
                refine WL.op rfl (opW.lenV rfl ((hc.l.bel hS.old)) ?_)
                refine WL.op rfl (opW.call (many_ok _ _ [blkE b1 (Enc.enc m) 31] b4 s (put3 c c.ins.length) lks.length (by omega) (by omega) hS) rfl ?_)
                rintro v78 w ⟨s, hS⟩
                replace hS : St w0 [blkE b4 #[s.v] 87, ownE s.v 5 (put4 c 0), blkE b1 (Enc.enc m) 31] w := by unfold put4; rw [List.take_zero, List.flatMap_nil, List.append_nil, ← hkl2]; exact hS
                refine WL.nil ?_
                refine thenQ_n (hK27 _ _ ?_)
                refine WC.seq (fun K28 hK28 => ?_)
                refine WC.region ?_
                refine WL.op rfl (opW.fieldAddrB rfl ?_)
                refine WL.op rfl (opW.loadV rfl (hS.ld1 (by first | exact .h0 | exact .h1 | exact .h2 | exact .h3 | exact .h4 | exact .h5 | exact .h6 | exact .h7 | exact .h8 | exact .h9 | exact .h10 | exact .h11 | exact .h12 | exact .h13 | exact .h14) (Message.at_lookups m)) ?_)
                refine WL.op rfl (opW.lenV rfl ((hc.l.bel hS.old)) ?_)
                refine WL.op rfl (opW.moveI rfl ?_)
                refine WL.nil ?_
                refine thenQ_n (hK28 _ _ ?_)
                refine WC.block ?_
                refine WC.loop (fun q f w => ∃ (k : Nat) (s : SlV), Fits [(4, .pointer (some ⟨b4, 0, none⟩)), (80, m.lookups.v), (81, .int .i64 (lks.length : Int)), (82, .int .i64 (k : Int))] f ∧ St w0 [blkE b4 #[s.v] 87, ownE s.v 5 (put4 c k), blkE b1 (Enc.enc m) 31] w ∧ k ≤ lks.length ∧ q = lks.length - k) (lks.length) ?_ ?_
                ·
                  exact ⟨0, s, ⟨rfl, rfl, rfl, rfl, trivial⟩, hS, Nat.zero_le _, rfl⟩
                ·
                  rintro q f w ⟨k, s, hfit, hS, hk0, hm⟩
                  refine WC.fits _ hfit (fun g => ?_)
                  clear hfit
                  refine WC.seq (fun K29 hK29 => ?_)
                  refine WC.region ?_
                  refine WL.op rfl (opW.lss rfl rfl ?_)
                  refine WL.nil ?_
                  refine thenQ_n (hK29 _ _ ?_)
                  refine WC.seq (fun K30 hK30 => ?_)
                  refine WC.cond _ rfl (fun hc5 => ?_) (fun hc5 => ?_)
                  ·
                    have hr5 := hc5
                    try simp only [decide_eq_true_eq, decide_eq_false_iff_not, Bool.and_eq_true, Bool.or_eq_true, Bool.and_eq_false_iff, Bool.or_eq_false_iff, Bool.not_eq_true', Bool.not_eq_false', Int.not_lt, Int.not_le] at hc5
                    have hkl3 : k < lks.length := by omega
                    have hkc : k < c.lks.length := by omega
                    obtain ⟨hp, hla, hld⟩ := hc.ll.2 k hkl3 hkc
                    have hle1 := hle k hkc
                    have hsz : c.lks[k].2.1.length + c.lks[k].2.2.length ≤ c.size := by have := sumB_ge hkc; unfold MC.size; omega
                    have hl1 := put4_len c k
                    refine WC.skip ?_
                    refine thenQ_n (hK30 _ _ ?_)
                    refine WC.seq (fun K31 hK31 => ?_)
                    refine WC.block ?_
                    refine WC.seq (fun K32 hK32 => ?_)
                    refine WC.region ?_
                    refine WL.op rfl (opW.idxV rfl ((hc.l.bel hS.old)) rfl (by omega) ?_)
                    refine WL.op rfl (opW.loadV rfl (((hc.l.bel hS.old).isPt hkl3).ldA (Enc.size_eq lks[k])) ?_)
                    refine WL.op rfl (opW.allocA hS ?_)
                    intro b10 w _ hS
                    refine WL.op0 (opW.storeE hS rfl rfl (by first | exact .h0 | exact .h1 | exact .h2 | exact .h3 | exact .h4 | exact .h5 | exact .h6 | exact .h7 | exact .h8 | exact .h9 | exact .h10 | exact .h11 | exact .h12 | exact .h13 | exact .h14) (by first | rfl | exact Enc.size_eq _) ?_)
                    intro w hS; replace hS := hS _ (by first | exact .h0 | exact .h1 | exact .h2 | exact .h3 | exact .h4 | exact .h5 | exact .h6 | exact .h7 | exact .h8 | exact .h9 | exact .h10 | exact .h11 | exact .h12 | exact .h13 | exact .h14)
                    refine WL.nil ?_
                    refine thenQ_n (hK32 _ _ ?_)
                    refine WC.seq (fun K33 hK33 => ?_)
                    refine WC.draw 3 (.look 0 (.look 1 (.look 2 (.one 3 (.one 4 .nil))))) (by kernel_rfl) (fun _ _ _ h => h) (fun w1 hw1 => ?_)
                    replace hS := hS.bel hw1
                    have hS1 := hS
                    have hT := St.start w1
                    refine ML.look rfl rfl rfl (fun w hw => (by have hS := hS1.bel hw; exact opW.loadV rfl (hS.ld1 (by first | exact .h0 | exact .h1 | exact .h2 | exact .h3 | exact .h4 | exact .h5 | exact .h6 | exact .h7 | exact .h8 | exact .h9 | exact .h10 | exact .h11 | exact .h12 | exact .h13 | exact .h14) (cs := #[s.v]) (o := 0) rfl) ⟨rfl, rfl⟩)) ?_
                    refine ML.look rfl rfl rfl (fun w hw => (by have hS := hS1.bel hw; exact opW.fieldAddrB rfl ⟨rfl, rfl⟩)) ?_
                    refine ML.look rfl rfl rfl (fun w hw => (by have hS := hS1.bel hw; exact opW.cutArrO rfl ⟨rfl, rfl⟩)) ?_
                    refine ML.put1 rfl rfl rfl rfl (opW.appendOwn2 (α := UInt8) (v := s.v) (xs := put4 c k) rfl hS rfl (by first | exact .h0 | exact .h1 | exact .h2 | exact .h3 | exact .h4 | exact .h5 | exact .h6 | exact .h7 | exact .h8 | exact .h9 | exact .h10 | exact .h11 | exact .h12 | exact .h13 | exact .h14) (SlR.ofPt (n := 31) (v := lks[k].table) (hS.ptO (cs := Enc.enc lks[k]) (c := Enc.enc lks[k].table) (by first | exact .h0 | exact .h1 | exact .h2 | exact .h3 | exact .h4 | exact .h5 | exact .h6 | exact .h7 | exact .h8 | exact .h9 | exact .h10 | exact .h11 | exact .h12 | exact .h13 | exact .h14) (by rw [Enc.size_eq]; exact Lookup.ex_table lks[k])) (by decide)) (by simp only [List.length_cons, List.length_nil, Vector.length_toList]; omega) (by simp only [List.length_cons, List.length_nil, Vector.length_toList, maxLen]; omega) ?_)
                    intro v89 w hS; replace hS := hS _ (by first | exact .h0 | exact .h1 | exact .h2 | exact .h3 | exact .h4 | exact .h5 | exact .h6 | exact .h7 | exact .h8 | exact .h9 | exact .h10 | exact .h11 | exact .h12 | exact .h13 | exact .h14)
                    obtain ⟨s89, rfl⟩ := (hS.sl (v := v89) (xs := put4 c k ++ lks[k].table.toList) (by first | exact .h0 | exact .h1 | exact .h2 | exact .h3 | exact .h4 | exact .h5 | exact .h6 | exact .h7 | exact .h8 | exact .h9 | exact .h10 | exact .h11 | exact .h12 | exact .h13 | exact .h14)).asV
                    refine ML.put0 rfl rfl rfl (opW.storeF (b := b4) (o := 0) (v := s89.v) (sz := 1) (cs := #[s.v]) (cs' := #[s89.v]) hS rfl rfl (by first | exact .h0 | exact .h1 | exact .h2 | exact .h3 | exact .h4 | exact .h5 | exact .h6 | exact .h7 | exact .h8 | exact .h9 | exact .h10 | exact .h11 | exact .h12 | exact .h13 | exact .h14) rfl (Nat.le_refl 1) (Enc.one (α := SlV) s89) rfl ?_)
                    intro w hS; replace hS := hS _ (by first | exact .h0 | exact .h1 | exact .h2 | exact .h3 | exact .h4 | exact .h5 | exact .h6 | exact .h7 | exact .h8 | exact .h9 | exact .h10 | exact .h11 | exact .h12 | exact .h13 | exact .h14)
                    refine ML.nil ?_
                    replace hS := ((hS.pick (e := ownE s89.v 5 (put4 c k ++ lks[k].table.toList)) (by first | exact .h0 | exact .h1 | exact .h2 | exact .h3 | exact .h4 | exact .h5 | exact .h6 | exact .h7 | exact .h8 | exact .h9 | exact .h10 | exact .h11 | exact .h12 | exact .h13 | exact .h14)).pick (e := blkE b4 #[s89.v] 87) (by first | exact .h0 | exact .h1 | exact .h2 | exact .h3 | exact .h4 | exact .h5 | exact .h6 | exact .h7 | exact .h8 | exact .h9 | exact .h10 | exact .h11 | exact .h12 | exact .h13 | exact .h14))
                    refine thenQ_n (hK33 _ _ ?_)
                    refine WC.seq (fun K34 hK34 => ?_)
                    refine WC.region ?_
                    refine WL.op rfl (opW.fieldAddrB rfl ?_)
                    refine WL.op rfl (opW.loadV rfl (hS.ld1 (by first | exact .h0 | exact .h1 | exact .h2 | exact .h3 | exact .h4 | exact .h5 | exact .h6 | exact .h7 | exact .h8 | exact .h9 | exact .h10 | exact .h11 | exact .h12 | exact .h13 | exact .h14) (Lookup.at_writes lks[k])) ?_)
                    refine WL.op rfl (opW.call (list_ok _ _ _ b4 s89 (put4 c k ++ lks[k].table.toList) _ c.lks[k].2.1 (by omega) (by simp only [List.length_append, Vector.length_toList]; omega) (fun w hw => hla.bel hw.old) hS) rfl ?_)
                    rintro v92 w ⟨s92, hS⟩
                    refine WL.nil ?_
                    refine thenQ_n (hK34 _ _ ?_)
                    refine WC.region ?_
                    refine WL.op rfl (opW.fieldAddrB rfl ?_)
                    refine WL.op rfl (opW.loadV rfl (hS.ld1 (by first | exact .h0 | exact .h1 | exact .h2 | exact .h3 | exact .h4 | exact .h5 | exact .h6 | exact .h7 | exact .h8 | exact .h9 | exact .h10 | exact .h11 | exact .h12 | exact .h13 | exact .h14) (Lookup.at_reads lks[k])) ?_)
                    refine WL.op rfl (opW.call (list_ok _ _ _ b4 s92 (put4 c k ++ lks[k].table.toList ++ listB c.lks[k].2.1) _ c.lks[k].2.2 (by omega) (by have := listB_len c.lks[k].2.1; simp only [List.length_append, Vector.length_toList]; omega) (fun w hw => hld.bel hw.old) hS) rfl ?_)
                    rintro v95 w ⟨s95, hS⟩
                    replace hS : St w0 [blkE b4 #[s95.v] 87, ownE s95.v 5 (put4 c (k + 1)), blkE b1 (Enc.enc m) 31] w := by
                      have e1 : put4 c (k + 1) = put4 c k ++ lks[k].table.toList ++ listB c.lks[k].2.1 ++ (shortB c.lks[k].2.2.length ++ c.lks[k].2.2) := by unfold put4; rw [fm_step _ hkc, hp]; simp only [putL, listB, List.append_assoc]
                      rw [e1]
                      exact hS.sub (by repeat (first | with_reducible exact List.nil_sublist _ | with_reducible exact List.Sublist.refl _ | with_reducible refine List.Sublist.cons₂ _ ?_ | with_reducible refine List.Sublist.cons _ ?_))
                    refine WL.nil ?_
                    refine blockQ_n ?_
                    refine thenQ_n (hK31 _ _ ?_)
                    refine WC.region ?_
                    refine WL.op rfl (opW.add rfl rfl (wrap_i64 (by omega)) ?_)
                    refine WL.op rfl (opW.moveI rfl ?_)
                    refine WL.nil ?_
                    refine thenQ_n ?_
                    exact ⟨lks.length - (k + 1), by omega, k + 1, _, ⟨rfl, rfl, rfl, congrArg (Value.int .i64) (by omega), trivial⟩, hS, by omega, rfl⟩
                  ·
                    have hr5 := hc5
                    try simp only [decide_eq_true_eq, decide_eq_false_iff_not, Bool.and_eq_true, Bool.or_eq_true, Bool.and_eq_false_iff, Bool.or_eq_false_iff, Bool.not_eq_true', Bool.not_eq_false', Int.not_lt, Int.not_le] at hc5
                    obtain rfl : k = lks.length := by omega
                    rw [hkl2] at hS
                    have hF : putF c = put4 c c.lks.length := by unfold putF; rw [hv0]; rfl
                    rw [← hF] at hS
                    refine WC.exit ?_
                    refine thenQ_e ?_
                    refine thenQ_e ?_
                    refine blockQ_hit ?_
                    refine thenQ_n (hK25 _ _ ?_)
                    refine WC.seq (fun K35 hK35 => ?_)
                    refine WC.region ?_
                    refine WL.op rfl (opW.loadV rfl (hS.ld1 (by first | exact .h0 | exact .h1 | exact .h2 | exact .h3 | exact .h4 | exact .h5 | exact .h6 | exact .h7 | exact .h8 | exact .h9 | exact .h10 | exact .h11 | exact .h12 | exact .h13 | exact .h14) (cs := #[s.v]) (o := 0) rfl) ?_)
                    refine WL.op rfl (opW.call (clip_l _ _ (putF c) (hS.sl (v := s.v) (xs := putF c) (by first | exact .h0 | exact .h1 | exact .h2 | exact .h3 | exact .h4 | exact .h5 | exact .h6 | exact .h7 | exact .h8 | exact .h9 | exact .h10 | exact .h11 | exact .h12 | exact .h13 | exact .h14))) rfl ?_)
                    rintro v98 w ⟨hv98, hw⟩; replace hS := hS.bel hw
                    refine WL.op rfl (opW.assignV (v := v98) rfl ?_)
                    refine WL.op rfl (opW.assignI rfl ?_)
                    refine WL.nil ?_
                    refine thenQ_n (hK35 _ _ ?_)
                    refine WC.ret ?_
                    refine bodyQ_ret (.tmpV (v := v98) rfl (.tmpI rfl .nil)) ?_
                    subst hv98
                    exact ⟨_, _, rfl, .inr ⟨hmay, New.cut (v := s.v) (hS.own_new (v := s.v) (xs := putF c) (by first | exact .h0 | exact .h1 | exact .h2 | exact .h3 | exact .h4 | exact .h5 | exact .h6 | exact .h7 | exact .h8 | exact .h9 | exact .h10 | exact .h11 | exact .h12 | exact .h13 | exact .h14)), rfl⟩, hS.old⟩
              ·
                have hr4 := hc4
                try simp only [decide_eq_true_eq, decide_eq_false_iff_not, Bool.and_eq_true, Bool.or_eq_true, Bool.and_eq_false_iff, Bool.or_eq_false_iff, Bool.not_eq_true', Bool.not_eq_false', Int.not_lt, Int.not_le] at hc4
                have hv0 : c.v0 = false := by rw [← hc.v0]; exact hr4
                have hF : putF c = put3 c c.ins.length := by unfold putF; rw [hv0]; rfl
                rw [← hF] at hS
                refine WC.skip ?_
                refine thenQ_n (hK25 _ _ ?_)
                refine WC.seq (fun K36 hK36 => ?_)
                refine WC.region ?_
                refine WL.op rfl (opW.loadV rfl (hS.ld1 (by first | exact .h0 | exact .h1 | exact .h2 | exact .h3 | exact .h4 | exact .h5 | exact .h6 | exact .h7 | exact .h8 | exact .h9 | exact .h10 | exact .h11 | exact .h12 | exact .h13 | exact .h14) (cs := #[s.v]) (o := 0) rfl) ?_)
                refine WL.op rfl (opW.call (clip_l _ _ (putF c) (hS.sl (v := s.v) (xs := putF c) (by first | exact .h0 | exact .h1 | exact .h2 | exact .h3 | exact .h4 | exact .h5 | exact .h6 | exact .h7 | exact .h8 | exact .h9 | exact .h10 | exact .h11 | exact .h12 | exact .h13 | exact .h14))) rfl ?_)
                rintro v98 w ⟨hv98, hw⟩; replace hS := hS.bel hw
                refine WL.op rfl (opW.assignV (v := v98) rfl ?_)
                refine WL.op rfl (opW.assignI rfl ?_)
                refine WL.nil ?_
                refine thenQ_n (hK36 _ _ ?_)
                refine WC.ret ?_
                refine bodyQ_ret (.tmpV (v := v98) rfl (.tmpI rfl .nil)) ?_
                subst hv98
                exact ⟨_, _, rfl, .inr ⟨hmay, New.cut (v := s.v) (hS.own_new (v := s.v) (xs := putF c) (by first | exact .h0 | exact .h1 | exact .h2 | exact .h3 | exact .h4 | exact .h5 | exact .h6 | exact .h7 | exact .h8 | exact .h9 | exact .h10 | exact .h11 | exact .h12 | exact .h13 | exact .h14)), rfl⟩, hS.old⟩

end Go.Fer
