/- what Get puts off, and Get -/
import Derived.Test.YtmiacbnmifejdaaF
set_option linter.all false
namespace Go.Fer
open Go Go.Proofs Go.RowKit

instance : IfaceT Try.prog 20 := ⟨_, Try.underlying20⟩
/-- the call at the end, where nothing went wrong -/
theorem get1_ret (wb w0 : World) (S : List Ent) (x2 x3 x4 : Value) (hS0 : St wb S w0) : CallsD Try.prog 61 [x2, x3, x4].toArray .returning w0 (fun e m w' => m = .returning ∧ ∃ x, e = .returned x ∧ St wb S w') := by
  refine callsD_rec (args := [x2, x3, x4]) (n := 20) (R := fun w' => St wb S w') Try.func61 rfl Try.ntmps61 Try.results61 rfl rfl rfl (.inl ⟨rfl, rfl, rfl⟩) ?_
  have hS := hS0
  refine WC.seq (fun K1 hK1 => ?_)
  refine WC.region ?_
  refine WL.op rfl (opW.moveV (v := .nilIface) rfl ?_)
  refine WL.op rfl (opW.neqNilI rfl (.inl ⟨rfl, rfl⟩) ?_)
  refine WL.nil ?_
  refine thenQ_n (hK1 _ _ ?_)
  refine WC.cond _ rfl (fun hc0 => ?_) (fun hc0 => ?_)
  ·
    have hr0 := hc0
    try simp only [decide_eq_true_eq, decide_eq_false_iff_not, Bool.and_eq_true, Bool.or_eq_true, Bool.and_eq_false_iff, Bool.or_eq_false_iff, Bool.not_eq_true', Bool.not_eq_false', Int.not_lt, Int.not_le] at hc0
    exact absurd hr0 (by decide)
  ·
    have hr0 := hc0
    try simp only [decide_eq_true_eq, decide_eq_false_iff_not, Bool.and_eq_true, Bool.or_eq_true, Bool.and_eq_false_iff, Bool.or_eq_false_iff, Bool.not_eq_true', Bool.not_eq_false', Int.not_lt, Int.not_le] at hc0
    refine WC.skip ?_
    exact hS.sub (by repeat (first | with_reducible exact List.nil_sublist _ | with_reducible exact List.Sublist.refl _ | with_reducible refine List.Sublist.cons₂ _ ?_ | with_reducible refine List.Sublist.cons _ ?_))
/-- the call at the end, where the reader gave up -/
theorem get1_pan (wb w0 : World) (S : List Ent) (p2 p3 p4 : Nat) (c2 : Array Value) (x3 x4 : Value) (e : Int) (hc2 : c2.size = Enc.sz Message) (hS0 : St wb (blkE p2 c2 31 :: blkE p3 #[x3] 3 :: blkE p4 #[x4] 38 :: S) w0) :
    CallsD Try.prog 61 [.pointer (some ⟨p2, 0, none⟩), .pointer (some ⟨p3, 0, none⟩), .pointer (some ⟨p4, 0, none⟩)].toArray (.panicking [pe (stopV e)]) w0 (fun en m w' => m = .panicking [{ v := stopV e, recovered := true }] ∧ ∃ x, en = .returned x ∧ St wb (blkE p2 (Enc.enc (⟨false, ⟨0, 0, 0⟩, ⟨none, 0, 0⟩, vz 32, ⟨none, 0, 0⟩, ⟨none, 0, 0⟩⟩ : Message)) 31 :: blkE p3 #[.int .i64 0] 3 :: blkE p4 #[.int .i64 e] 38 :: S) w') := by
  refine callsD_rec (args := [.pointer (some ⟨p2, 0, none⟩), .pointer (some ⟨p3, 0, none⟩), .pointer (some ⟨p4, 0, none⟩)]) (n := 20) (v := stopV e) (R := fun w' => St wb (blkE p2 (Enc.enc (⟨false, ⟨0, 0, 0⟩, ⟨none, 0, 0⟩, vz 32, ⟨none, 0, 0⟩, ⟨none, 0, 0⟩⟩ : Message)) 31 :: blkE p3 #[.int .i64 0] 3 :: blkE p4 #[.int .i64 e] 38 :: S) w') Try.func61 rfl Try.ntmps61 Try.results61 rfl rfl rfl (.inr ⟨rfl, rfl⟩) ?_
  have hS := hS0
  refine WC.seq (fun K1 hK1 => ?_)
  refine WC.region ?_
  refine WL.op rfl (opW.moveV (v := stopV e) rfl ?_)
  refine WL.op rfl (opW.neqNilI rfl (.inr ⟨⟨_, _, rfl⟩, rfl⟩) ?_)
  refine WL.nil ?_
  refine thenQ_n (hK1 _ _ ?_)
  refine WC.cond _ rfl (fun hc0 => ?_) (fun hc0 => ?_)
  ·
    have hr0 := hc0
    try simp only [decide_eq_true_eq, decide_eq_false_iff_not, Bool.and_eq_true, Bool.or_eq_true, Bool.and_eq_false_iff, Bool.or_eq_false_iff, Bool.not_eq_true', Bool.not_eq_false', Int.not_lt, Int.not_le] at hc0
    refine WC.seq (fun K2 hK2 => ?_)
    refine WC.region ?_
    refine WL.op rfl (opW.moveV (v := stopV e) rfl ?_)
    refine WL.op rfl (opW.assertOk (v := .agg (Enc.enc (⟨e⟩ : Stop))) rfl ?_)
    refine WL.op rfl (opW.moveV (v := .tuple #[.agg (Enc.enc (⟨e⟩ : Stop)), .bool true]) rfl ?_)
    refine WL.op rfl (opW.extract rfl rfl ?_)
    refine WL.op rfl (opW.extract rfl rfl ?_)
    refine WL.op rfl (opW.allocA hS ?_)
    intro b4 w _ hS
    refine WL.op0 (opW.storeE (r := (⟨e⟩ : Stop)) hS rfl rfl (by first | exact .h0 | exact .h1 | exact .h2 | exact .h3 | exact .h4 | exact .h5 | exact .h6 | exact .h7 | exact .h8 | exact .h9 | exact .h10 | exact .h11 | exact .h12 | exact .h13 | exact .h14) rfl ?_)
    intro w hS; replace hS := hS _ (by first | exact .h0 | exact .h1 | exact .h2 | exact .h3 | exact .h4 | exact .h5 | exact .h6 | exact .h7 | exact .h8 | exact .h9 | exact .h10 | exact .h11 | exact .h12 | exact .h13 | exact .h14)
    refine WL.op rfl (opW.assignB rfl ?_)
    refine WL.nil ?_
    refine thenQ_n (hK2 _ _ ?_)
    refine WC.seq (fun K3 hK3 => ?_)
    refine WC.seq (fun K4 hK4 => ?_)
    refine WC.region ?_
    refine WL.op rfl (opW.moveB rfl ?_)
    refine WL.op rfl (opW.not rfl ?_)
    refine WL.nil ?_
    refine thenQ_n (hK4 _ _ ?_)
    refine WC.cond _ rfl (fun hc1 => ?_) (fun hc1 => ?_)
    ·
      have hr1 := hc1
      try simp only [decide_eq_true_eq, decide_eq_false_iff_not, Bool.and_eq_true, Bool.or_eq_true, Bool.and_eq_false_iff, Bool.or_eq_false_iff, Bool.not_eq_true', Bool.not_eq_false', Int.not_lt, Int.not_le] at hc1
      exact absurd hr1 (by decide)
    ·
      have hr1 := hc1
      try simp only [decide_eq_true_eq, decide_eq_false_iff_not, Bool.and_eq_true, Bool.or_eq_true, Bool.and_eq_false_iff, Bool.or_eq_false_iff, Bool.not_eq_true', Bool.not_eq_false', Int.not_lt, Int.not_le] at hc1
      refine WC.skip ?_
      refine thenQ_n (hK3 _ _ ?_)
      refine WC.drawI 6 (.look 0 (.look 1 (.look 2 (.one 3 (.one 4 (.one 5 .nil)))))) (by kernel_rfl) (fun _ _ _ h => h) (fun w1 hw1 => ?_)
      replace hS := hS.bel hw1
      have hS1 := hS
      refine ⟨fun w' => Ld Try.prog 38 w' (.pointer (some ⟨b4, 0, none⟩)) (.int .i64 e), hS.ld1 (by first | exact .h0 | exact .h1 | exact .h2 | exact .h3 | exact .h4 | exact .h5 | exact .h6 | exact .h7 | exact .h8 | exact .h9 | exact .h10 | exact .h11 | exact .h12 | exact .h13 | exact .h14) (show (Enc.enc (⟨e⟩ : Stop))[0]? = some (.int .i64 e) from Stop.at_e ⟨e⟩), ?_⟩
      refine ML.look rfl rfl rfl (fun w hw => (by skip; exact opW.buildE (r := (⟨false, ⟨0, 0, 0⟩, ⟨none, 0, 0⟩, vz 32, ⟨none, 0, 0⟩, ⟨none, 0, 0⟩⟩ : Message)) (ps := Message.parts (⟨false, ⟨0, 0, 0⟩, ⟨none, 0, 0⟩, vz 32, ⟨none, 0, 0⟩, ⟨none, 0, 0⟩⟩ : Message)) (Message.enc_eq _) (by first | (simp only [enc_vset, enc_vz, Header.enc_eq, Header.parts, Instr.enc_eq, Instr.parts, Lookup.enc_eq, Lookup.parts, Message.enc_eq, Message.parts, Tx.enc_eq, Tx.parts, Reader.enc_eq, Reader.parts, Stop.enc_eq, Stop.parts]; rfl) | rfl) (by (repeat' (first | exact trivial | refine And.intro ?_ ?_)) <;> first | rfl | exact Enc.size_eq _ | (simp; done)) ⟨rfl, rfl⟩)) ?_
      refine ML.look rfl rfl rfl (fun w hw => (by skip; exact opW.fieldAddrB rfl ⟨rfl, rfl⟩)) ?_
      refine ML.look rfl rfl rfl (fun w hw => (by skip; exact opW.loadV rfl (hw) ⟨rfl, rfl⟩)) ?_
      refine ML.one0 rfl rfl (opW.storeE (r := (⟨false, ⟨0, 0, 0⟩, ⟨none, 0, 0⟩, vz 32, ⟨none, 0, 0⟩, ⟨none, 0, 0⟩⟩ : Message)) hS rfl rfl (by first | exact .h0 | exact .h1 | exact .h2 | exact .h3 | exact .h4 | exact .h5 | exact .h6 | exact .h7 | exact .h8 | exact .h9 | exact .h10 | exact .h11 | exact .h12 | exact .h13 | exact .h14) hc2 ?_)
      intro w hS; replace hS := hS _ (by first | exact .h0 | exact .h1 | exact .h2 | exact .h3 | exact .h4 | exact .h5 | exact .h6 | exact .h7 | exact .h8 | exact .h9 | exact .h10 | exact .h11 | exact .h12 | exact .h13 | exact .h14)
      refine ⟨hS.ld1 (by first | exact .h0 | exact .h1 | exact .h2 | exact .h3 | exact .h4 | exact .h5 | exact .h6 | exact .h7 | exact .h8 | exact .h9 | exact .h10 | exact .h11 | exact .h12 | exact .h13 | exact .h14) (show (Enc.enc (⟨e⟩ : Stop))[0]? = some (.int .i64 e) from Stop.at_e ⟨e⟩), ?_⟩
      refine ML.one0 rfl rfl (opW.storeF (b := p3) (o := 0) (v := .int .i64 0) (sz := 1) (cs := #[x3]) (cs' := #[.int .i64 0]) hS rfl rfl (by first | exact .h0 | exact .h1 | exact .h2 | exact .h3 | exact .h4 | exact .h5 | exact .h6 | exact .h7 | exact .h8 | exact .h9 | exact .h10 | exact .h11 | exact .h12 | exact .h13 | exact .h14) rfl (Nat.le_refl 1) (one_int _ _) rfl ?_)
      intro w hS; replace hS := hS _ (by first | exact .h0 | exact .h1 | exact .h2 | exact .h3 | exact .h4 | exact .h5 | exact .h6 | exact .h7 | exact .h8 | exact .h9 | exact .h10 | exact .h11 | exact .h12 | exact .h13 | exact .h14)
      refine ⟨hS.ld1 (by first | exact .h0 | exact .h1 | exact .h2 | exact .h3 | exact .h4 | exact .h5 | exact .h6 | exact .h7 | exact .h8 | exact .h9 | exact .h10 | exact .h11 | exact .h12 | exact .h13 | exact .h14) (show (Enc.enc (⟨e⟩ : Stop))[0]? = some (.int .i64 e) from Stop.at_e ⟨e⟩), ?_⟩
      refine ML.one0 rfl rfl (opW.storeF (b := p4) (o := 0) (v := .int .i64 e) (sz := 1) (cs := #[x4]) (cs' := #[.int .i64 e]) hS rfl rfl (by first | exact .h0 | exact .h1 | exact .h2 | exact .h3 | exact .h4 | exact .h5 | exact .h6 | exact .h7 | exact .h8 | exact .h9 | exact .h10 | exact .h11 | exact .h12 | exact .h13 | exact .h14) rfl (Nat.le_refl 1) (one_int _ _) rfl ?_)
      intro w hS; replace hS := hS _ (by first | exact .h0 | exact .h1 | exact .h2 | exact .h3 | exact .h4 | exact .h5 | exact .h6 | exact .h7 | exact .h8 | exact .h9 | exact .h10 | exact .h11 | exact .h12 | exact .h13 | exact .h14)
      refine ⟨hS.ld1 (by first | exact .h0 | exact .h1 | exact .h2 | exact .h3 | exact .h4 | exact .h5 | exact .h6 | exact .h7 | exact .h8 | exact .h9 | exact .h10 | exact .h11 | exact .h12 | exact .h13 | exact .h14) (show (Enc.enc (⟨e⟩ : Stop))[0]? = some (.int .i64 e) from Stop.at_e ⟨e⟩), ?_⟩
      refine ML.nil ?_
      exact hS.sub (by repeat (first | with_reducible exact List.nil_sublist _ | with_reducible exact List.Sublist.refl _ | with_reducible refine List.Sublist.cons₂ _ ?_ | with_reducible refine List.Sublist.cons _ ?_))
  ·
    have hr0 := hc0
    try simp only [decide_eq_true_eq, decide_eq_false_iff_not, Bool.and_eq_true, Bool.or_eq_true, Bool.and_eq_false_iff, Bool.or_eq_false_iff, Bool.not_eq_true', Bool.not_eq_false', Int.not_lt, Int.not_le] at hc0
    exact absurd hr0 (by decide)
/-- an end by 'return' -/
def retQ (J : Fr → World → Prop) : Exit → Fr → World → Prop
  | .ret, f, w => J f w
  | _, _, _ => False
/-- what Get gives -/
def gotR (w0 : World) (xs : List UInt8) (u : Value) (w' : World) : Prop := ∃ (m : Message) (is : List Instr) (ls : List Lookup), u = .tuple #[.agg (Enc.enc m), .int .i64 ((getF xs).2.1 : Int), .int .i64 (getF xs).2.2] ∧ GotM m is ls (getF xs).1 ∧ St w0 (gotL m is ls (getF xs).1) w'
/-- how Get's body ends, ahead of the call at the end -/
def getEnd (w0 : World) (xs : List UInt8) (b2 b3 b4 : Nat) : Exit → Fr → World → Prop := fun e f' w2 => ∃ m m' : FrameMode, (e = .normal ∧ m = .returning ∨ e = .ret ∧ m = .returning ∨ ∃ c, e = .panic c ∧ m = .panicking c) ∧ m ≠ .run ∧ settle m' = .returning ∧
  ∃ R1 : World → Prop, CallsD Try.prog 61 [.pointer (some ⟨b2, 0, none⟩), .pointer (some ⟨b3, 0, none⟩), .pointer (some ⟨b4, 0, none⟩)].toArray m w2 (fun e u' w3 => u' = m' ∧ ∃ x, e = .returned x ∧ R1 w3) ∧ ∀ w3, R1 w3 → ∃ vs, ResV Try.prog f' w3 [.cell 2 31, .cell 3 3, .cell 4 38] vs ∧ gotR w0 xs (resOne vs) w3
theorem ld_at {P : Program} {T : Nat} {w : World} {p q v : Value} (h : p = q) (hl : Ld P T w q v) : Ld P T w p v := h ▸ hl
theorem get_fin (w0 : World) (xs : List UInt8) (m : Message) (is : List Instr) (ls : List Lookup) (a' b2 b3 b4 b9 : Nat) (sx : SlV) (hgm : GotM m is ls (rMsg xs (.ok 0)).1) (he : (rMsg xs (.ok 0)).2 = .ok a') (e : Exit) (f' : Fr) (w : World)
    (h : retQ (fun f w => f 2 = .pointer (some ⟨b2, 0, none⟩) ∧ f 3 = .pointer (some ⟨b3, 0, none⟩) ∧ f 4 = .pointer (some ⟨b4, 0, none⟩) ∧ St w0 (gotL m is ls (rMsg xs (.ok 0)).1 ++ rdE b9 sx a' :: [blkE b4 #[.int .i64 0] 38, blkE b3 #[.int .i64 (a' : Int)] 3, blkE b2 (Enc.enc m) 31]) w) e f' w) : getEnd w0 xs b2 b3 b4 e f' w := by
  cases e with
  | ret =>
    obtain ⟨h2, h3, h4, hS⟩ := h
    have hgt : getF xs = ((rMsg xs (.ok 0)).1, a', 0) := by unfold getF; rw [he]
    refine ⟨.returning, .returning, .inr (.inl ⟨rfl, rfl⟩), by simp, rfl, _, get1_ret w0 w _ _ _ _ hS, fun w3 hS => ?_⟩
    unfold gotL at hS
    simp only [List.cons_append, List.nil_append] at hS
    refine ⟨_, .cell (ld_at h2 (hS.ldA (cs := Enc.enc m) (by first | exact .h0 | exact .h1 | exact .h2 | exact .h3 | exact .h4 | exact .h5 | exact .h6 | exact .h7 | exact .h8 | exact .h9 | exact .h10 | exact .h11 | exact .h12 | exact .h13 | exact .h14) (by exact Enc.size_eq _))) (.cell (ld_at h3 (hS.ld1 (v := .int .i64 (a' : Int)) (cs := #[.int .i64 (a' : Int)]) (by first | exact .h0 | exact .h1 | exact .h2 | exact .h3 | exact .h4 | exact .h5 | exact .h6 | exact .h7 | exact .h8 | exact .h9 | exact .h10 | exact .h11 | exact .h12 | exact .h13 | exact .h14) rfl)) (.cell (ld_at h4 (hS.ld1 (v := .int .i64 0) (E := 38) (cs := #[.int .i64 0]) (by first | exact .h0 | exact .h1 | exact .h2 | exact .h3 | exact .h4 | exact .h5 | exact .h6 | exact .h7 | exact .h8 | exact .h9 | exact .h10 | exact .h11 | exact .h12 | exact .h13 | exact .h14) rfl)) .nil)), m, is, ls, ?_, ?_, ?_⟩
    · rw [hgt]; rfl
    · rw [hgt]; exact hgm
    · rw [hgt]; unfold gotL; exact hS.sub (by repeat (first | with_reducible exact List.nil_sublist _ | with_reducible exact List.Sublist.refl _ | with_reducible refine List.Sublist.cons₂ _ ?_ | with_reducible refine List.Sublist.cons _ ?_))
  | _ => exact (h : False).elim
theorem get_gone (w0 : World) (xs : List UInt8) (e : Int) (a' b2 b3 b4 b9 : Nat) (sx : SlV) (he : (rMsg xs (.ok 0)).2 = .error e) {w : World} (hS : St w0 (rdE b9 sx a' :: [blkE b4 #[.int .i64 0] 38, blkE b3 #[.int .i64 0] 3, blkE b2 (Enc.enc (⟨false, ⟨0, 0, 0⟩, ⟨none, 0, 0⟩, vz 32, ⟨none, 0, 0⟩, ⟨none, 0, 0⟩⟩ : Message)) 31]) w) (f' : Fr)
    (h2 : f' 2 = .pointer (some ⟨b2, 0, none⟩)) (h3 : f' 3 = .pointer (some ⟨b3, 0, none⟩)) (h4 : f' 4 = .pointer (some ⟨b4, 0, none⟩)) : getEnd w0 xs b2 b3 b4 (.panic [pe (stopV e)]) f' w := by
  have hgt : getF xs = (zMC, 0, e) := by unfold getF; rw [he]
  have hS := ((hS.pick (e := blkE b4 #[.int .i64 0] 38) (by first | exact .h0 | exact .h1 | exact .h2 | exact .h3 | exact .h4 | exact .h5 | exact .h6 | exact .h7 | exact .h8 | exact .h9 | exact .h10 | exact .h11 | exact .h12 | exact .h13 | exact .h14)).pick (e := blkE b3 #[.int .i64 0] 3) (by first | exact .h0 | exact .h1 | exact .h2 | exact .h3 | exact .h4 | exact .h5 | exact .h6 | exact .h7 | exact .h8 | exact .h9 | exact .h10 | exact .h11 | exact .h12 | exact .h13 | exact .h14)).pick (e := blkE b2 (Enc.enc (⟨false, ⟨0, 0, 0⟩, ⟨none, 0, 0⟩, vz 32, ⟨none, 0, 0⟩, ⟨none, 0, 0⟩⟩ : Message)) 31) (by first | exact .h0 | exact .h1 | exact .h2 | exact .h3 | exact .h4 | exact .h5 | exact .h6 | exact .h7 | exact .h8 | exact .h9 | exact .h10 | exact .h11 | exact .h12 | exact .h13 | exact .h14)
  refine ⟨.panicking [pe (stopV e)], .panicking [{ v := stopV e, recovered := true }], .inr (.inr ⟨_, rfl, rfl⟩), by simp, rfl, _, get1_pan w0 w _ b2 b3 b4 _ _ _ e (by exact Enc.size_eq _) hS, fun w3 hS => ?_⟩
  refine ⟨_, .cell (ld_at h2 (hS.ldA (cs := Enc.enc (⟨false, ⟨0, 0, 0⟩, ⟨none, 0, 0⟩, vz 32, ⟨none, 0, 0⟩, ⟨none, 0, 0⟩⟩ : Message)) (by first | exact .h0 | exact .h1 | exact .h2 | exact .h3 | exact .h4 | exact .h5 | exact .h6 | exact .h7 | exact .h8 | exact .h9 | exact .h10 | exact .h11 | exact .h12 | exact .h13 | exact .h14) (by exact Enc.size_eq _))) (.cell (ld_at h3 (hS.ld1 (v := .int .i64 0) (E := 3) (cs := #[.int .i64 0]) (by first | exact .h0 | exact .h1 | exact .h2 | exact .h3 | exact .h4 | exact .h5 | exact .h6 | exact .h7 | exact .h8 | exact .h9 | exact .h10 | exact .h11 | exact .h12 | exact .h13 | exact .h14) rfl)) (.cell (ld_at h4 (hS.ld1 (v := .int .i64 e) (E := 38) (cs := #[.int .i64 e]) (by first | exact .h0 | exact .h1 | exact .h2 | exact .h3 | exact .h4 | exact .h5 | exact .h6 | exact .h7 | exact .h8 | exact .h9 | exact .h10 | exact .h11 | exact .h12 | exact .h13 | exact .h14) rfl)) .nil)), (⟨false, ⟨0, 0, 0⟩, ⟨none, 0, 0⟩, vz 32, ⟨none, 0, 0⟩, ⟨none, 0, 0⟩⟩ : Message), [], [], ?_, ?_, ?_⟩
  · rw [hgt]; rfl
  · rw [hgt]; exact ⟨rfl, rfl, rfl, rfl, rfl, rfl, rfl, (show (0 : Nat) < 65536 by decide), (show (0 : Nat) < 65536 by decide), (show (0 : Nat) < 65536 by decide)⟩
  · rw [hgt]
    exact St.nilOwn ((St.nilOwn ((hS.sub (List.nil_sublist _)).b2New) 92).b2New.nilOwn 90) 58
theorem get_ok (w0 : World) (sx : SlV) (xs : List UInt8) (hx : SlR w0 sx.v xs) (hxl : xs.length ≤ 1000000000) : Ret Try.prog 44 #[sx.v] w0 (gotR w0 xs) := by
  refine Ret.enterD (n := 17) (args := [sx.v]) (gc := 61) (d := 6) (J := fun f w' => ∃ b2 b3 b4, Fits [(0, sx.v), (2, .pointer (some ⟨b2, 0, none⟩)), (3, .pointer (some ⟨b3, 0, none⟩)), (4, .pointer (some ⟨b4, 0, none⟩))] f ∧ St w0 [blkE b4 #[.int .i64 0] 38, blkE b3 #[.int .i64 0] 3, blkE b2 (Enc.enc (⟨false, ⟨0, 0, 0⟩, ⟨none, 0, 0⟩, vz 32, ⟨none, 0, 0⟩, ⟨none, 0, 0⟩⟩ : Message)) 31] w') (cs := fun f => [f 2, f 3, f 4]) Try.func44 rfl Try.ntmps44 Try.results44 rfl rfl ?_ (fun _ => rfl) ?_
  · have hS := St.start w0
    refine WC.region ?_
    refine WL.op rfl (opW.allocA hS ?_)
    intro b2 w _ hS
    refine WL.op rfl (opW.alloc1 hS rfl ?_)
    intro b3 w _ hS
    refine WL.op rfl (opW.alloc1 hS rfl ?_)
    intro b4 w _ hS
    rw [mg_zero] at hS
    refine WL.nil ?_
    exact ⟨rfl, b2, b3, b4, ⟨rfl, rfl, rfl, rfl, trivial⟩, hS⟩
  · rintro f w l D ⟨b2, b3, b4, hfit, hS⟩ hl _
    obtain ⟨hf0, hf2, hf3, hf4, _⟩ := hfit
    obtain rfl : l = [.pointer (some ⟨b2, 0, none⟩), .pointer (some ⟨b3, 0, none⟩), .pointer (some ⟨b4, 0, none⟩)] := by rw [← hl, ← hf2, ← hf3, ← hf4]
    show WC _ _ _ (getEnd w0 xs b2 b3 b4) _ _
    refine WC.fits [(0, sx.v), (2, .pointer (some ⟨b2, 0, none⟩)), (3, .pointer (some ⟨b3, 0, none⟩)), (4, .pointer (some ⟨b4, 0, none⟩))] ⟨hf0, hf2, hf3, hf4, trivial⟩ (fun g => ?_)
    refine WC.seq (fun K1 hK1 => ?_)
    refine WC.region ?_
    refine WL.op rfl (opW.moveV (v := sx.v) rfl ?_)
    refine WL.op rfl (opW.buildE (r := (⟨sx, ((0 : Nat) : Int)⟩ : Reader)) (ps := Reader.parts (⟨sx, ((0 : Nat) : Int)⟩ : Reader)) (Reader.enc_eq _) (by first | rfl | (simp only [enc_vset, enc_vz, Header.enc_eq, Header.parts, Instr.enc_eq, Instr.parts, Lookup.enc_eq, Lookup.parts, Message.enc_eq, Message.parts, Tx.enc_eq, Tx.parts, Reader.enc_eq, Reader.parts, Stop.enc_eq, Stop.parts]; rfl)) (by (repeat' (first | exact trivial | refine And.intro ?_ ?_)) <;> first | rfl | exact Enc.size_eq _ | (simp; done)) ?_)
    refine WL.op rfl (opW.boxA hS rfl ?_)
    intro b9 w _ hS
    refine WL.op rfl (opW.assignV (v := .pointer (some ⟨b9, 0, none⟩)) rfl ?_)
    replace hS := hS.pick (e := rdE b9 sx 0) .here
    refine WL.nil ?_
    refine thenQ_n (hK1 _ _ ?_)
    refine WC.mid (fun f w => ∃ (m : Message) (is : List Instr) (ls : List Lookup) (a' : Nat), Fits [(2, .pointer (some ⟨b2, 0, none⟩)), (3, .pointer (some ⟨b3, 0, none⟩)), (4, .pointer (some ⟨b4, 0, none⟩)), (5, .pointer (some ⟨b9, 0, none⟩))] f ∧ GotM m is ls (rMsg xs (.ok 0)).1 ∧ (rMsg xs (.ok 0)).2 = .ok a' ∧ St w0 (gotL m is ls (rMsg xs (.ok 0)).1 ++ rdE b9 sx a' :: [blkE b4 #[.int .i64 0] 38, blkE b3 #[.int .i64 0] 3, blkE b2 (Enc.enc m) 31]) w) ?_ ?_
    ·
      refine WC.region ?_
      refine WL.op rfl (opW.moveV (v := .pointer (some ⟨b9, 0, none⟩)) rfl ?_)
      refine WL.opP rfl (opWP.call (rd_message _ _ _ b9 sx xs 0 hx hxl (Nat.zero_le _) hS) rfl ?_ ?_)
      · rintro pv w ⟨e, a', he, rfl, hS⟩
        exact get_gone w0 xs e a' b2 b3 b4 b9 sx he hS _ rfl rfl rfl
      rintro _ w ⟨m, is, ls, a', rfl, hgm, he, ha', hS⟩
      unfold gotL at hS
      simp only [List.cons_append, List.nil_append] at hS
      refine WL.op0 (opW.storeE (r := m) hS rfl rfl (by first | exact .h0 | exact .h1 | exact .h2 | exact .h3 | exact .h4 | exact .h5 | exact .h6 | exact .h7 | exact .h8 | exact .h9 | exact .h10 | exact .h11 | exact .h12 | exact .h13 | exact .h14) (by exact Enc.size_eq _) ?_)
      intro w hS; replace hS := hS _ (by first | exact .h0 | exact .h1 | exact .h2 | exact .h3 | exact .h4 | exact .h5 | exact .h6 | exact .h7 | exact .h8 | exact .h9 | exact .h10 | exact .h11 | exact .h12 | exact .h13 | exact .h14)
      refine WL.nil ?_
      refine thenQ_n ?_
      exact ⟨m, is, ls, a', ⟨rfl, rfl, rfl, rfl, trivial⟩, hgm, he, hS⟩
    ·
      rintro f w ⟨m, is, ls, a', hfit, hgm, he, hS⟩
      refine WC.fits _ hfit (fun g => ?_)
      clear hfit
      refine WC.mono (Q := retQ (fun f w => f 2 = .pointer (some ⟨b2, 0, none⟩) ∧ f 3 = .pointer (some ⟨b3, 0, none⟩) ∧ f 4 = .pointer (some ⟨b4, 0, none⟩) ∧ St w0 (gotL m is ls (rMsg xs (.ok 0)).1 ++ rdE b9 sx a' :: [blkE b4 #[.int .i64 0] 38, blkE b3 #[.int .i64 (a' : Int)] 3, blkE b2 (Enc.enc m) 31]) w)) ?_ (get_fin w0 xs m is ls a' b2 b3 b4 b9 sx hgm he)
      unfold gotL at hS ⊢
      simp only [List.cons_append, List.nil_append] at hS ⊢
      refine WC.seq (fun K2 hK2 => ?_)
      refine WC.drawP 8 (.look 0 (.look 1 (.look 2 (.look 3 (.look 4 (.one 5 (.one 6 (.one 7 .nil)))))))) (by kernel_rfl) (fun _ _ _ _ h => h) (fun w1 hw1 => ?_)
      replace hS := hS.bel hw1
      have hS1 := hS
      refine ⟨fun w' => Ld Try.prog 31 w' (.pointer (some ⟨b2, 0, none⟩)) (.agg (Enc.enc m)) ∧ Ld Try.prog 3 w' (.pointer (some ⟨b9, 1, none⟩)) (.int .i64 (a' : Int)), ⟨hS.ldA (cs := Enc.enc m) (by first | exact .h0 | exact .h1 | exact .h2 | exact .h3 | exact .h4 | exact .h5 | exact .h6 | exact .h7 | exact .h8 | exact .h9 | exact .h10 | exact .h11 | exact .h12 | exact .h13 | exact .h14) (by exact Enc.size_eq _), hS.ld1 (by first | exact .h0 | exact .h1 | exact .h2 | exact .h3 | exact .h4 | exact .h5 | exact .h6 | exact .h7 | exact .h8 | exact .h9 | exact .h10 | exact .h11 | exact .h12 | exact .h13 | exact .h14) (show (Enc.enc (⟨sx, (a' : Int)⟩ : Reader))[1]? = some (.int .i64 (a' : Int)) from Reader.at_at_ _)⟩, ?_⟩
      refine ML.look rfl rfl rfl (fun w hw => (by skip; exact opW.loadV rfl (hw.1) ⟨rfl, rfl⟩)) ?_
      refine ML.look rfl rfl rfl (fun w hw => (by skip; exact opW.moveV (v := .pointer (some ⟨b9, 0, none⟩)) rfl ⟨rfl, rfl⟩)) ?_
      refine ML.look rfl rfl rfl (fun w hw => (by skip; exact opW.nilCheckB rfl ⟨rfl, rfl⟩)) ?_
      refine ML.look rfl rfl rfl (fun w hw => (by skip; exact opW.fieldAddrB rfl ⟨rfl, rfl⟩)) ?_
      refine ML.look rfl rfl rfl (fun w hw => (by skip; exact opW.loadV rfl (hw.2) ⟨rfl, rfl⟩)) ?_
      refine ML.one0 rfl rfl (opW.storeE (r := m) hS rfl rfl (by first | exact .h0 | exact .h1 | exact .h2 | exact .h3 | exact .h4 | exact .h5 | exact .h6 | exact .h7 | exact .h8 | exact .h9 | exact .h10 | exact .h11 | exact .h12 | exact .h13 | exact .h14) (by exact Enc.size_eq _) ?_)
      intro w hS; replace hS := hS _ (by first | exact .h0 | exact .h1 | exact .h2 | exact .h3 | exact .h4 | exact .h5 | exact .h6 | exact .h7 | exact .h8 | exact .h9 | exact .h10 | exact .h11 | exact .h12 | exact .h13 | exact .h14)
      refine ⟨⟨hS.ldA (cs := Enc.enc m) (by first | exact .h0 | exact .h1 | exact .h2 | exact .h3 | exact .h4 | exact .h5 | exact .h6 | exact .h7 | exact .h8 | exact .h9 | exact .h10 | exact .h11 | exact .h12 | exact .h13 | exact .h14) (by exact Enc.size_eq _), hS.ld1 (by first | exact .h0 | exact .h1 | exact .h2 | exact .h3 | exact .h4 | exact .h5 | exact .h6 | exact .h7 | exact .h8 | exact .h9 | exact .h10 | exact .h11 | exact .h12 | exact .h13 | exact .h14) (show (Enc.enc (⟨sx, (a' : Int)⟩ : Reader))[1]? = some (.int .i64 (a' : Int)) from Reader.at_at_ _)⟩, ?_⟩
      refine ML.one0 rfl rfl (opW.storeF (b := b3) (o := 0) (v := .int .i64 (a' : Int)) (sz := 1) (cs := #[.int .i64 0]) (cs' := #[.int .i64 (a' : Int)]) hS rfl rfl (by first | exact .h0 | exact .h1 | exact .h2 | exact .h3 | exact .h4 | exact .h5 | exact .h6 | exact .h7 | exact .h8 | exact .h9 | exact .h10 | exact .h11 | exact .h12 | exact .h13 | exact .h14) rfl (Nat.le_refl 1) (one_int _ _) rfl ?_)
      intro w hS; replace hS := hS _ (by first | exact .h0 | exact .h1 | exact .h2 | exact .h3 | exact .h4 | exact .h5 | exact .h6 | exact .h7 | exact .h8 | exact .h9 | exact .h10 | exact .h11 | exact .h12 | exact .h13 | exact .h14)
      refine ⟨⟨hS.ldA (cs := Enc.enc m) (by first | exact .h0 | exact .h1 | exact .h2 | exact .h3 | exact .h4 | exact .h5 | exact .h6 | exact .h7 | exact .h8 | exact .h9 | exact .h10 | exact .h11 | exact .h12 | exact .h13 | exact .h14) (by exact Enc.size_eq _), hS.ld1 (by first | exact .h0 | exact .h1 | exact .h2 | exact .h3 | exact .h4 | exact .h5 | exact .h6 | exact .h7 | exact .h8 | exact .h9 | exact .h10 | exact .h11 | exact .h12 | exact .h13 | exact .h14) (show (Enc.enc (⟨sx, (a' : Int)⟩ : Reader))[1]? = some (.int .i64 (a' : Int)) from Reader.at_at_ _)⟩, ?_⟩
      refine ML.one0 rfl rfl (opW.storeF (b := b4) (o := 0) (v := .int .i64 0) (sz := 1) (cs := #[.int .i64 0]) (cs' := #[.int .i64 0]) hS rfl rfl (by first | exact .h0 | exact .h1 | exact .h2 | exact .h3 | exact .h4 | exact .h5 | exact .h6 | exact .h7 | exact .h8 | exact .h9 | exact .h10 | exact .h11 | exact .h12 | exact .h13 | exact .h14) rfl (Nat.le_refl 1) (one_int _ _) rfl ?_)
      intro w hS; replace hS := hS _ (by first | exact .h0 | exact .h1 | exact .h2 | exact .h3 | exact .h4 | exact .h5 | exact .h6 | exact .h7 | exact .h8 | exact .h9 | exact .h10 | exact .h11 | exact .h12 | exact .h13 | exact .h14)
      refine ⟨⟨hS.ldA (cs := Enc.enc m) (by first | exact .h0 | exact .h1 | exact .h2 | exact .h3 | exact .h4 | exact .h5 | exact .h6 | exact .h7 | exact .h8 | exact .h9 | exact .h10 | exact .h11 | exact .h12 | exact .h13 | exact .h14) (by exact Enc.size_eq _), hS.ld1 (by first | exact .h0 | exact .h1 | exact .h2 | exact .h3 | exact .h4 | exact .h5 | exact .h6 | exact .h7 | exact .h8 | exact .h9 | exact .h10 | exact .h11 | exact .h12 | exact .h13 | exact .h14) (show (Enc.enc (⟨sx, (a' : Int)⟩ : Reader))[1]? = some (.int .i64 (a' : Int)) from Reader.at_at_ _)⟩, ?_⟩
      refine ML.nil ?_
      refine thenQ_n (hK2 _ _ ?_)
      refine WC.ret ?_
      exact ⟨rfl, rfl, rfl, hS⟩

end Go.Fer
