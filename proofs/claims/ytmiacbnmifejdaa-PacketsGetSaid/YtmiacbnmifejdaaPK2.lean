/- the book, and a transaction in it -/
import Derived.Test.YtmiacbnmifejdaaD
import Derived.Test.YtmiacbnmifejdaaPJS
set_option linter.all false
namespace Go.Fer
open Go Go.Proofs Go.RowKit

structure ShByte where
  l : SlV
  here : UInt8
  far : UInt8
def ShByte.parts (x : ShByte) : List (Array Value) := [#[x.l.v], #[.int .u8 x.here.toNat], #[.int .u8 x.far.toNat]]
theorem ShByte.sizes (x : ShByte) : x.parts.map Array.size = [1, 1, 1] := by
  simp only [ShByte.parts, List.map, Enc.size_eq]; rfl
instance : Enc ShByte where
  enc x := joinA x.parts
  sz := 3
  pos := by omega
  size_eq x := by rw [joinA_size, ShByte.sizes]; rfl
  one x := joinA_one (all_cons (Enc.one (α := SlV) _) (all_cons (one_int _ _) (all_cons (one_int _ _) all_nil)))
theorem ShByte.enc_eq (x : ShByte) : Enc.enc x = joinA x.parts := rfl
theorem ShByte.at_l (x : ShByte) : (Enc.enc x)[0]? = some (x.l.v) := joinA_at [] [#[.int .u8 x.here.toNat], #[.int .u8 x.far.toNat]] _ (by rw [joinA_size]; simp only [List.map, Enc.size_eq]; rfl)
theorem ShByte.at_here (x : ShByte) : (Enc.enc x)[1]? = some (.int .u8 x.here.toNat) := joinA_at [#[x.l.v]] [#[.int .u8 x.far.toNat]] _ (by rw [joinA_size]; simp only [List.map, Enc.size_eq]; rfl)
theorem ShByte.at_far (x : ShByte) : (Enc.enc x)[2]? = some (.int .u8 x.far.toNat) := joinA_at [#[x.l.v], #[.int .u8 x.here.toNat]] [] _ (by rw [joinA_size]; simp only [List.map, Enc.size_eq]; rfl)
theorem ShByte.set_l (x : ShByte) (v : SlV) : spl (Enc.enc x) 0 #[v.v] = Enc.enc { x with l := v } := by
  have h := spl_join [] [#[.int .u8 x.here.toNat], #[.int .u8 x.far.toNat]] (#[x.l.v]) (#[v.v]) (by first | (rw [Enc.size_eq, Enc.size_eq]; done) | rfl)
  rw [show (joinA []).size = 0 from (by rw [joinA_size]; simp only [List.map, Enc.size_eq]; rfl)] at h
  exact h
theorem ShByte.set_here (x : ShByte) (v : UInt8) : spl (Enc.enc x) 1 #[.int .u8 v.toNat] = Enc.enc { x with here := v } := by
  have h := spl_join [#[x.l.v]] [#[.int .u8 x.far.toNat]] (#[.int .u8 x.here.toNat]) (#[.int .u8 v.toNat]) (by first | (rw [Enc.size_eq, Enc.size_eq]; done) | rfl)
  rw [show (joinA [#[x.l.v]]).size = 1 from (by rw [joinA_size]; simp only [List.map, Enc.size_eq]; rfl)] at h
  exact h
theorem ShByte.set_far (x : ShByte) (v : UInt8) : spl (Enc.enc x) 2 #[.int .u8 v.toNat] = Enc.enc { x with far := v } := by
  have h := spl_join [#[x.l.v], #[.int .u8 x.here.toNat]] [] (#[.int .u8 x.far.toNat]) (#[.int .u8 v.toNat]) (by first | (rw [Enc.size_eq, Enc.size_eq]; done) | rfl)
  rw [show (joinA [#[x.l.v], #[.int .u8 x.here.toNat]]).size = 2 from (by rw [joinA_size]; simp only [List.map, Enc.size_eq]; rfl)] at h
  exact h
def ShByte.ok (w : World) (x : ShByte) : Prop := (∃ l : List (UInt8), SlR w x.l.v l ∧ ∀ e ∈ l, True)
theorem ShByte.ok.bel {w w' : World} {x : ShByte} (hb : Bel w w') (h : ShByte.ok w x) : ShByte.ok w' x := by
  unfold ShByte.ok at h ⊢
  obtain ⟨l0, g0⟩ := h
  exact (⟨_, g0.1.bel hb, fun e he => trivial⟩)
theorem rdw_ShByte : RdW Try.prog 73 ShByte ShByte.ok := by
  intro H enc w fuel cs d ps hr
  obtain ⟨hend, fuel', hf⟩ := rdS Try.underlying73 inferInstance hr
  obtain ⟨d0, ps0, h0⟩ := hf 0 _ 37 0 1 rfl rfl rfl inferInstance
  obtain ⟨x0, e0, i0⟩ := rd_slv (α := UInt8) inferInstance rdw_u8 inferInstance h0
  obtain ⟨d1, ps1, h1⟩ := hf 1 _ 5 1 1 rfl rfl rfl inferInstance
  obtain ⟨x1, e1⟩ := rd_u8' inferInstance h1
  obtain ⟨d2, ps2, h2⟩ := hf 2 _ 5 2 1 rfl rfl rfl inferInstance
  obtain ⟨x2, e2⟩ := rd_u8' inferInstance h2
  have k2 := cells_cut e2 hend
  have k1 := cells_cut e1 k2
  have k0 := cells_cut e0 k1
  refine ⟨⟨x0, x1, x2⟩, ?_, i0⟩
  rw [ShByte.enc_eq]; simp only [ShByte.parts, joinA_toList_cons, joinA_nil]
  rw [List.drop_zero] at k0; rw [k0]; try simp

theorem signA_Byte (wb w0 : World) (S : List Ent) (s : ShByte) (xs : List UInt8) (hS0 : St wb (ownE s.l.v 5 xs :: S) w0) : Ret Try.prog 102 #[.agg (Enc.enc s), .bool false] w0 (fun u w' => St wb (ownE s.l.v 5 (List.replicate xs.length s.here) :: S) w') := by
  refine Ret.enter (args := [.agg (Enc.enc s), .bool false]) Try.func102 rfl Try.ntmps102 Try.results102 rfl ?_
  have hS := St.start w0
  replace hS := hS0
  refine WC.seq (fun K1 hK1 => ?_)
  refine WC.region ?_
  refine WL.op rfl (opW.boxA hS rfl ?_)
  intro b2 w _ hS
  refine WL.nil ?_
  refine thenQ_n (hK1 _ _ ?_)
  refine WC.seq (fun K2 hK2 => ?_)
  refine WC.seq (fun K3 hK3 => ?_)
  refine WC.region ?_
  refine WL.op rfl (opW.moveB rfl ?_)
  refine WL.op rfl (opW.not rfl ?_)
  refine WL.nil ?_
  refine thenQ_n (hK3 _ _ ?_)
  refine WC.cond _ rfl (fun hc0 => ?_) (fun hc0 => ?_)
  ·
    have hr0 := hc0
    try simp only [decide_eq_true_eq, decide_eq_false_iff_not, Bool.and_eq_true, Bool.or_eq_true, Bool.and_eq_false_iff, Bool.or_eq_false_iff, Bool.not_eq_true', Bool.not_eq_false', Int.not_lt, Int.not_le] at hc0
    refine WC.seq (fun K4 hK4 => ?_)
    refine WC.seq (fun K5 hK5 => ?_)
    refine WC.region ?_
    refine WL.op rfl (opW.assignI rfl ?_)
    refine WL.nil ?_
    refine thenQ_n (hK5 _ _ ?_)
    refine WC.block ?_
    refine WC.loop (fun q f w => ∃ k : Nat, Fits [(2, .pointer (some ⟨b2, 0, none⟩)), (4, .int .i64 (k : Int))] f ∧ St wb (blkE b2 (Enc.enc s) 73 :: ownE s.l.v 5 (List.replicate k s.here ++ xs.drop k) :: S) w ∧ k ≤ xs.length ∧ q = xs.length - k) (xs.length) ?_ ?_
    ·
      exact ⟨0, ⟨rfl, rfl, trivial⟩, hS, Nat.zero_le _, rfl⟩
    ·
      rintro q f w ⟨k, hfit, hS, hk0, hm⟩
      refine WC.fits _ hfit (fun g => ?_)
      clear hfit
      have hll : (List.replicate k s.here ++ xs.drop k).length = xs.length := rep_len hk0
      have hle : xs.length ≤ maxLen := by rw [← hll]; exact (hS.sl (v := s.l.v) (xs := (List.replicate k s.here ++ xs.drop k)) (by first | exact .h0 | exact .h1 | exact .h2 | exact .h3 | exact .h4 | exact .h5 | exact .h6 | exact .h7 | exact .h8 | exact .h9 | exact .h10 | exact .h11 | exact .h12 | exact .h13 | exact .h14)).le
      simp only [maxLen] at hle
      refine WC.seq (fun K6 hK6 => ?_)
      refine WC.seq (fun K7 hK7 => ?_)
      refine WC.region ?_
      refine WL.op rfl (opW.moveI rfl ?_)
      refine WL.op rfl (opW.fieldAddrB rfl ?_)
      refine WL.op rfl (opW.loadV rfl (hS.ld1 (by first | exact .h0 | exact .h1 | exact .h2 | exact .h3 | exact .h4 | exact .h5 | exact .h6 | exact .h7 | exact .h8 | exact .h9 | exact .h10 | exact .h11 | exact .h12 | exact .h13 | exact .h14) (ShByte.at_l _)) ?_)
      refine WL.op rfl (opW.lenV rfl (hS.sl (v := s.l.v) (xs := (List.replicate k s.here ++ xs.drop k)) (by first | exact .h0 | exact .h1 | exact .h2 | exact .h3 | exact .h4 | exact .h5 | exact .h6 | exact .h7 | exact .h8 | exact .h9 | exact .h10 | exact .h11 | exact .h12 | exact .h13 | exact .h14)) ?_)
      refine WL.op rfl (opW.lss rfl rfl ?_)
      refine WL.nil ?_
      refine thenQ_n (hK7 _ _ ?_)
      refine WC.cond _ rfl (fun hc1 => ?_) (fun hc1 => ?_)
      ·
        have hr1 := hc1
        try simp only [decide_eq_true_eq, decide_eq_false_iff_not, Bool.and_eq_true, Bool.or_eq_true, Bool.and_eq_false_iff, Bool.or_eq_false_iff, Bool.not_eq_true', Bool.not_eq_false', Int.not_lt, Int.not_le] at hc1
        have hkl : k < xs.length := by omega
        refine WC.skip ?_
        refine thenQ_n (hK6 _ _ ?_)
        refine WC.seq (fun K8 hK8 => ?_)
        refine WC.block ?_
        refine WC.region ?_
        refine WL.op rfl (opW.fieldAddrB rfl ?_)
        refine WL.op rfl (opW.loadV rfl (hS.ld1 (by first | exact .h0 | exact .h1 | exact .h2 | exact .h3 | exact .h4 | exact .h5 | exact .h6 | exact .h7 | exact .h8 | exact .h9 | exact .h10 | exact .h11 | exact .h12 | exact .h13 | exact .h14) (ShByte.at_l _)) ?_)
        refine WL.op rfl (opW.moveI rfl ?_)
        refine WL.op rfl (opW.fieldAddrB rfl ?_)
        refine WL.op rfl (opW.loadV rfl (hS.ld1 (by first | exact .h0 | exact .h1 | exact .h2 | exact .h3 | exact .h4 | exact .h5 | exact .h6 | exact .h7 | exact .h8 | exact .h9 | exact .h10 | exact .h11 | exact .h12 | exact .h13 | exact .h14) (ShByte.at_here _)) ?_)
        refine WL.op rfl (opW.idxV rfl (hS.sl (v := s.l.v) (xs := (List.replicate k s.here ++ xs.drop k)) (by first | exact .h0 | exact .h1 | exact .h2 | exact .h3 | exact .h4 | exact .h5 | exact .h6 | exact .h7 | exact .h8 | exact .h9 | exact .h10 | exact .h11 | exact .h12 | exact .h13 | exact .h14)) rfl (by omega) ?_)
        refine WL.op0 (opW.storeOwn (v := s.l.v) (u := .int .u8 (s.here.toNat : Int)) (xs := (List.replicate k s.here ++ xs.drop k)) (i := k) (off := 0) (y' := s.here) hS (by first | exact .h0 | exact .h1 | exact .h2 | exact .h3 | exact .h4 | exact .h5 | exact .h6 | exact .h7 | exact .h8 | exact .h9 | exact .h10 | exact .h11 | exact .h12 | exact .h13 | exact .h14) (by omega) (ptrAdd_zero s.l.v k (Enc.sz UInt8)).symm rfl (by first | exact Enc.size_eq (α := UInt8) s.here | rfl) (by first | exact Nat.le_refl _ | decide) (Enc.one s.here) (spl_all (by rw [Enc.size_eq]; first | exact Enc.size_eq (α := UInt8) s.here | rfl)) ?_)
        intro w hS; replace hS := hS _ (by first | exact .h0 | exact .h1 | exact .h2 | exact .h3 | exact .h4 | exact .h5 | exact .h6 | exact .h7 | exact .h8 | exact .h9 | exact .h10 | exact .h11 | exact .h12 | exact .h13 | exact .h14)
        refine WL.nil ?_
        refine blockQ_n ?_
        refine thenQ_n (hK8 _ _ ?_)
        refine WC.region ?_
        refine WL.op rfl (opW.moveI rfl ?_)
        refine WL.op rfl (opW.add rfl rfl (wrap_i64 (by omega)) ?_)
        refine WL.op rfl (opW.assignI rfl ?_)
        refine WL.nil ?_
        refine thenQ_n ?_
        rw [rep_set hkl] at hS
        exact ⟨xs.length - (k + 1), by omega, k + 1, ⟨rfl, congrArg (Value.int .i64) (by omega), trivial⟩, hS, by omega, rfl⟩
      ·
        have hr1 := hc1
        try simp only [decide_eq_true_eq, decide_eq_false_iff_not, Bool.and_eq_true, Bool.or_eq_true, Bool.and_eq_false_iff, Bool.or_eq_false_iff, Bool.not_eq_true', Bool.not_eq_false', Int.not_lt, Int.not_le] at hc1
        obtain rfl : k = xs.length := by omega
        rw [List.drop_length, List.append_nil] at hS
        refine WC.exit ?_
        refine thenQ_e ?_
        refine thenQ_e ?_
        refine blockQ_hit ?_
        refine thenQ_n (hK4 _ _ ?_)
        refine WC.ret ?_
        refine thenQ_r ?_
        refine bodyQ_ret .nil ?_
        exact hS.drop1
  ·
    have hr0 := hc0
    try simp only [decide_eq_true_eq, decide_eq_false_iff_not, Bool.and_eq_true, Bool.or_eq_true, Bool.and_eq_false_iff, Bool.or_eq_false_iff, Bool.not_eq_true', Bool.not_eq_false', Int.not_lt, Int.not_le] at hc0
    simp at hr0

theorem signB_Byte (wb w0 : World) (S : List Ent) (s : ShByte) (xs : List UInt8) (hv : OwnS s.l.v xs.length) (hS0 : St wb (ownE s.l.v 5 xs :: S) w0) : Ret Try.prog 102 #[.agg (Enc.enc s), .bool true] w0 (fun u w' => St wb (ownE (cutV s.l.v 0 (capV s.l.v) (capV s.l.v) (Enc.sz UInt8)) 5 (xs ++ List.replicate ((capV s.l.v) - xs.length) s.far) :: S) w') := by
  refine Ret.enter (args := [.agg (Enc.enc s), .bool true]) Try.func102 rfl Try.ntmps102 Try.results102 rfl ?_
  have hS := St.start w0
  replace hS := hS0
  refine WC.seq (fun K1 hK1 => ?_)
  refine WC.region ?_
  refine WL.op rfl (opW.boxA hS rfl ?_)
  intro b2 w _ hS
  refine WL.nil ?_
  refine thenQ_n (hK1 _ _ ?_)
  refine WC.seq (fun K2 hK2 => ?_)
  refine WC.seq (fun K3 hK3 => ?_)
  refine WC.region ?_
  refine WL.op rfl (opW.moveB rfl ?_)
  refine WL.op rfl (opW.not rfl ?_)
  refine WL.nil ?_
  refine thenQ_n (hK3 _ _ ?_)
  refine WC.cond _ rfl (fun hc0 => ?_) (fun hc0 => ?_)
  ·
    have hr0 := hc0
    try simp only [decide_eq_true_eq, decide_eq_false_iff_not, Bool.and_eq_true, Bool.or_eq_true, Bool.and_eq_false_iff, Bool.or_eq_false_iff, Bool.not_eq_true', Bool.not_eq_false', Int.not_lt, Int.not_le] at hc0
    simp at hr0
  ·
    have hr0 := hc0
    try simp only [decide_eq_true_eq, decide_eq_false_iff_not, Bool.and_eq_true, Bool.or_eq_true, Bool.and_eq_false_iff, Bool.or_eq_false_iff, Bool.not_eq_true', Bool.not_eq_false', Int.not_lt, Int.not_le] at hc0
    refine WC.skip ?_
    refine thenQ_n (hK2 _ _ ?_)
    refine WC.seq (fun K4 hK4 => ?_)
    refine WC.region ?_
    refine WL.op rfl (opW.fieldAddrB rfl ?_)
    refine WL.op rfl (opW.loadV rfl (hS.ld1 (by first | exact .h0 | exact .h1 | exact .h2 | exact .h3 | exact .h4 | exact .h5 | exact .h6 | exact .h7 | exact .h8 | exact .h9 | exact .h10 | exact .h11 | exact .h12 | exact .h13 | exact .h14) (ShByte.at_l _)) ?_)
    refine WL.op rfl (opW.fieldAddrB rfl ?_)
    refine WL.op rfl (opW.loadV rfl (hS.ld1 (by first | exact .h0 | exact .h1 | exact .h2 | exact .h3 | exact .h4 | exact .h5 | exact .h6 | exact .h7 | exact .h8 | exact .h9 | exact .h10 | exact .h11 | exact .h12 | exact .h13 | exact .h14) (ShByte.at_l _)) ?_)
    refine WL.op rfl (opW.cap (v := s.l.v) rfl (hS.sl (v := s.l.v) (xs := xs) (by first | exact .h0 | exact .h1 | exact .h2 | exact .h3 | exact .h4 | exact .h5 | exact .h6 | exact .h7 | exact .h8 | exact .h9 | exact .h10 | exact .h11 | exact .h12 | exact .h13 | exact .h14)) ?_)
    refine WL.op rfl (opW.cutS (l := 0) (h' := (capV s.l.v)) (m := (capV s.l.v)) (hS.sl (v := s.l.v) (xs := xs) (by first | exact .h0 | exact .h1 | exact .h2 | exact .h3 | exact .h4 | exact .h5 | exact .h6 | exact .h7 | exact .h8 | exact .h9 | exact .h10 | exact .h11 | exact .h12 | exact .h13 | exact .h14)) ⟨rfl, Nat.le_refl _⟩ ⟨⟨_, rfl⟩, Nat.le_refl _⟩ ⟨rfl, Nat.zero_le _⟩ ?_)
    refine WL.op rfl (opW.assignV (v := (cutV s.l.v 0 (capV s.l.v) (capV s.l.v) (Enc.sz UInt8))) rfl ?_)
    refine WL.nil ?_
    refine thenQ_n (hK4 _ _ ?_)
    refine WC.seq (fun K5 hK5 => ?_)
    refine WC.region ?_
    refine WL.op rfl (opW.fieldAddrB rfl ?_)
    refine WL.op rfl (opW.loadV rfl (hS.ld1 (by first | exact .h0 | exact .h1 | exact .h2 | exact .h3 | exact .h4 | exact .h5 | exact .h6 | exact .h7 | exact .h8 | exact .h9 | exact .h10 | exact .h11 | exact .h12 | exact .h13 | exact .h14) (ShByte.at_l _)) ?_)
    refine WL.op rfl (opW.lenV rfl (hS.sl (v := s.l.v) (xs := xs) (by first | exact .h0 | exact .h1 | exact .h2 | exact .h3 | exact .h4 | exact .h5 | exact .h6 | exact .h7 | exact .h8 | exact .h9 | exact .h10 | exact .h11 | exact .h12 | exact .h13 | exact .h14)) ?_)
    refine WL.op rfl (opW.assignI rfl ?_)
    refine WL.nil ?_
    refine thenQ_n (hK5 _ _ ?_)
    refine WC.block ?_
    refine WC.loop (fun q f w => ∃ k : Nat, Fits [(2, .pointer (some ⟨b2, 0, none⟩)), (5, (cutV s.l.v 0 (capV s.l.v) (capV s.l.v) (Enc.sz UInt8))), (6, .int .i64 (k : Int))] f ∧ St wb (blkE b2 (Enc.enc s) 73 :: ownE (cutV s.l.v 0 k (capV s.l.v) (Enc.sz UInt8)) 5 (xs ++ List.replicate (k - xs.length) s.far) :: S) w ∧ xs.length ≤ k ∧ k ≤ (capV s.l.v) ∧ q = (capV s.l.v) - k) ((capV s.l.v) - xs.length) ?_ ?_
    ·
      refine ⟨xs.length, ⟨rfl, rfl, rfl, trivial⟩, ?_, Nat.le_refl _, hv.le.1, rfl⟩
      have h1 := hS.ownFront (k := xs.length) (m := (capV s.l.v)) (S' := (blkE b2 (Enc.enc s) 73 :: ownE (cutV s.l.v 0 xs.length (capV s.l.v) (Enc.sz UInt8)) 5 (xs.take xs.length) :: S)) (Nat.le_refl _) hv.le.1 (Nat.le_refl _) (.there .here)
      rw [List.take_length] at h1
      rw [Nat.sub_self, List.replicate_zero, List.append_nil]; exact h1
    ·
      rintro q f w ⟨k, hfit, hS, hk0, hk1, hm⟩
      refine WC.fits _ hfit (fun g => ?_)
      clear hfit
      have hll : (xs ++ List.replicate (k - xs.length) s.far).length = k := by simp; omega
      have hcc : capV (cutV s.l.v 0 k (capV s.l.v) (Enc.sz UInt8)) = (capV s.l.v) := capV_cut0 _ _ _ _ hv.isS
      have hle := hv.le.2
      simp only [maxLen] at hle
      refine WC.seq (fun K6 hK6 => ?_)
      refine WC.seq (fun K7 hK7 => ?_)
      refine WC.region ?_
      refine WL.op rfl (opW.moveI rfl ?_)
      refine WL.op rfl (opW.moveV (v := (cutV s.l.v 0 (capV s.l.v) (capV s.l.v) (Enc.sz UInt8))) rfl ?_)
      refine WL.op rfl (opW.lenCut hv rfl ?_)
      refine WL.op rfl (opW.lss rfl rfl ?_)
      refine WL.nil ?_
      refine thenQ_n (hK7 _ _ ?_)
      refine WC.cond _ rfl (fun hc2 => ?_) (fun hc2 => ?_)
      ·
        have hr2 := hc2
        try simp only [decide_eq_true_eq, decide_eq_false_iff_not, Bool.and_eq_true, Bool.or_eq_true, Bool.and_eq_false_iff, Bool.or_eq_false_iff, Bool.not_eq_true', Bool.not_eq_false', Int.not_lt, Int.not_le] at hc2
        have hkl : k < (capV s.l.v) := by omega
        refine WC.skip ?_
        refine thenQ_n (hK6 _ _ ?_)
        refine WC.seq (fun K8 hK8 => ?_)
        refine WC.block ?_
        refine WC.region ?_
        refine WL.op rfl (opW.moveV (v := (cutV s.l.v 0 (capV s.l.v) (capV s.l.v) (Enc.sz UInt8))) rfl ?_)
        refine WL.op rfl (opW.moveI rfl ?_)
        refine WL.op rfl (opW.fieldAddrB rfl ?_)
        refine WL.op rfl (opW.loadV rfl (hS.ld1 (by first | exact .h0 | exact .h1 | exact .h2 | exact .h3 | exact .h4 | exact .h5 | exact .h6 | exact .h7 | exact .h8 | exact .h9 | exact .h10 | exact .h11 | exact .h12 | exact .h13 | exact .h14) (ShByte.at_far _)) ?_)
        refine WL.op rfl (opW.idxCut (α := UInt8) hv rfl rfl (by omega) (Nat.le_refl _) ?_)
        refine WL.op0 (opW.storeRoom (v := (cutV s.l.v 0 k (capV s.l.v) (Enc.sz UInt8))) (xs := (xs ++ List.replicate (k - xs.length) s.far)) (y' := s.far) hS (by first | exact .h0 | exact .h1 | exact .h2 | exact .h3 | exact .h4 | exact .h5 | exact .h6 | exact .h7 | exact .h8 | exact .h9 | exact .h10 | exact .h11 | exact .h12 | exact .h13 | exact .h14) (by rw [hcc, hll]; exact hkl) (by rw [elemP_cut0, hll]; rfl) rfl rfl ?_)
        intro w hS; replace hS := hS _ (by first | exact .h0 | exact .h1 | exact .h2 | exact .h3 | exact .h4 | exact .h5 | exact .h6 | exact .h7 | exact .h8 | exact .h9 | exact .h10 | exact .h11 | exact .h12 | exact .h13 | exact .h14)
        refine WL.nil ?_
        refine blockQ_n ?_
        refine thenQ_n (hK8 _ _ ?_)
        refine WC.region ?_
        refine WL.op rfl (opW.moveI rfl ?_)
        refine WL.op rfl (opW.add rfl rfl (wrap_i64 (by omega)) ?_)
        refine WL.op rfl (opW.assignI rfl ?_)
        refine WL.nil ?_
        refine thenQ_n ?_
        rw [hcc, hll, cutV_cut0, rep_room hk0] at hS
        exact ⟨(capV s.l.v) - (k + 1), by omega, k + 1, ⟨rfl, rfl, congrArg (Value.int .i64) (by omega), trivial⟩, hS, by omega, by omega, rfl⟩
      ·
        have hr2 := hc2
        try simp only [decide_eq_true_eq, decide_eq_false_iff_not, Bool.and_eq_true, Bool.or_eq_true, Bool.and_eq_false_iff, Bool.or_eq_false_iff, Bool.not_eq_true', Bool.not_eq_false', Int.not_lt, Int.not_le] at hc2
        obtain rfl : k = (capV s.l.v) := by omega
        refine WC.exit ?_
        refine thenQ_e ?_
        refine thenQ_e ?_
        refine blockQ_hit ?_
        refine bodyQ_end .nil ?_
        exact hS.drop1

theorem own_Byte (w0 : World) (s : ShByte) (n m : Nat) (hv : OwnS s.l.v n) (hm : n + m = (capV s.l.v)) (ha : SlR w0 (cutV s.l.v 0 (capV s.l.v) (capV s.l.v) (Enc.sz UInt8)) (List.replicate n s.here ++ List.replicate m s.far)) : Ret Try.prog 101 #[.agg (Enc.enc s)] w0 (fun u w' => u = .bool true ∧ Bel w0 w') := by
  refine Ret.enter (args := [.agg (Enc.enc s)]) Try.func101 rfl Try.ntmps101 Try.results101 rfl ?_
  have hS := St.start w0
  have hs : SlR w0 s.l.v (List.replicate n s.here) := by
    refine SlR.uncut (ys := List.replicate m s.far) (by simpa using hv) ?_
    have e : (List.replicate n s.here ++ List.replicate m s.far).length = (capV s.l.v) := by simp; exact hm
    rw [e]; exact ha
  have hln : (List.replicate n s.here).length = n := by simp
  have hla : (List.replicate n s.here ++ List.replicate m s.far).length = n + m := by simp
  have hle := ha.le
  simp only [maxLen] at hle
  refine WC.seq (fun K1 hK1 => ?_)
  refine WC.region ?_
  refine WL.op rfl (opW.boxA hS rfl ?_)
  intro b1 w _ hS
  refine WL.op rfl (opW.assignB rfl ?_)
  refine WL.nil ?_
  refine thenQ_n (hK1 _ _ ?_)
  refine WC.seq (fun K2 hK2 => ?_)
  refine WC.seq (fun K3 hK3 => ?_)
  refine WC.region ?_
  refine WL.op rfl (opW.assignI rfl ?_)
  refine WL.nil ?_
  refine thenQ_n (hK3 _ _ ?_)
  refine WC.block ?_
  refine WC.loop (fun q f w => ∃ k : Nat, Fits [(1, .pointer (some ⟨b1, 0, none⟩)), (3, .int .i64 (k : Int))] f ∧ St w0 [blkE b1 (Enc.enc s) 73] w ∧ k ≤ n ∧ q = n - k) (n) ?_ ?_
  ·
    exact ⟨0, ⟨rfl, rfl, trivial⟩, hS, Nat.zero_le _, rfl⟩
  ·
    rintro q f w ⟨k, hfit, hS, hk0, hm1⟩
    refine WC.fits _ hfit (fun g => ?_)
    clear hfit
    refine WC.seq (fun K4 hK4 => ?_)
    refine WC.seq (fun K5 hK5 => ?_)
    refine WC.region ?_
    refine WL.op rfl (opW.moveI rfl ?_)
    refine WL.op rfl (opW.fieldAddrB rfl ?_)
    refine WL.op rfl (opW.loadV rfl (hS.ld1 (by first | exact .h0 | exact .h1 | exact .h2 | exact .h3 | exact .h4 | exact .h5 | exact .h6 | exact .h7 | exact .h8 | exact .h9 | exact .h10 | exact .h11 | exact .h12 | exact .h13 | exact .h14) (ShByte.at_l _)) ?_)
    refine WL.op rfl (opW.lenV rfl ((hs.bel hS.old)) ?_)
    refine WL.op rfl (opW.lss rfl rfl ?_)
    refine WL.nil ?_
    refine thenQ_n (hK5 _ _ ?_)
    refine WC.cond _ rfl (fun hc0 => ?_) (fun hc0 => ?_)
    ·
      have hr0 := hc0
      try simp only [decide_eq_true_eq, decide_eq_false_iff_not, Bool.and_eq_true, Bool.or_eq_true, Bool.and_eq_false_iff, Bool.or_eq_false_iff, Bool.not_eq_true', Bool.not_eq_false', Int.not_lt, Int.not_le] at hc0
      have hkl : k < (List.replicate n s.here).length := by rw [hln]; omega
      refine WC.skip ?_
      refine thenQ_n (hK4 _ _ ?_)
      refine WC.seq (fun K6 hK6 => ?_)
      refine WC.block ?_
      refine WC.seq (fun K7 hK7 => ?_)
      refine WC.draw 8 (.look 0 (.look 1 (.look 2 (.look 3 (.look 4 (.look 5 (.look 6 (.look 7 .nil)))))))) (by kernel_rfl) (fun _ _ _ h => h) (fun w1 hw1 => ?_)
      replace hS := hS.bel hw1
      have hS1 := hS
      have hT := St.start w1
      refine ML.look rfl rfl rfl (fun w hw => (by have hS := hS1.bel hw; exact opW.fieldAddrB rfl ⟨rfl, rfl⟩)) ?_
      refine ML.look rfl rfl rfl (fun w hw => (by have hS := hS1.bel hw; exact opW.loadV rfl (hS.ld1 (by first | exact .h0 | exact .h1 | exact .h2 | exact .h3 | exact .h4 | exact .h5 | exact .h6 | exact .h7 | exact .h8 | exact .h9 | exact .h10 | exact .h11 | exact .h12 | exact .h13 | exact .h14) (ShByte.at_l _)) ⟨rfl, rfl⟩)) ?_
      refine ML.look rfl rfl rfl (fun w hw => (by have hS := hS1.bel hw; exact opW.moveI rfl ⟨rfl, rfl⟩)) ?_
      refine ML.look rfl rfl rfl (fun w hw => (by have hS := hS1.bel hw; exact opW.idxV rfl ((hs.bel hS.old)) rfl (by omega) ⟨rfl, rfl⟩)) ?_
      refine ML.look rfl rfl rfl (fun w hw => (by have hS := hS1.bel hw; exact opW.loadV rfl (((hs.bel hS.old).isPt hkl).ld rfl) ⟨rfl, rfl⟩)) ?_
      refine ML.look rfl rfl rfl (fun w hw => (by have hS := hS1.bel hw; exact opW.fieldAddrB rfl ⟨rfl, rfl⟩)) ?_
      refine ML.look rfl rfl rfl (fun w hw => (by have hS := hS1.bel hw; exact opW.loadV rfl (hS.ld1 (by first | exact .h0 | exact .h1 | exact .h2 | exact .h3 | exact .h4 | exact .h5 | exact .h6 | exact .h7 | exact .h8 | exact .h9 | exact .h10 | exact .h11 | exact .h12 | exact .h13 | exact .h14) (ShByte.at_here _)) ⟨rfl, rfl⟩)) ?_
      refine ML.look rfl rfl rfl (fun w hw => (by have hS := hS1.bel hw; exact opW.neq rfl rfl ⟨rfl, rfl⟩)) ?_
      refine ML.nil ?_
      refine thenQ_n (hK7 _ _ ?_)
      refine WC.cond _ rfl (fun hc1 => ?_) (fun hc1 => ?_)
      ·
        have hr1 := hc1
        try simp only [decide_eq_true_eq, decide_eq_false_iff_not, Bool.and_eq_true, Bool.or_eq_true, Bool.and_eq_false_iff, Bool.or_eq_false_iff, Bool.not_eq_true', Bool.not_eq_false', Int.not_lt, Int.not_le] at hc1
        simp at hr1
      ·
        have hr1 := hc1
        try simp only [decide_eq_true_eq, decide_eq_false_iff_not, Bool.and_eq_true, Bool.or_eq_true, Bool.and_eq_false_iff, Bool.or_eq_false_iff, Bool.not_eq_true', Bool.not_eq_false', Int.not_lt, Int.not_le] at hc1
        refine WC.skip ?_
        refine blockQ_n ?_
        refine thenQ_n (hK6 _ _ ?_)
        refine WC.region ?_
        refine WL.op rfl (opW.moveI rfl ?_)
        refine WL.op rfl (opW.add rfl rfl (wrap_i64 (by omega)) ?_)
        refine WL.op rfl (opW.assignI rfl ?_)
        refine WL.nil ?_
        refine thenQ_n ?_
        exact ⟨n - (k + 1), by omega, k + 1, ⟨rfl, congrArg (Value.int .i64) (by omega), trivial⟩, hS, by omega, rfl⟩
    ·
      have hr0 := hc0
      try simp only [decide_eq_true_eq, decide_eq_false_iff_not, Bool.and_eq_true, Bool.or_eq_true, Bool.and_eq_false_iff, Bool.or_eq_false_iff, Bool.not_eq_true', Bool.not_eq_false', Int.not_lt, Int.not_le] at hc0
      refine WC.exit ?_
      refine thenQ_e ?_
      refine thenQ_e ?_
      refine blockQ_hit ?_
      refine thenQ_n (hK2 _ _ ?_)
      refine WC.seq (fun K8 hK8 => ?_)
      refine WC.region ?_
      refine WL.op rfl (opW.fieldAddrB rfl ?_)
      refine WL.op rfl (opW.loadV rfl (hS.ld1 (by first | exact .h0 | exact .h1 | exact .h2 | exact .h3 | exact .h4 | exact .h5 | exact .h6 | exact .h7 | exact .h8 | exact .h9 | exact .h10 | exact .h11 | exact .h12 | exact .h13 | exact .h14) (ShByte.at_l _)) ?_)
      refine WL.op rfl (opW.fieldAddrB rfl ?_)
      refine WL.op rfl (opW.loadV rfl (hS.ld1 (by first | exact .h0 | exact .h1 | exact .h2 | exact .h3 | exact .h4 | exact .h5 | exact .h6 | exact .h7 | exact .h8 | exact .h9 | exact .h10 | exact .h11 | exact .h12 | exact .h13 | exact .h14) (ShByte.at_l _)) ?_)
      refine WL.op rfl (opW.cap (v := s.l.v) rfl (hs.bel hS.old) ?_)
      refine WL.op rfl (opW.cutS (l := 0) (h' := (capV s.l.v)) (m := (capV s.l.v)) (hs.bel hS.old) ⟨rfl, Nat.le_refl _⟩ ⟨⟨_, rfl⟩, Nat.le_refl _⟩ ⟨rfl, Nat.zero_le _⟩ ?_)
      refine WL.op rfl (opW.assignV (v := (cutV s.l.v 0 (capV s.l.v) (capV s.l.v) (Enc.sz UInt8))) rfl ?_)
      refine WL.nil ?_
      refine thenQ_n (hK8 _ _ ?_)
      refine WC.seq (fun K9 hK9 => ?_)
      refine WC.seq (fun K10 hK10 => ?_)
      refine WC.region ?_
      refine WL.op rfl (opW.fieldAddrB rfl ?_)
      refine WL.op rfl (opW.loadV rfl (hS.ld1 (by first | exact .h0 | exact .h1 | exact .h2 | exact .h3 | exact .h4 | exact .h5 | exact .h6 | exact .h7 | exact .h8 | exact .h9 | exact .h10 | exact .h11 | exact .h12 | exact .h13 | exact .h14) (ShByte.at_l _)) ?_)
      refine WL.op rfl (opW.lenV rfl ((hs.bel hS.old)) ?_)
      refine WL.op rfl (opW.assignI rfl ?_)
      refine WL.nil ?_
      refine thenQ_n (hK10 _ _ ?_)
      refine WC.block ?_
      refine WC.loop (fun q f w => ∃ k : Nat, Fits [(1, .pointer (some ⟨b1, 0, none⟩)), (4, (cutV s.l.v 0 (capV s.l.v) (capV s.l.v) (Enc.sz UInt8))), (5, .int .i64 (k : Int))] f ∧ St w0 [blkE b1 (Enc.enc s) 73] w ∧ n ≤ k ∧ k ≤ n + m ∧ q = n + m - k) (n + m - n) ?_ ?_
      ·
        exact ⟨n, ⟨rfl, rfl, congrArg (fun i : Nat => Value.int .i64 (i : Int)) hln, trivial⟩, hS, Nat.le_refl _, by omega, rfl⟩
      ·
        rintro q f w ⟨k, hfit, hS, hk0, hk1, hm1⟩
        refine WC.fits _ hfit (fun g => ?_)
        clear hfit
        refine WC.seq (fun K11 hK11 => ?_)
        refine WC.seq (fun K12 hK12 => ?_)
        refine WC.region ?_
        refine WL.op rfl (opW.moveI rfl ?_)
        refine WL.op rfl (opW.moveV (v := (cutV s.l.v 0 (capV s.l.v) (capV s.l.v) (Enc.sz UInt8))) rfl ?_)
        refine WL.op rfl (opW.lenV rfl ((ha.bel hS.old)) ?_)
        refine WL.op rfl (opW.lss rfl rfl ?_)
        refine WL.nil ?_
        refine thenQ_n (hK12 _ _ ?_)
        refine WC.cond _ rfl (fun hc2 => ?_) (fun hc2 => ?_)
        ·
          have hr2 := hc2
          try simp only [decide_eq_true_eq, decide_eq_false_iff_not, Bool.and_eq_true, Bool.or_eq_true, Bool.and_eq_false_iff, Bool.or_eq_false_iff, Bool.not_eq_true', Bool.not_eq_false', Int.not_lt, Int.not_le] at hc2
          have hkl : k < (List.replicate n s.here ++ List.replicate m s.far).length := by rw [hla]; omega
          refine WC.skip ?_
          refine thenQ_n (hK11 _ _ ?_)
          refine WC.seq (fun K13 hK13 => ?_)
          refine WC.block ?_
          refine WC.seq (fun K14 hK14 => ?_)
          refine WC.draw 7 (.look 0 (.look 1 (.look 2 (.look 3 (.look 4 (.look 5 (.look 6 .nil))))))) (by kernel_rfl) (fun _ _ _ h => h) (fun w1 hw1 => ?_)
          replace hS := hS.bel hw1
          have hS1 := hS
          have hT := St.start w1
          refine ML.look rfl rfl rfl (fun w hw => (by have hS := hS1.bel hw; exact opW.moveV (v := (cutV s.l.v 0 (capV s.l.v) (capV s.l.v) (Enc.sz UInt8))) rfl ⟨rfl, rfl⟩)) ?_
          refine ML.look rfl rfl rfl (fun w hw => (by have hS := hS1.bel hw; exact opW.moveI rfl ⟨rfl, rfl⟩)) ?_
          refine ML.look rfl rfl rfl (fun w hw => (by have hS := hS1.bel hw; exact opW.idxV rfl ((ha.bel hS.old)) rfl (by omega) ⟨rfl, rfl⟩)) ?_
          refine ML.look rfl rfl rfl (fun w hw => (by have hS := hS1.bel hw; exact opW.loadV rfl (((ha.bel hS.old).isPt hkl).ld rfl) ⟨rfl, rfl⟩)) ?_
          refine ML.look rfl rfl rfl (fun w hw => (by have hS := hS1.bel hw; exact opW.fieldAddrB rfl ⟨rfl, rfl⟩)) ?_
          refine ML.look rfl rfl rfl (fun w hw => (by have hS := hS1.bel hw; exact opW.loadV rfl (hS.ld1 (by first | exact .h0 | exact .h1 | exact .h2 | exact .h3 | exact .h4 | exact .h5 | exact .h6 | exact .h7 | exact .h8 | exact .h9 | exact .h10 | exact .h11 | exact .h12 | exact .h13 | exact .h14) (ShByte.at_far _)) ⟨rfl, rfl⟩)) ?_
          refine ML.look rfl rfl rfl (fun w hw => (by have hS := hS1.bel hw; exact opW.neq rfl rfl ⟨rfl, rfl⟩)) ?_
          refine ML.nil ?_
          refine thenQ_n (hK14 _ _ ?_)
          refine WC.cond _ rfl (fun hc3 => ?_) (fun hc3 => ?_)
          ·
            have hr3 := hc3
            try simp only [decide_eq_true_eq, decide_eq_false_iff_not, Bool.and_eq_true, Bool.or_eq_true, Bool.and_eq_false_iff, Bool.or_eq_false_iff, Bool.not_eq_true', Bool.not_eq_false', Int.not_lt, Int.not_le] at hc3
            rw [List.getElem_append_right (by simp; omega)] at hr3
            simp at hr3
          ·
            have hr3 := hc3
            try simp only [decide_eq_true_eq, decide_eq_false_iff_not, Bool.and_eq_true, Bool.or_eq_true, Bool.and_eq_false_iff, Bool.or_eq_false_iff, Bool.not_eq_true', Bool.not_eq_false', Int.not_lt, Int.not_le] at hc3
            refine WC.skip ?_
            refine blockQ_n ?_
            refine thenQ_n (hK13 _ _ ?_)
            refine WC.region ?_
            refine WL.op rfl (opW.moveI rfl ?_)
            refine WL.op rfl (opW.add rfl rfl (wrap_i64 (by omega)) ?_)
            refine WL.op rfl (opW.assignI rfl ?_)
            refine WL.nil ?_
            refine thenQ_n ?_
            exact ⟨n + m - (k + 1), by omega, k + 1, ⟨rfl, rfl, congrArg (Value.int .i64) (by omega), trivial⟩, hS, by omega, by omega, rfl⟩
        ·
          have hr2 := hc2
          try simp only [decide_eq_true_eq, decide_eq_false_iff_not, Bool.and_eq_true, Bool.or_eq_true, Bool.and_eq_false_iff, Bool.or_eq_false_iff, Bool.not_eq_true', Bool.not_eq_false', Int.not_lt, Int.not_le] at hc2
          refine WC.exit ?_
          refine thenQ_e ?_
          refine thenQ_e ?_
          refine blockQ_hit ?_
          refine thenQ_n (hK9 _ _ ?_)
          refine WC.seq (fun K15 hK15 => ?_)
          refine WC.region ?_
          refine WL.op rfl (opW.assignB rfl ?_)
          refine WL.nil ?_
          refine thenQ_n (hK15 _ _ ?_)
          refine WC.ret ?_
          refine bodyQ_ret (.tmpB rfl .nil) ?_
          exact ⟨rfl, hS.old⟩

def pg_Byte (s : ShByte) (xs : List UInt8) (hv : OwnS s.l.v xs.length) : Pg Try.prog where
  iv := ⟨73, .agg (Enc.enc s)⟩
  e0 := ownE s.l.v 5 xs
  e1 := ownE s.l.v 5 (List.replicate xs.length s.here)
  e2 := ownE (cutV s.l.v 0 (capV s.l.v) (capV s.l.v) (Enc.sz UInt8)) 5 (List.replicate xs.length s.here ++ List.replicate ((capV s.l.v) - xs.length) s.far)
  s0 := fun wb S w h => ⟨_, _, _, rfl, inferInstance, inferInstance, inferInstance, signA_Byte wb w S s xs h⟩
  s1 := fun wb S w h => ⟨_, _, _, rfl, inferInstance, inferInstance, inferInstance, by
    have := signB_Byte wb w S s (List.replicate xs.length s.here) (by simpa using hv) h
    simpa using this⟩
  ow := fun wb S w h => ⟨_, _, _, rfl, inferInstance, inferInstance, inferInstance, by
    refine Ret.mono (own_Byte w s xs.length ((capV s.l.v) - xs.length) hv (by have := hv.le.1; omega) (h.sl .here)) fun u w' hu => ⟨hu.1, h.bel hu.2⟩⟩

structure ShKey where
  l : SlV
  here : Vector UInt8 32
  far : Vector UInt8 32
def ShKey.parts (x : ShKey) : List (Array Value) := [#[x.l.v], Enc.enc x.here, Enc.enc x.far]
theorem ShKey.sizes (x : ShKey) : x.parts.map Array.size = [1, 32, 32] := by
  simp only [ShKey.parts, List.map, Enc.size_eq]; rfl
instance : Enc ShKey where
  enc x := joinA x.parts
  sz := 65
  pos := by omega
  size_eq x := by rw [joinA_size, ShKey.sizes]; rfl
  one x := joinA_one (all_cons (Enc.one (α := SlV) _) (all_cons (Enc.one _) (all_cons (Enc.one _) all_nil)))
theorem ShKey.enc_eq (x : ShKey) : Enc.enc x = joinA x.parts := rfl
theorem ShKey.at_l (x : ShKey) : (Enc.enc x)[0]? = some (x.l.v) := joinA_at [] [Enc.enc x.here, Enc.enc x.far] _ (by rw [joinA_size]; simp only [List.map, Enc.size_eq]; rfl)
theorem ShKey.ex_here (x : ShKey) : (Enc.enc x).extract 1 (1 + 32) = Enc.enc x.here := joinA_ex [#[x.l.v]] [Enc.enc x.far] _ (by rw [joinA_size]; simp only [List.map, Enc.size_eq]; rfl) (by rw [Enc.size_eq]; rfl)
theorem ShKey.ex_far (x : ShKey) : (Enc.enc x).extract 33 (33 + 32) = Enc.enc x.far := joinA_ex [#[x.l.v], Enc.enc x.here] [] _ (by rw [joinA_size]; simp only [List.map, Enc.size_eq]; rfl) (by rw [Enc.size_eq]; rfl)
theorem ShKey.set_l (x : ShKey) (v : SlV) : spl (Enc.enc x) 0 #[v.v] = Enc.enc { x with l := v } := by
  have h := spl_join [] [Enc.enc x.here, Enc.enc x.far] (#[x.l.v]) (#[v.v]) (by first | (rw [Enc.size_eq, Enc.size_eq]; done) | rfl)
  rw [show (joinA []).size = 0 from (by rw [joinA_size]; simp only [List.map, Enc.size_eq]; rfl)] at h
  exact h
theorem ShKey.set_here (x : ShKey) (v : Vector UInt8 32) : spl (Enc.enc x) 1 (Enc.enc v) = Enc.enc { x with here := v } := by
  have h := spl_join [#[x.l.v]] [Enc.enc x.far] (Enc.enc x.here) (Enc.enc v) (by first | (rw [Enc.size_eq, Enc.size_eq]; done) | rfl)
  rw [show (joinA [#[x.l.v]]).size = 1 from (by rw [joinA_size]; simp only [List.map, Enc.size_eq]; rfl)] at h
  exact h
theorem ShKey.set_far (x : ShKey) (v : Vector UInt8 32) : spl (Enc.enc x) 33 (Enc.enc v) = Enc.enc { x with far := v } := by
  have h := spl_join [#[x.l.v], Enc.enc x.here] [] (Enc.enc x.far) (Enc.enc v) (by first | (rw [Enc.size_eq, Enc.size_eq]; done) | rfl)
  rw [show (joinA [#[x.l.v], Enc.enc x.here]).size = 33 from (by rw [joinA_size]; simp only [List.map, Enc.size_eq]; rfl)] at h
  exact h
def ShKey.ok (w : World) (x : ShKey) : Prop := (∃ l : List (Vector UInt8 32), SlR w x.l.v l ∧ ∀ e ∈ l, True)
theorem ShKey.ok.bel {w w' : World} {x : ShKey} (hb : Bel w w') (h : ShKey.ok w x) : ShKey.ok w' x := by
  unfold ShKey.ok at h ⊢
  obtain ⟨l0, g0⟩ := h
  exact (⟨_, g0.1.bel hb, fun e he => trivial⟩)
theorem rdw_ShKey : RdW Try.prog 120 ShKey ShKey.ok := by
  intro H enc w fuel cs d ps hr
  obtain ⟨hend, fuel', hf⟩ := rdS Try.underlying120 inferInstance hr
  obtain ⟨d0, ps0, h0⟩ := hf 0 _ 25 0 1 rfl rfl rfl inferInstance
  obtain ⟨x0, e0, i0⟩ := rd_slv (α := Vector UInt8 32) inferInstance rdw_vec inferInstance h0
  obtain ⟨d1, ps1, h1⟩ := hf 1 _ 58 1 32 rfl rfl rfl inferInstance
  obtain ⟨x1, e1, i1⟩ := rd_of rdw_vec h1
  obtain ⟨d2, ps2, h2⟩ := hf 2 _ 58 33 32 rfl rfl rfl inferInstance
  obtain ⟨x2, e2, i2⟩ := rd_of rdw_vec h2
  have k2 := cells_cut e2 hend
  have k1 := cells_cut e1 k2
  have k0 := cells_cut e0 k1
  refine ⟨⟨x0, x1, x2⟩, ?_, i0⟩
  rw [ShKey.enc_eq]; simp only [ShKey.parts, joinA_toList_cons, joinA_nil]
  rw [List.drop_zero] at k0; rw [k0]; try simp

theorem signA_Key (wb w0 : World) (S : List Ent) (s : ShKey) (xs : List (Vector UInt8 32)) (hS0 : St wb (ownE s.l.v 58 xs :: S) w0) : Ret Try.prog 106 #[.agg (Enc.enc s), .bool false] w0 (fun u w' => St wb (ownE s.l.v 58 (List.replicate xs.length s.here) :: S) w') := by
  refine Ret.enter (args := [.agg (Enc.enc s), .bool false]) Try.func106 rfl Try.ntmps106 Try.results106 rfl ?_
  have hS := St.start w0
  replace hS := hS0
  refine WC.seq (fun K1 hK1 => ?_)
  refine WC.region ?_
  refine WL.op rfl (opW.boxA hS rfl ?_)
  intro b2 w _ hS
  refine WL.nil ?_
  refine thenQ_n (hK1 _ _ ?_)
  refine WC.seq (fun K2 hK2 => ?_)
  refine WC.seq (fun K3 hK3 => ?_)
  refine WC.region ?_
  refine WL.op rfl (opW.moveB rfl ?_)
  refine WL.op rfl (opW.not rfl ?_)
  refine WL.nil ?_
  refine thenQ_n (hK3 _ _ ?_)
  refine WC.cond _ rfl (fun hc0 => ?_) (fun hc0 => ?_)
  ·
    have hr0 := hc0
    try simp only [decide_eq_true_eq, decide_eq_false_iff_not, Bool.and_eq_true, Bool.or_eq_true, Bool.and_eq_false_iff, Bool.or_eq_false_iff, Bool.not_eq_true', Bool.not_eq_false', Int.not_lt, Int.not_le] at hc0
    refine WC.seq (fun K4 hK4 => ?_)
    refine WC.seq (fun K5 hK5 => ?_)
    refine WC.region ?_
    refine WL.op rfl (opW.assignI rfl ?_)
    refine WL.nil ?_
    refine thenQ_n (hK5 _ _ ?_)
    refine WC.block ?_
    refine WC.loop (fun q f w => ∃ k : Nat, Fits [(2, .pointer (some ⟨b2, 0, none⟩)), (4, .int .i64 (k : Int))] f ∧ St wb (blkE b2 (Enc.enc s) 120 :: ownE s.l.v 58 (List.replicate k s.here ++ xs.drop k) :: S) w ∧ k ≤ xs.length ∧ q = xs.length - k) (xs.length) ?_ ?_
    ·
      exact ⟨0, ⟨rfl, rfl, trivial⟩, hS, Nat.zero_le _, rfl⟩
    ·
      rintro q f w ⟨k, hfit, hS, hk0, hm⟩
      refine WC.fits _ hfit (fun g => ?_)
      clear hfit
      have hll : (List.replicate k s.here ++ xs.drop k).length = xs.length := rep_len hk0
      have hle : xs.length ≤ maxLen := by rw [← hll]; exact (hS.sl (v := s.l.v) (xs := (List.replicate k s.here ++ xs.drop k)) (by first | exact .h0 | exact .h1 | exact .h2 | exact .h3 | exact .h4 | exact .h5 | exact .h6 | exact .h7 | exact .h8 | exact .h9 | exact .h10 | exact .h11 | exact .h12 | exact .h13 | exact .h14)).le
      simp only [maxLen] at hle
      refine WC.seq (fun K6 hK6 => ?_)
      refine WC.seq (fun K7 hK7 => ?_)
      refine WC.region ?_
      refine WL.op rfl (opW.moveI rfl ?_)
      refine WL.op rfl (opW.fieldAddrB rfl ?_)
      refine WL.op rfl (opW.loadV rfl (hS.ld1 (by first | exact .h0 | exact .h1 | exact .h2 | exact .h3 | exact .h4 | exact .h5 | exact .h6 | exact .h7 | exact .h8 | exact .h9 | exact .h10 | exact .h11 | exact .h12 | exact .h13 | exact .h14) (ShKey.at_l _)) ?_)
      refine WL.op rfl (opW.lenV rfl (hS.sl (v := s.l.v) (xs := (List.replicate k s.here ++ xs.drop k)) (by first | exact .h0 | exact .h1 | exact .h2 | exact .h3 | exact .h4 | exact .h5 | exact .h6 | exact .h7 | exact .h8 | exact .h9 | exact .h10 | exact .h11 | exact .h12 | exact .h13 | exact .h14)) ?_)
      refine WL.op rfl (opW.lss rfl rfl ?_)
      refine WL.nil ?_
      refine thenQ_n (hK7 _ _ ?_)
      refine WC.cond _ rfl (fun hc1 => ?_) (fun hc1 => ?_)
      ·
        have hr1 := hc1
        try simp only [decide_eq_true_eq, decide_eq_false_iff_not, Bool.and_eq_true, Bool.or_eq_true, Bool.and_eq_false_iff, Bool.or_eq_false_iff, Bool.not_eq_true', Bool.not_eq_false', Int.not_lt, Int.not_le] at hc1
        have hkl : k < xs.length := by omega
        refine WC.skip ?_
        refine thenQ_n (hK6 _ _ ?_)
        refine WC.seq (fun K8 hK8 => ?_)
        refine WC.block ?_
        refine WC.region ?_
        refine WL.op rfl (opW.fieldAddrB rfl ?_)
        refine WL.op rfl (opW.loadV rfl (hS.ld1 (by first | exact .h0 | exact .h1 | exact .h2 | exact .h3 | exact .h4 | exact .h5 | exact .h6 | exact .h7 | exact .h8 | exact .h9 | exact .h10 | exact .h11 | exact .h12 | exact .h13 | exact .h14) (ShKey.at_l _)) ?_)
        refine WL.op rfl (opW.moveI rfl ?_)
        refine WL.op rfl (opW.fieldAddrB rfl ?_)
        refine WL.op rfl (opW.loadV rfl (hS.ldF (cs := Enc.enc s) (by first | exact .h0 | exact .h1 | exact .h2 | exact .h3 | exact .h4 | exact .h5 | exact .h6 | exact .h7 | exact .h8 | exact .h9 | exact .h10 | exact .h11 | exact .h12 | exact .h13 | exact .h14) (ShKey.ex_here _) (by rw [Enc.size_eq]; decide)) ?_)
        refine WL.op rfl (opW.idxV rfl (hS.sl (v := s.l.v) (xs := (List.replicate k s.here ++ xs.drop k)) (by first | exact .h0 | exact .h1 | exact .h2 | exact .h3 | exact .h4 | exact .h5 | exact .h6 | exact .h7 | exact .h8 | exact .h9 | exact .h10 | exact .h11 | exact .h12 | exact .h13 | exact .h14)) rfl (by omega) ?_)
        refine WL.op0 (opW.storeOwn (v := s.l.v) (u := .agg (Enc.enc s.here)) (xs := (List.replicate k s.here ++ xs.drop k)) (i := k) (off := 0) (y' := s.here) hS (by first | exact .h0 | exact .h1 | exact .h2 | exact .h3 | exact .h4 | exact .h5 | exact .h6 | exact .h7 | exact .h8 | exact .h9 | exact .h10 | exact .h11 | exact .h12 | exact .h13 | exact .h14) (by omega) (ptrAdd_zero s.l.v k (Enc.sz (Vector UInt8 32))).symm rfl (by first | exact Enc.size_eq (α := (Vector UInt8 32)) s.here | rfl) (by first | exact Nat.le_refl _ | decide) (Enc.one s.here) (spl_all (by rw [Enc.size_eq]; first | exact Enc.size_eq (α := (Vector UInt8 32)) s.here | rfl)) ?_)
        intro w hS; replace hS := hS _ (by first | exact .h0 | exact .h1 | exact .h2 | exact .h3 | exact .h4 | exact .h5 | exact .h6 | exact .h7 | exact .h8 | exact .h9 | exact .h10 | exact .h11 | exact .h12 | exact .h13 | exact .h14)
        refine WL.nil ?_
        refine blockQ_n ?_
        refine thenQ_n (hK8 _ _ ?_)
        refine WC.region ?_
        refine WL.op rfl (opW.moveI rfl ?_)
        refine WL.op rfl (opW.add rfl rfl (wrap_i64 (by omega)) ?_)
        refine WL.op rfl (opW.assignI rfl ?_)
        refine WL.nil ?_
        refine thenQ_n ?_
        rw [rep_set hkl] at hS
        exact ⟨xs.length - (k + 1), by omega, k + 1, ⟨rfl, congrArg (Value.int .i64) (by omega), trivial⟩, hS, by omega, rfl⟩
      ·
        have hr1 := hc1
        try simp only [decide_eq_true_eq, decide_eq_false_iff_not, Bool.and_eq_true, Bool.or_eq_true, Bool.and_eq_false_iff, Bool.or_eq_false_iff, Bool.not_eq_true', Bool.not_eq_false', Int.not_lt, Int.not_le] at hc1
        obtain rfl : k = xs.length := by omega
        rw [List.drop_length, List.append_nil] at hS
        refine WC.exit ?_
        refine thenQ_e ?_
        refine thenQ_e ?_
        refine blockQ_hit ?_
        refine thenQ_n (hK4 _ _ ?_)
        refine WC.ret ?_
        refine thenQ_r ?_
        refine bodyQ_ret .nil ?_
        exact hS.drop1
  ·
    have hr0 := hc0
    try simp only [decide_eq_true_eq, decide_eq_false_iff_not, Bool.and_eq_true, Bool.or_eq_true, Bool.and_eq_false_iff, Bool.or_eq_false_iff, Bool.not_eq_true', Bool.not_eq_false', Int.not_lt, Int.not_le] at hc0
    simp at hr0

theorem signB_Key (wb w0 : World) (S : List Ent) (s : ShKey) (xs : List (Vector UInt8 32)) (hv : OwnS s.l.v xs.length) (hS0 : St wb (ownE s.l.v 58 xs :: S) w0) : Ret Try.prog 106 #[.agg (Enc.enc s), .bool true] w0 (fun u w' => St wb (ownE (cutV s.l.v 0 (capV s.l.v) (capV s.l.v) (Enc.sz (Vector UInt8 32))) 58 (xs ++ List.replicate ((capV s.l.v) - xs.length) s.far) :: S) w') := by
  refine Ret.enter (args := [.agg (Enc.enc s), .bool true]) Try.func106 rfl Try.ntmps106 Try.results106 rfl ?_
  have hS := St.start w0
  replace hS := hS0
  refine WC.seq (fun K1 hK1 => ?_)
  refine WC.region ?_
  refine WL.op rfl (opW.boxA hS rfl ?_)
  intro b2 w _ hS
  refine WL.nil ?_
  refine thenQ_n (hK1 _ _ ?_)
  refine WC.seq (fun K2 hK2 => ?_)
  refine WC.seq (fun K3 hK3 => ?_)
  refine WC.region ?_
  refine WL.op rfl (opW.moveB rfl ?_)
  refine WL.op rfl (opW.not rfl ?_)
  refine WL.nil ?_
  refine thenQ_n (hK3 _ _ ?_)
  refine WC.cond _ rfl (fun hc0 => ?_) (fun hc0 => ?_)
  ·
    have hr0 := hc0
    try simp only [decide_eq_true_eq, decide_eq_false_iff_not, Bool.and_eq_true, Bool.or_eq_true, Bool.and_eq_false_iff, Bool.or_eq_false_iff, Bool.not_eq_true', Bool.not_eq_false', Int.not_lt, Int.not_le] at hc0
    simp at hr0
  ·
    have hr0 := hc0
    try simp only [decide_eq_true_eq, decide_eq_false_iff_not, Bool.and_eq_true, Bool.or_eq_true, Bool.and_eq_false_iff, Bool.or_eq_false_iff, Bool.not_eq_true', Bool.not_eq_false', Int.not_lt, Int.not_le] at hc0
    refine WC.skip ?_
    refine thenQ_n (hK2 _ _ ?_)
    refine WC.seq (fun K4 hK4 => ?_)
    refine WC.region ?_
    refine WL.op rfl (opW.fieldAddrB rfl ?_)
    refine WL.op rfl (opW.loadV rfl (hS.ld1 (by first | exact .h0 | exact .h1 | exact .h2 | exact .h3 | exact .h4 | exact .h5 | exact .h6 | exact .h7 | exact .h8 | exact .h9 | exact .h10 | exact .h11 | exact .h12 | exact .h13 | exact .h14) (ShKey.at_l _)) ?_)
    refine WL.op rfl (opW.fieldAddrB rfl ?_)
    refine WL.op rfl (opW.loadV rfl (hS.ld1 (by first | exact .h0 | exact .h1 | exact .h2 | exact .h3 | exact .h4 | exact .h5 | exact .h6 | exact .h7 | exact .h8 | exact .h9 | exact .h10 | exact .h11 | exact .h12 | exact .h13 | exact .h14) (ShKey.at_l _)) ?_)
    refine WL.op rfl (opW.cap (v := s.l.v) rfl (hS.sl (v := s.l.v) (xs := xs) (by first | exact .h0 | exact .h1 | exact .h2 | exact .h3 | exact .h4 | exact .h5 | exact .h6 | exact .h7 | exact .h8 | exact .h9 | exact .h10 | exact .h11 | exact .h12 | exact .h13 | exact .h14)) ?_)
    refine WL.op rfl (opW.cutS (l := 0) (h' := (capV s.l.v)) (m := (capV s.l.v)) (hS.sl (v := s.l.v) (xs := xs) (by first | exact .h0 | exact .h1 | exact .h2 | exact .h3 | exact .h4 | exact .h5 | exact .h6 | exact .h7 | exact .h8 | exact .h9 | exact .h10 | exact .h11 | exact .h12 | exact .h13 | exact .h14)) ⟨rfl, Nat.le_refl _⟩ ⟨⟨_, rfl⟩, Nat.le_refl _⟩ ⟨rfl, Nat.zero_le _⟩ ?_)
    refine WL.op rfl (opW.assignV (v := (cutV s.l.v 0 (capV s.l.v) (capV s.l.v) (Enc.sz (Vector UInt8 32)))) rfl ?_)
    refine WL.nil ?_
    refine thenQ_n (hK4 _ _ ?_)
    refine WC.seq (fun K5 hK5 => ?_)
    refine WC.region ?_
    refine WL.op rfl (opW.fieldAddrB rfl ?_)
    refine WL.op rfl (opW.loadV rfl (hS.ld1 (by first | exact .h0 | exact .h1 | exact .h2 | exact .h3 | exact .h4 | exact .h5 | exact .h6 | exact .h7 | exact .h8 | exact .h9 | exact .h10 | exact .h11 | exact .h12 | exact .h13 | exact .h14) (ShKey.at_l _)) ?_)
    refine WL.op rfl (opW.lenV rfl (hS.sl (v := s.l.v) (xs := xs) (by first | exact .h0 | exact .h1 | exact .h2 | exact .h3 | exact .h4 | exact .h5 | exact .h6 | exact .h7 | exact .h8 | exact .h9 | exact .h10 | exact .h11 | exact .h12 | exact .h13 | exact .h14)) ?_)
    refine WL.op rfl (opW.assignI rfl ?_)
    refine WL.nil ?_
    refine thenQ_n (hK5 _ _ ?_)
    refine WC.block ?_
    refine WC.loop (fun q f w => ∃ k : Nat, Fits [(2, .pointer (some ⟨b2, 0, none⟩)), (5, (cutV s.l.v 0 (capV s.l.v) (capV s.l.v) (Enc.sz (Vector UInt8 32)))), (6, .int .i64 (k : Int))] f ∧ St wb (blkE b2 (Enc.enc s) 120 :: ownE (cutV s.l.v 0 k (capV s.l.v) (Enc.sz (Vector UInt8 32))) 58 (xs ++ List.replicate (k - xs.length) s.far) :: S) w ∧ xs.length ≤ k ∧ k ≤ (capV s.l.v) ∧ q = (capV s.l.v) - k) ((capV s.l.v) - xs.length) ?_ ?_
    ·
      refine ⟨xs.length, ⟨rfl, rfl, rfl, trivial⟩, ?_, Nat.le_refl _, hv.le.1, rfl⟩
      have h1 := hS.ownFront (k := xs.length) (m := (capV s.l.v)) (S' := (blkE b2 (Enc.enc s) 120 :: ownE (cutV s.l.v 0 xs.length (capV s.l.v) (Enc.sz (Vector UInt8 32))) 58 (xs.take xs.length) :: S)) (Nat.le_refl _) hv.le.1 (Nat.le_refl _) (.there .here)
      rw [List.take_length] at h1
      rw [Nat.sub_self, List.replicate_zero, List.append_nil]; exact h1
    ·
      rintro q f w ⟨k, hfit, hS, hk0, hk1, hm⟩
      refine WC.fits _ hfit (fun g => ?_)
      clear hfit
      have hll : (xs ++ List.replicate (k - xs.length) s.far).length = k := by simp; omega
      have hcc : capV (cutV s.l.v 0 k (capV s.l.v) (Enc.sz (Vector UInt8 32))) = (capV s.l.v) := capV_cut0 _ _ _ _ hv.isS
      have hle := hv.le.2
      simp only [maxLen] at hle
      refine WC.seq (fun K6 hK6 => ?_)
      refine WC.seq (fun K7 hK7 => ?_)
      refine WC.region ?_
      refine WL.op rfl (opW.moveI rfl ?_)
      refine WL.op rfl (opW.moveV (v := (cutV s.l.v 0 (capV s.l.v) (capV s.l.v) (Enc.sz (Vector UInt8 32)))) rfl ?_)
      refine WL.op rfl (opW.lenCut hv rfl ?_)
      refine WL.op rfl (opW.lss rfl rfl ?_)
      refine WL.nil ?_
      refine thenQ_n (hK7 _ _ ?_)
      refine WC.cond _ rfl (fun hc2 => ?_) (fun hc2 => ?_)
      ·
        have hr2 := hc2
        try simp only [decide_eq_true_eq, decide_eq_false_iff_not, Bool.and_eq_true, Bool.or_eq_true, Bool.and_eq_false_iff, Bool.or_eq_false_iff, Bool.not_eq_true', Bool.not_eq_false', Int.not_lt, Int.not_le] at hc2
        have hkl : k < (capV s.l.v) := by omega
        refine WC.skip ?_
        refine thenQ_n (hK6 _ _ ?_)
        refine WC.seq (fun K8 hK8 => ?_)
        refine WC.block ?_
        refine WC.region ?_
        refine WL.op rfl (opW.moveV (v := (cutV s.l.v 0 (capV s.l.v) (capV s.l.v) (Enc.sz (Vector UInt8 32)))) rfl ?_)
        refine WL.op rfl (opW.moveI rfl ?_)
        refine WL.op rfl (opW.fieldAddrB rfl ?_)
        refine WL.op rfl (opW.loadV rfl (hS.ldF (cs := Enc.enc s) (by first | exact .h0 | exact .h1 | exact .h2 | exact .h3 | exact .h4 | exact .h5 | exact .h6 | exact .h7 | exact .h8 | exact .h9 | exact .h10 | exact .h11 | exact .h12 | exact .h13 | exact .h14) (ShKey.ex_far _) (by rw [Enc.size_eq]; decide)) ?_)
        refine WL.op rfl (opW.idxCut (α := (Vector UInt8 32)) hv rfl rfl (by omega) (Nat.le_refl _) ?_)
        refine WL.op0 (opW.storeRoom (v := (cutV s.l.v 0 k (capV s.l.v) (Enc.sz (Vector UInt8 32)))) (xs := (xs ++ List.replicate (k - xs.length) s.far)) (y' := s.far) hS (by first | exact .h0 | exact .h1 | exact .h2 | exact .h3 | exact .h4 | exact .h5 | exact .h6 | exact .h7 | exact .h8 | exact .h9 | exact .h10 | exact .h11 | exact .h12 | exact .h13 | exact .h14) (by rw [hcc, hll]; exact hkl) (by rw [elemP_cut0, hll]; rfl) rfl rfl ?_)
        intro w hS; replace hS := hS _ (by first | exact .h0 | exact .h1 | exact .h2 | exact .h3 | exact .h4 | exact .h5 | exact .h6 | exact .h7 | exact .h8 | exact .h9 | exact .h10 | exact .h11 | exact .h12 | exact .h13 | exact .h14)
        refine WL.nil ?_
        refine blockQ_n ?_
        refine thenQ_n (hK8 _ _ ?_)
        refine WC.region ?_
        refine WL.op rfl (opW.moveI rfl ?_)
        refine WL.op rfl (opW.add rfl rfl (wrap_i64 (by omega)) ?_)
        refine WL.op rfl (opW.assignI rfl ?_)
        refine WL.nil ?_
        refine thenQ_n ?_
        rw [hcc, hll, cutV_cut0, rep_room hk0] at hS
        exact ⟨(capV s.l.v) - (k + 1), by omega, k + 1, ⟨rfl, rfl, congrArg (Value.int .i64) (by omega), trivial⟩, hS, by omega, by omega, rfl⟩
      ·
        have hr2 := hc2
        try simp only [decide_eq_true_eq, decide_eq_false_iff_not, Bool.and_eq_true, Bool.or_eq_true, Bool.and_eq_false_iff, Bool.or_eq_false_iff, Bool.not_eq_true', Bool.not_eq_false', Int.not_lt, Int.not_le] at hc2
        obtain rfl : k = (capV s.l.v) := by omega
        refine WC.exit ?_
        refine thenQ_e ?_
        refine thenQ_e ?_
        refine blockQ_hit ?_
        refine bodyQ_end .nil ?_
        exact hS.drop1

theorem own_Key (w0 : World) (s : ShKey) (n m : Nat) (hv : OwnS s.l.v n) (hm : n + m = (capV s.l.v)) (ha : SlR w0 (cutV s.l.v 0 (capV s.l.v) (capV s.l.v) (Enc.sz (Vector UInt8 32))) (List.replicate n s.here ++ List.replicate m s.far)) : Ret Try.prog 105 #[.agg (Enc.enc s)] w0 (fun u w' => u = .bool true ∧ Bel w0 w') := by
  refine Ret.enter (args := [.agg (Enc.enc s)]) Try.func105 rfl Try.ntmps105 Try.results105 rfl ?_
  have hS := St.start w0
  have hs : SlR w0 s.l.v (List.replicate n s.here) := by
    refine SlR.uncut (ys := List.replicate m s.far) (by simpa using hv) ?_
    have e : (List.replicate n s.here ++ List.replicate m s.far).length = (capV s.l.v) := by simp; exact hm
    rw [e]; exact ha
  have hln : (List.replicate n s.here).length = n := by simp
  have hla : (List.replicate n s.here ++ List.replicate m s.far).length = n + m := by simp
  have hle := ha.le
  simp only [maxLen] at hle
  refine WC.seq (fun K1 hK1 => ?_)
  refine WC.region ?_
  refine WL.op rfl (opW.boxA hS rfl ?_)
  intro b1 w _ hS
  refine WL.op rfl (opW.assignB rfl ?_)
  refine WL.nil ?_
  refine thenQ_n (hK1 _ _ ?_)
  refine WC.seq (fun K2 hK2 => ?_)
  refine WC.seq (fun K3 hK3 => ?_)
  refine WC.region ?_
  refine WL.op rfl (opW.assignI rfl ?_)
  refine WL.nil ?_
  refine thenQ_n (hK3 _ _ ?_)
  refine WC.block ?_
  refine WC.loop (fun q f w => ∃ k : Nat, Fits [(1, .pointer (some ⟨b1, 0, none⟩)), (3, .int .i64 (k : Int))] f ∧ St w0 [blkE b1 (Enc.enc s) 120] w ∧ k ≤ n ∧ q = n - k) (n) ?_ ?_
  ·
    exact ⟨0, ⟨rfl, rfl, trivial⟩, hS, Nat.zero_le _, rfl⟩
  ·
    rintro q f w ⟨k, hfit, hS, hk0, hm1⟩
    refine WC.fits _ hfit (fun g => ?_)
    clear hfit
    refine WC.seq (fun K4 hK4 => ?_)
    refine WC.seq (fun K5 hK5 => ?_)
    refine WC.region ?_
    refine WL.op rfl (opW.moveI rfl ?_)
    refine WL.op rfl (opW.fieldAddrB rfl ?_)
    refine WL.op rfl (opW.loadV rfl (hS.ld1 (by first | exact .h0 | exact .h1 | exact .h2 | exact .h3 | exact .h4 | exact .h5 | exact .h6 | exact .h7 | exact .h8 | exact .h9 | exact .h10 | exact .h11 | exact .h12 | exact .h13 | exact .h14) (ShKey.at_l _)) ?_)
    refine WL.op rfl (opW.lenV rfl ((hs.bel hS.old)) ?_)
    refine WL.op rfl (opW.lss rfl rfl ?_)
    refine WL.nil ?_
    refine thenQ_n (hK5 _ _ ?_)
    refine WC.cond _ rfl (fun hc0 => ?_) (fun hc0 => ?_)
    ·
      have hr0 := hc0
      try simp only [decide_eq_true_eq, decide_eq_false_iff_not, Bool.and_eq_true, Bool.or_eq_true, Bool.and_eq_false_iff, Bool.or_eq_false_iff, Bool.not_eq_true', Bool.not_eq_false', Int.not_lt, Int.not_le] at hc0
      have hkl : k < (List.replicate n s.here).length := by rw [hln]; omega
      refine WC.skip ?_
      refine thenQ_n (hK4 _ _ ?_)
      refine WC.seq (fun K6 hK6 => ?_)
      refine WC.block ?_
      refine WC.seq (fun K7 hK7 => ?_)
      refine WC.draw 8 (.look 0 (.look 1 (.look 2 (.look 3 (.look 4 (.look 5 (.look 6 (.look 7 .nil)))))))) (by kernel_rfl) (fun _ _ _ h => h) (fun w1 hw1 => ?_)
      replace hS := hS.bel hw1
      have hS1 := hS
      have hT := St.start w1
      refine ML.look rfl rfl rfl (fun w hw => (by have hS := hS1.bel hw; exact opW.fieldAddrB rfl ⟨rfl, rfl⟩)) ?_
      refine ML.look rfl rfl rfl (fun w hw => (by have hS := hS1.bel hw; exact opW.loadV rfl (hS.ld1 (by first | exact .h0 | exact .h1 | exact .h2 | exact .h3 | exact .h4 | exact .h5 | exact .h6 | exact .h7 | exact .h8 | exact .h9 | exact .h10 | exact .h11 | exact .h12 | exact .h13 | exact .h14) (ShKey.at_l _)) ⟨rfl, rfl⟩)) ?_
      refine ML.look rfl rfl rfl (fun w hw => (by have hS := hS1.bel hw; exact opW.moveI rfl ⟨rfl, rfl⟩)) ?_
      refine ML.look rfl rfl rfl (fun w hw => (by have hS := hS1.bel hw; exact opW.idxV rfl ((hs.bel hS.old)) rfl (by omega) ⟨rfl, rfl⟩)) ?_
      refine ML.look rfl rfl rfl (fun w hw => (by have hS := hS1.bel hw; exact opW.loadV rfl (((hs.bel hS.old).isPt hkl).ldA (Enc.size_eq _)) ⟨rfl, rfl⟩)) ?_
      refine ML.look rfl rfl rfl (fun w hw => (by have hS := hS1.bel hw; exact opW.fieldAddrB rfl ⟨rfl, rfl⟩)) ?_
      refine ML.look rfl rfl rfl (fun w hw => (by have hS := hS1.bel hw; exact opW.loadV rfl (hS.ldF (cs := Enc.enc s) (by first | exact .h0 | exact .h1 | exact .h2 | exact .h3 | exact .h4 | exact .h5 | exact .h6 | exact .h7 | exact .h8 | exact .h9 | exact .h10 | exact .h11 | exact .h12 | exact .h13 | exact .h14) (ShKey.ex_here _) (by rw [Enc.size_eq]; decide)) ⟨rfl, rfl⟩)) ?_
      refine ML.look rfl rfl rfl (fun w hw => (by have hS := hS1.bel hw; exact opW.neqE rfl rfl ⟨rfl, rfl⟩)) ?_
      refine ML.nil ?_
      refine thenQ_n (hK7 _ _ ?_)
      refine WC.cond _ rfl (fun hc1 => ?_) (fun hc1 => ?_)
      ·
        have hr1 := hc1
        try simp only [decide_eq_true_eq, decide_eq_false_iff_not, Bool.and_eq_true, Bool.or_eq_true, Bool.and_eq_false_iff, Bool.or_eq_false_iff, Bool.not_eq_true', Bool.not_eq_false', Int.not_lt, Int.not_le] at hc1
        simp at hr1
      ·
        have hr1 := hc1
        try simp only [decide_eq_true_eq, decide_eq_false_iff_not, Bool.and_eq_true, Bool.or_eq_true, Bool.and_eq_false_iff, Bool.or_eq_false_iff, Bool.not_eq_true', Bool.not_eq_false', Int.not_lt, Int.not_le] at hc1
        refine WC.skip ?_
        refine blockQ_n ?_
        refine thenQ_n (hK6 _ _ ?_)
        refine WC.region ?_
        refine WL.op rfl (opW.moveI rfl ?_)
        refine WL.op rfl (opW.add rfl rfl (wrap_i64 (by omega)) ?_)
        refine WL.op rfl (opW.assignI rfl ?_)
        refine WL.nil ?_
        refine thenQ_n ?_
        exact ⟨n - (k + 1), by omega, k + 1, ⟨rfl, congrArg (Value.int .i64) (by omega), trivial⟩, hS, by omega, rfl⟩
    ·
      have hr0 := hc0
      try simp only [decide_eq_true_eq, decide_eq_false_iff_not, Bool.and_eq_true, Bool.or_eq_true, Bool.and_eq_false_iff, Bool.or_eq_false_iff, Bool.not_eq_true', Bool.not_eq_false', Int.not_lt, Int.not_le] at hc0
      refine WC.exit ?_
      refine thenQ_e ?_
      refine thenQ_e ?_
      refine blockQ_hit ?_
      refine thenQ_n (hK2 _ _ ?_)
      refine WC.seq (fun K8 hK8 => ?_)
      refine WC.region ?_
      refine WL.op rfl (opW.fieldAddrB rfl ?_)
      refine WL.op rfl (opW.loadV rfl (hS.ld1 (by first | exact .h0 | exact .h1 | exact .h2 | exact .h3 | exact .h4 | exact .h5 | exact .h6 | exact .h7 | exact .h8 | exact .h9 | exact .h10 | exact .h11 | exact .h12 | exact .h13 | exact .h14) (ShKey.at_l _)) ?_)
      refine WL.op rfl (opW.fieldAddrB rfl ?_)
      refine WL.op rfl (opW.loadV rfl (hS.ld1 (by first | exact .h0 | exact .h1 | exact .h2 | exact .h3 | exact .h4 | exact .h5 | exact .h6 | exact .h7 | exact .h8 | exact .h9 | exact .h10 | exact .h11 | exact .h12 | exact .h13 | exact .h14) (ShKey.at_l _)) ?_)
      refine WL.op rfl (opW.cap (v := s.l.v) rfl (hs.bel hS.old) ?_)
      refine WL.op rfl (opW.cutS (l := 0) (h' := (capV s.l.v)) (m := (capV s.l.v)) (hs.bel hS.old) ⟨rfl, Nat.le_refl _⟩ ⟨⟨_, rfl⟩, Nat.le_refl _⟩ ⟨rfl, Nat.zero_le _⟩ ?_)
      refine WL.op rfl (opW.assignV (v := (cutV s.l.v 0 (capV s.l.v) (capV s.l.v) (Enc.sz (Vector UInt8 32)))) rfl ?_)
      refine WL.nil ?_
      refine thenQ_n (hK8 _ _ ?_)
      refine WC.seq (fun K9 hK9 => ?_)
      refine WC.seq (fun K10 hK10 => ?_)
      refine WC.region ?_
      refine WL.op rfl (opW.fieldAddrB rfl ?_)
      refine WL.op rfl (opW.loadV rfl (hS.ld1 (by first | exact .h0 | exact .h1 | exact .h2 | exact .h3 | exact .h4 | exact .h5 | exact .h6 | exact .h7 | exact .h8 | exact .h9 | exact .h10 | exact .h11 | exact .h12 | exact .h13 | exact .h14) (ShKey.at_l _)) ?_)
      refine WL.op rfl (opW.lenV rfl ((hs.bel hS.old)) ?_)
      refine WL.op rfl (opW.assignI rfl ?_)
      refine WL.nil ?_
      refine thenQ_n (hK10 _ _ ?_)
      refine WC.block ?_
      refine WC.loop (fun q f w => ∃ k : Nat, Fits [(1, .pointer (some ⟨b1, 0, none⟩)), (4, (cutV s.l.v 0 (capV s.l.v) (capV s.l.v) (Enc.sz (Vector UInt8 32)))), (5, .int .i64 (k : Int))] f ∧ St w0 [blkE b1 (Enc.enc s) 120] w ∧ n ≤ k ∧ k ≤ n + m ∧ q = n + m - k) (n + m - n) ?_ ?_
      ·
        exact ⟨n, ⟨rfl, rfl, congrArg (fun i : Nat => Value.int .i64 (i : Int)) hln, trivial⟩, hS, Nat.le_refl _, by omega, rfl⟩
      ·
        rintro q f w ⟨k, hfit, hS, hk0, hk1, hm1⟩
        refine WC.fits _ hfit (fun g => ?_)
        clear hfit
        refine WC.seq (fun K11 hK11 => ?_)
        refine WC.seq (fun K12 hK12 => ?_)
        refine WC.region ?_
        refine WL.op rfl (opW.moveI rfl ?_)
        refine WL.op rfl (opW.moveV (v := (cutV s.l.v 0 (capV s.l.v) (capV s.l.v) (Enc.sz (Vector UInt8 32)))) rfl ?_)
        refine WL.op rfl (opW.lenV rfl ((ha.bel hS.old)) ?_)
        refine WL.op rfl (opW.lss rfl rfl ?_)
        refine WL.nil ?_
        refine thenQ_n (hK12 _ _ ?_)
        refine WC.cond _ rfl (fun hc2 => ?_) (fun hc2 => ?_)
        ·
          have hr2 := hc2
          try simp only [decide_eq_true_eq, decide_eq_false_iff_not, Bool.and_eq_true, Bool.or_eq_true, Bool.and_eq_false_iff, Bool.or_eq_false_iff, Bool.not_eq_true', Bool.not_eq_false', Int.not_lt, Int.not_le] at hc2
          have hkl : k < (List.replicate n s.here ++ List.replicate m s.far).length := by rw [hla]; omega
          refine WC.skip ?_
          refine thenQ_n (hK11 _ _ ?_)
          refine WC.seq (fun K13 hK13 => ?_)
          refine WC.block ?_
          refine WC.seq (fun K14 hK14 => ?_)
          refine WC.draw 7 (.look 0 (.look 1 (.look 2 (.look 3 (.look 4 (.look 5 (.look 6 .nil))))))) (by kernel_rfl) (fun _ _ _ h => h) (fun w1 hw1 => ?_)
          replace hS := hS.bel hw1
          have hS1 := hS
          have hT := St.start w1
          refine ML.look rfl rfl rfl (fun w hw => (by have hS := hS1.bel hw; exact opW.moveV (v := (cutV s.l.v 0 (capV s.l.v) (capV s.l.v) (Enc.sz (Vector UInt8 32)))) rfl ⟨rfl, rfl⟩)) ?_
          refine ML.look rfl rfl rfl (fun w hw => (by have hS := hS1.bel hw; exact opW.moveI rfl ⟨rfl, rfl⟩)) ?_
          refine ML.look rfl rfl rfl (fun w hw => (by have hS := hS1.bel hw; exact opW.idxV rfl ((ha.bel hS.old)) rfl (by omega) ⟨rfl, rfl⟩)) ?_
          refine ML.look rfl rfl rfl (fun w hw => (by have hS := hS1.bel hw; exact opW.loadV rfl (((ha.bel hS.old).isPt hkl).ldA (Enc.size_eq _)) ⟨rfl, rfl⟩)) ?_
          refine ML.look rfl rfl rfl (fun w hw => (by have hS := hS1.bel hw; exact opW.fieldAddrB rfl ⟨rfl, rfl⟩)) ?_
          refine ML.look rfl rfl rfl (fun w hw => (by have hS := hS1.bel hw; exact opW.loadV rfl (hS.ldF (cs := Enc.enc s) (by first | exact .h0 | exact .h1 | exact .h2 | exact .h3 | exact .h4 | exact .h5 | exact .h6 | exact .h7 | exact .h8 | exact .h9 | exact .h10 | exact .h11 | exact .h12 | exact .h13 | exact .h14) (ShKey.ex_far _) (by rw [Enc.size_eq]; decide)) ⟨rfl, rfl⟩)) ?_
          refine ML.look rfl rfl rfl (fun w hw => (by have hS := hS1.bel hw; exact opW.neqE rfl rfl ⟨rfl, rfl⟩)) ?_
          refine ML.nil ?_
          refine thenQ_n (hK14 _ _ ?_)
          refine WC.cond _ rfl (fun hc3 => ?_) (fun hc3 => ?_)
          ·
            have hr3 := hc3
            try simp only [decide_eq_true_eq, decide_eq_false_iff_not, Bool.and_eq_true, Bool.or_eq_true, Bool.and_eq_false_iff, Bool.or_eq_false_iff, Bool.not_eq_true', Bool.not_eq_false', Int.not_lt, Int.not_le] at hc3
            rw [List.getElem_append_right (by simp; omega)] at hr3
            simp at hr3
          ·
            have hr3 := hc3
            try simp only [decide_eq_true_eq, decide_eq_false_iff_not, Bool.and_eq_true, Bool.or_eq_true, Bool.and_eq_false_iff, Bool.or_eq_false_iff, Bool.not_eq_true', Bool.not_eq_false', Int.not_lt, Int.not_le] at hc3
            refine WC.skip ?_
            refine blockQ_n ?_
            refine thenQ_n (hK13 _ _ ?_)
            refine WC.region ?_
            refine WL.op rfl (opW.moveI rfl ?_)
            refine WL.op rfl (opW.add rfl rfl (wrap_i64 (by omega)) ?_)
            refine WL.op rfl (opW.assignI rfl ?_)
            refine WL.nil ?_
            refine thenQ_n ?_
            exact ⟨n + m - (k + 1), by omega, k + 1, ⟨rfl, rfl, congrArg (Value.int .i64) (by omega), trivial⟩, hS, by omega, by omega, rfl⟩
        ·
          have hr2 := hc2
          try simp only [decide_eq_true_eq, decide_eq_false_iff_not, Bool.and_eq_true, Bool.or_eq_true, Bool.and_eq_false_iff, Bool.or_eq_false_iff, Bool.not_eq_true', Bool.not_eq_false', Int.not_lt, Int.not_le] at hc2
          refine WC.exit ?_
          refine thenQ_e ?_
          refine thenQ_e ?_
          refine blockQ_hit ?_
          refine thenQ_n (hK9 _ _ ?_)
          refine WC.seq (fun K15 hK15 => ?_)
          refine WC.region ?_
          refine WL.op rfl (opW.assignB rfl ?_)
          refine WL.nil ?_
          refine thenQ_n (hK15 _ _ ?_)
          refine WC.ret ?_
          refine bodyQ_ret (.tmpB rfl .nil) ?_
          exact ⟨rfl, hS.old⟩

def pg_Key (s : ShKey) (xs : List (Vector UInt8 32)) (hv : OwnS s.l.v xs.length) : Pg Try.prog where
  iv := ⟨120, .agg (Enc.enc s)⟩
  e0 := ownE s.l.v 58 xs
  e1 := ownE s.l.v 58 (List.replicate xs.length s.here)
  e2 := ownE (cutV s.l.v 0 (capV s.l.v) (capV s.l.v) (Enc.sz (Vector UInt8 32))) 58 (List.replicate xs.length s.here ++ List.replicate ((capV s.l.v) - xs.length) s.far)
  s0 := fun wb S w h => ⟨_, _, _, rfl, inferInstance, inferInstance, inferInstance, signA_Key wb w S s xs h⟩
  s1 := fun wb S w h => ⟨_, _, _, rfl, inferInstance, inferInstance, inferInstance, by
    have := signB_Key wb w S s (List.replicate xs.length s.here) (by simpa using hv) h
    simpa using this⟩
  ow := fun wb S w h => ⟨_, _, _, rfl, inferInstance, inferInstance, inferInstance, by
    refine Ret.mono (own_Key w s xs.length ((capV s.l.v) - xs.length) hv (by have := hv.le.1; omega) (h.sl .here)) fun u w' hu => ⟨hu.1, h.bel hu.2⟩⟩

structure BookS where
  pages : SlV
def BookS.parts (x : BookS) : List (Array Value) := [#[x.pages.v]]
theorem BookS.sizes (x : BookS) : x.parts.map Array.size = [1] := by
  simp only [BookS.parts, List.map, Enc.size_eq]; rfl
instance : Enc BookS where
  enc x := joinA x.parts
  sz := 1
  pos := by omega
  size_eq x := by rw [joinA_size, BookS.sizes]; rfl
  one x := joinA_one (all_cons (Enc.one (α := SlV) _) all_nil)
theorem BookS.enc_eq (x : BookS) : Enc.enc x = joinA x.parts := rfl
theorem BookS.at_pages (x : BookS) : (Enc.enc x)[0]? = some (x.pages.v) := joinA_at [] [] _ (by rw [joinA_size]; simp only [List.map, Enc.size_eq]; rfl)
theorem BookS.set_pages (x : BookS) (v : SlV) : spl (Enc.enc x) 0 #[v.v] = Enc.enc { x with pages := v } := by
  have h := spl_join [] [] (#[x.pages.v]) (#[v.v]) (by first | (rw [Enc.size_eq, Enc.size_eq]; done) | rfl)
  rw [show (joinA []).size = 0 from (by rw [joinA_size]; simp only [List.map, Enc.size_eq]; rfl)] at h
  exact h

@[irreducible] def bkE (p : Nat) (sv : SlV) (pgs : List (Pg Try.prog)) : Ent := starE ([blkE p (Enc.enc (BookS.mk sv)) 45, ownE sv.v 75 (pgs.map Pg.iv)] ++ pgs.map Pg.e0)
theorem St.bkOpen {w0 w : World} {S : List Ent} {p : Nat} {sv : SlV} {pgs : List (Pg Try.prog)} (h : St w0 (bkE p sv pgs :: S) w) : St w0 (blkE p (Enc.enc (BookS.mk sv)) 45 :: ownE sv.v 75 (pgs.map Pg.iv) :: (pgs.map Pg.e0 ++ S)) w := by
  unfold bkE at h
  exact h.opened
theorem St.bkClose {w0 w : World} {S : List Ent} {p : Nat} {sv : SlV} {pgs : List (Pg Try.prog)} (h : St w0 (blkE p (Enc.enc (BookS.mk sv)) 45 :: ownE sv.v 75 (pgs.map Pg.iv) :: (pgs.map Pg.e0 ++ S)) w) : St w0 (bkE p sv pgs :: S) w := by
  unfold bkE
  exact St.closed (l := [blkE p (Enc.enc (BookS.mk sv)) 45, ownE sv.v 75 (pgs.map Pg.iv)] ++ pgs.map Pg.e0) h
theorem St.bkAdd {w0 w : World} {S : List Ent} {p : Nat} {sv : SlV} {pgs : List (Pg Try.prog)} (pg : Pg Try.prog) (h : St w0 (blkE p (Enc.enc (BookS.mk sv)) 45 :: ownE sv.v 75 (pgs.map Pg.iv ++ [pg.iv]) :: (pgs.map Pg.e0 ++ (pg.e0 :: S))) w) : St w0 (bkE p sv (pgs ++ [pg]) :: S) w := by
  refine St.bkClose ?_
  rw [List.map_append, List.map_append, List.append_assoc]
  exact h
/-- a book without pages -/
theorem St.bkNew {w0 w : World} {S : List Ent} {p : Nat} (h : St w0 (blkE p (Enc.enc (BookS.mk ⟨none, 0, 0⟩)) 45 :: S) w) : St w0 (bkE p ⟨none, 0, 0⟩ [] :: S) w := by
  refine St.bkClose ?_
  exact (h.nilOwn (α := IfV) 75).swap

theorem number_ok (w0 : World) (p : Nat) (sv : SlV) (pgs : List (Pg Try.prog)) (hp : Pt w0 (.pointer (some ⟨p, 0, none⟩)) (Enc.enc (BookS.mk sv))) (hs : SlR w0 sv.v (pgs.map Pg.iv)) (hl : pgs.length ≤ 100000) : Ret Try.prog 40 #[.pointer (some ⟨p, 0, none⟩)] w0 (fun u w' => u = .int .i64 ((pgs.length + 1 : Nat) : Int) ∧ Bel w0 w') := by
  refine Ret.enter (args := [.pointer (some ⟨p, 0, none⟩)]) Try.func40 rfl Try.ntmps40 Try.results40 rfl ?_
  have hS := St.start w0
  have hll : (pgs.map Pg.iv).length = pgs.length := by simp
  refine WC.seq (fun K1 hK1 => ?_)
  refine WC.region ?_
  refine WL.op rfl (opW.assignI rfl ?_)
  refine WL.nil ?_
  refine thenQ_n (hK1 _ _ ?_)
  refine WC.seq (fun K2 hK2 => ?_)
  refine WC.region ?_
  refine WL.op rfl (opW.moveV (v := .pointer (some ⟨p, 0, none⟩)) rfl ?_)
  refine WL.op rfl (opW.nilCheckB rfl ?_)
  refine WL.op rfl (opW.fieldAddrB rfl ?_)
  refine WL.op rfl (opW.loadV rfl ((hp.bel hS.old).at1 (BookS.at_pages _)) ?_)
  refine WL.op rfl (opW.lenV rfl ((hs.bel hS.old)) ?_)
  refine WL.op rfl (opW.add rfl rfl (wrap_i64 (by omega)) ?_)
  refine WL.op rfl (opW.assignI rfl ?_)
  refine WL.nil ?_
  refine thenQ_n (hK2 _ _ ?_)
  refine WC.ret ?_
  refine bodyQ_ret (.tmpI rfl .nil) ?_
  exact ⟨congrArg (Value.int .i64) (by simp : ((pgs.map Pg.iv).length : Int) + 1 = ((pgs.length + 1 : Nat) : Int)), hS.old⟩

theorem apart_ok (wb w0 : World) (S : List Ent) (p : Nat) (sv : SlV) (pgs : List (Pg Try.prog)) (hS0 : St wb (bkE p sv pgs :: S) w0) : Ret Try.prog 17 #[.pointer (some ⟨p, 0, none⟩)] w0 (fun u w' => u = .bool true ∧ St wb S w') := by
  refine Ret.enter (args := [.pointer (some ⟨p, 0, none⟩)]) Try.func17 rfl Try.ntmps17 Try.results17 rfl ?_
  have hS := St.start w0
  have hll : (pgs.map Pg.iv).length = pgs.length := by simp
  replace hS := hS0.bkOpen
  have hle := (hS.sl (v := sv.v) (xs := pgs.map Pg.iv) (by first | exact .h0 | exact .h1 | exact .h2 | exact .h3 | exact .h4 | exact .h5 | exact .h6 | exact .h7 | exact .h8 | exact .h9 | exact .h10 | exact .h11 | exact .h12 | exact .h13 | exact .h14)).le
  simp only [maxLen] at hle
  refine WC.seq (fun K1 hK1 => ?_)
  refine WC.region ?_
  refine WL.op rfl (opW.assignB rfl ?_)
  refine WL.nil ?_
  refine thenQ_n (hK1 _ _ ?_)
  refine WC.seq (fun K2 hK2 => ?_)
  refine WC.seq (fun K3 hK3 => ?_)
  refine WC.region ?_
  refine WL.op rfl (opW.moveV (v := .pointer (some ⟨p, 0, none⟩)) rfl ?_)
  refine WL.op rfl (opW.nilCheckB rfl ?_)
  refine WL.op rfl (opW.fieldAddrB rfl ?_)
  refine WL.op rfl (opW.loadV rfl (hS.ld1 (by first | exact .h0 | exact .h1 | exact .h2 | exact .h3 | exact .h4 | exact .h5 | exact .h6 | exact .h7 | exact .h8 | exact .h9 | exact .h10 | exact .h11 | exact .h12 | exact .h13 | exact .h14) (BookS.at_pages _)) ?_)
  refine WL.op rfl (opW.lenV rfl (hS.sl (v := sv.v) (xs := pgs.map Pg.iv) (by first | exact .h0 | exact .h1 | exact .h2 | exact .h3 | exact .h4 | exact .h5 | exact .h6 | exact .h7 | exact .h8 | exact .h9 | exact .h10 | exact .h11 | exact .h12 | exact .h13 | exact .h14)) ?_)
  refine WL.op rfl (opW.gtr rfl rfl ?_)
  refine WL.nil ?_
  refine thenQ_n (hK3 _ _ ?_)
  refine WC.cond _ rfl (fun hc0 => ?_) (fun hc0 => ?_)
  ·
    have hr0 := hc0
    try simp only [decide_eq_true_eq, decide_eq_false_iff_not, Bool.and_eq_true, Bool.or_eq_true, Bool.and_eq_false_iff, Bool.or_eq_false_iff, Bool.not_eq_true', Bool.not_eq_false', Int.not_lt, Int.not_le] at hc0
    refine WC.seq (fun K4 hK4 => ?_)
    refine WC.region ?_
    refine WL.op rfl (opW.assignB rfl ?_)
    refine WL.nil ?_
    refine thenQ_n (hK4 _ _ ?_)
    refine WC.ret ?_
    refine thenQ_r ?_
    refine bodyQ_ret (.tmpB rfl .nil) ?_
    exact ⟨rfl, hS.drop1.drop1.sub (List.sublist_append_right _ _)⟩
  ·
    have hr0 := hc0
    try simp only [decide_eq_true_eq, decide_eq_false_iff_not, Bool.and_eq_true, Bool.or_eq_true, Bool.and_eq_false_iff, Bool.or_eq_false_iff, Bool.not_eq_true', Bool.not_eq_false', Int.not_lt, Int.not_le] at hc0
    refine WC.skip ?_
    refine thenQ_n (hK2 _ _ ?_)
    refine WC.seq (fun K5 hK5 => ?_)
    refine WC.seq (fun K6 hK6 => ?_)
    refine WC.region ?_
    refine WL.op rfl (opW.assignI rfl ?_)
    refine WL.nil ?_
    refine thenQ_n (hK6 _ _ ?_)
    refine WC.block ?_
    refine WC.loop (fun q f w => ∃ k : Nat, Fits [(0, .pointer (some ⟨p, 0, none⟩)), (3, .int .i64 (k : Int))] f ∧ St wb (blkE p (Enc.enc (BookS.mk sv)) 45 :: ownE sv.v 75 (pgs.map Pg.iv) :: ((pgs.take k).map Pg.e1 ++ ((pgs.drop k).map Pg.e0 ++ S))) w ∧ k ≤ pgs.length ∧ q = pgs.length - k) (pgs.length) ?_ ?_
    ·
      refine ⟨0, ⟨rfl, rfl, trivial⟩, ?_, Nat.zero_le _, rfl⟩
      rw [List.drop_zero]; exact hS
    ·
      rintro q f w ⟨k, hfit, hS, hk0, hm⟩
      refine WC.fits _ hfit (fun g => ?_)
      clear hfit
      refine WC.seq (fun K7 hK7 => ?_)
      refine WC.seq (fun K8 hK8 => ?_)
      refine WC.region ?_
      refine WL.op rfl (opW.moveI rfl ?_)
      refine WL.op rfl (opW.moveV (v := .pointer (some ⟨p, 0, none⟩)) rfl ?_)
      refine WL.op rfl (opW.nilCheckB rfl ?_)
      refine WL.op rfl (opW.fieldAddrB rfl ?_)
      refine WL.op rfl (opW.loadV rfl (hS.ld1 (by first | exact .h0 | exact .h1 | exact .h2 | exact .h3 | exact .h4 | exact .h5 | exact .h6 | exact .h7 | exact .h8 | exact .h9 | exact .h10 | exact .h11 | exact .h12 | exact .h13 | exact .h14) (BookS.at_pages _)) ?_)
      refine WL.op rfl (opW.lenV rfl (hS.sl (v := sv.v) (xs := pgs.map Pg.iv) (by first | exact .h0 | exact .h1 | exact .h2 | exact .h3 | exact .h4 | exact .h5 | exact .h6 | exact .h7 | exact .h8 | exact .h9 | exact .h10 | exact .h11 | exact .h12 | exact .h13 | exact .h14)) ?_)
      refine WL.op rfl (opW.lss rfl rfl ?_)
      refine WL.nil ?_
      refine thenQ_n (hK8 _ _ ?_)
      refine WC.cond _ rfl (fun hc1 => ?_) (fun hc1 => ?_)
      ·
        have hr1 := hc1
        try simp only [decide_eq_true_eq, decide_eq_false_iff_not, Bool.and_eq_true, Bool.or_eq_true, Bool.and_eq_false_iff, Bool.or_eq_false_iff, Bool.not_eq_true', Bool.not_eq_false', Int.not_lt, Int.not_le] at hc1
        have hkl : k < pgs.length := by omega
        have hkm : k < (pgs.map Pg.iv).length := by omega
        refine WC.skip ?_
        refine thenQ_n (hK7 _ _ ?_)
        refine WC.seq (fun K9 hK9 => ?_)
        refine WC.block ?_
        refine WC.region ?_
        refine WL.op rfl (opW.moveV (v := .pointer (some ⟨p, 0, none⟩)) rfl ?_)
        refine WL.op rfl (opW.nilCheckB rfl ?_)
        refine WL.op rfl (opW.fieldAddrB rfl ?_)
        refine WL.op rfl (opW.loadV rfl (hS.ld1 (by first | exact .h0 | exact .h1 | exact .h2 | exact .h3 | exact .h4 | exact .h5 | exact .h6 | exact .h7 | exact .h8 | exact .h9 | exact .h10 | exact .h11 | exact .h12 | exact .h13 | exact .h14) (BookS.at_pages _)) ?_)
        refine WL.op rfl (opW.moveI rfl ?_)
        refine WL.op rfl (opW.idxV rfl (hS.sl (v := sv.v) (xs := pgs.map Pg.iv) (by first | exact .h0 | exact .h1 | exact .h2 | exact .h3 | exact .h4 | exact .h5 | exact .h6 | exact .h7 | exact .h8 | exact .h9 | exact .h10 | exact .h11 | exact .h12 | exact .h13 | exact .h14)) rfl (by omega) ?_)
        refine WL.op rfl (opW.loadV rfl (((hS.sl (v := sv.v) (xs := pgs.map Pg.iv) (by first | exact .h0 | exact .h1 | exact .h2 | exact .h3 | exact .h4 | exact .h5 | exact .h6 | exact .h7 | exact .h8 | exact .h9 | exact .h10 | exact .h11 | exact .h12 | exact .h13 | exact .h14)).isPt hkm).ldI (pv := pgs[k].iv.v) (by rw [List.getElem_map])) ?_)
        refine WL.op rfl (opW.invoke rfl (pgs[k].s0 _ _ _ (hS.perm (pg_out [_, _] pgs k hkl Pg.e1 Pg.e0 S))) rfl ?_)
        intro _ w hS
        replace hS := hS.perm (pg_in [_, _] pgs k hkl Pg.e1 Pg.e0 S)
        refine WL.nil ?_
        refine blockQ_n ?_
        refine thenQ_n (hK9 _ _ ?_)
        refine WC.region ?_
        refine WL.op rfl (opW.moveI rfl ?_)
        refine WL.op rfl (opW.add rfl rfl (wrap_i64 (by omega)) ?_)
        refine WL.op rfl (opW.assignI rfl ?_)
        refine WL.nil ?_
        refine thenQ_n ?_
        exact ⟨pgs.length - (k + 1), by omega, k + 1, ⟨rfl, congrArg (Value.int .i64) (by omega), trivial⟩, hS, by omega, rfl⟩
      ·
        have hr1 := hc1
        try simp only [decide_eq_true_eq, decide_eq_false_iff_not, Bool.and_eq_true, Bool.or_eq_true, Bool.and_eq_false_iff, Bool.or_eq_false_iff, Bool.not_eq_true', Bool.not_eq_false', Int.not_lt, Int.not_le] at hc1
        obtain rfl : k = pgs.length := by omega
        rw [List.take_length, List.drop_length, List.map_nil, List.nil_append] at hS
        refine WC.exit ?_
        refine thenQ_e ?_
        refine thenQ_e ?_
        refine blockQ_hit ?_
        refine thenQ_n (hK5 _ _ ?_)
        refine WC.seq (fun K10 hK10 => ?_)
        refine WC.seq (fun K11 hK11 => ?_)
        refine WC.region ?_
        refine WL.op rfl (opW.assignI rfl ?_)
        refine WL.nil ?_
        refine thenQ_n (hK11 _ _ ?_)
        refine WC.block ?_
        refine WC.loop (fun q f w => ∃ k : Nat, Fits [(0, .pointer (some ⟨p, 0, none⟩)), (4, .int .i64 (k : Int))] f ∧ St wb (blkE p (Enc.enc (BookS.mk sv)) 45 :: ownE sv.v 75 (pgs.map Pg.iv) :: ((pgs.take k).map Pg.e2 ++ ((pgs.drop k).map Pg.e1 ++ S))) w ∧ k ≤ pgs.length ∧ q = pgs.length - k) (pgs.length) ?_ ?_
        ·
          refine ⟨0, ⟨rfl, rfl, trivial⟩, ?_, Nat.zero_le _, rfl⟩
          rw [List.drop_zero]; exact hS
        ·
          rintro q f w ⟨k, hfit, hS, hk0, hm⟩
          refine WC.fits _ hfit (fun g => ?_)
          clear hfit
          refine WC.seq (fun K12 hK12 => ?_)
          refine WC.seq (fun K13 hK13 => ?_)
          refine WC.region ?_
          refine WL.op rfl (opW.moveI rfl ?_)
          refine WL.op rfl (opW.moveV (v := .pointer (some ⟨p, 0, none⟩)) rfl ?_)
          refine WL.op rfl (opW.nilCheckB rfl ?_)
          refine WL.op rfl (opW.fieldAddrB rfl ?_)
          refine WL.op rfl (opW.loadV rfl (hS.ld1 (by first | exact .h0 | exact .h1 | exact .h2 | exact .h3 | exact .h4 | exact .h5 | exact .h6 | exact .h7 | exact .h8 | exact .h9 | exact .h10 | exact .h11 | exact .h12 | exact .h13 | exact .h14) (BookS.at_pages _)) ?_)
          refine WL.op rfl (opW.lenV rfl (hS.sl (v := sv.v) (xs := pgs.map Pg.iv) (by first | exact .h0 | exact .h1 | exact .h2 | exact .h3 | exact .h4 | exact .h5 | exact .h6 | exact .h7 | exact .h8 | exact .h9 | exact .h10 | exact .h11 | exact .h12 | exact .h13 | exact .h14)) ?_)
          refine WL.op rfl (opW.lss rfl rfl ?_)
          refine WL.nil ?_
          refine thenQ_n (hK13 _ _ ?_)
          refine WC.cond _ rfl (fun hc2 => ?_) (fun hc2 => ?_)
          ·
            have hr2 := hc2
            try simp only [decide_eq_true_eq, decide_eq_false_iff_not, Bool.and_eq_true, Bool.or_eq_true, Bool.and_eq_false_iff, Bool.or_eq_false_iff, Bool.not_eq_true', Bool.not_eq_false', Int.not_lt, Int.not_le] at hc2
            have hkl : k < pgs.length := by omega
            have hkm : k < (pgs.map Pg.iv).length := by omega
            refine WC.skip ?_
            refine thenQ_n (hK12 _ _ ?_)
            refine WC.seq (fun K14 hK14 => ?_)
            refine WC.block ?_
            refine WC.region ?_
            refine WL.op rfl (opW.moveV (v := .pointer (some ⟨p, 0, none⟩)) rfl ?_)
            refine WL.op rfl (opW.nilCheckB rfl ?_)
            refine WL.op rfl (opW.fieldAddrB rfl ?_)
            refine WL.op rfl (opW.loadV rfl (hS.ld1 (by first | exact .h0 | exact .h1 | exact .h2 | exact .h3 | exact .h4 | exact .h5 | exact .h6 | exact .h7 | exact .h8 | exact .h9 | exact .h10 | exact .h11 | exact .h12 | exact .h13 | exact .h14) (BookS.at_pages _)) ?_)
            refine WL.op rfl (opW.moveI rfl ?_)
            refine WL.op rfl (opW.idxV rfl (hS.sl (v := sv.v) (xs := pgs.map Pg.iv) (by first | exact .h0 | exact .h1 | exact .h2 | exact .h3 | exact .h4 | exact .h5 | exact .h6 | exact .h7 | exact .h8 | exact .h9 | exact .h10 | exact .h11 | exact .h12 | exact .h13 | exact .h14)) rfl (by omega) ?_)
            refine WL.op rfl (opW.loadV rfl (((hS.sl (v := sv.v) (xs := pgs.map Pg.iv) (by first | exact .h0 | exact .h1 | exact .h2 | exact .h3 | exact .h4 | exact .h5 | exact .h6 | exact .h7 | exact .h8 | exact .h9 | exact .h10 | exact .h11 | exact .h12 | exact .h13 | exact .h14)).isPt hkm).ldI (pv := pgs[k].iv.v) (by rw [List.getElem_map])) ?_)
            refine WL.op rfl (opW.invoke rfl (pgs[k].s1 _ _ _ (hS.perm (pg_out [_, _] pgs k hkl Pg.e2 Pg.e1 S))) rfl ?_)
            intro _ w hS
            replace hS := hS.perm (pg_in [_, _] pgs k hkl Pg.e2 Pg.e1 S)
            refine WL.nil ?_
            refine blockQ_n ?_
            refine thenQ_n (hK14 _ _ ?_)
            refine WC.region ?_
            refine WL.op rfl (opW.moveI rfl ?_)
            refine WL.op rfl (opW.add rfl rfl (wrap_i64 (by omega)) ?_)
            refine WL.op rfl (opW.assignI rfl ?_)
            refine WL.nil ?_
            refine thenQ_n ?_
            exact ⟨pgs.length - (k + 1), by omega, k + 1, ⟨rfl, congrArg (Value.int .i64) (by omega), trivial⟩, hS, by omega, rfl⟩
          ·
            have hr2 := hc2
            try simp only [decide_eq_true_eq, decide_eq_false_iff_not, Bool.and_eq_true, Bool.or_eq_true, Bool.and_eq_false_iff, Bool.or_eq_false_iff, Bool.not_eq_true', Bool.not_eq_false', Int.not_lt, Int.not_le] at hc2
            obtain rfl : k = pgs.length := by omega
            rw [List.take_length, List.drop_length, List.map_nil, List.nil_append] at hS
            refine WC.exit ?_
            refine thenQ_e ?_
            refine thenQ_e ?_
            refine blockQ_hit ?_
            refine thenQ_n (hK10 _ _ ?_)
            refine WC.seq (fun K15 hK15 => ?_)
            refine WC.seq (fun K16 hK16 => ?_)
            refine WC.region ?_
            refine WL.op rfl (opW.assignI rfl ?_)
            refine WL.nil ?_
            refine thenQ_n (hK16 _ _ ?_)
            refine WC.block ?_
            refine WC.loop (fun q f w => ∃ k : Nat, Fits [(0, .pointer (some ⟨p, 0, none⟩)), (5, .int .i64 (k : Int))] f ∧ St wb (blkE p (Enc.enc (BookS.mk sv)) 45 :: ownE sv.v 75 (pgs.map Pg.iv) :: ((pgs.take k).map Pg.e2 ++ ((pgs.drop k).map Pg.e2 ++ S))) w ∧ k ≤ pgs.length ∧ q = pgs.length - k) (pgs.length) ?_ ?_
            ·
              refine ⟨0, ⟨rfl, rfl, trivial⟩, ?_, Nat.zero_le _, rfl⟩
              rw [List.drop_zero]; exact hS
            ·
              rintro q f w ⟨k, hfit, hS, hk0, hm⟩
              refine WC.fits _ hfit (fun g => ?_)
              clear hfit
              refine WC.seq (fun K17 hK17 => ?_)
              refine WC.seq (fun K18 hK18 => ?_)
              refine WC.region ?_
              refine WL.op rfl (opW.moveI rfl ?_)
              refine WL.op rfl (opW.moveV (v := .pointer (some ⟨p, 0, none⟩)) rfl ?_)
              refine WL.op rfl (opW.nilCheckB rfl ?_)
              refine WL.op rfl (opW.fieldAddrB rfl ?_)
              refine WL.op rfl (opW.loadV rfl (hS.ld1 (by first | exact .h0 | exact .h1 | exact .h2 | exact .h3 | exact .h4 | exact .h5 | exact .h6 | exact .h7 | exact .h8 | exact .h9 | exact .h10 | exact .h11 | exact .h12 | exact .h13 | exact .h14) (BookS.at_pages _)) ?_)
              refine WL.op rfl (opW.lenV rfl (hS.sl (v := sv.v) (xs := pgs.map Pg.iv) (by first | exact .h0 | exact .h1 | exact .h2 | exact .h3 | exact .h4 | exact .h5 | exact .h6 | exact .h7 | exact .h8 | exact .h9 | exact .h10 | exact .h11 | exact .h12 | exact .h13 | exact .h14)) ?_)
              refine WL.op rfl (opW.lss rfl rfl ?_)
              refine WL.nil ?_
              refine thenQ_n (hK18 _ _ ?_)
              refine WC.cond _ rfl (fun hc3 => ?_) (fun hc3 => ?_)
              ·
                have hr3 := hc3
                try simp only [decide_eq_true_eq, decide_eq_false_iff_not, Bool.and_eq_true, Bool.or_eq_true, Bool.and_eq_false_iff, Bool.or_eq_false_iff, Bool.not_eq_true', Bool.not_eq_false', Int.not_lt, Int.not_le] at hc3
                have hkl : k < pgs.length := by omega
                have hkm : k < (pgs.map Pg.iv).length := by omega
                refine WC.skip ?_
                refine thenQ_n (hK17 _ _ ?_)
                refine WC.seq (fun K19 hK19 => ?_)
                refine WC.block ?_
                refine WC.seq (fun K20 hK20 => ?_)
                refine WC.region ?_
                refine WL.op rfl (opW.moveV (v := .pointer (some ⟨p, 0, none⟩)) rfl ?_)
                refine WL.op rfl (opW.nilCheckB rfl ?_)
                refine WL.op rfl (opW.fieldAddrB rfl ?_)
                refine WL.op rfl (opW.loadV rfl (hS.ld1 (by first | exact .h0 | exact .h1 | exact .h2 | exact .h3 | exact .h4 | exact .h5 | exact .h6 | exact .h7 | exact .h8 | exact .h9 | exact .h10 | exact .h11 | exact .h12 | exact .h13 | exact .h14) (BookS.at_pages _)) ?_)
                refine WL.op rfl (opW.moveI rfl ?_)
                refine WL.op rfl (opW.idxV rfl (hS.sl (v := sv.v) (xs := pgs.map Pg.iv) (by first | exact .h0 | exact .h1 | exact .h2 | exact .h3 | exact .h4 | exact .h5 | exact .h6 | exact .h7 | exact .h8 | exact .h9 | exact .h10 | exact .h11 | exact .h12 | exact .h13 | exact .h14)) rfl (by omega) ?_)
                refine WL.op rfl (opW.loadV rfl (((hS.sl (v := sv.v) (xs := pgs.map Pg.iv) (by first | exact .h0 | exact .h1 | exact .h2 | exact .h3 | exact .h4 | exact .h5 | exact .h6 | exact .h7 | exact .h8 | exact .h9 | exact .h10 | exact .h11 | exact .h12 | exact .h13 | exact .h14)).isPt hkm).ldI (pv := pgs[k].iv.v) (by rw [List.getElem_map])) ?_)
                refine WL.op rfl (opW.invoke rfl (pgs[k].ow _ _ _ (hS.perm (pg_out [_, _] pgs k hkl Pg.e2 Pg.e2 S))) rfl ?_)
                rintro _ w ⟨rfl, hS⟩
                replace hS := hS.perm (pg_in [_, _] pgs k hkl Pg.e2 Pg.e2 S)
                refine WL.op rfl (opW.not rfl ?_)
                refine WL.nil ?_
                refine thenQ_n (hK20 _ _ ?_)
                refine WC.cond _ rfl (fun hc4 => ?_) (fun hc4 => ?_)
                ·
                  have hr4 := hc4
                  try simp only [decide_eq_true_eq, decide_eq_false_iff_not, Bool.and_eq_true, Bool.or_eq_true, Bool.and_eq_false_iff, Bool.or_eq_false_iff, Bool.not_eq_true', Bool.not_eq_false', Int.not_lt, Int.not_le] at hc4
                  simp at hr4
                ·
                  have hr4 := hc4
                  try simp only [decide_eq_true_eq, decide_eq_false_iff_not, Bool.and_eq_true, Bool.or_eq_true, Bool.and_eq_false_iff, Bool.or_eq_false_iff, Bool.not_eq_true', Bool.not_eq_false', Int.not_lt, Int.not_le] at hc4
                  refine WC.skip ?_
                  refine blockQ_n ?_
                  refine thenQ_n (hK19 _ _ ?_)
                  refine WC.region ?_
                  refine WL.op rfl (opW.moveI rfl ?_)
                  refine WL.op rfl (opW.add rfl rfl (wrap_i64 (by omega)) ?_)
                  refine WL.op rfl (opW.assignI rfl ?_)
                  refine WL.nil ?_
                  refine thenQ_n ?_
                  exact ⟨pgs.length - (k + 1), by omega, k + 1, ⟨rfl, congrArg (Value.int .i64) (by omega), trivial⟩, hS, by omega, rfl⟩
              ·
                have hr3 := hc3
                try simp only [decide_eq_true_eq, decide_eq_false_iff_not, Bool.and_eq_true, Bool.or_eq_true, Bool.and_eq_false_iff, Bool.or_eq_false_iff, Bool.not_eq_true', Bool.not_eq_false', Int.not_lt, Int.not_le] at hc3
                refine WC.exit ?_
                refine thenQ_e ?_
                refine thenQ_e ?_
                refine blockQ_hit ?_
                refine thenQ_n (hK15 _ _ ?_)
                refine WC.seq (fun K21 hK21 => ?_)
                refine WC.region ?_
                refine WL.op rfl (opW.assignB rfl ?_)
                refine WL.nil ?_
                refine thenQ_n (hK21 _ _ ?_)
                refine WC.ret ?_
                refine bodyQ_ret (.tmpB rfl .nil) ?_
                exact ⟨rfl, hS.drop1.drop1.sub ((List.sublist_append_right _ _).trans (List.sublist_append_right _ _))⟩

abbrev Key := Vector UInt8 32

theorem bkKey_ok (w0 : World) (n : Nat) (c : UInt8) (hn : n ≤ 1000000) : Ret Try.prog 70 #[.int .i64 (n : Int), .int .u8 (c.toNat : Int)] w0 (fun u w' => ∃ k : Key, u = .agg (Enc.enc k) ∧ Bel w0 w') := by
  refine Ret.enter (args := [.int .i64 (n : Int), .int .u8 (c.toNat : Int)]) Try.func70 rfl Try.ntmps70 Try.results70 rfl ?_
  have hS := St.start w0
  refine WC.seq (fun K1 hK1 => ?_)
  refine WC.region ?_
  refine WL.op rfl (opW.allocA hS ?_)
  intro b4 w _ hS
  refine WL.nil ?_
  refine thenQ_n (hK1 _ _ ?_)
  refine WC.seq (fun K2 hK2 => ?_)
  refine WC.region ?_
  refine WL.op rfl (opW.moveI rfl ?_)
  refine WL.op rfl (opW.conv rfl (wrap_u8of _) ?_)
  refine WL.op rfl (opW.moveI rfl ?_)
  refine WL.op rfl (opW.quo rfl rfl (by omega) (show IntKind.i64.wrap _ = ((n / 256 : Nat) : Int) from by rw [show ((n : Int)).tdiv 256 = ((n / 256 : Nat) : Int) from by rw [Int.tdiv_eq_ediv_of_nonneg (by omega)]; omega]; exact wrap_i64 (by omega)) ?_)
  refine WL.op rfl (opW.conv rfl (wrap_u8of _) ?_)
  refine WL.op rfl (opW.moveI rfl ?_)
  refine WL.op rfl (opW.buildVec (k := ((((vz 32).set 0 (u8of n)).set 1 (u8of (n / 256 : Nat))).set 2 77).set 31 c) (by first | rfl | (simp only [markK, markS, enc_vset, enc_vz]; rfl)) (by intro p hp; first | (exfalso; simp at hp; done) | (simp only [List.map_cons, List.map_nil, List.mem_cons, List.not_mem_nil, or_false] at hp; rcases hp with rfl | rfl | rfl | rfl <;> exact ⟨by simp, rfl⟩)) ?_)
  refine WL.op0 (opW.storeE hS rfl rfl (by first | exact .h0 | exact .h1 | exact .h2 | exact .h3 | exact .h4 | exact .h5 | exact .h6 | exact .h7 | exact .h8 | exact .h9 | exact .h10 | exact .h11 | exact .h12 | exact .h13 | exact .h14) (by first | rfl | exact Enc.size_eq _) ?_)
  intro w hS; replace hS := hS _ (by first | exact .h0 | exact .h1 | exact .h2 | exact .h3 | exact .h4 | exact .h5 | exact .h6 | exact .h7 | exact .h8 | exact .h9 | exact .h10 | exact .h11 | exact .h12 | exact .h13 | exact .h14)
  refine WL.nil ?_
  refine thenQ_n (hK2 _ _ ?_)
  refine WC.ret ?_
  refine bodyQ_ret (.cell (by first | exact hS.ldA (by first | exact .h0 | exact .h1 | exact .h2 | exact .h3 | exact .h4 | exact .h5 | exact .h6 | exact .h7 | exact .h8 | exact .h9 | exact .h10 | exact .h11 | exact .h12 | exact .h13 | exact .h14) (by first | rfl | exact Enc.size_eq _) | exact hS.ld1 (by first | exact .h0 | exact .h1 | exact .h2 | exact .h3 | exact .h4 | exact .h5 | exact .h6 | exact .h7 | exact .h8 | exact .h9 | exact .h10 | exact .h11 | exact .h12 | exact .h13 | exact .h14) rfl) .nil) ?_
  exact ⟨_, rfl, hS.old⟩

theorem bkKeys_ok (wb w0 : World) (S : List Ent) (p : Nat) (sv : SlV) (pgs : List (Pg Try.prog)) (lv : Value) (xs : List Key) (hl : pgs.length ≤ 100000) (hS0 : St wb (bkE p sv pgs :: ownE lv 58 xs :: S) w0) : Ret Try.prog 60 #[.pointer (some ⟨p, 0, none⟩), lv] w0 (fun u w' => ∃ sv' pg, St wb (bkE p sv' (pgs ++ [pg]) :: S) w') := by
  refine Ret.enter (args := [.pointer (some ⟨p, 0, none⟩), lv]) Try.func60 rfl Try.ntmps60 Try.results60 rfl ?_
  have hS := St.start w0
  replace hS := hS0.bkOpen
  have hov : OwnS lv xs.length := (hS0.own (v := lv) (e := 58) (xs := xs) (.there .here)).shape
  obtain ⟨sl, rfl⟩ := (hS0.sl (v := lv) (e := 58) (xs := xs) (.there .here)).asV
  refine WC.seq (fun K1 hK1 => ?_)
  refine WC.region ?_
  refine WL.op rfl (opW.moveV (v := .pointer (some ⟨p, 0, none⟩)) rfl ?_)
  refine WL.op rfl (opW.call (number_ok _ p sv pgs (hS.pt (by first | exact .h0 | exact .h1 | exact .h2 | exact .h3 | exact .h4 | exact .h5 | exact .h6 | exact .h7 | exact .h8 | exact .h9 | exact .h10 | exact .h11 | exact .h12 | exact .h13 | exact .h14)) (hS.sl (v := sv.v) (by first | exact .h0 | exact .h1 | exact .h2 | exact .h3 | exact .h4 | exact .h5 | exact .h6 | exact .h7 | exact .h8 | exact .h9 | exact .h10 | exact .h11 | exact .h12 | exact .h13 | exact .h14)) hl) rfl ?_)
  rintro _ w ⟨rfl, hw⟩; replace hS := hS.bel hw
  refine WL.op rfl (opW.assignI rfl ?_)
  refine WL.nil ?_
  refine thenQ_n (hK1 _ _ ?_)
  refine WC.draw 13 (.look 0 (.look 1 (.look 2 (.look 3 (.look 4 (.look 5 (.look 6 (.look 8 (.one 7 (.one 9 (.look 10 (.look 11 (.one 12 (.one 13 (.one 14 (.one 15 (.one 16 .nil))))))))))))))))) (by kernel_rfl) (fun _ _ _ h => h) (fun w1 hw1 => ?_)
  replace hS := hS.bel hw1
  have hS1 := hS
  have hT := St.start w1
  refine ML.look rfl rfl rfl (fun w hw => (by have hS := hS1.bel hw; exact opW.moveV (v := .pointer (some ⟨p, 0, none⟩)) rfl ⟨rfl, rfl⟩)) ?_
  refine ML.look rfl rfl rfl (fun w hw => (by have hS := hS1.bel hw; exact opW.moveV (v := .pointer (some ⟨p, 0, none⟩)) rfl ⟨rfl, rfl⟩)) ?_
  refine ML.look rfl rfl rfl (fun w hw => (by have hS := hS1.bel hw; exact opW.nilCheckB rfl ⟨rfl, rfl⟩)) ?_
  refine ML.look rfl rfl rfl (fun w hw => (by have hS := hS1.bel hw; exact opW.fieldAddrB rfl ⟨rfl, rfl⟩)) ?_
  refine ML.look rfl rfl rfl (fun w hw => (by have hS := hS1.bel hw; exact opW.loadV rfl (hS.ld1 (by first | exact .h0 | exact .h1 | exact .h2 | exact .h3 | exact .h4 | exact .h5 | exact .h6 | exact .h7 | exact .h8 | exact .h9 | exact .h10 | exact .h11 | exact .h12 | exact .h13 | exact .h14) (BookS.at_pages _)) ⟨rfl, rfl⟩)) ?_
  refine ML.look rfl rfl rfl (fun w hw => (by have hS := hS1.bel hw; exact opW.moveV (v := sl.v) rfl ⟨rfl, rfl⟩)) ?_
  refine ML.look rfl rfl rfl (fun w hw => (by have hS := hS1.bel hw; exact opW.moveI rfl ⟨rfl, rfl⟩)) ?_
  refine ML.look rfl rfl rfl (fun w hw => (by have hS := hS1.bel hw; exact opW.moveI rfl ⟨rfl, rfl⟩)) ?_
  refine ML.one rfl rfl rfl (opW.call (bkKey_ok _ (pgs.length + 1) 1 (by omega)) rfl ?_)
  rintro _ w ⟨k1, rfl, hw⟩; replace hT := hT.bel hw
  refine ⟨hT.old, ?_⟩
  have hS := hS1.merge hT
  try simp only [List.cons_append, List.nil_append] at hS
  refine ML.one rfl rfl rfl (opW.call (bkKey_ok _ (pgs.length + 1) 2 (by omega)) rfl ?_)
  rintro _ w ⟨k2, rfl, hw⟩; replace hT := hT.bel hw
  refine ⟨hT.old, ?_⟩
  have hS := hS1.merge hT
  try simp only [List.cons_append, List.nil_append] at hS
  refine ML.look rfl rfl rfl (fun w hw => (by have hS := hS1.bel hw; exact opW.buildE (r := ((⟨sl, k1, k2⟩ : ShKey) : ShKey)) (ps := ShKey.parts ((⟨sl, k1, k2⟩ : ShKey) : ShKey)) (ShKey.enc_eq _) (by first | (simp only [markK, markS, enc_vset, enc_vz, Header.enc_eq, Header.parts, Instr.enc_eq, Instr.parts, Lookup.enc_eq, Lookup.parts, Message.enc_eq, Message.parts, Tx.enc_eq, Tx.parts, Reader.enc_eq, Reader.parts, Stop.enc_eq, Stop.parts, Taker.enc_eq, Taker.parts, Reading.enc_eq, Reading.parts, ShByte.enc_eq, ShByte.parts, ShKey.enc_eq, ShKey.parts, BookS.enc_eq, BookS.parts, ShSig.enc_eq, ShSig.parts]; rfl) | rfl) (by (repeat' (first | exact trivial | refine And.intro ?_ ?_)) <;> first | rfl | exact Enc.size_eq _ | (simp; done)) ⟨rfl, rfl⟩)) ?_
  refine ML.look rfl rfl rfl (fun w hw => (by have hS := hS1.bel hw; exact opW.iface rfl ⟨rfl, rfl⟩)) ?_
  refine ML.one rfl rfl rfl (opW.buildSl hT (([(⟨120, .agg (Enc.enc (⟨sl, k1, k2⟩ : ShKey))⟩ : IfV)] : List IfV)) [.iface 120 (.agg (Enc.enc (⟨sl, k1, k2⟩ : ShKey)))] rfl rfl rfl rfl (by decide) ?_)
  intro b19 w hw hT
  refine ⟨hT.old, ?_⟩
  have hS := hS1.merge hT
  try simp only [List.cons_append, List.nil_append] at hS
  refine ML.put1 rfl rfl rfl rfl (opW.appendOwn (α := IfV) rfl hS rfl (by first | exact .h0 | exact .h1 | exact .h2 | exact .h3 | exact .h4 | exact .h5 | exact .h6 | exact .h7 | exact .h8 | exact .h9 | exact .h10 | exact .h11 | exact .h12 | exact .h13 | exact .h14) (hS.sl (xs := ([(⟨120, .agg (Enc.enc (⟨sl, k1, k2⟩ : ShKey))⟩ : IfV)] : List IfV)) (by first | exact .h0 | exact .h1 | exact .h2 | exact .h3 | exact .h4 | exact .h5 | exact .h6 | exact .h7 | exact .h8 | exact .h9 | exact .h10 | exact .h11 | exact .h12 | exact .h13 | exact .h14)) (by simp only [List.length_map, List.length_cons, List.length_nil]; omega) (by simp only [maxLen, List.length_map, List.length_cons, List.length_nil]; omega) ?_)
  intro v20 w hS; replace hS := hS _ (by first | exact .h0 | exact .h1 | exact .h2 | exact .h3 | exact .h4 | exact .h5 | exact .h6 | exact .h7 | exact .h8 | exact .h9 | exact .h10 | exact .h11 | exact .h12 | exact .h13 | exact .h14)
  obtain ⟨sn, rfl⟩ := (hS.sl (v := v20) (xs := pgs.map Pg.iv ++ [(⟨120, .agg (Enc.enc (⟨sl, k1, k2⟩ : ShKey))⟩ : IfV)]) (by first | exact .h0 | exact .h1 | exact .h2 | exact .h3 | exact .h4 | exact .h5 | exact .h6 | exact .h7 | exact .h8 | exact .h9 | exact .h10 | exact .h11 | exact .h12 | exact .h13 | exact .h14)).asV
  refine ML.put1 rfl rfl rfl rfl (opW.nilCheckB rfl ?_)
  refine ML.put1 rfl rfl rfl rfl (opW.fieldAddrB rfl ?_)
  refine ML.put0 rfl rfl rfl (opW.storeF (v := sn.v) (sz := 1) (cs' := Enc.enc (BookS.mk sn)) hS rfl rfl (by first | exact .h0 | exact .h1 | exact .h2 | exact .h3 | exact .h4 | exact .h5 | exact .h6 | exact .h7 | exact .h8 | exact .h9 | exact .h10 | exact .h11 | exact .h12 | exact .h13 | exact .h14) rfl (by rw [Enc.size_eq]; decide) (Enc.one (α := SlV) sn) (BookS.set_pages (BookS.mk sv) sn) ?_)
  intro w hS; replace hS := hS _ (by first | exact .h0 | exact .h1 | exact .h2 | exact .h3 | exact .h4 | exact .h5 | exact .h6 | exact .h7 | exact .h8 | exact .h9 | exact .h10 | exact .h11 | exact .h12 | exact .h13 | exact .h14)
  refine ML.nil ?_
  refine bodyQ_end .nil ?_
  exact ⟨sn, pg_Key ⟨sl, k1, k2⟩ xs hov, St.bkAdd (pg_Key ⟨sl, k1, k2⟩ xs hov) hS.drop1⟩

theorem bkBytes_ok (wb w0 : World) (S : List Ent) (p : Nat) (sv : SlV) (pgs : List (Pg Try.prog)) (lv : Value) (xs : List UInt8) (hl : pgs.length ≤ 100000) (hS0 : St wb (bkE p sv pgs :: ownE lv 5 xs :: S) w0) : Ret Try.prog 16 #[.pointer (some ⟨p, 0, none⟩), lv] w0 (fun u w' => ∃ sv' pg, St wb (bkE p sv' (pgs ++ [pg]) :: S) w') := by
  refine Ret.enter (args := [.pointer (some ⟨p, 0, none⟩), lv]) Try.func16 rfl Try.ntmps16 Try.results16 rfl ?_
  have hS := St.start w0
  replace hS := hS0.bkOpen
  have hov : OwnS lv xs.length := (hS0.own (v := lv) (e := 5) (xs := xs) (.there .here)).shape
  obtain ⟨sl, rfl⟩ := (hS0.sl (v := lv) (e := 5) (xs := xs) (.there .here)).asV
  refine WC.seq (fun K1 hK1 => ?_)
  refine WC.region ?_
  refine WL.op rfl (opW.moveV (v := .pointer (some ⟨p, 0, none⟩)) rfl ?_)
  refine WL.op rfl (opW.call (number_ok _ p sv pgs (hS.pt (by first | exact .h0 | exact .h1 | exact .h2 | exact .h3 | exact .h4 | exact .h5 | exact .h6 | exact .h7 | exact .h8 | exact .h9 | exact .h10 | exact .h11 | exact .h12 | exact .h13 | exact .h14)) (hS.sl (v := sv.v) (by first | exact .h0 | exact .h1 | exact .h2 | exact .h3 | exact .h4 | exact .h5 | exact .h6 | exact .h7 | exact .h8 | exact .h9 | exact .h10 | exact .h11 | exact .h12 | exact .h13 | exact .h14)) hl) rfl ?_)
  rintro _ w ⟨rfl, hw⟩; replace hS := hS.bel hw
  refine WL.op rfl (opW.conv rfl (wrap_u8of _) ?_)
  refine WL.op rfl (opW.assignI rfl ?_)
  refine WL.nil ?_
  refine thenQ_n (hK1 _ _ ?_)
  refine WC.region ?_
  refine WL.op rfl (opW.moveV (v := .pointer (some ⟨p, 0, none⟩)) rfl ?_)
  refine WL.op rfl (opW.moveV (v := .pointer (some ⟨p, 0, none⟩)) rfl ?_)
  refine WL.op rfl (opW.nilCheckB rfl ?_)
  refine WL.op rfl (opW.fieldAddrB rfl ?_)
  refine WL.op rfl (opW.loadV rfl (hS.ld1 (by first | exact .h0 | exact .h1 | exact .h2 | exact .h3 | exact .h4 | exact .h5 | exact .h6 | exact .h7 | exact .h8 | exact .h9 | exact .h10 | exact .h11 | exact .h12 | exact .h13 | exact .h14) (BookS.at_pages _)) ?_)
  refine WL.op rfl (opW.moveV (v := sl.v) rfl ?_)
  refine WL.op rfl (opW.moveI rfl ?_)
  refine WL.op rfl (opW.moveI rfl ?_)
  refine WL.op rfl (opW.sub rfl rfl (wrap_u8of _) ?_)
  refine WL.op rfl (opW.buildE (r := ((⟨sl, (u8of ((pgs.length + 1 : Nat) : Int)), (u8of (255 - (((u8of ((pgs.length + 1 : Nat) : Int))).toNat : Int)))⟩ : ShByte) : ShByte)) (ps := ShByte.parts ((⟨sl, (u8of ((pgs.length + 1 : Nat) : Int)), (u8of (255 - (((u8of ((pgs.length + 1 : Nat) : Int))).toNat : Int)))⟩ : ShByte) : ShByte)) (ShByte.enc_eq _) (by first | rfl | (simp only [markK, markS, enc_vset, enc_vz, Header.enc_eq, Header.parts, Instr.enc_eq, Instr.parts, Lookup.enc_eq, Lookup.parts, Message.enc_eq, Message.parts, Tx.enc_eq, Tx.parts, Reader.enc_eq, Reader.parts, Stop.enc_eq, Stop.parts, Taker.enc_eq, Taker.parts, Reading.enc_eq, Reading.parts, ShByte.enc_eq, ShByte.parts, ShKey.enc_eq, ShKey.parts, BookS.enc_eq, BookS.parts, ShSig.enc_eq, ShSig.parts]; rfl)) (by (repeat' (first | exact trivial | refine And.intro ?_ ?_)) <;> first | rfl | exact Enc.size_eq _ | (simp; done)) ?_)
  refine WL.op rfl (opW.iface rfl ?_)
  refine WL.op rfl (opW.buildSl hS (([(⟨73, .agg (Enc.enc (⟨sl, (u8of ((pgs.length + 1 : Nat) : Int)), (u8of (255 - (((u8of ((pgs.length + 1 : Nat) : Int))).toNat : Int)))⟩ : ShByte))⟩ : IfV)] : List IfV)) [.iface 73 (.agg (Enc.enc (⟨sl, (u8of ((pgs.length + 1 : Nat) : Int)), (u8of (255 - (((u8of ((pgs.length + 1 : Nat) : Int))).toNat : Int)))⟩ : ShByte)))] rfl rfl rfl rfl (by decide) ?_)
  intro b19 w hw hS
  refine WL.op rfl (opW.appendOwn (α := IfV) rfl hS rfl (by first | exact .h0 | exact .h1 | exact .h2 | exact .h3 | exact .h4 | exact .h5 | exact .h6 | exact .h7 | exact .h8 | exact .h9 | exact .h10 | exact .h11 | exact .h12 | exact .h13 | exact .h14) (hS.sl (xs := ([(⟨73, .agg (Enc.enc (⟨sl, (u8of ((pgs.length + 1 : Nat) : Int)), (u8of (255 - (((u8of ((pgs.length + 1 : Nat) : Int))).toNat : Int)))⟩ : ShByte))⟩ : IfV)] : List IfV)) (by first | exact .h0 | exact .h1 | exact .h2 | exact .h3 | exact .h4 | exact .h5 | exact .h6 | exact .h7 | exact .h8 | exact .h9 | exact .h10 | exact .h11 | exact .h12 | exact .h13 | exact .h14)) (by simp only [List.length_map, List.length_cons, List.length_nil]; omega) (by simp only [maxLen, List.length_map, List.length_cons, List.length_nil]; omega) ?_)
  intro v20 w hS; replace hS := hS _ (by first | exact .h0 | exact .h1 | exact .h2 | exact .h3 | exact .h4 | exact .h5 | exact .h6 | exact .h7 | exact .h8 | exact .h9 | exact .h10 | exact .h11 | exact .h12 | exact .h13 | exact .h14)
  obtain ⟨sn, rfl⟩ := (hS.sl (v := v20) (xs := pgs.map Pg.iv ++ [(⟨73, .agg (Enc.enc (⟨sl, (u8of ((pgs.length + 1 : Nat) : Int)), (u8of (255 - (((u8of ((pgs.length + 1 : Nat) : Int))).toNat : Int)))⟩ : ShByte))⟩ : IfV)]) (by first | exact .h0 | exact .h1 | exact .h2 | exact .h3 | exact .h4 | exact .h5 | exact .h6 | exact .h7 | exact .h8 | exact .h9 | exact .h10 | exact .h11 | exact .h12 | exact .h13 | exact .h14)).asV
  refine WL.op rfl (opW.nilCheckB rfl ?_)
  refine WL.op rfl (opW.fieldAddrB rfl ?_)
  refine WL.op0 (opW.storeF (v := sn.v) (sz := 1) (cs' := Enc.enc (BookS.mk sn)) hS rfl rfl (by first | exact .h0 | exact .h1 | exact .h2 | exact .h3 | exact .h4 | exact .h5 | exact .h6 | exact .h7 | exact .h8 | exact .h9 | exact .h10 | exact .h11 | exact .h12 | exact .h13 | exact .h14) rfl (by rw [Enc.size_eq]; decide) (Enc.one (α := SlV) sn) (BookS.set_pages (BookS.mk sv) sn) ?_)
  intro w hS; replace hS := hS _ (by first | exact .h0 | exact .h1 | exact .h2 | exact .h3 | exact .h4 | exact .h5 | exact .h6 | exact .h7 | exact .h8 | exact .h9 | exact .h10 | exact .h11 | exact .h12 | exact .h13 | exact .h14)
  refine WL.nil ?_
  refine bodyQ_end .nil ?_
  exact ⟨sn, pg_Byte ⟨sl, (u8of ((pgs.length + 1 : Nat) : Int)), (u8of (255 - (((u8of ((pgs.length + 1 : Nat) : Int))).toNat : Int)))⟩ xs hov, St.bkAdd (pg_Byte ⟨sl, (u8of ((pgs.length + 1 : Nat) : Int)), (u8of (255 - (((u8of ((pgs.length + 1 : Nat) : Int))).toNat : Int)))⟩ xs hov) hS.drop1⟩

theorem St.b2Cons {w0 w : World} {S : List Ent} {l : List ((SlV × List UInt8) × (SlV × List UInt8))} {p : (SlV × List UInt8) × (SlV × List UInt8)} (h : St w0 (ownE p.1.1.v 5 p.1.2 :: ownE p.2.1.v 5 p.2.2 :: b2E l :: S) w) : St w0 (b2E (p :: l) :: S) w := by
  have h1 : St w0 (b2E l :: (ownE p.1.1.v 5 p.1.2 :: ownE p.2.1.v 5 p.2.2 :: S)) w := h.perm (((List.Perm.swap (b2E l) (ownE p.2.1.v 5 p.2.2) S).cons _).trans (List.Perm.swap (b2E l) (ownE p.1.1.v 5 p.1.2) _))
  rw [b2E_eq] at h1 ⊢
  refine St.closed (l := ownE p.1.1.v 5 p.1.2 :: ownE p.2.1.v 5 p.2.2 :: b2L l) ?_
  have h2 := h1.opened
  exact h2.perm ((List.perm_append_comm_assoc (b2L l) [ownE p.1.1.v 5 p.1.2, ownE p.2.1.v 5 p.2.2] S))
theorem St.b2Out {w0 w : World} {S : List Ent} {l : List ((SlV × List UInt8) × (SlV × List UInt8))} {p : (SlV × List UInt8) × (SlV × List UInt8)} (h : St w0 (b2E (p :: l) :: S) w) : St w0 (ownE p.1.1.v 5 p.1.2 :: ownE p.2.1.v 5 p.2.2 :: b2E l :: S) w := by
  rw [b2E_eq] at h ⊢
  have h2 : St w0 ([ownE p.1.1.v 5 p.1.2, ownE p.2.1.v 5 p.2.2] ++ (b2L l ++ S)) w := h.opened
  have h3 : St w0 (b2L l ++ ([ownE p.1.1.v 5 p.1.2, ownE p.2.1.v 5 p.2.2] ++ S)) w := h2.perm (List.perm_append_comm_assoc _ _ _)
  have h4 := St.closed h3
  exact h4.perm (((List.Perm.swap (ownE p.1.1.v 5 p.1.2) (starE (b2L l)) _).trans ((List.Perm.swap (ownE p.2.1.v 5 p.2.2) (starE (b2L l)) S).cons _)))

theorem bkMsg_ok (wb w0 : World) (S : List Ent) (p : Nat) (sv : SlV) (pgs : List (Pg Try.prog)) (m : Message) (c : MC) (ins : List Instr) (lks : List Lookup) (hS0 : St wb (bkE p sv pgs :: ownE m.keys.v 58 c.keys :: b2E (zipI ins c.ins) :: b2E (zipL lks c.lks) :: S) w0) (hi : ∀ w, St wb S w → SlR w m.instrs.v ins) (hl2 : ∀ w, St wb S w → SlR w m.lookups.v lks) (hil : ins.length = c.ins.length) (hll : lks.length = c.lks.length) (hb : pgs.length + 2 * ins.length + 2 * lks.length ≤ 90000) : Ret Try.prog 39 #[.pointer (some ⟨p, 0, none⟩), .agg (Enc.enc m)] w0 (fun u w' => ∃ sv' pgs', pgs'.length ≤ pgs.length + 1 + 2 * ins.length + 2 * lks.length ∧ St wb (bkE p sv' pgs' :: S) w') := by
  refine Ret.enter (args := [.pointer (some ⟨p, 0, none⟩), .agg (Enc.enc m)]) Try.func39 rfl Try.ntmps39 Try.results39 rfl ?_
  have hS := St.start w0
  replace hS := hS0
  refine WC.seq (fun K1 hK1 => ?_)
  refine WC.region ?_
  refine WL.op rfl (opW.boxA hS rfl ?_)
  intro b3 w _ hS
  refine WL.nil ?_
  refine thenQ_n (hK1 _ _ ?_)
  refine WC.seq (fun K2 hK2 => ?_)
  refine WC.region ?_
  refine WL.op rfl (opW.moveV (v := .pointer (some ⟨p, 0, none⟩)) rfl ?_)
  refine WL.op rfl (opW.fieldAddrB rfl ?_)
  refine WL.op rfl (opW.loadV rfl (hS.ld1 (by first | exact .h0 | exact .h1 | exact .h2 | exact .h3 | exact .h4 | exact .h5 | exact .h6 | exact .h7 | exact .h8 | exact .h9 | exact .h10 | exact .h11 | exact .h12 | exact .h13 | exact .h14) (Message.at_keys m)) ?_)
  refine WL.op rfl (opW.call (bkKeys_ok _ _ _ p sv pgs m.keys.v c.keys (by omega) ((hS.pick (e := ownE m.keys.v 58 c.keys) (by first | exact .h0 | exact .h1 | exact .h2 | exact .h3 | exact .h4 | exact .h5 | exact .h6 | exact .h7 | exact .h8 | exact .h9 | exact .h10 | exact .h11 | exact .h12 | exact .h13 | exact .h14)).pick (e := bkE p sv pgs) (by first | exact .h0 | exact .h1 | exact .h2 | exact .h3 | exact .h4 | exact .h5 | exact .h6 | exact .h7 | exact .h8 | exact .h9 | exact .h10 | exact .h11 | exact .h12 | exact .h13 | exact .h14))) rfl ?_)
  rintro v9 w ⟨sv0, g0, hS⟩
  have hp0 : (pgs ++ [g0]).length = pgs.length + 1 := by simp
  generalize hg0 : pgs ++ [g0] = pg0 at *
  replace hS : St wb (bkE p sv0 pg0 :: b2E ((zipI ins c.ins).drop 0) :: b2E (zipL lks c.lks) :: blkE b3 (Enc.enc m) 31 :: S) w := by
    rw [List.drop_zero]
    exact ((((hS.pick (e := blkE b3 (Enc.enc m) 31) (by first | exact .h0 | exact .h1 | exact .h2 | exact .h3 | exact .h4 | exact .h5 | exact .h6 | exact .h7 | exact .h8 | exact .h9 | exact .h10 | exact .h11 | exact .h12 | exact .h13 | exact .h14)).pick (e := b2E (zipL lks c.lks)) (by first | exact .h0 | exact .h1 | exact .h2 | exact .h3 | exact .h4 | exact .h5 | exact .h6 | exact .h7 | exact .h8 | exact .h9 | exact .h10 | exact .h11 | exact .h12 | exact .h13 | exact .h14)).pick (e := b2E (zipI ins c.ins)) (by first | exact .h0 | exact .h1 | exact .h2 | exact .h3 | exact .h4 | exact .h5 | exact .h6 | exact .h7 | exact .h8 | exact .h9 | exact .h10 | exact .h11 | exact .h12 | exact .h13 | exact .h14)).pick (e := bkE p sv0 pg0) (by first | exact .h0 | exact .h1 | exact .h2 | exact .h3 | exact .h4 | exact .h5 | exact .h6 | exact .h7 | exact .h8 | exact .h9 | exact .h10 | exact .h11 | exact .h12 | exact .h13 | exact .h14)).sub (by repeat (first | with_reducible exact List.nil_sublist _ | with_reducible exact List.Sublist.refl _ | with_reducible refine List.Sublist.cons₂ _ ?_ | with_reducible refine List.Sublist.cons _ ?_))
  refine WL.nil ?_
  refine thenQ_n (hK2 _ _ ?_)
  refine WC.seq (fun K3 hK3 => ?_)
  refine WC.seq (fun K4 hK4 => ?_)
  refine WC.region ?_
  refine WL.op rfl (opW.assignI rfl ?_)
  refine WL.nil ?_
  refine thenQ_n (hK4 _ _ ?_)
  refine WC.block ?_
  refine WC.loop (fun q f w => ∃ (k : Nat) (sv1 : SlV) (pg1 : List (Pg Try.prog)), Fits [(0, .pointer (some ⟨p, 0, none⟩)), (3, .pointer (some ⟨b3, 0, none⟩)), (4, .int .i64 (k : Int))] f ∧ St wb (bkE p sv1 pg1 :: b2E ((zipI ins c.ins).drop k) :: b2E (zipL lks c.lks) :: blkE b3 (Enc.enc m) 31 :: S) w ∧ pg1.length ≤ (pgs.length + 1) + 2 * k ∧ k ≤ ins.length ∧ q = ins.length - k) (ins.length) ?_ ?_
  ·
    exact ⟨0, _, _, ⟨rfl, rfl, rfl, trivial⟩, hS, by omega, Nat.zero_le _, rfl⟩
  ·
    rintro q f w ⟨k, sv1, pg1, hfit, hS, hpl, hk0, hm⟩
    refine WC.fits _ hfit (fun g => ?_)
    clear hfit
    refine WC.seq (fun K5 hK5 => ?_)
    refine WC.seq (fun K6 hK6 => ?_)
    refine WC.region ?_
    refine WL.op rfl (opW.moveI rfl ?_)
    refine WL.op rfl (opW.fieldAddrB rfl ?_)
    refine WL.op rfl (opW.loadV rfl (hS.ld1 (by first | exact .h0 | exact .h1 | exact .h2 | exact .h3 | exact .h4 | exact .h5 | exact .h6 | exact .h7 | exact .h8 | exact .h9 | exact .h10 | exact .h11 | exact .h12 | exact .h13 | exact .h14) (Message.at_instrs m)) ?_)
    refine WL.op rfl (opW.lenV rfl ((hi _ (hS.sub (by repeat (first | with_reducible exact List.nil_sublist _ | with_reducible exact List.Sublist.refl _ | with_reducible refine List.Sublist.cons₂ _ ?_ | with_reducible refine List.Sublist.cons _ ?_))))) ?_)
    refine WL.op rfl (opW.lss rfl rfl ?_)
    refine WL.nil ?_
    refine thenQ_n (hK6 _ _ ?_)
    refine WC.cond _ rfl (fun hc0 => ?_) (fun hc0 => ?_)
    ·
      have hr0 := hc0
      try simp only [decide_eq_true_eq, decide_eq_false_iff_not, Bool.and_eq_true, Bool.or_eq_true, Bool.and_eq_false_iff, Bool.or_eq_false_iff, Bool.not_eq_true', Bool.not_eq_false', Int.not_lt, Int.not_le] at hc0
      have hkl : k < ins.length := by omega
      have hkc : k < c.ins.length := by omega
      have hkz : k < (zipI ins c.ins).length := by unfold zipI; rw [List.length_zipWith]; omega
      have hz : (zipI ins c.ins)[k] = ((ins[k].accounts, c.ins[k].2.1), (ins[k].data, c.ins[k].2.2)) := List.getElem_zipWith (h := hkz)
      have hdr : (zipI ins c.ins).drop k = (zipI ins c.ins)[k] :: (zipI ins c.ins).drop (k + 1) := List.drop_eq_getElem_cons hkz
      rw [hdr, hz] at hS
      replace hS := (hS.pick (e := b2E (((ins[k].accounts, c.ins[k].2.1), (ins[k].data, c.ins[k].2.2)) :: (zipI ins c.ins).drop (k + 1))) (by first | exact .h0 | exact .h1 | exact .h2 | exact .h3 | exact .h4 | exact .h5 | exact .h6 | exact .h7 | exact .h8 | exact .h9 | exact .h10 | exact .h11 | exact .h12 | exact .h13 | exact .h14)).b2Out
      replace hS := (hS.pick (e := bkE p sv1 pg1) (by first | exact .h0 | exact .h1 | exact .h2 | exact .h3 | exact .h4 | exact .h5 | exact .h6 | exact .h7 | exact .h8 | exact .h9 | exact .h10 | exact .h11 | exact .h12 | exact .h13 | exact .h14))
      refine WC.skip ?_
      refine thenQ_n (hK5 _ _ ?_)
      refine WC.seq (fun K7 hK7 => ?_)
      refine WC.block ?_
      refine WC.seq (fun K8 hK8 => ?_)
      refine WC.region ?_
      refine WL.op rfl (opW.moveV (v := .pointer (some ⟨p, 0, none⟩)) rfl ?_)
      refine WL.op rfl (opW.fieldAddrB rfl ?_)
      refine WL.op rfl (opW.loadV rfl (hS.ld1 (by first | exact .h0 | exact .h1 | exact .h2 | exact .h3 | exact .h4 | exact .h5 | exact .h6 | exact .h7 | exact .h8 | exact .h9 | exact .h10 | exact .h11 | exact .h12 | exact .h13 | exact .h14) (Message.at_instrs m)) ?_)
      refine WL.op rfl (opW.moveI rfl ?_)
      refine WL.op rfl (opW.idxV rfl ((hi _ (hS.sub (by repeat (first | with_reducible exact List.nil_sublist _ | with_reducible exact List.Sublist.refl _ | with_reducible refine List.Sublist.cons₂ _ ?_ | with_reducible refine List.Sublist.cons _ ?_))))) rfl (by omega) ?_)
      refine WL.op rfl (opW.fieldAddr rfl ((hi _ (hS.sub (by repeat (first | with_reducible exact List.nil_sublist _ | with_reducible exact List.Sublist.refl _ | with_reducible refine List.Sublist.cons₂ _ ?_ | with_reducible refine List.Sublist.cons _ ?_)))).isP hkl) ?_)
      refine WL.op rfl (opW.loadV rfl (Ld.pt1 ((hi _ (hS.sub (by repeat (first | with_reducible exact List.nil_sublist _ | with_reducible exact List.Sublist.refl _ | with_reducible refine List.Sublist.cons₂ _ ?_ | with_reducible refine List.Sublist.cons _ ?_)))).isPt hkl) 1 (Instr.at_accounts _)) ?_)
      refine WL.op rfl (opW.call (bkBytes_ok _ _ _ p sv1 pg1 ins[k].accounts.v c.ins[k].2.1 (by omega) hS) rfl ?_)
      rintro v24 w ⟨sv2, g1, hS⟩
      replace hS := (hS.pick (e := ownE ins[k].data.v 5 c.ins[k].2.2) (by first | exact .h0 | exact .h1 | exact .h2 | exact .h3 | exact .h4 | exact .h5 | exact .h6 | exact .h7 | exact .h8 | exact .h9 | exact .h10 | exact .h11 | exact .h12 | exact .h13 | exact .h14)).pick (e := bkE p sv2 (pg1 ++ [g1])) (by first | exact .h0 | exact .h1 | exact .h2 | exact .h3 | exact .h4 | exact .h5 | exact .h6 | exact .h7 | exact .h8 | exact .h9 | exact .h10 | exact .h11 | exact .h12 | exact .h13 | exact .h14)
      refine WL.nil ?_
      refine thenQ_n (hK8 _ _ ?_)
      refine WC.region ?_
      refine WL.op rfl (opW.moveV (v := .pointer (some ⟨p, 0, none⟩)) rfl ?_)
      refine WL.op rfl (opW.fieldAddrB rfl ?_)
      refine WL.op rfl (opW.loadV rfl (hS.ld1 (by first | exact .h0 | exact .h1 | exact .h2 | exact .h3 | exact .h4 | exact .h5 | exact .h6 | exact .h7 | exact .h8 | exact .h9 | exact .h10 | exact .h11 | exact .h12 | exact .h13 | exact .h14) (Message.at_instrs m)) ?_)
      refine WL.op rfl (opW.moveI rfl ?_)
      refine WL.op rfl (opW.idxV rfl ((hi _ (hS.sub (by repeat (first | with_reducible exact List.nil_sublist _ | with_reducible exact List.Sublist.refl _ | with_reducible refine List.Sublist.cons₂ _ ?_ | with_reducible refine List.Sublist.cons _ ?_))))) rfl (by omega) ?_)
      refine WL.op rfl (opW.fieldAddr rfl ((hi _ (hS.sub (by repeat (first | with_reducible exact List.nil_sublist _ | with_reducible exact List.Sublist.refl _ | with_reducible refine List.Sublist.cons₂ _ ?_ | with_reducible refine List.Sublist.cons _ ?_)))).isP hkl) ?_)
      refine WL.op rfl (opW.loadV rfl (Ld.pt1 ((hi _ (hS.sub (by repeat (first | with_reducible exact List.nil_sublist _ | with_reducible exact List.Sublist.refl _ | with_reducible refine List.Sublist.cons₂ _ ?_ | with_reducible refine List.Sublist.cons _ ?_)))).isPt hkl) 2 (Instr.at_data _)) ?_)
      refine WL.op rfl (opW.call (bkBytes_ok _ _ _ p sv2 (pg1 ++ [g1]) ins[k].data.v c.ins[k].2.2 (by simp only [List.length_append, List.length_cons, List.length_nil]; omega) hS) rfl ?_)
      rintro v32 w ⟨sw, g2, hS⟩
      refine WL.nil ?_
      refine blockQ_n ?_
      refine thenQ_n (hK7 _ _ ?_)
      refine WC.region ?_
      refine WL.op rfl (opW.moveI rfl ?_)
      refine WL.op rfl (opW.add rfl rfl (wrap_i64 (by omega)) ?_)
      refine WL.op rfl (opW.assignI rfl ?_)
      refine WL.nil ?_
      refine thenQ_n ?_
      exact ⟨ins.length - (k + 1), by omega, k + 1, _, _, ⟨rfl, rfl, congrArg (Value.int .i64) (by omega), trivial⟩, (hS.pick (e := bkE p sw (pg1 ++ [g1] ++ [g2])) (by first | exact .h0 | exact .h1 | exact .h2 | exact .h3 | exact .h4 | exact .h5 | exact .h6 | exact .h7 | exact .h8 | exact .h9 | exact .h10 | exact .h11 | exact .h12 | exact .h13 | exact .h14)).sub (by repeat (first | with_reducible exact List.nil_sublist _ | with_reducible exact List.Sublist.refl _ | with_reducible refine List.Sublist.cons₂ _ ?_ | with_reducible refine List.Sublist.cons _ ?_)), by simp only [List.length_append, List.length_cons, List.length_nil]; omega, by omega, rfl⟩
    ·
      have hr0 := hc0
      try simp only [decide_eq_true_eq, decide_eq_false_iff_not, Bool.and_eq_true, Bool.or_eq_true, Bool.and_eq_false_iff, Bool.or_eq_false_iff, Bool.not_eq_true', Bool.not_eq_false', Int.not_lt, Int.not_le] at hc0
      obtain rfl : k = ins.length := by omega
      replace hS : St wb (bkE p sv1 pg1 :: b2E ((zipL lks c.lks).drop 0) :: blkE b3 (Enc.enc m) 31 :: S) w := by
        rw [List.drop_zero]
        exact hS.sub (by repeat (first | with_reducible exact List.nil_sublist _ | with_reducible exact List.Sublist.refl _ | with_reducible refine List.Sublist.cons₂ _ ?_ | with_reducible refine List.Sublist.cons _ ?_))
      refine WC.exit ?_
      refine thenQ_e ?_
      refine thenQ_e ?_
      refine blockQ_hit ?_
      refine thenQ_n (hK3 _ _ ?_)
      refine WC.seq (fun K9 hK9 => ?_)
      refine WC.region ?_
      refine WL.op rfl (opW.assignI rfl ?_)
      refine WL.nil ?_
      refine thenQ_n (hK9 _ _ ?_)
      refine WC.block ?_
      refine WC.loop (fun q f w => ∃ (k : Nat) (sv1 : SlV) (pg1 : List (Pg Try.prog)), Fits [(0, .pointer (some ⟨p, 0, none⟩)), (3, .pointer (some ⟨b3, 0, none⟩)), (5, .int .i64 (k : Int))] f ∧ St wb (bkE p sv1 pg1 :: b2E ((zipL lks c.lks).drop k) :: blkE b3 (Enc.enc m) 31 :: S) w ∧ pg1.length ≤ (pgs.length + 1 + 2 * ins.length) + 2 * k ∧ k ≤ lks.length ∧ q = lks.length - k) (lks.length) ?_ ?_
      ·
        exact ⟨0, _, _, ⟨rfl, rfl, rfl, trivial⟩, hS, by omega, Nat.zero_le _, rfl⟩
      ·
        rintro q f w ⟨k, sv1, pg1, hfit, hS, hpl, hk0, hm⟩
        refine WC.fits _ hfit (fun g => ?_)
        clear hfit
        refine WC.seq (fun K10 hK10 => ?_)
        refine WC.seq (fun K11 hK11 => ?_)
        refine WC.region ?_
        refine WL.op rfl (opW.moveI rfl ?_)
        refine WL.op rfl (opW.fieldAddrB rfl ?_)
        refine WL.op rfl (opW.loadV rfl (hS.ld1 (by first | exact .h0 | exact .h1 | exact .h2 | exact .h3 | exact .h4 | exact .h5 | exact .h6 | exact .h7 | exact .h8 | exact .h9 | exact .h10 | exact .h11 | exact .h12 | exact .h13 | exact .h14) (Message.at_lookups m)) ?_)
        refine WL.op rfl (opW.lenV rfl ((hl2 _ (hS.sub (by repeat (first | with_reducible exact List.nil_sublist _ | with_reducible exact List.Sublist.refl _ | with_reducible refine List.Sublist.cons₂ _ ?_ | with_reducible refine List.Sublist.cons _ ?_))))) ?_)
        refine WL.op rfl (opW.lss rfl rfl ?_)
        refine WL.nil ?_
        refine thenQ_n (hK11 _ _ ?_)
        refine WC.cond _ rfl (fun hc1 => ?_) (fun hc1 => ?_)
        ·
          have hr1 := hc1
          try simp only [decide_eq_true_eq, decide_eq_false_iff_not, Bool.and_eq_true, Bool.or_eq_true, Bool.and_eq_false_iff, Bool.or_eq_false_iff, Bool.not_eq_true', Bool.not_eq_false', Int.not_lt, Int.not_le] at hc1
          have hkl : k < lks.length := by omega
          have hkc : k < c.lks.length := by omega
          have hkz : k < (zipL lks c.lks).length := by unfold zipL; rw [List.length_zipWith]; omega
          have hz : (zipL lks c.lks)[k] = ((lks[k].writes, c.lks[k].2.1), (lks[k].reads, c.lks[k].2.2)) := List.getElem_zipWith (h := hkz)
          have hdr : (zipL lks c.lks).drop k = (zipL lks c.lks)[k] :: (zipL lks c.lks).drop (k + 1) := List.drop_eq_getElem_cons hkz
          rw [hdr, hz] at hS
          replace hS := (hS.pick (e := b2E (((lks[k].writes, c.lks[k].2.1), (lks[k].reads, c.lks[k].2.2)) :: (zipL lks c.lks).drop (k + 1))) (by first | exact .h0 | exact .h1 | exact .h2 | exact .h3 | exact .h4 | exact .h5 | exact .h6 | exact .h7 | exact .h8 | exact .h9 | exact .h10 | exact .h11 | exact .h12 | exact .h13 | exact .h14)).b2Out
          replace hS := (hS.pick (e := bkE p sv1 pg1) (by first | exact .h0 | exact .h1 | exact .h2 | exact .h3 | exact .h4 | exact .h5 | exact .h6 | exact .h7 | exact .h8 | exact .h9 | exact .h10 | exact .h11 | exact .h12 | exact .h13 | exact .h14))
          refine WC.skip ?_
          refine thenQ_n (hK10 _ _ ?_)
          refine WC.seq (fun K12 hK12 => ?_)
          refine WC.block ?_
          refine WC.seq (fun K13 hK13 => ?_)
          refine WC.region ?_
          refine WL.op rfl (opW.moveV (v := .pointer (some ⟨p, 0, none⟩)) rfl ?_)
          refine WL.op rfl (opW.fieldAddrB rfl ?_)
          refine WL.op rfl (opW.loadV rfl (hS.ld1 (by first | exact .h0 | exact .h1 | exact .h2 | exact .h3 | exact .h4 | exact .h5 | exact .h6 | exact .h7 | exact .h8 | exact .h9 | exact .h10 | exact .h11 | exact .h12 | exact .h13 | exact .h14) (Message.at_lookups m)) ?_)
          refine WL.op rfl (opW.moveI rfl ?_)
          refine WL.op rfl (opW.idxV rfl ((hl2 _ (hS.sub (by repeat (first | with_reducible exact List.nil_sublist _ | with_reducible exact List.Sublist.refl _ | with_reducible refine List.Sublist.cons₂ _ ?_ | with_reducible refine List.Sublist.cons _ ?_))))) rfl (by omega) ?_)
          refine WL.op rfl (opW.fieldAddr rfl ((hl2 _ (hS.sub (by repeat (first | with_reducible exact List.nil_sublist _ | with_reducible exact List.Sublist.refl _ | with_reducible refine List.Sublist.cons₂ _ ?_ | with_reducible refine List.Sublist.cons _ ?_)))).isP hkl) ?_)
          refine WL.op rfl (opW.loadV rfl (Ld.pt1 ((hl2 _ (hS.sub (by repeat (first | with_reducible exact List.nil_sublist _ | with_reducible exact List.Sublist.refl _ | with_reducible refine List.Sublist.cons₂ _ ?_ | with_reducible refine List.Sublist.cons _ ?_)))).isPt hkl) 32 (Lookup.at_writes _)) ?_)
          refine WL.op rfl (opW.call (bkBytes_ok _ _ _ p sv1 pg1 lks[k].writes.v c.lks[k].2.1 (by omega) hS) rfl ?_)
          rintro v47 w ⟨sv2, g1, hS⟩
          replace hS := (hS.pick (e := ownE lks[k].reads.v 5 c.lks[k].2.2) (by first | exact .h0 | exact .h1 | exact .h2 | exact .h3 | exact .h4 | exact .h5 | exact .h6 | exact .h7 | exact .h8 | exact .h9 | exact .h10 | exact .h11 | exact .h12 | exact .h13 | exact .h14)).pick (e := bkE p sv2 (pg1 ++ [g1])) (by first | exact .h0 | exact .h1 | exact .h2 | exact .h3 | exact .h4 | exact .h5 | exact .h6 | exact .h7 | exact .h8 | exact .h9 | exact .h10 | exact .h11 | exact .h12 | exact .h13 | exact .h14)
          refine WL.nil ?_
          refine thenQ_n (hK13 _ _ ?_)
          refine WC.region ?_
          refine WL.op rfl (opW.moveV (v := .pointer (some ⟨p, 0, none⟩)) rfl ?_)
          refine WL.op rfl (opW.fieldAddrB rfl ?_)
          refine WL.op rfl (opW.loadV rfl (hS.ld1 (by first | exact .h0 | exact .h1 | exact .h2 | exact .h3 | exact .h4 | exact .h5 | exact .h6 | exact .h7 | exact .h8 | exact .h9 | exact .h10 | exact .h11 | exact .h12 | exact .h13 | exact .h14) (Message.at_lookups m)) ?_)
          refine WL.op rfl (opW.moveI rfl ?_)
          refine WL.op rfl (opW.idxV rfl ((hl2 _ (hS.sub (by repeat (first | with_reducible exact List.nil_sublist _ | with_reducible exact List.Sublist.refl _ | with_reducible refine List.Sublist.cons₂ _ ?_ | with_reducible refine List.Sublist.cons _ ?_))))) rfl (by omega) ?_)
          refine WL.op rfl (opW.fieldAddr rfl ((hl2 _ (hS.sub (by repeat (first | with_reducible exact List.nil_sublist _ | with_reducible exact List.Sublist.refl _ | with_reducible refine List.Sublist.cons₂ _ ?_ | with_reducible refine List.Sublist.cons _ ?_)))).isP hkl) ?_)
          refine WL.op rfl (opW.loadV rfl (Ld.pt1 ((hl2 _ (hS.sub (by repeat (first | with_reducible exact List.nil_sublist _ | with_reducible exact List.Sublist.refl _ | with_reducible refine List.Sublist.cons₂ _ ?_ | with_reducible refine List.Sublist.cons _ ?_)))).isPt hkl) 33 (Lookup.at_reads _)) ?_)
          refine WL.op rfl (opW.call (bkBytes_ok _ _ _ p sv2 (pg1 ++ [g1]) lks[k].reads.v c.lks[k].2.2 (by simp only [List.length_append, List.length_cons, List.length_nil]; omega) hS) rfl ?_)
          rintro v55 w ⟨sw, g2, hS⟩
          refine WL.nil ?_
          refine blockQ_n ?_
          refine thenQ_n (hK12 _ _ ?_)
          refine WC.region ?_
          refine WL.op rfl (opW.moveI rfl ?_)
          refine WL.op rfl (opW.add rfl rfl (wrap_i64 (by omega)) ?_)
          refine WL.op rfl (opW.assignI rfl ?_)
          refine WL.nil ?_
          refine thenQ_n ?_
          exact ⟨lks.length - (k + 1), by omega, k + 1, _, _, ⟨rfl, rfl, congrArg (Value.int .i64) (by omega), trivial⟩, (hS.pick (e := bkE p sw (pg1 ++ [g1] ++ [g2])) (by first | exact .h0 | exact .h1 | exact .h2 | exact .h3 | exact .h4 | exact .h5 | exact .h6 | exact .h7 | exact .h8 | exact .h9 | exact .h10 | exact .h11 | exact .h12 | exact .h13 | exact .h14)).sub (by repeat (first | with_reducible exact List.nil_sublist _ | with_reducible exact List.Sublist.refl _ | with_reducible refine List.Sublist.cons₂ _ ?_ | with_reducible refine List.Sublist.cons _ ?_)), by simp only [List.length_append, List.length_cons, List.length_nil]; omega, by omega, rfl⟩
        ·
          have hr1 := hc1
          try simp only [decide_eq_true_eq, decide_eq_false_iff_not, Bool.and_eq_true, Bool.or_eq_true, Bool.and_eq_false_iff, Bool.or_eq_false_iff, Bool.not_eq_true', Bool.not_eq_false', Int.not_lt, Int.not_le] at hc1
          obtain rfl : k = lks.length := by omega
          refine WC.exit ?_
          refine thenQ_e ?_
          refine thenQ_e ?_
          refine blockQ_hit ?_
          refine bodyQ_end .nil ?_
          exact ⟨sv1, pg1, by omega, hS.sub (by repeat (first | with_reducible exact List.nil_sublist _ | with_reducible exact List.Sublist.refl _ | with_reducible refine List.Sublist.cons₂ _ ?_ | with_reducible refine List.Sublist.cons _ ?_))⟩

structure ShSig where
  l : SlV
  here : Vector UInt8 64
  far : Vector UInt8 64
def ShSig.parts (x : ShSig) : List (Array Value) := [#[x.l.v], Enc.enc x.here, Enc.enc x.far]
theorem ShSig.sizes (x : ShSig) : x.parts.map Array.size = [1, 64, 64] := by
  simp only [ShSig.parts, List.map, Enc.size_eq]; rfl
instance : Enc ShSig where
  enc x := joinA x.parts
  sz := 129
  pos := by omega
  size_eq x := by rw [joinA_size, ShSig.sizes]; rfl
  one x := joinA_one (all_cons (Enc.one (α := SlV) _) (all_cons (Enc.one _) (all_cons (Enc.one _) all_nil)))
theorem ShSig.enc_eq (x : ShSig) : Enc.enc x = joinA x.parts := rfl
theorem ShSig.at_l (x : ShSig) : (Enc.enc x)[0]? = some (x.l.v) := joinA_at [] [Enc.enc x.here, Enc.enc x.far] _ (by rw [joinA_size]; simp only [List.map, Enc.size_eq]; rfl)
theorem ShSig.ex_here (x : ShSig) : (Enc.enc x).extract 1 (1 + 64) = Enc.enc x.here := joinA_ex [#[x.l.v]] [Enc.enc x.far] _ (by rw [joinA_size]; simp only [List.map, Enc.size_eq]; rfl) (by rw [Enc.size_eq]; rfl)
theorem ShSig.ex_far (x : ShSig) : (Enc.enc x).extract 65 (65 + 64) = Enc.enc x.far := joinA_ex [#[x.l.v], Enc.enc x.here] [] _ (by rw [joinA_size]; simp only [List.map, Enc.size_eq]; rfl) (by rw [Enc.size_eq]; rfl)
theorem ShSig.set_l (x : ShSig) (v : SlV) : spl (Enc.enc x) 0 #[v.v] = Enc.enc { x with l := v } := by
  have h := spl_join [] [Enc.enc x.here, Enc.enc x.far] (#[x.l.v]) (#[v.v]) (by first | (rw [Enc.size_eq, Enc.size_eq]; done) | rfl)
  rw [show (joinA []).size = 0 from (by rw [joinA_size]; simp only [List.map, Enc.size_eq]; rfl)] at h
  exact h
theorem ShSig.set_here (x : ShSig) (v : Vector UInt8 64) : spl (Enc.enc x) 1 (Enc.enc v) = Enc.enc { x with here := v } := by
  have h := spl_join [#[x.l.v]] [Enc.enc x.far] (Enc.enc x.here) (Enc.enc v) (by first | (rw [Enc.size_eq, Enc.size_eq]; done) | rfl)
  rw [show (joinA [#[x.l.v]]).size = 1 from (by rw [joinA_size]; simp only [List.map, Enc.size_eq]; rfl)] at h
  exact h
theorem ShSig.set_far (x : ShSig) (v : Vector UInt8 64) : spl (Enc.enc x) 65 (Enc.enc v) = Enc.enc { x with far := v } := by
  have h := spl_join [#[x.l.v], Enc.enc x.here] [] (Enc.enc x.far) (Enc.enc v) (by first | (rw [Enc.size_eq, Enc.size_eq]; done) | rfl)
  rw [show (joinA [#[x.l.v], Enc.enc x.here]).size = 65 from (by rw [joinA_size]; simp only [List.map, Enc.size_eq]; rfl)] at h
  exact h
def ShSig.ok (w : World) (x : ShSig) : Prop := (∃ l : List (Vector UInt8 64), SlR w x.l.v l ∧ ∀ e ∈ l, True)
theorem ShSig.ok.bel {w w' : World} {x : ShSig} (hb : Bel w w') (h : ShSig.ok w x) : ShSig.ok w' x := by
  unfold ShSig.ok at h ⊢
  obtain ⟨l0, g0⟩ := h
  exact (⟨_, g0.1.bel hb, fun e he => trivial⟩)
theorem rdw_ShSig : RdW Try.prog 99 ShSig ShSig.ok := by
  intro H enc w fuel cs d ps hr
  obtain ⟨hend, fuel', hf⟩ := rdS Try.underlying99 inferInstance hr
  obtain ⟨d0, ps0, h0⟩ := hf 0 _ 22 0 1 rfl rfl rfl inferInstance
  obtain ⟨x0, e0, i0⟩ := rd_slv (α := Vector UInt8 64) inferInstance rdw_vec inferInstance h0
  obtain ⟨d1, ps1, h1⟩ := hf 1 _ 62 1 64 rfl rfl rfl inferInstance
  obtain ⟨x1, e1, i1⟩ := rd_of rdw_vec h1
  obtain ⟨d2, ps2, h2⟩ := hf 2 _ 62 65 64 rfl rfl rfl inferInstance
  obtain ⟨x2, e2, i2⟩ := rd_of rdw_vec h2
  have k2 := cells_cut e2 hend
  have k1 := cells_cut e1 k2
  have k0 := cells_cut e0 k1
  refine ⟨⟨x0, x1, x2⟩, ?_, i0⟩
  rw [ShSig.enc_eq]; simp only [ShSig.parts, joinA_toList_cons, joinA_nil]
  rw [List.drop_zero] at k0; rw [k0]; try simp

theorem signA_Sig (wb w0 : World) (S : List Ent) (s : ShSig) (xs : List (Vector UInt8 64)) (hS0 : St wb (ownE s.l.v 62 xs :: S) w0) : Ret Try.prog 104 #[.agg (Enc.enc s), .bool false] w0 (fun u w' => St wb (ownE s.l.v 62 (List.replicate xs.length s.here) :: S) w') := by
  refine Ret.enter (args := [.agg (Enc.enc s), .bool false]) Try.func104 rfl Try.ntmps104 Try.results104 rfl ?_
  have hS := St.start w0
  replace hS := hS0
  refine WC.seq (fun K1 hK1 => ?_)
  refine WC.region ?_
  refine WL.op rfl (opW.boxA hS rfl ?_)
  intro b2 w _ hS
  refine WL.nil ?_
  refine thenQ_n (hK1 _ _ ?_)
  refine WC.seq (fun K2 hK2 => ?_)
  refine WC.seq (fun K3 hK3 => ?_)
  refine WC.region ?_
  refine WL.op rfl (opW.moveB rfl ?_)
  refine WL.op rfl (opW.not rfl ?_)
  refine WL.nil ?_
  refine thenQ_n (hK3 _ _ ?_)
  refine WC.cond _ rfl (fun hc0 => ?_) (fun hc0 => ?_)
  ·
    have hr0 := hc0
    try simp only [decide_eq_true_eq, decide_eq_false_iff_not, Bool.and_eq_true, Bool.or_eq_true, Bool.and_eq_false_iff, Bool.or_eq_false_iff, Bool.not_eq_true', Bool.not_eq_false', Int.not_lt, Int.not_le] at hc0
    refine WC.seq (fun K4 hK4 => ?_)
    refine WC.seq (fun K5 hK5 => ?_)
    refine WC.region ?_
    refine WL.op rfl (opW.assignI rfl ?_)
    refine WL.nil ?_
    refine thenQ_n (hK5 _ _ ?_)
    refine WC.block ?_
    refine WC.loop (fun q f w => ∃ k : Nat, Fits [(2, .pointer (some ⟨b2, 0, none⟩)), (4, .int .i64 (k : Int))] f ∧ St wb (blkE b2 (Enc.enc s) 99 :: ownE s.l.v 62 (List.replicate k s.here ++ xs.drop k) :: S) w ∧ k ≤ xs.length ∧ q = xs.length - k) (xs.length) ?_ ?_
    ·
      exact ⟨0, ⟨rfl, rfl, trivial⟩, hS, Nat.zero_le _, rfl⟩
    ·
      rintro q f w ⟨k, hfit, hS, hk0, hm⟩
      refine WC.fits _ hfit (fun g => ?_)
      clear hfit
      have hll : (List.replicate k s.here ++ xs.drop k).length = xs.length := rep_len hk0
      have hle : xs.length ≤ maxLen := by rw [← hll]; exact (hS.sl (v := s.l.v) (xs := (List.replicate k s.here ++ xs.drop k)) (by first | exact .h0 | exact .h1 | exact .h2 | exact .h3 | exact .h4 | exact .h5 | exact .h6 | exact .h7 | exact .h8 | exact .h9 | exact .h10 | exact .h11 | exact .h12 | exact .h13 | exact .h14)).le
      simp only [maxLen] at hle
      refine WC.seq (fun K6 hK6 => ?_)
      refine WC.seq (fun K7 hK7 => ?_)
      refine WC.region ?_
      refine WL.op rfl (opW.moveI rfl ?_)
      refine WL.op rfl (opW.fieldAddrB rfl ?_)
      refine WL.op rfl (opW.loadV rfl (hS.ld1 (by first | exact .h0 | exact .h1 | exact .h2 | exact .h3 | exact .h4 | exact .h5 | exact .h6 | exact .h7 | exact .h8 | exact .h9 | exact .h10 | exact .h11 | exact .h12 | exact .h13 | exact .h14) (ShSig.at_l _)) ?_)
      refine WL.op rfl (opW.lenV rfl (hS.sl (v := s.l.v) (xs := (List.replicate k s.here ++ xs.drop k)) (by first | exact .h0 | exact .h1 | exact .h2 | exact .h3 | exact .h4 | exact .h5 | exact .h6 | exact .h7 | exact .h8 | exact .h9 | exact .h10 | exact .h11 | exact .h12 | exact .h13 | exact .h14)) ?_)
      refine WL.op rfl (opW.lss rfl rfl ?_)
      refine WL.nil ?_
      refine thenQ_n (hK7 _ _ ?_)
      refine WC.cond _ rfl (fun hc1 => ?_) (fun hc1 => ?_)
      ·
        have hr1 := hc1
        try simp only [decide_eq_true_eq, decide_eq_false_iff_not, Bool.and_eq_true, Bool.or_eq_true, Bool.and_eq_false_iff, Bool.or_eq_false_iff, Bool.not_eq_true', Bool.not_eq_false', Int.not_lt, Int.not_le] at hc1
        have hkl : k < xs.length := by omega
        refine WC.skip ?_
        refine thenQ_n (hK6 _ _ ?_)
        refine WC.seq (fun K8 hK8 => ?_)
        refine WC.block ?_
        refine WC.region ?_
        refine WL.op rfl (opW.fieldAddrB rfl ?_)
        refine WL.op rfl (opW.loadV rfl (hS.ld1 (by first | exact .h0 | exact .h1 | exact .h2 | exact .h3 | exact .h4 | exact .h5 | exact .h6 | exact .h7 | exact .h8 | exact .h9 | exact .h10 | exact .h11 | exact .h12 | exact .h13 | exact .h14) (ShSig.at_l _)) ?_)
        refine WL.op rfl (opW.moveI rfl ?_)
        refine WL.op rfl (opW.fieldAddrB rfl ?_)
        refine WL.op rfl (opW.loadV rfl (hS.ldF (cs := Enc.enc s) (by first | exact .h0 | exact .h1 | exact .h2 | exact .h3 | exact .h4 | exact .h5 | exact .h6 | exact .h7 | exact .h8 | exact .h9 | exact .h10 | exact .h11 | exact .h12 | exact .h13 | exact .h14) (ShSig.ex_here _) (by rw [Enc.size_eq]; decide)) ?_)
        refine WL.op rfl (opW.idxV rfl (hS.sl (v := s.l.v) (xs := (List.replicate k s.here ++ xs.drop k)) (by first | exact .h0 | exact .h1 | exact .h2 | exact .h3 | exact .h4 | exact .h5 | exact .h6 | exact .h7 | exact .h8 | exact .h9 | exact .h10 | exact .h11 | exact .h12 | exact .h13 | exact .h14)) rfl (by omega) ?_)
        refine WL.op0 (opW.storeOwn (v := s.l.v) (u := .agg (Enc.enc s.here)) (xs := (List.replicate k s.here ++ xs.drop k)) (i := k) (off := 0) (y' := s.here) hS (by first | exact .h0 | exact .h1 | exact .h2 | exact .h3 | exact .h4 | exact .h5 | exact .h6 | exact .h7 | exact .h8 | exact .h9 | exact .h10 | exact .h11 | exact .h12 | exact .h13 | exact .h14) (by omega) (ptrAdd_zero s.l.v k (Enc.sz (Vector UInt8 64))).symm rfl (by first | exact Enc.size_eq (α := (Vector UInt8 64)) s.here | rfl) (by first | exact Nat.le_refl _ | decide) (Enc.one s.here) (spl_all (by rw [Enc.size_eq]; first | exact Enc.size_eq (α := (Vector UInt8 64)) s.here | rfl)) ?_)
        intro w hS; replace hS := hS _ (by first | exact .h0 | exact .h1 | exact .h2 | exact .h3 | exact .h4 | exact .h5 | exact .h6 | exact .h7 | exact .h8 | exact .h9 | exact .h10 | exact .h11 | exact .h12 | exact .h13 | exact .h14)
        refine WL.nil ?_
        refine blockQ_n ?_
        refine thenQ_n (hK8 _ _ ?_)
        refine WC.region ?_
        refine WL.op rfl (opW.moveI rfl ?_)
        refine WL.op rfl (opW.add rfl rfl (wrap_i64 (by omega)) ?_)
        refine WL.op rfl (opW.assignI rfl ?_)
        refine WL.nil ?_
        refine thenQ_n ?_
        rw [rep_set hkl] at hS
        exact ⟨xs.length - (k + 1), by omega, k + 1, ⟨rfl, congrArg (Value.int .i64) (by omega), trivial⟩, hS, by omega, rfl⟩
      ·
        have hr1 := hc1
        try simp only [decide_eq_true_eq, decide_eq_false_iff_not, Bool.and_eq_true, Bool.or_eq_true, Bool.and_eq_false_iff, Bool.or_eq_false_iff, Bool.not_eq_true', Bool.not_eq_false', Int.not_lt, Int.not_le] at hc1
        obtain rfl : k = xs.length := by omega
        rw [List.drop_length, List.append_nil] at hS
        refine WC.exit ?_
        refine thenQ_e ?_
        refine thenQ_e ?_
        refine blockQ_hit ?_
        refine thenQ_n (hK4 _ _ ?_)
        refine WC.ret ?_
        refine thenQ_r ?_
        refine bodyQ_ret .nil ?_
        exact hS.drop1
  ·
    have hr0 := hc0
    try simp only [decide_eq_true_eq, decide_eq_false_iff_not, Bool.and_eq_true, Bool.or_eq_true, Bool.and_eq_false_iff, Bool.or_eq_false_iff, Bool.not_eq_true', Bool.not_eq_false', Int.not_lt, Int.not_le] at hc0
    simp at hr0

theorem signB_Sig (wb w0 : World) (S : List Ent) (s : ShSig) (xs : List (Vector UInt8 64)) (hv : OwnS s.l.v xs.length) (hS0 : St wb (ownE s.l.v 62 xs :: S) w0) : Ret Try.prog 104 #[.agg (Enc.enc s), .bool true] w0 (fun u w' => St wb (ownE (cutV s.l.v 0 (capV s.l.v) (capV s.l.v) (Enc.sz (Vector UInt8 64))) 62 (xs ++ List.replicate ((capV s.l.v) - xs.length) s.far) :: S) w') := by
  refine Ret.enter (args := [.agg (Enc.enc s), .bool true]) Try.func104 rfl Try.ntmps104 Try.results104 rfl ?_
  have hS := St.start w0
  replace hS := hS0
  refine WC.seq (fun K1 hK1 => ?_)
  refine WC.region ?_
  refine WL.op rfl (opW.boxA hS rfl ?_)
  intro b2 w _ hS
  refine WL.nil ?_
  refine thenQ_n (hK1 _ _ ?_)
  refine WC.seq (fun K2 hK2 => ?_)
  refine WC.seq (fun K3 hK3 => ?_)
  refine WC.region ?_
  refine WL.op rfl (opW.moveB rfl ?_)
  refine WL.op rfl (opW.not rfl ?_)
  refine WL.nil ?_
  refine thenQ_n (hK3 _ _ ?_)
  refine WC.cond _ rfl (fun hc0 => ?_) (fun hc0 => ?_)
  ·
    have hr0 := hc0
    try simp only [decide_eq_true_eq, decide_eq_false_iff_not, Bool.and_eq_true, Bool.or_eq_true, Bool.and_eq_false_iff, Bool.or_eq_false_iff, Bool.not_eq_true', Bool.not_eq_false', Int.not_lt, Int.not_le] at hc0
    simp at hr0
  ·
    have hr0 := hc0
    try simp only [decide_eq_true_eq, decide_eq_false_iff_not, Bool.and_eq_true, Bool.or_eq_true, Bool.and_eq_false_iff, Bool.or_eq_false_iff, Bool.not_eq_true', Bool.not_eq_false', Int.not_lt, Int.not_le] at hc0
    refine WC.skip ?_
    refine thenQ_n (hK2 _ _ ?_)
    refine WC.seq (fun K4 hK4 => ?_)
    refine WC.region ?_
    refine WL.op rfl (opW.fieldAddrB rfl ?_)
    refine WL.op rfl (opW.loadV rfl (hS.ld1 (by first | exact .h0 | exact .h1 | exact .h2 | exact .h3 | exact .h4 | exact .h5 | exact .h6 | exact .h7 | exact .h8 | exact .h9 | exact .h10 | exact .h11 | exact .h12 | exact .h13 | exact .h14) (ShSig.at_l _)) ?_)
    refine WL.op rfl (opW.fieldAddrB rfl ?_)
    refine WL.op rfl (opW.loadV rfl (hS.ld1 (by first | exact .h0 | exact .h1 | exact .h2 | exact .h3 | exact .h4 | exact .h5 | exact .h6 | exact .h7 | exact .h8 | exact .h9 | exact .h10 | exact .h11 | exact .h12 | exact .h13 | exact .h14) (ShSig.at_l _)) ?_)
    refine WL.op rfl (opW.cap (v := s.l.v) rfl (hS.sl (v := s.l.v) (xs := xs) (by first | exact .h0 | exact .h1 | exact .h2 | exact .h3 | exact .h4 | exact .h5 | exact .h6 | exact .h7 | exact .h8 | exact .h9 | exact .h10 | exact .h11 | exact .h12 | exact .h13 | exact .h14)) ?_)
    refine WL.op rfl (opW.cutS (l := 0) (h' := (capV s.l.v)) (m := (capV s.l.v)) (hS.sl (v := s.l.v) (xs := xs) (by first | exact .h0 | exact .h1 | exact .h2 | exact .h3 | exact .h4 | exact .h5 | exact .h6 | exact .h7 | exact .h8 | exact .h9 | exact .h10 | exact .h11 | exact .h12 | exact .h13 | exact .h14)) ⟨rfl, Nat.le_refl _⟩ ⟨⟨_, rfl⟩, Nat.le_refl _⟩ ⟨rfl, Nat.zero_le _⟩ ?_)
    refine WL.op rfl (opW.assignV (v := (cutV s.l.v 0 (capV s.l.v) (capV s.l.v) (Enc.sz (Vector UInt8 64)))) rfl ?_)
    refine WL.nil ?_
    refine thenQ_n (hK4 _ _ ?_)
    refine WC.seq (fun K5 hK5 => ?_)
    refine WC.region ?_
    refine WL.op rfl (opW.fieldAddrB rfl ?_)
    refine WL.op rfl (opW.loadV rfl (hS.ld1 (by first | exact .h0 | exact .h1 | exact .h2 | exact .h3 | exact .h4 | exact .h5 | exact .h6 | exact .h7 | exact .h8 | exact .h9 | exact .h10 | exact .h11 | exact .h12 | exact .h13 | exact .h14) (ShSig.at_l _)) ?_)
    refine WL.op rfl (opW.lenV rfl (hS.sl (v := s.l.v) (xs := xs) (by first | exact .h0 | exact .h1 | exact .h2 | exact .h3 | exact .h4 | exact .h5 | exact .h6 | exact .h7 | exact .h8 | exact .h9 | exact .h10 | exact .h11 | exact .h12 | exact .h13 | exact .h14)) ?_)
    refine WL.op rfl (opW.assignI rfl ?_)
    refine WL.nil ?_
    refine thenQ_n (hK5 _ _ ?_)
    refine WC.block ?_
    refine WC.loop (fun q f w => ∃ k : Nat, Fits [(2, .pointer (some ⟨b2, 0, none⟩)), (5, (cutV s.l.v 0 (capV s.l.v) (capV s.l.v) (Enc.sz (Vector UInt8 64)))), (6, .int .i64 (k : Int))] f ∧ St wb (blkE b2 (Enc.enc s) 99 :: ownE (cutV s.l.v 0 k (capV s.l.v) (Enc.sz (Vector UInt8 64))) 62 (xs ++ List.replicate (k - xs.length) s.far) :: S) w ∧ xs.length ≤ k ∧ k ≤ (capV s.l.v) ∧ q = (capV s.l.v) - k) ((capV s.l.v) - xs.length) ?_ ?_
    ·
      refine ⟨xs.length, ⟨rfl, rfl, rfl, trivial⟩, ?_, Nat.le_refl _, hv.le.1, rfl⟩
      have h1 := hS.ownFront (k := xs.length) (m := (capV s.l.v)) (S' := (blkE b2 (Enc.enc s) 99 :: ownE (cutV s.l.v 0 xs.length (capV s.l.v) (Enc.sz (Vector UInt8 64))) 62 (xs.take xs.length) :: S)) (Nat.le_refl _) hv.le.1 (Nat.le_refl _) (.there .here)
      rw [List.take_length] at h1
      rw [Nat.sub_self, List.replicate_zero, List.append_nil]; exact h1
    ·
      rintro q f w ⟨k, hfit, hS, hk0, hk1, hm⟩
      refine WC.fits _ hfit (fun g => ?_)
      clear hfit
      have hll : (xs ++ List.replicate (k - xs.length) s.far).length = k := by simp; omega
      have hcc : capV (cutV s.l.v 0 k (capV s.l.v) (Enc.sz (Vector UInt8 64))) = (capV s.l.v) := capV_cut0 _ _ _ _ hv.isS
      have hle := hv.le.2
      simp only [maxLen] at hle
      refine WC.seq (fun K6 hK6 => ?_)
      refine WC.seq (fun K7 hK7 => ?_)
      refine WC.region ?_
      refine WL.op rfl (opW.moveI rfl ?_)
      refine WL.op rfl (opW.moveV (v := (cutV s.l.v 0 (capV s.l.v) (capV s.l.v) (Enc.sz (Vector UInt8 64)))) rfl ?_)
      refine WL.op rfl (opW.lenCut hv rfl ?_)
      refine WL.op rfl (opW.lss rfl rfl ?_)
      refine WL.nil ?_
      refine thenQ_n (hK7 _ _ ?_)
      refine WC.cond _ rfl (fun hc2 => ?_) (fun hc2 => ?_)
      ·
        have hr2 := hc2
        try simp only [decide_eq_true_eq, decide_eq_false_iff_not, Bool.and_eq_true, Bool.or_eq_true, Bool.and_eq_false_iff, Bool.or_eq_false_iff, Bool.not_eq_true', Bool.not_eq_false', Int.not_lt, Int.not_le] at hc2
        have hkl : k < (capV s.l.v) := by omega
        refine WC.skip ?_
        refine thenQ_n (hK6 _ _ ?_)
        refine WC.seq (fun K8 hK8 => ?_)
        refine WC.block ?_
        refine WC.region ?_
        refine WL.op rfl (opW.moveV (v := (cutV s.l.v 0 (capV s.l.v) (capV s.l.v) (Enc.sz (Vector UInt8 64)))) rfl ?_)
        refine WL.op rfl (opW.moveI rfl ?_)
        refine WL.op rfl (opW.fieldAddrB rfl ?_)
        refine WL.op rfl (opW.loadV rfl (hS.ldF (cs := Enc.enc s) (by first | exact .h0 | exact .h1 | exact .h2 | exact .h3 | exact .h4 | exact .h5 | exact .h6 | exact .h7 | exact .h8 | exact .h9 | exact .h10 | exact .h11 | exact .h12 | exact .h13 | exact .h14) (ShSig.ex_far _) (by rw [Enc.size_eq]; decide)) ?_)
        refine WL.op rfl (opW.idxCut (α := (Vector UInt8 64)) hv rfl rfl (by omega) (Nat.le_refl _) ?_)
        refine WL.op0 (opW.storeRoom (v := (cutV s.l.v 0 k (capV s.l.v) (Enc.sz (Vector UInt8 64)))) (xs := (xs ++ List.replicate (k - xs.length) s.far)) (y' := s.far) hS (by first | exact .h0 | exact .h1 | exact .h2 | exact .h3 | exact .h4 | exact .h5 | exact .h6 | exact .h7 | exact .h8 | exact .h9 | exact .h10 | exact .h11 | exact .h12 | exact .h13 | exact .h14) (by rw [hcc, hll]; exact hkl) (by rw [elemP_cut0, hll]; rfl) rfl rfl ?_)
        intro w hS; replace hS := hS _ (by first | exact .h0 | exact .h1 | exact .h2 | exact .h3 | exact .h4 | exact .h5 | exact .h6 | exact .h7 | exact .h8 | exact .h9 | exact .h10 | exact .h11 | exact .h12 | exact .h13 | exact .h14)
        refine WL.nil ?_
        refine blockQ_n ?_
        refine thenQ_n (hK8 _ _ ?_)
        refine WC.region ?_
        refine WL.op rfl (opW.moveI rfl ?_)
        refine WL.op rfl (opW.add rfl rfl (wrap_i64 (by omega)) ?_)
        refine WL.op rfl (opW.assignI rfl ?_)
        refine WL.nil ?_
        refine thenQ_n ?_
        rw [hcc, hll, cutV_cut0, rep_room hk0] at hS
        exact ⟨(capV s.l.v) - (k + 1), by omega, k + 1, ⟨rfl, rfl, congrArg (Value.int .i64) (by omega), trivial⟩, hS, by omega, by omega, rfl⟩
      ·
        have hr2 := hc2
        try simp only [decide_eq_true_eq, decide_eq_false_iff_not, Bool.and_eq_true, Bool.or_eq_true, Bool.and_eq_false_iff, Bool.or_eq_false_iff, Bool.not_eq_true', Bool.not_eq_false', Int.not_lt, Int.not_le] at hc2
        obtain rfl : k = (capV s.l.v) := by omega
        refine WC.exit ?_
        refine thenQ_e ?_
        refine thenQ_e ?_
        refine blockQ_hit ?_
        refine bodyQ_end .nil ?_
        exact hS.drop1

theorem own_Sig (w0 : World) (s : ShSig) (n m : Nat) (hv : OwnS s.l.v n) (hm : n + m = (capV s.l.v)) (ha : SlR w0 (cutV s.l.v 0 (capV s.l.v) (capV s.l.v) (Enc.sz (Vector UInt8 64))) (List.replicate n s.here ++ List.replicate m s.far)) : Ret Try.prog 103 #[.agg (Enc.enc s)] w0 (fun u w' => u = .bool true ∧ Bel w0 w') := by
  refine Ret.enter (args := [.agg (Enc.enc s)]) Try.func103 rfl Try.ntmps103 Try.results103 rfl ?_
  have hS := St.start w0
  have hs : SlR w0 s.l.v (List.replicate n s.here) := by
    refine SlR.uncut (ys := List.replicate m s.far) (by simpa using hv) ?_
    have e : (List.replicate n s.here ++ List.replicate m s.far).length = (capV s.l.v) := by simp; exact hm
    rw [e]; exact ha
  have hln : (List.replicate n s.here).length = n := by simp
  have hla : (List.replicate n s.here ++ List.replicate m s.far).length = n + m := by simp
  have hle := ha.le
  simp only [maxLen] at hle
  refine WC.seq (fun K1 hK1 => ?_)
  refine WC.region ?_
  refine WL.op rfl (opW.boxA hS rfl ?_)
  intro b1 w _ hS
  refine WL.op rfl (opW.assignB rfl ?_)
  refine WL.nil ?_
  refine thenQ_n (hK1 _ _ ?_)
  refine WC.seq (fun K2 hK2 => ?_)
  refine WC.seq (fun K3 hK3 => ?_)
  refine WC.region ?_
  refine WL.op rfl (opW.assignI rfl ?_)
  refine WL.nil ?_
  refine thenQ_n (hK3 _ _ ?_)
  refine WC.block ?_
  refine WC.loop (fun q f w => ∃ k : Nat, Fits [(1, .pointer (some ⟨b1, 0, none⟩)), (3, .int .i64 (k : Int))] f ∧ St w0 [blkE b1 (Enc.enc s) 99] w ∧ k ≤ n ∧ q = n - k) (n) ?_ ?_
  ·
    exact ⟨0, ⟨rfl, rfl, trivial⟩, hS, Nat.zero_le _, rfl⟩
  ·
    rintro q f w ⟨k, hfit, hS, hk0, hm1⟩
    refine WC.fits _ hfit (fun g => ?_)
    clear hfit
    refine WC.seq (fun K4 hK4 => ?_)
    refine WC.seq (fun K5 hK5 => ?_)
    refine WC.region ?_
    refine WL.op rfl (opW.moveI rfl ?_)
    refine WL.op rfl (opW.fieldAddrB rfl ?_)
    refine WL.op rfl (opW.loadV rfl (hS.ld1 (by first | exact .h0 | exact .h1 | exact .h2 | exact .h3 | exact .h4 | exact .h5 | exact .h6 | exact .h7 | exact .h8 | exact .h9 | exact .h10 | exact .h11 | exact .h12 | exact .h13 | exact .h14) (ShSig.at_l _)) ?_)
    refine WL.op rfl (opW.lenV rfl ((hs.bel hS.old)) ?_)
    refine WL.op rfl (opW.lss rfl rfl ?_)
    refine WL.nil ?_
    refine thenQ_n (hK5 _ _ ?_)
    refine WC.cond _ rfl (fun hc0 => ?_) (fun hc0 => ?_)
    ·
      have hr0 := hc0
      try simp only [decide_eq_true_eq, decide_eq_false_iff_not, Bool.and_eq_true, Bool.or_eq_true, Bool.and_eq_false_iff, Bool.or_eq_false_iff, Bool.not_eq_true', Bool.not_eq_false', Int.not_lt, Int.not_le] at hc0
      have hkl : k < (List.replicate n s.here).length := by rw [hln]; omega
      refine WC.skip ?_
      refine thenQ_n (hK4 _ _ ?_)
      refine WC.seq (fun K6 hK6 => ?_)
      refine WC.block ?_
      refine WC.seq (fun K7 hK7 => ?_)
      refine WC.draw 8 (.look 0 (.look 1 (.look 2 (.look 3 (.look 4 (.look 5 (.look 6 (.look 7 .nil)))))))) (by kernel_rfl) (fun _ _ _ h => h) (fun w1 hw1 => ?_)
      replace hS := hS.bel hw1
      have hS1 := hS
      have hT := St.start w1
      refine ML.look rfl rfl rfl (fun w hw => (by have hS := hS1.bel hw; exact opW.fieldAddrB rfl ⟨rfl, rfl⟩)) ?_
      refine ML.look rfl rfl rfl (fun w hw => (by have hS := hS1.bel hw; exact opW.loadV rfl (hS.ld1 (by first | exact .h0 | exact .h1 | exact .h2 | exact .h3 | exact .h4 | exact .h5 | exact .h6 | exact .h7 | exact .h8 | exact .h9 | exact .h10 | exact .h11 | exact .h12 | exact .h13 | exact .h14) (ShSig.at_l _)) ⟨rfl, rfl⟩)) ?_
      refine ML.look rfl rfl rfl (fun w hw => (by have hS := hS1.bel hw; exact opW.moveI rfl ⟨rfl, rfl⟩)) ?_
      refine ML.look rfl rfl rfl (fun w hw => (by have hS := hS1.bel hw; exact opW.idxV rfl ((hs.bel hS.old)) rfl (by omega) ⟨rfl, rfl⟩)) ?_
      refine ML.look rfl rfl rfl (fun w hw => (by have hS := hS1.bel hw; exact opW.loadV rfl (((hs.bel hS.old).isPt hkl).ldA (Enc.size_eq _)) ⟨rfl, rfl⟩)) ?_
      refine ML.look rfl rfl rfl (fun w hw => (by have hS := hS1.bel hw; exact opW.fieldAddrB rfl ⟨rfl, rfl⟩)) ?_
      refine ML.look rfl rfl rfl (fun w hw => (by have hS := hS1.bel hw; exact opW.loadV rfl (hS.ldF (cs := Enc.enc s) (by first | exact .h0 | exact .h1 | exact .h2 | exact .h3 | exact .h4 | exact .h5 | exact .h6 | exact .h7 | exact .h8 | exact .h9 | exact .h10 | exact .h11 | exact .h12 | exact .h13 | exact .h14) (ShSig.ex_here _) (by rw [Enc.size_eq]; decide)) ⟨rfl, rfl⟩)) ?_
      refine ML.look rfl rfl rfl (fun w hw => (by have hS := hS1.bel hw; exact opW.neqE rfl rfl ⟨rfl, rfl⟩)) ?_
      refine ML.nil ?_
      refine thenQ_n (hK7 _ _ ?_)
      refine WC.cond _ rfl (fun hc1 => ?_) (fun hc1 => ?_)
      ·
        have hr1 := hc1
        try simp only [decide_eq_true_eq, decide_eq_false_iff_not, Bool.and_eq_true, Bool.or_eq_true, Bool.and_eq_false_iff, Bool.or_eq_false_iff, Bool.not_eq_true', Bool.not_eq_false', Int.not_lt, Int.not_le] at hc1
        simp at hr1
      ·
        have hr1 := hc1
        try simp only [decide_eq_true_eq, decide_eq_false_iff_not, Bool.and_eq_true, Bool.or_eq_true, Bool.and_eq_false_iff, Bool.or_eq_false_iff, Bool.not_eq_true', Bool.not_eq_false', Int.not_lt, Int.not_le] at hc1
        refine WC.skip ?_
        refine blockQ_n ?_
        refine thenQ_n (hK6 _ _ ?_)
        refine WC.region ?_
        refine WL.op rfl (opW.moveI rfl ?_)
        refine WL.op rfl (opW.add rfl rfl (wrap_i64 (by omega)) ?_)
        refine WL.op rfl (opW.assignI rfl ?_)
        refine WL.nil ?_
        refine thenQ_n ?_
        exact ⟨n - (k + 1), by omega, k + 1, ⟨rfl, congrArg (Value.int .i64) (by omega), trivial⟩, hS, by omega, rfl⟩
    ·
      have hr0 := hc0
      try simp only [decide_eq_true_eq, decide_eq_false_iff_not, Bool.and_eq_true, Bool.or_eq_true, Bool.and_eq_false_iff, Bool.or_eq_false_iff, Bool.not_eq_true', Bool.not_eq_false', Int.not_lt, Int.not_le] at hc0
      refine WC.exit ?_
      refine thenQ_e ?_
      refine thenQ_e ?_
      refine blockQ_hit ?_
      refine thenQ_n (hK2 _ _ ?_)
      refine WC.seq (fun K8 hK8 => ?_)
      refine WC.region ?_
      refine WL.op rfl (opW.fieldAddrB rfl ?_)
      refine WL.op rfl (opW.loadV rfl (hS.ld1 (by first | exact .h0 | exact .h1 | exact .h2 | exact .h3 | exact .h4 | exact .h5 | exact .h6 | exact .h7 | exact .h8 | exact .h9 | exact .h10 | exact .h11 | exact .h12 | exact .h13 | exact .h14) (ShSig.at_l _)) ?_)
      refine WL.op rfl (opW.fieldAddrB rfl ?_)
      refine WL.op rfl (opW.loadV rfl (hS.ld1 (by first | exact .h0 | exact .h1 | exact .h2 | exact .h3 | exact .h4 | exact .h5 | exact .h6 | exact .h7 | exact .h8 | exact .h9 | exact .h10 | exact .h11 | exact .h12 | exact .h13 | exact .h14) (ShSig.at_l _)) ?_)
      refine WL.op rfl (opW.cap (v := s.l.v) rfl (hs.bel hS.old) ?_)
      refine WL.op rfl (opW.cutS (l := 0) (h' := (capV s.l.v)) (m := (capV s.l.v)) (hs.bel hS.old) ⟨rfl, Nat.le_refl _⟩ ⟨⟨_, rfl⟩, Nat.le_refl _⟩ ⟨rfl, Nat.zero_le _⟩ ?_)
      refine WL.op rfl (opW.assignV (v := (cutV s.l.v 0 (capV s.l.v) (capV s.l.v) (Enc.sz (Vector UInt8 64)))) rfl ?_)
      refine WL.nil ?_
      refine thenQ_n (hK8 _ _ ?_)
      refine WC.seq (fun K9 hK9 => ?_)
      refine WC.seq (fun K10 hK10 => ?_)
      refine WC.region ?_
      refine WL.op rfl (opW.fieldAddrB rfl ?_)
      refine WL.op rfl (opW.loadV rfl (hS.ld1 (by first | exact .h0 | exact .h1 | exact .h2 | exact .h3 | exact .h4 | exact .h5 | exact .h6 | exact .h7 | exact .h8 | exact .h9 | exact .h10 | exact .h11 | exact .h12 | exact .h13 | exact .h14) (ShSig.at_l _)) ?_)
      refine WL.op rfl (opW.lenV rfl ((hs.bel hS.old)) ?_)
      refine WL.op rfl (opW.assignI rfl ?_)
      refine WL.nil ?_
      refine thenQ_n (hK10 _ _ ?_)
      refine WC.block ?_
      refine WC.loop (fun q f w => ∃ k : Nat, Fits [(1, .pointer (some ⟨b1, 0, none⟩)), (4, (cutV s.l.v 0 (capV s.l.v) (capV s.l.v) (Enc.sz (Vector UInt8 64)))), (5, .int .i64 (k : Int))] f ∧ St w0 [blkE b1 (Enc.enc s) 99] w ∧ n ≤ k ∧ k ≤ n + m ∧ q = n + m - k) (n + m - n) ?_ ?_
      ·
        exact ⟨n, ⟨rfl, rfl, congrArg (fun i : Nat => Value.int .i64 (i : Int)) hln, trivial⟩, hS, Nat.le_refl _, by omega, rfl⟩
      ·
        rintro q f w ⟨k, hfit, hS, hk0, hk1, hm1⟩
        refine WC.fits _ hfit (fun g => ?_)
        clear hfit
        refine WC.seq (fun K11 hK11 => ?_)
        refine WC.seq (fun K12 hK12 => ?_)
        refine WC.region ?_
        refine WL.op rfl (opW.moveI rfl ?_)
        refine WL.op rfl (opW.moveV (v := (cutV s.l.v 0 (capV s.l.v) (capV s.l.v) (Enc.sz (Vector UInt8 64)))) rfl ?_)
        refine WL.op rfl (opW.lenV rfl ((ha.bel hS.old)) ?_)
        refine WL.op rfl (opW.lss rfl rfl ?_)
        refine WL.nil ?_
        refine thenQ_n (hK12 _ _ ?_)
        refine WC.cond _ rfl (fun hc2 => ?_) (fun hc2 => ?_)
        ·
          have hr2 := hc2
          try simp only [decide_eq_true_eq, decide_eq_false_iff_not, Bool.and_eq_true, Bool.or_eq_true, Bool.and_eq_false_iff, Bool.or_eq_false_iff, Bool.not_eq_true', Bool.not_eq_false', Int.not_lt, Int.not_le] at hc2
          have hkl : k < (List.replicate n s.here ++ List.replicate m s.far).length := by rw [hla]; omega
          refine WC.skip ?_
          refine thenQ_n (hK11 _ _ ?_)
          refine WC.seq (fun K13 hK13 => ?_)
          refine WC.block ?_
          refine WC.seq (fun K14 hK14 => ?_)
          refine WC.draw 7 (.look 0 (.look 1 (.look 2 (.look 3 (.look 4 (.look 5 (.look 6 .nil))))))) (by kernel_rfl) (fun _ _ _ h => h) (fun w1 hw1 => ?_)
          replace hS := hS.bel hw1
          have hS1 := hS
          have hT := St.start w1
          refine ML.look rfl rfl rfl (fun w hw => (by have hS := hS1.bel hw; exact opW.moveV (v := (cutV s.l.v 0 (capV s.l.v) (capV s.l.v) (Enc.sz (Vector UInt8 64)))) rfl ⟨rfl, rfl⟩)) ?_
          refine ML.look rfl rfl rfl (fun w hw => (by have hS := hS1.bel hw; exact opW.moveI rfl ⟨rfl, rfl⟩)) ?_
          refine ML.look rfl rfl rfl (fun w hw => (by have hS := hS1.bel hw; exact opW.idxV rfl ((ha.bel hS.old)) rfl (by omega) ⟨rfl, rfl⟩)) ?_
          refine ML.look rfl rfl rfl (fun w hw => (by have hS := hS1.bel hw; exact opW.loadV rfl (((ha.bel hS.old).isPt hkl).ldA (Enc.size_eq _)) ⟨rfl, rfl⟩)) ?_
          refine ML.look rfl rfl rfl (fun w hw => (by have hS := hS1.bel hw; exact opW.fieldAddrB rfl ⟨rfl, rfl⟩)) ?_
          refine ML.look rfl rfl rfl (fun w hw => (by have hS := hS1.bel hw; exact opW.loadV rfl (hS.ldF (cs := Enc.enc s) (by first | exact .h0 | exact .h1 | exact .h2 | exact .h3 | exact .h4 | exact .h5 | exact .h6 | exact .h7 | exact .h8 | exact .h9 | exact .h10 | exact .h11 | exact .h12 | exact .h13 | exact .h14) (ShSig.ex_far _) (by rw [Enc.size_eq]; decide)) ⟨rfl, rfl⟩)) ?_
          refine ML.look rfl rfl rfl (fun w hw => (by have hS := hS1.bel hw; exact opW.neqE rfl rfl ⟨rfl, rfl⟩)) ?_
          refine ML.nil ?_
          refine thenQ_n (hK14 _ _ ?_)
          refine WC.cond _ rfl (fun hc3 => ?_) (fun hc3 => ?_)
          ·
            have hr3 := hc3
            try simp only [decide_eq_true_eq, decide_eq_false_iff_not, Bool.and_eq_true, Bool.or_eq_true, Bool.and_eq_false_iff, Bool.or_eq_false_iff, Bool.not_eq_true', Bool.not_eq_false', Int.not_lt, Int.not_le] at hc3
            rw [List.getElem_append_right (by simp; omega)] at hr3
            simp at hr3
          ·
            have hr3 := hc3
            try simp only [decide_eq_true_eq, decide_eq_false_iff_not, Bool.and_eq_true, Bool.or_eq_true, Bool.and_eq_false_iff, Bool.or_eq_false_iff, Bool.not_eq_true', Bool.not_eq_false', Int.not_lt, Int.not_le] at hc3
            refine WC.skip ?_
            refine blockQ_n ?_
            refine thenQ_n (hK13 _ _ ?_)
            refine WC.region ?_
            refine WL.op rfl (opW.moveI rfl ?_)
            refine WL.op rfl (opW.add rfl rfl (wrap_i64 (by omega)) ?_)
            refine WL.op rfl (opW.assignI rfl ?_)
            refine WL.nil ?_
            refine thenQ_n ?_
            exact ⟨n + m - (k + 1), by omega, k + 1, ⟨rfl, rfl, congrArg (Value.int .i64) (by omega), trivial⟩, hS, by omega, by omega, rfl⟩
        ·
          have hr2 := hc2
          try simp only [decide_eq_true_eq, decide_eq_false_iff_not, Bool.and_eq_true, Bool.or_eq_true, Bool.and_eq_false_iff, Bool.or_eq_false_iff, Bool.not_eq_true', Bool.not_eq_false', Int.not_lt, Int.not_le] at hc2
          refine WC.exit ?_
          refine thenQ_e ?_
          refine thenQ_e ?_
          refine blockQ_hit ?_
          refine thenQ_n (hK9 _ _ ?_)
          refine WC.seq (fun K15 hK15 => ?_)
          refine WC.region ?_
          refine WL.op rfl (opW.assignB rfl ?_)
          refine WL.nil ?_
          refine thenQ_n (hK15 _ _ ?_)
          refine WC.ret ?_
          refine bodyQ_ret (.tmpB rfl .nil) ?_
          exact ⟨rfl, hS.old⟩

def pg_Sig (s : ShSig) (xs : List (Vector UInt8 64)) (hv : OwnS s.l.v xs.length) : Pg Try.prog where
  iv := ⟨99, .agg (Enc.enc s)⟩
  e0 := ownE s.l.v 62 xs
  e1 := ownE s.l.v 62 (List.replicate xs.length s.here)
  e2 := ownE (cutV s.l.v 0 (capV s.l.v) (capV s.l.v) (Enc.sz (Vector UInt8 64))) 62 (List.replicate xs.length s.here ++ List.replicate ((capV s.l.v) - xs.length) s.far)
  s0 := fun wb S w h => ⟨_, _, _, rfl, inferInstance, inferInstance, inferInstance, signA_Sig wb w S s xs h⟩
  s1 := fun wb S w h => ⟨_, _, _, rfl, inferInstance, inferInstance, inferInstance, by
    have := signB_Sig wb w S s (List.replicate xs.length s.here) (by simpa using hv) h
    simpa using this⟩
  ow := fun wb S w h => ⟨_, _, _, rfl, inferInstance, inferInstance, inferInstance, by
    refine Ret.mono (own_Sig w s xs.length ((capV s.l.v) - xs.length) hv (by have := hv.le.1; omega) (h.sl .here)) fun u w' hu => ⟨hu.1, h.bel hu.2⟩⟩

theorem bkSigs_ok (wb w0 : World) (S : List Ent) (p : Nat) (sv : SlV) (pgs : List (Pg Try.prog)) (lv : Value) (xs : List (Vector UInt8 64)) (hl : pgs.length ≤ 100000) (hS0 : St wb (bkE p sv pgs :: ownE lv 62 xs :: S) w0) : Ret Try.prog 38 #[.pointer (some ⟨p, 0, none⟩), lv] w0 (fun u w' => ∃ sv' pg, St wb (bkE p sv' (pgs ++ [pg]) :: S) w') := by
  refine Ret.enter (args := [.pointer (some ⟨p, 0, none⟩), lv]) Try.func38 rfl Try.ntmps38 Try.results38 rfl ?_
  have hS := St.start w0
  replace hS := hS0.bkOpen
  have hov : OwnS lv xs.length := (hS0.own (v := lv) (e := 62) (xs := xs) (.there .here)).shape
  obtain ⟨sl, rfl⟩ := (hS0.sl (v := lv) (e := 62) (xs := xs) (.there .here)).asV
  refine WC.seq (fun K1 hK1 => ?_)
  refine WC.region ?_
  refine WL.op rfl (opW.moveV (v := .pointer (some ⟨p, 0, none⟩)) rfl ?_)
  refine WL.op rfl (opW.call (number_ok _ p sv pgs (hS.pt (by first | exact .h0 | exact .h1 | exact .h2 | exact .h3 | exact .h4 | exact .h5 | exact .h6 | exact .h7 | exact .h8 | exact .h9 | exact .h10 | exact .h11 | exact .h12 | exact .h13 | exact .h14)) (hS.sl (v := sv.v) (by first | exact .h0 | exact .h1 | exact .h2 | exact .h3 | exact .h4 | exact .h5 | exact .h6 | exact .h7 | exact .h8 | exact .h9 | exact .h10 | exact .h11 | exact .h12 | exact .h13 | exact .h14)) hl) rfl ?_)
  rintro _ w ⟨rfl, hw⟩; replace hS := hS.bel hw
  refine WL.op rfl (opW.assignI rfl ?_)
  refine WL.nil ?_
  refine thenQ_n (hK1 _ _ ?_)
  refine WC.region ?_
  refine WL.op rfl (opW.moveV (v := .pointer (some ⟨p, 0, none⟩)) rfl ?_)
  refine WL.op rfl (opW.moveV (v := .pointer (some ⟨p, 0, none⟩)) rfl ?_)
  refine WL.op rfl (opW.nilCheckB rfl ?_)
  refine WL.op rfl (opW.fieldAddrB rfl ?_)
  refine WL.op rfl (opW.loadV rfl (hS.ld1 (by first | exact .h0 | exact .h1 | exact .h2 | exact .h3 | exact .h4 | exact .h5 | exact .h6 | exact .h7 | exact .h8 | exact .h9 | exact .h10 | exact .h11 | exact .h12 | exact .h13 | exact .h14) (BookS.at_pages _)) ?_)
  refine WL.op rfl (opW.moveV (v := sl.v) rfl ?_)
  refine WL.op rfl (opW.moveI rfl ?_)
  refine WL.op rfl (opW.conv rfl (wrap_u8of _) ?_)
  refine WL.op rfl (opW.moveI rfl ?_)
  refine WL.op rfl (opW.quo rfl rfl (by omega) (show IntKind.i64.wrap _ = ((((pgs.length + 1 : Nat)) / 256 : Nat) : Int) from by rw [show (((pgs.length + 1 : Nat) : Int)).tdiv 256 = ((((pgs.length + 1 : Nat)) / 256 : Nat) : Int) from by rw [Int.tdiv_eq_ediv_of_nonneg (by omega)]; omega]; exact wrap_i64 (by omega)) ?_)
  refine WL.op rfl (opW.conv rfl (wrap_u8of _) ?_)
  refine WL.op rfl (opW.buildVec (k := ((((vz 64).set 0 (u8of ((pgs.length + 1 : Nat) : Int))).set 1 (u8of ((((pgs.length + 1 : Nat)) / 256 : Nat) : Int))).set 2 1)) (by first | rfl | (simp only [enc_vset, enc_vz]; rfl)) (by intro p hp; first | (exfalso; simp at hp; done) | (simp only [List.map_cons, List.map_nil, List.mem_cons, List.not_mem_nil, or_false] at hp; rcases hp with rfl | rfl | rfl | rfl <;> exact ⟨by simp, rfl⟩)) ?_)
  generalize ((((vz 64).set 0 (u8of ((pgs.length + 1 : Nat) : Int))).set 1 (u8of ((((pgs.length + 1 : Nat)) / 256 : Nat) : Int))).set 2 1) = k1
  refine WL.op rfl (opW.moveI rfl ?_)
  refine WL.op rfl (opW.conv rfl (wrap_u8of _) ?_)
  refine WL.op rfl (opW.moveI rfl ?_)
  refine WL.op rfl (opW.quo rfl rfl (by omega) (show IntKind.i64.wrap _ = ((((pgs.length + 1 : Nat)) / 256 : Nat) : Int) from by rw [show (((pgs.length + 1 : Nat) : Int)).tdiv 256 = ((((pgs.length + 1 : Nat)) / 256 : Nat) : Int) from by rw [Int.tdiv_eq_ediv_of_nonneg (by omega)]; omega]; exact wrap_i64 (by omega)) ?_)
  refine WL.op rfl (opW.conv rfl (wrap_u8of _) ?_)
  refine WL.op rfl (opW.buildVec (k := ((((vz 64).set 0 (u8of ((pgs.length + 1 : Nat) : Int))).set 1 (u8of ((((pgs.length + 1 : Nat)) / 256 : Nat) : Int))).set 2 2)) (by first | rfl | (simp only [enc_vset, enc_vz]; rfl)) (by intro p hp; first | (exfalso; simp at hp; done) | (simp only [List.map_cons, List.map_nil, List.mem_cons, List.not_mem_nil, or_false] at hp; rcases hp with rfl | rfl | rfl | rfl <;> exact ⟨by simp, rfl⟩)) ?_)
  generalize ((((vz 64).set 0 (u8of ((pgs.length + 1 : Nat) : Int))).set 1 (u8of ((((pgs.length + 1 : Nat)) / 256 : Nat) : Int))).set 2 2) = k2
  refine WL.op rfl (opW.buildE (r := (⟨sl, k1, k2⟩ : ShSig)) (ps := ShSig.parts (⟨sl, k1, k2⟩ : ShSig)) (ShSig.enc_eq _) rfl ⟨(by simp), rfl, (by simp), (Enc.size_eq (α := (Vector UInt8 64)) _), (by simp), (Enc.size_eq (α := (Vector UInt8 64)) _), trivial⟩ ?_)
  refine WL.op rfl (opW.iface rfl ?_)
  refine WL.op rfl (opW.buildSl hS (([(⟨99, .agg (Enc.enc (⟨sl, k1, k2⟩ : ShSig))⟩ : IfV)] : List IfV)) [.iface 99 (.agg (Enc.enc (⟨sl, k1, k2⟩ : ShSig)))] rfl rfl rfl rfl (by decide) ?_)
  intro b27 w hw hS
  refine WL.op rfl (opW.appendOwn (α := IfV) rfl hS rfl (by first | exact .h0 | exact .h1 | exact .h2 | exact .h3 | exact .h4 | exact .h5 | exact .h6 | exact .h7 | exact .h8 | exact .h9 | exact .h10 | exact .h11 | exact .h12 | exact .h13 | exact .h14) (hS.sl (xs := ([(⟨99, .agg (Enc.enc (⟨sl, k1, k2⟩ : ShSig))⟩ : IfV)] : List IfV)) (by first | exact .h0 | exact .h1 | exact .h2 | exact .h3 | exact .h4 | exact .h5 | exact .h6 | exact .h7 | exact .h8 | exact .h9 | exact .h10 | exact .h11 | exact .h12 | exact .h13 | exact .h14)) (by simp only [List.length_map, List.length_cons, List.length_nil]; omega) (by simp only [maxLen, List.length_map, List.length_cons, List.length_nil]; omega) ?_)
  intro v28 w hS; replace hS := hS _ (by first | exact .h0 | exact .h1 | exact .h2 | exact .h3 | exact .h4 | exact .h5 | exact .h6 | exact .h7 | exact .h8 | exact .h9 | exact .h10 | exact .h11 | exact .h12 | exact .h13 | exact .h14)
  obtain ⟨sn, rfl⟩ := (hS.sl (v := v28) (xs := pgs.map Pg.iv ++ [(⟨99, .agg (Enc.enc (⟨sl, k1, k2⟩ : ShSig))⟩ : IfV)]) (by first | exact .h0 | exact .h1 | exact .h2 | exact .h3 | exact .h4 | exact .h5 | exact .h6 | exact .h7 | exact .h8 | exact .h9 | exact .h10 | exact .h11 | exact .h12 | exact .h13 | exact .h14)).asV
  refine WL.op rfl (opW.nilCheckB rfl ?_)
  refine WL.op rfl (opW.fieldAddrB rfl ?_)
  refine WL.op0 (opW.storeF (v := sn.v) (sz := 1) (cs' := Enc.enc (BookS.mk sn)) hS rfl rfl (by first | exact .h0 | exact .h1 | exact .h2 | exact .h3 | exact .h4 | exact .h5 | exact .h6 | exact .h7 | exact .h8 | exact .h9 | exact .h10 | exact .h11 | exact .h12 | exact .h13 | exact .h14) rfl (by rw [Enc.size_eq]; decide) (Enc.one (α := SlV) sn) (BookS.set_pages (BookS.mk sv) sn) ?_)
  intro w hS; replace hS := hS _ (by first | exact .h0 | exact .h1 | exact .h2 | exact .h3 | exact .h4 | exact .h5 | exact .h6 | exact .h7 | exact .h8 | exact .h9 | exact .h10 | exact .h11 | exact .h12 | exact .h13 | exact .h14)
  refine WL.nil ?_
  refine bodyQ_end .nil ?_
  exact ⟨sn, pg_Sig ⟨sl, k1, k2⟩ xs hov, St.bkAdd (pg_Sig ⟨sl, k1, k2⟩ xs hov) hS.drop1⟩

theorem bkTx_ok (wb w0 : World) (S : List Ent) (p : Nat) (sv : SlV) (pgs : List (Pg Try.prog)) (t : Tx) (x : TC) (ins : List Instr) (lks : List Lookup) (hS0 : St wb (bkE p sv pgs :: ownE t.sigs.v 62 x.sigs :: ownE t.m.keys.v 58 x.m.keys :: b2E (zipI ins x.m.ins) :: b2E (zipL lks x.m.lks) :: S) w0) (hi : ∀ w, St wb S w → SlR w t.m.instrs.v ins) (hl2 : ∀ w, St wb S w → SlR w t.m.lookups.v lks) (hil : ins.length = x.m.ins.length) (hll : lks.length = x.m.lks.length) (hb : pgs.length + 2 * ins.length + 2 * lks.length ≤ 80000) : Ret Try.prog 15 #[.pointer (some ⟨p, 0, none⟩), .agg (Enc.enc t)] w0 (fun u w' => ∃ sv' pgs', pgs'.length ≤ pgs.length + 2 + 2 * ins.length + 2 * lks.length ∧ St wb (bkE p sv' pgs' :: S) w') := by
  refine Ret.enter (args := [.pointer (some ⟨p, 0, none⟩), .agg (Enc.enc t)]) Try.func15 rfl Try.ntmps15 Try.results15 rfl ?_
  have hS := St.start w0
  replace hS := hS0
  refine WC.seq (fun K1 hK1 => ?_)
  refine WC.region ?_
  refine WL.op rfl (opW.boxA hS rfl ?_)
  intro b3 w _ hS
  refine WL.nil ?_
  refine thenQ_n (hK1 _ _ ?_)
  refine WC.seq (fun K2 hK2 => ?_)
  refine WC.region ?_
  refine WL.op rfl (opW.moveV (v := .pointer (some ⟨p, 0, none⟩)) rfl ?_)
  refine WL.op rfl (opW.fieldAddrB rfl ?_)
  refine WL.op rfl (opW.loadV rfl (hS.ld1 (by first | exact .h0 | exact .h1 | exact .h2 | exact .h3 | exact .h4 | exact .h5 | exact .h6 | exact .h7 | exact .h8 | exact .h9 | exact .h10 | exact .h11 | exact .h12 | exact .h13 | exact .h14) (Tx.at_sigs t)) ?_)
  refine WL.op rfl (opW.call (bkSigs_ok _ _ _ p sv pgs t.sigs.v x.sigs (by omega) ((hS.pick (e := ownE t.sigs.v 62 x.sigs) (by first | exact .h0 | exact .h1 | exact .h2 | exact .h3 | exact .h4 | exact .h5 | exact .h6 | exact .h7 | exact .h8 | exact .h9 | exact .h10 | exact .h11 | exact .h12 | exact .h13 | exact .h14)).pick (e := bkE p sv pgs) (by first | exact .h0 | exact .h1 | exact .h2 | exact .h3 | exact .h4 | exact .h5 | exact .h6 | exact .h7 | exact .h8 | exact .h9 | exact .h10 | exact .h11 | exact .h12 | exact .h13 | exact .h14))) rfl ?_)
  rintro v7 w ⟨sv1, g1, hS⟩
  have hp1 : (pgs ++ [g1]).length = pgs.length + 1 := by simp
  refine WL.nil ?_
  refine thenQ_n (hK2 _ _ ?_)
  refine WC.region ?_
  replace hS := (((hS.pick (e := b2E (zipL lks x.m.lks)) (by first | exact .h0 | exact .h1 | exact .h2 | exact .h3 | exact .h4 | exact .h5 | exact .h6 | exact .h7 | exact .h8 | exact .h9 | exact .h10 | exact .h11 | exact .h12 | exact .h13 | exact .h14)).pick (e := b2E (zipI ins x.m.ins)) (by first | exact .h0 | exact .h1 | exact .h2 | exact .h3 | exact .h4 | exact .h5 | exact .h6 | exact .h7 | exact .h8 | exact .h9 | exact .h10 | exact .h11 | exact .h12 | exact .h13 | exact .h14)).pick (e := ownE t.m.keys.v 58 x.m.keys) (by first | exact .h0 | exact .h1 | exact .h2 | exact .h3 | exact .h4 | exact .h5 | exact .h6 | exact .h7 | exact .h8 | exact .h9 | exact .h10 | exact .h11 | exact .h12 | exact .h13 | exact .h14)).pick (e := bkE p sv1 (pgs ++ [g1])) (by first | exact .h0 | exact .h1 | exact .h2 | exact .h3 | exact .h4 | exact .h5 | exact .h6 | exact .h7 | exact .h8 | exact .h9 | exact .h10 | exact .h11 | exact .h12 | exact .h13 | exact .h14)
  refine WL.op rfl (opW.moveV (v := .pointer (some ⟨p, 0, none⟩)) rfl ?_)
  refine WL.op rfl (opW.fieldAddrB rfl ?_)
  refine WL.op rfl (opW.loadV rfl (hS.ldF (cs := Enc.enc t) (by first | exact .h0 | exact .h1 | exact .h2 | exact .h3 | exact .h4 | exact .h5 | exact .h6 | exact .h7 | exact .h8 | exact .h9 | exact .h10 | exact .h11 | exact .h12 | exact .h13 | exact .h14) (Tx.ex_m t) (by rw [Enc.size_eq]; decide)) ?_)
  refine WL.op rfl (opW.call (bkMsg_ok _ _ _ p sv1 (pgs ++ [g1]) t.m x.m ins lks hS (fun w hw => hi _ (hw.sub (by repeat (first | with_reducible exact List.nil_sublist _ | with_reducible exact List.Sublist.refl _ | with_reducible refine List.Sublist.cons₂ _ ?_ | with_reducible refine List.Sublist.cons _ ?_)))) (fun w hw => hl2 _ (hw.sub (by repeat (first | with_reducible exact List.nil_sublist _ | with_reducible exact List.Sublist.refl _ | with_reducible refine List.Sublist.cons₂ _ ?_ | with_reducible refine List.Sublist.cons _ ?_)))) hil hll (by omega)) rfl ?_)
  rintro v11 w ⟨sv2, pg2, hpl, hS⟩
  refine WL.nil ?_
  refine bodyQ_end .nil ?_
  exact ⟨sv2, pg2, by omega, hS.sub (by repeat (first | with_reducible exact List.nil_sublist _ | with_reducible exact List.Sublist.refl _ | with_reducible refine List.Sublist.cons₂ _ ?_ | with_reducible refine List.Sublist.cons _ ?_))⟩

end Go.Fer
