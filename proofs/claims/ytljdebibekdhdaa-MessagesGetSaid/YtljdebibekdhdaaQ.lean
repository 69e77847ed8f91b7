/- the book -/
import Derived.Test.YtljdebibekdhdaaM
set_option linter.all false
namespace Go.Fer
open Go Go.Proofs Go.RowKit

structure ShByte where
  l : SlV
  here : UInt8
  far : UInt8
def ShByte.parts (x : ShByte) : List (Array Value) := [#[x.l.v], #[.int .u8 x.here.toNat], #[.int .u8 x.far.toNat]]
theorem ShByte.sizes (x : ShByte) : x.parts.map Array.size = [1, 1, 1] := by
  simp only [ShByte.parts, List.map, Enc.size_eq]; rfl
instance : Enc ShByte where
  enc x := joinA x.parts
  sz := 3
  pos := by omega
  size_eq x := by rw [joinA_size, ShByte.sizes]; rfl
  one x := joinA_one (all_cons (Enc.one (α := SlV) _) (all_cons (one_int _ _) (all_cons (one_int _ _) all_nil)))
theorem ShByte.enc_eq (x : ShByte) : Enc.enc x = joinA x.parts := rfl
theorem ShByte.at_l (x : ShByte) : (Enc.enc x)[0]? = some (x.l.v) := joinA_at [] [#[.int .u8 x.here.toNat], #[.int .u8 x.far.toNat]] _ (by rw [joinA_size]; simp only [List.map, Enc.size_eq]; rfl)
theorem ShByte.at_here (x : ShByte) : (Enc.enc x)[1]? = some (.int .u8 x.here.toNat) := joinA_at [#[x.l.v]] [#[.int .u8 x.far.toNat]] _ (by rw [joinA_size]; simp only [List.map, Enc.size_eq]; rfl)
theorem ShByte.at_far (x : ShByte) : (Enc.enc x)[2]? = some (.int .u8 x.far.toNat) := joinA_at [#[x.l.v], #[.int .u8 x.here.toNat]] [] _ (by rw [joinA_size]; simp only [List.map, Enc.size_eq]; rfl)
theorem ShByte.set_l (x : ShByte) (v : SlV) : spl (Enc.enc x) 0 #[v.v] = Enc.enc { x with l := v } := by
  have h := spl_join [] [#[.int .u8 x.here.toNat], #[.int .u8 x.far.toNat]] (#[x.l.v]) (#[v.v]) (by first | (rw [Enc.size_eq, Enc.size_eq]; done) | rfl)
  rw [show (joinA []).size = 0 from (by rw [joinA_size]; simp only [List.map, Enc.size_eq]; rfl)] at h
  exact h
theorem ShByte.set_here (x : ShByte) (v : UInt8) : spl (Enc.enc x) 1 #[.int .u8 v.toNat] = Enc.enc { x with here := v } := by
  have h := spl_join [#[x.l.v]] [#[.int .u8 x.far.toNat]] (#[.int .u8 x.here.toNat]) (#[.int .u8 v.toNat]) (by first | (rw [Enc.size_eq, Enc.size_eq]; done) | rfl)
  rw [show (joinA [#[x.l.v]]).size = 1 from (by rw [joinA_size]; simp only [List.map, Enc.size_eq]; rfl)] at h
  exact h
theorem ShByte.set_far (x : ShByte) (v : UInt8) : spl (Enc.enc x) 2 #[.int .u8 v.toNat] = Enc.enc { x with far := v } := by
  have h := spl_join [#[x.l.v], #[.int .u8 x.here.toNat]] [] (#[.int .u8 x.far.toNat]) (#[.int .u8 v.toNat]) (by first | (rw [Enc.size_eq, Enc.size_eq]; done) | rfl)
  rw [show (joinA [#[x.l.v], #[.int .u8 x.here.toNat]]).size = 2 from (by rw [joinA_size]; simp only [List.map, Enc.size_eq]; rfl)] at h
  exact h
def ShByte.ok (w : World) (x : ShByte) : Prop := (∃ l : List (UInt8), SlR w x.l.v l ∧ ∀ e ∈ l, True)
theorem ShByte.ok.bel {w w' : World} {x : ShByte} (hb : Bel w w') (h : ShByte.ok w x) : ShByte.ok w' x := by
  unfold ShByte.ok at h ⊢
  obtain ⟨l0, g0⟩ := h
  exact (⟨_, g0.1.bel hb, fun e he => trivial⟩)
theorem rdw_ShByte : RdW Try.prog 67 ShByte ShByte.ok := by
  intro H enc w fuel cs d ps hr
  obtain ⟨hend, fuel', hf⟩ := rdS Try.underlying67 inferInstance hr
  obtain ⟨d0, ps0, h0⟩ := hf 0 _ 34 0 1 rfl rfl rfl inferInstance
  obtain ⟨x0, e0, i0⟩ := rd_slv (α := UInt8) inferInstance rdw_u8 inferInstance h0
  obtain ⟨d1, ps1, h1⟩ := hf 1 _ 5 1 1 rfl rfl rfl inferInstance
  obtain ⟨x1, e1⟩ := rd_u8' inferInstance h1
  obtain ⟨d2, ps2, h2⟩ := hf 2 _ 5 2 1 rfl rfl rfl inferInstance
  obtain ⟨x2, e2⟩ := rd_u8' inferInstance h2
  have k2 := cells_cut e2 hend
  have k1 := cells_cut e1 k2
  have k0 := cells_cut e0 k1
  refine ⟨⟨x0, x1, x2⟩, ?_, i0⟩
  rw [ShByte.enc_eq]; simp only [ShByte.parts, joinA_toList_cons, joinA_nil]
  rw [List.drop_zero] at k0; rw [k0]; try simp

theorem signA_Byte (wb w0 : World) (S : List Ent) (s : ShByte) (xs : List UInt8) (hS0 : St wb (ownE s.l.v 5 xs :: S) w0) : Ret Try.prog 84 #[.agg (Enc.enc s), .bool false] w0 (fun u w' => St wb (ownE s.l.v 5 (List.replicate xs.length s.here) :: S) w') := by
  refine Ret.enter (args := [.agg (Enc.enc s), .bool false]) Try.func84 rfl Try.ntmps84 Try.results84 rfl ?_
  have hS := St.start w0
  replace hS := hS0
  refine WC.seq (fun K1 hK1 => ?_)
  refine WC.region ?_
  refine WL.op rfl (opW.boxA hS rfl ?_)
  intro b2 w _ hS
  refine WL.nil ?_
  refine thenQ_n (hK1 _ _ ?_)
  refine WC.seq (fun K2 hK2 => ?_)
  refine WC.seq (fun K3 hK3 => ?_)
  refine WC.region ?_
  refine WL.op rfl (opW.moveB rfl ?_)
  refine WL.op rfl (opW.not rfl ?_)
  refine WL.nil ?_
  refine thenQ_n (hK3 _ _ ?_)
  refine WC.cond _ rfl (fun hc0 => ?_) (fun hc0 => ?_)
  ·
    have hr0 := hc0
    try simp only [decide_eq_true_eq, decide_eq_false_iff_not, Bool.and_eq_true, Bool.or_eq_true, Bool.and_eq_false_iff, Bool.or_eq_false_iff, Bool.not_eq_true', Bool.not_eq_false', Int.not_lt, Int.not_le] at hc0
    refine WC.seq (fun K4 hK4 => ?_)
    refine WC.seq (fun K5 hK5 => ?_)
    refine WC.region ?_
    refine WL.op rfl (opW.assignI rfl ?_)
    refine WL.nil ?_
    refine thenQ_n (hK5 _ _ ?_)
    refine WC.block ?_
    refine WC.loop (fun q f w => ∃ k : Nat, Fits [(2, .pointer (some ⟨b2, 0, none⟩)), (4, .int .i64 (k : Int))] f ∧ St wb (blkE b2 (Enc.enc s) 67 :: ownE s.l.v 5 (List.replicate k s.here ++ xs.drop k) :: S) w ∧ k ≤ xs.length ∧ q = xs.length - k) (xs.length) ?_ ?_
    ·
      exact ⟨0, ⟨rfl, rfl, trivial⟩, hS, Nat.zero_le _, rfl⟩
    ·
      rintro q f w ⟨k, hfit, hS, hk0, hm⟩
      refine WC.fits _ hfit (fun g => ?_)
      clear hfit
      have hll : (List.replicate k s.here ++ xs.drop k).length = xs.length := rep_len hk0
      have hle : xs.length ≤ maxLen := by rw [← hll]; exact (hS.sl (v := s.l.v) (xs := (List.replicate k s.here ++ xs.drop k)) (by first | exact .h0 | exact .h1 | exact .h2 | exact .h3 | exact .h4 | exact .h5 | exact .h6 | exact .h7 | exact .h8 | exact .h9 | exact .h10 | exact .h11 | exact .h12 | exact .h13 | exact .h14)).le
      simp only [maxLen] at hle
      refine WC.seq (fun K6 hK6 => ?_)
      refine WC.seq (fun K7 hK7 => ?_)
      refine WC.region ?_
      refine WL.op rfl (opW.moveI rfl ?_)
      refine WL.op rfl (opW.fieldAddrB rfl ?_)
      refine WL.op rfl (opW.loadV rfl (hS.ld1 (by first | exact .h0 | exact .h1 | exact .h2 | exact .h3 | exact .h4 | exact .h5 | exact .h6 | exact .h7 | exact .h8 | exact .h9 | exact .h10 | exact .h11 | exact .h12 | exact .h13 | exact .h14) (ShByte.at_l _)) ?_)
      refine WL.op rfl (opW.lenV rfl (hS.sl (v := s.l.v) (xs := (List.replicate k s.here ++ xs.drop k)) (by first | exact .h0 | exact .h1 | exact .h2 | exact .h3 | exact .h4 | exact .h5 | exact .h6 | exact .h7 | exact .h8 | exact .h9 | exact .h10 | exact .h11 | exact .h12 | exact .h13 | exact .h14)) ?_)
      refine WL.op rfl (opW.lss rfl rfl ?_)
      refine WL.nil ?_
      refine thenQ_n (hK7 _ _ ?_)
      refine WC.cond _ rfl (fun hc1 => ?_) (fun hc1 => ?_)
      ·
        have hr1 := hc1
        try simp only [decide_eq_true_eq, decide_eq_false_iff_not, Bool.and_eq_true, Bool.or_eq_true, Bool.and_eq_false_iff, Bool.or_eq_false_iff, Bool.not_eq_true', Bool.not_eq_false', Int.not_lt, Int.not_le] at hc1
        have hkl : k < xs.length := by omega
        refine WC.skip ?_
        refine thenQ_n (hK6 _ _ ?_)
        refine WC.seq (fun K8 hK8 => ?_)
        refine WC.block ?_
        refine WC.region ?_
        refine WL.op rfl (opW.fieldAddrB rfl ?_)
        refine WL.op rfl (opW.loadV rfl (hS.ld1 (by first | exact .h0 | exact .h1 | exact .h2 | exact .h3 | exact .h4 | exact .h5 | exact .h6 | exact .h7 | exact .h8 | exact .h9 | exact .h10 | exact .h11 | exact .h12 | exact .h13 | exact .h14) (ShByte.at_l _)) ?_)
        refine WL.op rfl (opW.moveI rfl ?_)
        refine WL.op rfl (opW.fieldAddrB rfl ?_)
        refine WL.op rfl (opW.loadV rfl (hS.ld1 (by first | exact .h0 | exact .h1 | exact .h2 | exact .h3 | exact .h4 | exact .h5 | exact .h6 | exact .h7 | exact .h8 | exact .h9 | exact .h10 | exact .h11 | exact .h12 | exact .h13 | exact .h14) (ShByte.at_here _)) ?_)
        refine WL.op rfl (opW.idxV rfl (hS.sl (v := s.l.v) (xs := (List.replicate k s.here ++ xs.drop k)) (by first | exact .h0 | exact .h1 | exact .h2 | exact .h3 | exact .h4 | exact .h5 | exact .h6 | exact .h7 | exact .h8 | exact .h9 | exact .h10 | exact .h11 | exact .h12 | exact .h13 | exact .h14)) rfl (by omega) ?_)
        refine WL.op0 (opW.storeOwn (v := s.l.v) (u := .int .u8 (s.here.toNat : Int)) (xs := (List.replicate k s.here ++ xs.drop k)) (i := k) (off := 0) (y' := s.here) hS (by first | exact .h0 | exact .h1 | exact .h2 | exact .h3 | exact .h4 | exact .h5 | exact .h6 | exact .h7 | exact .h8 | exact .h9 | exact .h10 | exact .h11 | exact .h12 | exact .h13 | exact .h14) (by omega) (ptrAdd_zero s.l.v k (Enc.sz UInt8)).symm rfl (by first | exact Enc.size_eq (α := UInt8) s.here | rfl) (by first | exact Nat.le_refl _ | decide) (Enc.one s.here) (spl_all (by rw [Enc.size_eq]; first | exact Enc.size_eq (α := UInt8) s.here | rfl)) ?_)
        intro w hS; replace hS := hS _ (by first | exact .h0 | exact .h1 | exact .h2 | exact .h3 | exact .h4 | exact .h5 | exact .h6 | exact .h7 | exact .h8 | exact .h9 | exact .h10 | exact .h11 | exact .h12 | exact .h13 | exact .h14)
        refine WL.nil ?_
        refine blockQ_n ?_
        refine thenQ_n (hK8 _ _ ?_)
        refine WC.region ?_
        refine WL.op rfl (opW.moveI rfl ?_)
        refine WL.op rfl (opW.add rfl rfl (wrap_i64 (by omega)) ?_)
        refine WL.op rfl (opW.assignI rfl ?_)
        refine WL.nil ?_
        refine thenQ_n ?_
        rw [rep_set hkl] at hS
        exact ⟨xs.length - (k + 1), by omega, k + 1, ⟨rfl, congrArg (Value.int .i64) (by omega), trivial⟩, hS, by omega, rfl⟩
      ·
        have hr1 := hc1
        try simp only [decide_eq_true_eq, decide_eq_false_iff_not, Bool.and_eq_true, Bool.or_eq_true, Bool.and_eq_false_iff, Bool.or_eq_false_iff, Bool.not_eq_true', Bool.not_eq_false', Int.not_lt, Int.not_le] at hc1
        obtain rfl : k = xs.length := by omega
        rw [List.drop_length, List.append_nil] at hS
        refine WC.exit ?_
        refine thenQ_e ?_
        refine thenQ_e ?_
        refine blockQ_hit ?_
        refine thenQ_n (hK4 _ _ ?_)
        refine WC.ret ?_
        refine thenQ_r ?_
        refine bodyQ_ret .nil ?_
        exact hS.drop1
  ·
    have hr0 := hc0
    try simp only [decide_eq_true_eq, decide_eq_false_iff_not, Bool.and_eq_true, Bool.or_eq_true, Bool.and_eq_false_iff, Bool.or_eq_false_iff, Bool.not_eq_true', Bool.not_eq_false', Int.not_lt, Int.not_le] at hc0
    simp at hr0

theorem signB_Byte (wb w0 : World) (S : List Ent) (s : ShByte) (xs : List UInt8) (hv : OwnS s.l.v xs.length) (hS0 : St wb (ownE s.l.v 5 xs :: S) w0) : Ret Try.prog 84 #[.agg (Enc.enc s), .bool true] w0 (fun u w' => St wb (ownE (cutV s.l.v 0 (capV s.l.v) (capV s.l.v) (Enc.sz UInt8)) 5 (xs ++ List.replicate ((capV s.l.v) - xs.length) s.far) :: S) w') := by
  refine Ret.enter (args := [.agg (Enc.enc s), .bool true]) Try.func84 rfl Try.ntmps84 Try.results84 rfl ?_
  have hS := St.start w0
  replace hS := hS0
  refine WC.seq (fun K1 hK1 => ?_)
  refine WC.region ?_
  refine WL.op rfl (opW.boxA hS rfl ?_)
  intro b2 w _ hS
  refine WL.nil ?_
  refine thenQ_n (hK1 _ _ ?_)
  refine WC.seq (fun K2 hK2 => ?_)
  refine WC.seq (fun K3 hK3 => ?_)
  refine WC.region ?_
  refine WL.op rfl (opW.moveB rfl ?_)
  refine WL.op rfl (opW.not rfl ?_)
  refine WL.nil ?_
  refine thenQ_n (hK3 _ _ ?_)
  refine WC.cond _ rfl (fun hc0 => ?_) (fun hc0 => ?_)
  ·
    have hr0 := hc0
    try simp only [decide_eq_true_eq, decide_eq_false_iff_not, Bool.and_eq_true, Bool.or_eq_true, Bool.and_eq_false_iff, Bool.or_eq_false_iff, Bool.not_eq_true', Bool.not_eq_false', Int.not_lt, Int.not_le] at hc0
    simp at hr0
  ·
    have hr0 := hc0
    try simp only [decide_eq_true_eq, decide_eq_false_iff_not, Bool.and_eq_true, Bool.or_eq_true, Bool.and_eq_false_iff, Bool.or_eq_false_iff, Bool.not_eq_true', Bool.not_eq_false', Int.not_lt, Int.not_le] at hc0
    refine WC.skip ?_
    refine thenQ_n (hK2 _ _ ?_)
    refine WC.seq (fun K4 hK4 => ?_)
    refine WC.region ?_
    refine WL.op rfl (opW.fieldAddrB rfl ?_)
    refine WL.op rfl (opW.loadV rfl (hS.ld1 (by first | exact .h0 | exact .h1 | exact .h2 | exact .h3 | exact .h4 | exact .h5 | exact .h6 | exact .h7 | exact .h8 | exact .h9 | exact .h10 | exact .h11 | exact .h12 | exact .h13 | exact .h14) (ShByte.at_l _)) ?_)
    refine WL.op rfl (opW.fieldAddrB rfl ?_)
    refine WL.op rfl (opW.loadV rfl (hS.ld1 (by first | exact .h0 | exact .h1 | exact .h2 | exact .h3 | exact .h4 | exact .h5 | exact .h6 | exact .h7 | exact .h8 | exact .h9 | exact .h10 | exact .h11 | exact .h12 | exact .h13 | exact .h14) (ShByte.at_l _)) ?_)
    refine WL.op rfl (opW.cap (v := s.l.v) rfl (hS.sl (v := s.l.v) (xs := xs) (by first | exact .h0 | exact .h1 | exact .h2 | exact .h3 | exact .h4 | exact .h5 | exact .h6 | exact .h7 | exact .h8 | exact .h9 | exact .h10 | exact .h11 | exact .h12 | exact .h13 | exact .h14)) ?_)
    refine WL.op rfl (opW.cutS (l := 0) (h' := (capV s.l.v)) (m := (capV s.l.v)) (hS.sl (v := s.l.v) (xs := xs) (by first | exact .h0 | exact .h1 | exact .h2 | exact .h3 | exact .h4 | exact .h5 | exact .h6 | exact .h7 | exact .h8 | exact .h9 | exact .h10 | exact .h11 | exact .h12 | exact .h13 | exact .h14)) ⟨rfl, Nat.le_refl _⟩ ⟨⟨_, rfl⟩, Nat.le_refl _⟩ ⟨rfl, Nat.zero_le _⟩ ?_)
    refine WL.op rfl (opW.assignV (v := (cutV s.l.v 0 (capV s.l.v) (capV s.l.v) (Enc.sz UInt8))) rfl ?_)
    refine WL.nil ?_
    refine thenQ_n (hK4 _ _ ?_)
    refine WC.seq (fun K5 hK5 => ?_)
    refine WC.region ?_
    refine WL.op rfl (opW.fieldAddrB rfl ?_)
    refine WL.op rfl (opW.loadV rfl (hS.ld1 (by first | exact .h0 | exact .h1 | exact .h2 | exact .h3 | exact .h4 | exact .h5 | exact .h6 | exact .h7 | exact .h8 | exact .h9 | exact .h10 | exact .h11 | exact .h12 | exact .h13 | exact .h14) (ShByte.at_l _)) ?_)
    refine WL.op rfl (opW.lenV rfl (hS.sl (v := s.l.v) (xs := xs) (by first | exact .h0 | exact .h1 | exact .h2 | exact .h3 | exact .h4 | exact .h5 | exact .h6 | exact .h7 | exact .h8 | exact .h9 | exact .h10 | exact .h11 | exact .h12 | exact .h13 | exact .h14)) ?_)
    refine WL.op rfl (opW.assignI rfl ?_)
    refine WL.nil ?_
    refine thenQ_n (hK5 _ _ ?_)
    refine WC.block ?_
    refine WC.loop (fun q f w => ∃ k : Nat, Fits [(2, .pointer (some ⟨b2, 0, none⟩)), (5, (cutV s.l.v 0 (capV s.l.v) (capV s.l.v) (Enc.sz UInt8))), (6, .int .i64 (k : Int))] f ∧ St wb (blkE b2 (Enc.enc s) 67 :: ownE (cutV s.l.v 0 k (capV s.l.v) (Enc.sz UInt8)) 5 (xs ++ List.replicate (k - xs.length) s.far) :: S) w ∧ xs.length ≤ k ∧ k ≤ (capV s.l.v) ∧ q = (capV s.l.v) - k) ((capV s.l.v) - xs.length) ?_ ?_
    ·
      refine ⟨xs.length, ⟨rfl, rfl, rfl, trivial⟩, ?_, Nat.le_refl _, hv.le.1, rfl⟩
      have h1 := hS.ownFront (k := xs.length) (m := (capV s.l.v)) (S' := (blkE b2 (Enc.enc s) 67 :: ownE (cutV s.l.v 0 xs.length (capV s.l.v) (Enc.sz UInt8)) 5 (xs.take xs.length) :: S)) (Nat.le_refl _) hv.le.1 (Nat.le_refl _) (.there .here)
      rw [List.take_length] at h1
      rw [Nat.sub_self, List.replicate_zero, List.append_nil]; exact h1
    ·
      rintro q f w ⟨k, hfit, hS, hk0, hk1, hm⟩
      refine WC.fits _ hfit (fun g => ?_)
      clear hfit
      have hll : (xs ++ List.replicate (k - xs.length) s.far).length = k := by simp; omega
      have hcc : capV (cutV s.l.v 0 k (capV s.l.v) (Enc.sz UInt8)) = (capV s.l.v) := capV_cut0 _ _ _ _ hv.isS
      have hle := hv.le.2
      simp only [maxLen] at hle
      refine WC.seq (fun K6 hK6 => ?_)
      refine WC.seq (fun K7 hK7 => ?_)
      refine WC.region ?_
      refine WL.op rfl (opW.moveI rfl ?_)
      refine WL.op rfl (opW.moveV (v := (cutV s.l.v 0 (capV s.l.v) (capV s.l.v) (Enc.sz UInt8))) rfl ?_)
      refine WL.op rfl (opW.lenCut hv rfl ?_)
      refine WL.op rfl (opW.lss rfl rfl ?_)
      refine WL.nil ?_
      refine thenQ_n (hK7 _ _ ?_)
      refine WC.cond _ rfl (fun hc2 => ?_) (fun hc2 => ?_)
      ·
        have hr2 := hc2
        try simp only [decide_eq_true_eq, decide_eq_false_iff_not, Bool.and_eq_true, Bool.or_eq_true, Bool.and_eq_false_iff, Bool.or_eq_false_iff, Bool.not_eq_true', Bool.not_eq_false', Int.not_lt, Int.not_le] at hc2
        have hkl : k < (capV s.l.v) := by omega
        refine WC.skip ?_
        refine thenQ_n (hK6 _ _ ?_)
        refine WC.seq (fun K8 hK8 => ?_)
        refine WC.block ?_
        refine WC.region ?_
        refine WL.op rfl (opW.moveV (v := (cutV s.l.v 0 (capV s.l.v) (capV s.l.v) (Enc.sz UInt8))) rfl ?_)
        refine WL.op rfl (opW.moveI rfl ?_)
        refine WL.op rfl (opW.fieldAddrB rfl ?_)
        refine WL.op rfl (opW.loadV rfl (hS.ld1 (by first | exact .h0 | exact .h1 | exact .h2 | exact .h3 | exact .h4 | exact .h5 | exact .h6 | exact .h7 | exact .h8 | exact .h9 | exact .h10 | exact .h11 | exact .h12 | exact .h13 | exact .h14) (ShByte.at_far _)) ?_)
        refine WL.op rfl (opW.idxCut (α := UInt8) hv rfl rfl (by omega) (Nat.le_refl _) ?_)
        refine WL.op0 (opW.storeRoom (v := (cutV s.l.v 0 k (capV s.l.v) (Enc.sz UInt8))) (xs := (xs ++ List.replicate (k - xs.length) s.far)) (y' := s.far) hS (by first | exact .h0 | exact .h1 | exact .h2 | exact .h3 | exact .h4 | exact .h5 | exact .h6 | exact .h7 | exact .h8 | exact .h9 | exact .h10 | exact .h11 | exact .h12 | exact .h13 | exact .h14) (by rw [hcc, hll]; exact hkl) (by rw [elemP_cut0, hll]; rfl) rfl rfl ?_)
        intro w hS; replace hS := hS _ (by first | exact .h0 | exact .h1 | exact .h2 | exact .h3 | exact .h4 | exact .h5 | exact .h6 | exact .h7 | exact .h8 | exact .h9 | exact .h10 | exact .h11 | exact .h12 | exact .h13 | exact .h14)
        refine WL.nil ?_
        refine blockQ_n ?_
        refine thenQ_n (hK8 _ _ ?_)
        refine WC.region ?_
        refine WL.op rfl (opW.moveI rfl ?_)
        refine WL.op rfl (opW.add rfl rfl (wrap_i64 (by omega)) ?_)
        refine WL.op rfl (opW.assignI rfl ?_)
        refine WL.nil ?_
        refine thenQ_n ?_
        rw [hcc, hll, cutV_cut0, rep_room hk0] at hS
        exact ⟨(capV s.l.v) - (k + 1), by omega, k + 1, ⟨rfl, rfl, congrArg (Value.int .i64) (by omega), trivial⟩, hS, by omega, by omega, rfl⟩
      ·
        have hr2 := hc2
        try simp only [decide_eq_true_eq, decide_eq_false_iff_not, Bool.and_eq_true, Bool.or_eq_true, Bool.and_eq_false_iff, Bool.or_eq_false_iff, Bool.not_eq_true', Bool.not_eq_false', Int.not_lt, Int.not_le] at hc2
        obtain rfl : k = (capV s.l.v) := by omega
        refine WC.exit ?_
        refine thenQ_e ?_
        refine thenQ_e ?_
        refine blockQ_hit ?_
        refine bodyQ_end .nil ?_
        exact hS.drop1

theorem own_Byte (w0 : World) (s : ShByte) (n m : Nat) (hv : OwnS s.l.v n) (hm : n + m = (capV s.l.v)) (ha : SlR w0 (cutV s.l.v 0 (capV s.l.v) (capV s.l.v) (Enc.sz UInt8)) (List.replicate n s.here ++ List.replicate m s.far)) : Ret Try.prog 83 #[.agg (Enc.enc s)] w0 (fun u w' => u = .bool true ∧ Bel w0 w') := by
  refine Ret.enter (args := [.agg (Enc.enc s)]) Try.func83 rfl Try.ntmps83 Try.results83 rfl ?_
  have hS := St.start w0
  have hs : SlR w0 s.l.v (List.replicate n s.here) := by
    refine SlR.uncut (ys := List.replicate m s.far) (by simpa using hv) ?_
    have e : (List.replicate n s.here ++ List.replicate m s.far).length = (capV s.l.v) := by simp; exact hm
    rw [e]; exact ha
  have hln : (List.replicate n s.here).length = n := by simp
  have hla : (List.replicate n s.here ++ List.replicate m s.far).length = n + m := by simp
  have hle := ha.le
  simp only [maxLen] at hle
  refine WC.seq (fun K1 hK1 => ?_)
  refine WC.region ?_
  refine WL.op rfl (opW.boxA hS rfl ?_)
  intro b1 w _ hS
  refine WL.op rfl (opW.assignB rfl ?_)
  refine WL.nil ?_
  refine thenQ_n (hK1 _ _ ?_)
  refine WC.seq (fun K2 hK2 => ?_)
  refine WC.seq (fun K3 hK3 => ?_)
  refine WC.region ?_
  refine WL.op rfl (opW.assignI rfl ?_)
  refine WL.nil ?_
  refine thenQ_n (hK3 _ _ ?_)
  refine WC.block ?_
  refine WC.loop (fun q f w => ∃ k : Nat, Fits [(1, .pointer (some ⟨b1, 0, none⟩)), (3, .int .i64 (k : Int))] f ∧ St w0 [blkE b1 (Enc.enc s) 67] w ∧ k ≤ n ∧ q = n - k) (n) ?_ ?_
  ·
    exact ⟨0, ⟨rfl, rfl, trivial⟩, hS, Nat.zero_le _, rfl⟩
  ·
    rintro q f w ⟨k, hfit, hS, hk0, hm1⟩
    refine WC.fits _ hfit (fun g => ?_)
    clear hfit
    refine WC.seq (fun K4 hK4 => ?_)
    refine WC.seq (fun K5 hK5 => ?_)
    refine WC.region ?_
    refine WL.op rfl (opW.moveI rfl ?_)
    refine WL.op rfl (opW.fieldAddrB rfl ?_)
    refine WL.op rfl (opW.loadV rfl (hS.ld1 (by first | exact .h0 | exact .h1 | exact .h2 | exact .h3 | exact .h4 | exact .h5 | exact .h6 | exact .h7 | exact .h8 | exact .h9 | exact .h10 | exact .h11 | exact .h12 | exact .h13 | exact .h14) (ShByte.at_l _)) ?_)
    refine WL.op rfl (opW.lenV rfl ((hs.bel hS.old)) ?_)
    refine WL.op rfl (opW.lss rfl rfl ?_)
    refine WL.nil ?_
    refine thenQ_n (hK5 _ _ ?_)
    refine WC.cond _ rfl (fun hc0 => ?_) (fun hc0 => ?_)
    ·
      have hr0 := hc0
      try simp only [decide_eq_true_eq, decide_eq_false_iff_not, Bool.and_eq_true, Bool.or_eq_true, Bool.and_eq_false_iff, Bool.or_eq_false_iff, Bool.not_eq_true', Bool.not_eq_false', Int.not_lt, Int.not_le] at hc0
      have hkl : k < (List.replicate n s.here).length := by rw [hln]; omega
      refine WC.skip ?_
      refine thenQ_n (hK4 _ _ ?_)
      refine WC.seq (fun K6 hK6 => ?_)
      refine WC.block ?_
      refine WC.seq (fun K7 hK7 => ?_)
      refine WC.draw 8 (.look 0 (.look 1 (.look 2 (.look 3 (.look 4 (.look 5 (.look 6 (.look 7 .nil)))))))) (by kernel_rfl) (fun _ _ _ h => h) (fun w1 hw1 => ?_)
      replace hS := hS.bel hw1
      have hS1 := hS
      have hT := St.start w1
      refine ML.look rfl rfl rfl (fun w hw => (by have hS := hS1.bel hw; exact opW.fieldAddrB rfl ⟨rfl, rfl⟩)) ?_
      refine ML.look rfl rfl rfl (fun w hw => (by have hS := hS1.bel hw; exact opW.loadV rfl (hS.ld1 (by first | exact .h0 | exact .h1 | exact .h2 | exact .h3 | exact .h4 | exact .h5 | exact .h6 | exact .h7 | exact .h8 | exact .h9 | exact .h10 | exact .h11 | exact .h12 | exact .h13 | exact .h14) (ShByte.at_l _)) ⟨rfl, rfl⟩)) ?_
      refine ML.look rfl rfl rfl (fun w hw => (by have hS := hS1.bel hw; exact opW.moveI rfl ⟨rfl, rfl⟩)) ?_
      refine ML.look rfl rfl rfl (fun w hw => (by have hS := hS1.bel hw; exact opW.idxV rfl ((hs.bel hS.old)) rfl (by omega) ⟨rfl, rfl⟩)) ?_
      refine ML.look rfl rfl rfl (fun w hw => (by have hS := hS1.bel hw; exact opW.loadV rfl (((hs.bel hS.old).isPt hkl).ld rfl) ⟨rfl, rfl⟩)) ?_
      refine ML.look rfl rfl rfl (fun w hw => (by have hS := hS1.bel hw; exact opW.fieldAddrB rfl ⟨rfl, rfl⟩)) ?_
      refine ML.look rfl rfl rfl (fun w hw => (by have hS := hS1.bel hw; exact opW.loadV rfl (hS.ld1 (by first | exact .h0 | exact .h1 | exact .h2 | exact .h3 | exact .h4 | exact .h5 | exact .h6 | exact .h7 | exact .h8 | exact .h9 | exact .h10 | exact .h11 | exact .h12 | exact .h13 | exact .h14) (ShByte.at_here _)) ⟨rfl, rfl⟩)) ?_
      refine ML.look rfl rfl rfl (fun w hw => (by have hS := hS1.bel hw; exact opW.neq rfl rfl ⟨rfl, rfl⟩)) ?_
      refine ML.nil ?_
      refine thenQ_n (hK7 _ _ ?_)
      refine WC.cond _ rfl (fun hc1 => ?_) (fun hc1 => ?_)
      ·
        have hr1 := hc1
        try simp only [decide_eq_true_eq, decide_eq_false_iff_not, Bool.and_eq_true, Bool.or_eq_true, Bool.and_eq_false_iff, Bool.or_eq_false_iff, Bool.not_eq_true', Bool.not_eq_false', Int.not_lt, Int.not_le] at hc1
        simp at hr1
      ·
        have hr1 := hc1
        try simp only [decide_eq_true_eq, decide_eq_false_iff_not, Bool.and_eq_true, Bool.or_eq_true, Bool.and_eq_false_iff, Bool.or_eq_false_iff, Bool.not_eq_true', Bool.not_eq_false', Int.not_lt, Int.not_le] at hc1
        refine WC.skip ?_
        refine blockQ_n ?_
        refine thenQ_n (hK6 _ _ ?_)
        refine WC.region ?_
        refine WL.op rfl (opW.moveI rfl ?_)
        refine WL.op rfl (opW.add rfl rfl (wrap_i64 (by omega)) ?_)
        refine WL.op rfl (opW.assignI rfl ?_)
        refine WL.nil ?_
        refine thenQ_n ?_
        exact ⟨n - (k + 1), by omega, k + 1, ⟨rfl, congrArg (Value.int .i64) (by omega), trivial⟩, hS, by omega, rfl⟩
    ·
      have hr0 := hc0
      try simp only [decide_eq_true_eq, decide_eq_false_iff_not, Bool.and_eq_true, Bool.or_eq_true, Bool.and_eq_false_iff, Bool.or_eq_false_iff, Bool.not_eq_true', Bool.not_eq_false', Int.not_lt, Int.not_le] at hc0
      refine WC.exit ?_
      refine thenQ_e ?_
      refine thenQ_e ?_
      refine blockQ_hit ?_
      refine thenQ_n (hK2 _ _ ?_)
      refine WC.seq (fun K8 hK8 => ?_)
      refine WC.region ?_
      refine WL.op rfl (opW.fieldAddrB rfl ?_)
      refine WL.op rfl (opW.loadV rfl (hS.ld1 (by first | exact .h0 | exact .h1 | exact .h2 | exact .h3 | exact .h4 | exact .h5 | exact .h6 | exact .h7 | exact .h8 | exact .h9 | exact .h10 | exact .h11 | exact .h12 | exact .h13 | exact .h14) (ShByte.at_l _)) ?_)
      refine WL.op rfl (opW.fieldAddrB rfl ?_)
      refine WL.op rfl (opW.loadV rfl (hS.ld1 (by first | exact .h0 | exact .h1 | exact .h2 | exact .h3 | exact .h4 | exact .h5 | exact .h6 | exact .h7 | exact .h8 | exact .h9 | exact .h10 | exact .h11 | exact .h12 | exact .h13 | exact .h14) (ShByte.at_l _)) ?_)
      refine WL.op rfl (opW.cap (v := s.l.v) rfl (hs.bel hS.old) ?_)
      refine WL.op rfl (opW.cutS (l := 0) (h' := (capV s.l.v)) (m := (capV s.l.v)) (hs.bel hS.old) ⟨rfl, Nat.le_refl _⟩ ⟨⟨_, rfl⟩, Nat.le_refl _⟩ ⟨rfl, Nat.zero_le _⟩ ?_)
      refine WL.op rfl (opW.assignV (v := (cutV s.l.v 0 (capV s.l.v) (capV s.l.v) (Enc.sz UInt8))) rfl ?_)
      refine WL.nil ?_
      refine thenQ_n (hK8 _ _ ?_)
      refine WC.seq (fun K9 hK9 => ?_)
      refine WC.seq (fun K10 hK10 => ?_)
      refine WC.region ?_
      refine WL.op rfl (opW.fieldAddrB rfl ?_)
      refine WL.op rfl (opW.loadV rfl (hS.ld1 (by first | exact .h0 | exact .h1 | exact .h2 | exact .h3 | exact .h4 | exact .h5 | exact .h6 | exact .h7 | exact .h8 | exact .h9 | exact .h10 | exact .h11 | exact .h12 | exact .h13 | exact .h14) (ShByte.at_l _)) ?_)
      refine WL.op rfl (opW.lenV rfl ((hs.bel hS.old)) ?_)
      refine WL.op rfl (opW.assignI rfl ?_)
      refine WL.nil ?_
      refine thenQ_n (hK10 _ _ ?_)
      refine WC.block ?_
      refine WC.loop (fun q f w => ∃ k : Nat, Fits [(1, .pointer (some ⟨b1, 0, none⟩)), (4, (cutV s.l.v 0 (capV s.l.v) (capV s.l.v) (Enc.sz UInt8))), (5, .int .i64 (k : Int))] f ∧ St w0 [blkE b1 (Enc.enc s) 67] w ∧ n ≤ k ∧ k ≤ n + m ∧ q = n + m - k) (n + m - n) ?_ ?_
      ·
        exact ⟨n, ⟨rfl, rfl, congrArg (fun i : Nat => Value.int .i64 (i : Int)) hln, trivial⟩, hS, Nat.le_refl _, by omega, rfl⟩
      ·
        rintro q f w ⟨k, hfit, hS, hk0, hk1, hm1⟩
        refine WC.fits _ hfit (fun g => ?_)
        clear hfit
        refine WC.seq (fun K11 hK11 => ?_)
        refine WC.seq (fun K12 hK12 => ?_)
        refine WC.region ?_
        refine WL.op rfl (opW.moveI rfl ?_)
        refine WL.op rfl (opW.moveV (v := (cutV s.l.v 0 (capV s.l.v) (capV s.l.v) (Enc.sz UInt8))) rfl ?_)
        refine WL.op rfl (opW.lenV rfl ((ha.bel hS.old)) ?_)
        refine WL.op rfl (opW.lss rfl rfl ?_)
        refine WL.nil ?_
        refine thenQ_n (hK12 _ _ ?_)
        refine WC.cond _ rfl (fun hc2 => ?_) (fun hc2 => ?_)
        ·
          have hr2 := hc2
          try simp only [decide_eq_true_eq, decide_eq_false_iff_not, Bool.and_eq_true, Bool.or_eq_true, Bool.and_eq_false_iff, Bool.or_eq_false_iff, Bool.not_eq_true', Bool.not_eq_false', Int.not_lt, Int.not_le] at hc2
          have hkl : k < (List.replicate n s.here ++ List.replicate m s.far).length := by rw [hla]; omega
          refine WC.skip ?_
          refine thenQ_n (hK11 _ _ ?_)
          refine WC.seq (fun K13 hK13 => ?_)
          refine WC.block ?_
          refine WC.seq (fun K14 hK14 => ?_)
          refine WC.draw 7 (.look 0 (.look 1 (.look 2 (.look 3 (.look 4 (.look 5 (.look 6 .nil))))))) (by kernel_rfl) (fun _ _ _ h => h) (fun w1 hw1 => ?_)
          replace hS := hS.bel hw1
          have hS1 := hS
          have hT := St.start w1
          refine ML.look rfl rfl rfl (fun w hw => (by have hS := hS1.bel hw; exact opW.moveV (v := (cutV s.l.v 0 (capV s.l.v) (capV s.l.v) (Enc.sz UInt8))) rfl ⟨rfl, rfl⟩)) ?_
          refine ML.look rfl rfl rfl (fun w hw => (by have hS := hS1.bel hw; exact opW.moveI rfl ⟨rfl, rfl⟩)) ?_
          refine ML.look rfl rfl rfl (fun w hw => (by have hS := hS1.bel hw; exact opW.idxV rfl ((ha.bel hS.old)) rfl (by omega) ⟨rfl, rfl⟩)) ?_
          refine ML.look rfl rfl rfl (fun w hw => (by have hS := hS1.bel hw; exact opW.loadV rfl (((ha.bel hS.old).isPt hkl).ld rfl) ⟨rfl, rfl⟩)) ?_
          refine ML.look rfl rfl rfl (fun w hw => (by have hS := hS1.bel hw; exact opW.fieldAddrB rfl ⟨rfl, rfl⟩)) ?_
          refine ML.look rfl rfl rfl (fun w hw => (by have hS := hS1.bel hw; exact opW.loadV rfl (hS.ld1 (by first | exact .h0 | exact .h1 | exact .h2 | exact .h3 | exact .h4 | exact .h5 | exact .h6 | exact .h7 | exact .h8 | exact .h9 | exact .h10 | exact .h11 | exact .h12 | exact .h13 | exact .h14) (ShByte.at_far _)) ⟨rfl, rfl⟩)) ?_
          refine ML.look rfl rfl rfl (fun w hw => (by have hS := hS1.bel hw; exact opW.neq rfl rfl ⟨rfl, rfl⟩)) ?_
          refine ML.nil ?_
          refine thenQ_n (hK14 _ _ ?_)
          refine WC.cond _ rfl (fun hc3 => ?_) (fun hc3 => ?_)
          ·
            have hr3 := hc3
            try simp only [decide_eq_true_eq, decide_eq_false_iff_not, Bool.and_eq_true, Bool.or_eq_true, Bool.and_eq_false_iff, Bool.or_eq_false_iff, Bool.not_eq_true', Bool.not_eq_false', Int.not_lt, Int.not_le] at hc3
            rw [List.getElem_append_right (by simp; omega)] at hr3
            simp at hr3
          ·
            have hr3 := hc3
            try simp only [decide_eq_true_eq, decide_eq_false_iff_not, Bool.and_eq_true, Bool.or_eq_true, Bool.and_eq_false_iff, Bool.or_eq_false_iff, Bool.not_eq_true', Bool.not_eq_false', Int.not_lt, Int.not_le] at hc3
            refine WC.skip ?_
            refine blockQ_n ?_
            refine thenQ_n (hK13 _ _ ?_)
            refine WC.region ?_
            refine WL.op rfl (opW.moveI rfl ?_)
            refine WL.op rfl (opW.add rfl rfl (wrap_i64 (by omega)) ?_)
            refine WL.op rfl (opW.assignI rfl ?_)
            refine WL.nil ?_
            refine thenQ_n ?_
            exact ⟨n + m - (k + 1), by omega, k + 1, ⟨rfl, rfl, congrArg (Value.int .i64) (by omega), trivial⟩, hS, by omega, by omega, rfl⟩
        ·
          have hr2 := hc2
          try simp only [decide_eq_true_eq, decide_eq_false_iff_not, Bool.and_eq_true, Bool.or_eq_true, Bool.and_eq_false_iff, Bool.or_eq_false_iff, Bool.not_eq_true', Bool.not_eq_false', Int.not_lt, Int.not_le] at hc2
          refine WC.exit ?_
          refine thenQ_e ?_
          refine thenQ_e ?_
          refine blockQ_hit ?_
          refine thenQ_n (hK9 _ _ ?_)
          refine WC.seq (fun K15 hK15 => ?_)
          refine WC.region ?_
          refine WL.op rfl (opW.assignB rfl ?_)
          refine WL.nil ?_
          refine thenQ_n (hK15 _ _ ?_)
          refine WC.ret ?_
          refine bodyQ_ret (.tmpB rfl .nil) ?_
          exact ⟨rfl, hS.old⟩

def pg_Byte (s : ShByte) (xs : List UInt8) (hv : OwnS s.l.v xs.length) : Pg Try.prog where
  iv := ⟨67, .agg (Enc.enc s)⟩
  e0 := ownE s.l.v 5 xs
  e1 := ownE s.l.v 5 (List.replicate xs.length s.here)
  e2 := ownE (cutV s.l.v 0 (capV s.l.v) (capV s.l.v) (Enc.sz UInt8)) 5 (List.replicate xs.length s.here ++ List.replicate ((capV s.l.v) - xs.length) s.far)
  s0 := fun wb S w h => ⟨_, _, _, rfl, inferInstance, inferInstance, inferInstance, signA_Byte wb w S s xs h⟩
  s1 := fun wb S w h => ⟨_, _, _, rfl, inferInstance, inferInstance, inferInstance, by
    have := signB_Byte wb w S s (List.replicate xs.length s.here) (by simpa using hv) h
    simpa using this⟩
  ow := fun wb S w h => ⟨_, _, _, rfl, inferInstance, inferInstance, inferInstance, by
    refine Ret.mono (own_Byte w s xs.length ((capV s.l.v) - xs.length) hv (by have := hv.le.1; omega) (h.sl .here)) fun u w' hu => ⟨hu.1, h.bel hu.2⟩⟩

structure ShKey where
  l : SlV
  here : Vector UInt8 32
  far : Vector UInt8 32
def ShKey.parts (x : ShKey) : List (Array Value) := [#[x.l.v], Enc.enc x.here, Enc.enc x.far]
theorem ShKey.sizes (x : ShKey) : x.parts.map Array.size = [1, 32, 32] := by
  simp only [ShKey.parts, List.map, Enc.size_eq]; rfl
instance : Enc ShKey where
  enc x := joinA x.parts
  sz := 65
  pos := by omega
  size_eq x := by rw [joinA_size, ShKey.sizes]; rfl
  one x := joinA_one (all_cons (Enc.one (α := SlV) _) (all_cons (Enc.one _) (all_cons (Enc.one _) all_nil)))
theorem ShKey.enc_eq (x : ShKey) : Enc.enc x = joinA x.parts := rfl
theorem ShKey.at_l (x : ShKey) : (Enc.enc x)[0]? = some (x.l.v) := joinA_at [] [Enc.enc x.here, Enc.enc x.far] _ (by rw [joinA_size]; simp only [List.map, Enc.size_eq]; rfl)
theorem ShKey.ex_here (x : ShKey) : (Enc.enc x).extract 1 (1 + 32) = Enc.enc x.here := joinA_ex [#[x.l.v]] [Enc.enc x.far] _ (by rw [joinA_size]; simp only [List.map, Enc.size_eq]; rfl) (by rw [Enc.size_eq]; rfl)
theorem ShKey.ex_far (x : ShKey) : (Enc.enc x).extract 33 (33 + 32) = Enc.enc x.far := joinA_ex [#[x.l.v], Enc.enc x.here] [] _ (by rw [joinA_size]; simp only [List.map, Enc.size_eq]; rfl) (by rw [Enc.size_eq]; rfl)
theorem ShKey.set_l (x : ShKey) (v : SlV) : spl (Enc.enc x) 0 #[v.v] = Enc.enc { x with l := v } := by
  have h := spl_join [] [Enc.enc x.here, Enc.enc x.far] (#[x.l.v]) (#[v.v]) (by first | (rw [Enc.size_eq, Enc.size_eq]; done) | rfl)
  rw [show (joinA []).size = 0 from (by rw [joinA_size]; simp only [List.map, Enc.size_eq]; rfl)] at h
  exact h
theorem ShKey.set_here (x : ShKey) (v : Vector UInt8 32) : spl (Enc.enc x) 1 (Enc.enc v) = Enc.enc { x with here := v } := by
  have h := spl_join [#[x.l.v]] [Enc.enc x.far] (Enc.enc x.here) (Enc.enc v) (by first | (rw [Enc.size_eq, Enc.size_eq]; done) | rfl)
  rw [show (joinA [#[x.l.v]]).size = 1 from (by rw [joinA_size]; simp only [List.map, Enc.size_eq]; rfl)] at h
  exact h
theorem ShKey.set_far (x : ShKey) (v : Vector UInt8 32) : spl (Enc.enc x) 33 (Enc.enc v) = Enc.enc { x with far := v } := by
  have h := spl_join [#[x.l.v], Enc.enc x.here] [] (Enc.enc x.far) (Enc.enc v) (by first | (rw [Enc.size_eq, Enc.size_eq]; done) | rfl)
  rw [show (joinA [#[x.l.v], Enc.enc x.here]).size = 33 from (by rw [joinA_size]; simp only [List.map, Enc.size_eq]; rfl)] at h
  exact h
def ShKey.ok (w : World) (x : ShKey) : Prop := (∃ l : List (Vector UInt8 32), SlR w x.l.v l ∧ ∀ e ∈ l, True)
theorem ShKey.ok.bel {w w' : World} {x : ShKey} (hb : Bel w w') (h : ShKey.ok w x) : ShKey.ok w' x := by
  unfold ShKey.ok at h ⊢
  obtain ⟨l0, g0⟩ := h
  exact (⟨_, g0.1.bel hb, fun e he => trivial⟩)
theorem rdw_ShKey : RdW Try.prog 92 ShKey ShKey.ok := by
  intro H enc w fuel cs d ps hr
  obtain ⟨hend, fuel', hf⟩ := rdS Try.underlying92 inferInstance hr
  obtain ⟨d0, ps0, h0⟩ := hf 0 _ 24 0 1 rfl rfl rfl inferInstance
  obtain ⟨x0, e0, i0⟩ := rd_slv (α := Vector UInt8 32) inferInstance rdw_vec inferInstance h0
  obtain ⟨d1, ps1, h1⟩ := hf 1 _ 53 1 32 rfl rfl rfl inferInstance
  obtain ⟨x1, e1, i1⟩ := rd_of rdw_vec h1
  obtain ⟨d2, ps2, h2⟩ := hf 2 _ 53 33 32 rfl rfl rfl inferInstance
  obtain ⟨x2, e2, i2⟩ := rd_of rdw_vec h2
  have k2 := cells_cut e2 hend
  have k1 := cells_cut e1 k2
  have k0 := cells_cut e0 k1
  refine ⟨⟨x0, x1, x2⟩, ?_, i0⟩
  rw [ShKey.enc_eq]; simp only [ShKey.parts, joinA_toList_cons, joinA_nil]
  rw [List.drop_zero] at k0; rw [k0]; try simp

theorem signA_Key (wb w0 : World) (S : List Ent) (s : ShKey) (xs : List (Vector UInt8 32)) (hS0 : St wb (ownE s.l.v 53 xs :: S) w0) : Ret Try.prog 86 #[.agg (Enc.enc s), .bool false] w0 (fun u w' => St wb (ownE s.l.v 53 (List.replicate xs.length s.here) :: S) w') := by
  refine Ret.enter (args := [.agg (Enc.enc s), .bool false]) Try.func86 rfl Try.ntmps86 Try.results86 rfl ?_
  have hS := St.start w0
  replace hS := hS0
  refine WC.seq (fun K1 hK1 => ?_)
  refine WC.region ?_
  refine WL.op rfl (opW.boxA hS rfl ?_)
  intro b2 w _ hS
  refine WL.nil ?_
  refine thenQ_n (hK1 _ _ ?_)
  refine WC.seq (fun K2 hK2 => ?_)
  refine WC.seq (fun K3 hK3 => ?_)
  refine WC.region ?_
  refine WL.op rfl (opW.moveB rfl ?_)
  refine WL.op rfl (opW.not rfl ?_)
  refine WL.nil ?_
  refine thenQ_n (hK3 _ _ ?_)
  refine WC.cond _ rfl (fun hc0 => ?_) (fun hc0 => ?_)
  ·
    have hr0 := hc0
    try simp only [decide_eq_true_eq, decide_eq_false_iff_not, Bool.and_eq_true, Bool.or_eq_true, Bool.and_eq_false_iff, Bool.or_eq_false_iff, Bool.not_eq_true', Bool.not_eq_false', Int.not_lt, Int.not_le] at hc0
    refine WC.seq (fun K4 hK4 => ?_)
    refine WC.seq (fun K5 hK5 => ?_)
    refine WC.region ?_
    refine WL.op rfl (opW.assignI rfl ?_)
    refine WL.nil ?_
    refine thenQ_n (hK5 _ _ ?_)
    refine WC.block ?_
    refine WC.loop (fun q f w => ∃ k : Nat, Fits [(2, .pointer (some ⟨b2, 0, none⟩)), (4, .int .i64 (k : Int))] f ∧ St wb (blkE b2 (Enc.enc s) 92 :: ownE s.l.v 53 (List.replicate k s.here ++ xs.drop k) :: S) w ∧ k ≤ xs.length ∧ q = xs.length - k) (xs.length) ?_ ?_
    ·
      exact ⟨0, ⟨rfl, rfl, trivial⟩, hS, Nat.zero_le _, rfl⟩
    ·
      rintro q f w ⟨k, hfit, hS, hk0, hm⟩
      refine WC.fits _ hfit (fun g => ?_)
      clear hfit
      have hll : (List.replicate k s.here ++ xs.drop k).length = xs.length := rep_len hk0
      have hle : xs.length ≤ maxLen := by rw [← hll]; exact (hS.sl (v := s.l.v) (xs := (List.replicate k s.here ++ xs.drop k)) (by first | exact .h0 | exact .h1 | exact .h2 | exact .h3 | exact .h4 | exact .h5 | exact .h6 | exact .h7 | exact .h8 | exact .h9 | exact .h10 | exact .h11 | exact .h12 | exact .h13 | exact .h14)).le
      simp only [maxLen] at hle
      refine WC.seq (fun K6 hK6 => ?_)
      refine WC.seq (fun K7 hK7 => ?_)
      refine WC.region ?_
      refine WL.op rfl (opW.moveI rfl ?_)
      refine WL.op rfl (opW.fieldAddrB rfl ?_)
      refine WL.op rfl (opW.loadV rfl (hS.ld1 (by first | exact .h0 | exact .h1 | exact .h2 | exact .h3 | exact .h4 | exact .h5 | exact .h6 | exact .h7 | exact .h8 | exact .h9 | exact .h10 | exact .h11 | exact .h12 | exact .h13 | exact .h14) (ShKey.at_l _)) ?_)
      refine WL.op rfl (opW.lenV rfl (hS.sl (v := s.l.v) (xs := (List.replicate k s.here ++ xs.drop k)) (by first | exact .h0 | exact .h1 | exact .h2 | exact .h3 | exact .h4 | exact .h5 | exact .h6 | exact .h7 | exact .h8 | exact .h9 | exact .h10 | exact .h11 | exact .h12 | exact .h13 | exact .h14)) ?_)
      refine WL.op rfl (opW.lss rfl rfl ?_)
      refine WL.nil ?_
      refine thenQ_n (hK7 _ _ ?_)
      refine WC.cond _ rfl (fun hc1 => ?_) (fun hc1 => ?_)
      ·
        have hr1 := hc1
        try simp only [decide_eq_true_eq, decide_eq_false_iff_not, Bool.and_eq_true, Bool.or_eq_true, Bool.and_eq_false_iff, Bool.or_eq_false_iff, Bool.not_eq_true', Bool.not_eq_false', Int.not_lt, Int.not_le] at hc1
        have hkl : k < xs.length := by omega
        refine WC.skip ?_
        refine thenQ_n (hK6 _ _ ?_)
        refine WC.seq (fun K8 hK8 => ?_)
        refine WC.block ?_
        refine WC.region ?_
        refine WL.op rfl (opW.fieldAddrB rfl ?_)
        refine WL.op rfl (opW.loadV rfl (hS.ld1 (by first | exact .h0 | exact .h1 | exact .h2 | exact .h3 | exact .h4 | exact .h5 | exact .h6 | exact .h7 | exact .h8 | exact .h9 | exact .h10 | exact .h11 | exact .h12 | exact .h13 | exact .h14) (ShKey.at_l _)) ?_)
        refine WL.op rfl (opW.moveI rfl ?_)
        refine WL.op rfl (opW.fieldAddrB rfl ?_)
        refine WL.op rfl (opW.loadV rfl (hS.ldF (cs := Enc.enc s) (by first | exact .h0 | exact .h1 | exact .h2 | exact .h3 | exact .h4 | exact .h5 | exact .h6 | exact .h7 | exact .h8 | exact .h9 | exact .h10 | exact .h11 | exact .h12 | exact .h13 | exact .h14) (ShKey.ex_here _) (by rw [Enc.size_eq]; decide)) ?_)
        refine WL.op rfl (opW.idxV rfl (hS.sl (v := s.l.v) (xs := (List.replicate k s.here ++ xs.drop k)) (by first | exact .h0 | exact .h1 | exact .h2 | exact .h3 | exact .h4 | exact .h5 | exact .h6 | exact .h7 | exact .h8 | exact .h9 | exact .h10 | exact .h11 | exact .h12 | exact .h13 | exact .h14)) rfl (by omega) ?_)
        refine WL.op0 (opW.storeOwn (v := s.l.v) (u := .agg (Enc.enc s.here)) (xs := (List.replicate k s.here ++ xs.drop k)) (i := k) (off := 0) (y' := s.here) hS (by first | exact .h0 | exact .h1 | exact .h2 | exact .h3 | exact .h4 | exact .h5 | exact .h6 | exact .h7 | exact .h8 | exact .h9 | exact .h10 | exact .h11 | exact .h12 | exact .h13 | exact .h14) (by omega) (ptrAdd_zero s.l.v k (Enc.sz (Vector UInt8 32))).symm rfl (by first | exact Enc.size_eq (α := (Vector UInt8 32)) s.here | rfl) (by first | exact Nat.le_refl _ | decide) (Enc.one s.here) (spl_all (by rw [Enc.size_eq]; first | exact Enc.size_eq (α := (Vector UInt8 32)) s.here | rfl)) ?_)
        intro w hS; replace hS := hS _ (by first | exact .h0 | exact .h1 | exact .h2 | exact .h3 | exact .h4 | exact .h5 | exact .h6 | exact .h7 | exact .h8 | exact .h9 | exact .h10 | exact .h11 | exact .h12 | exact .h13 | exact .h14)
        refine WL.nil ?_
        refine blockQ_n ?_
        refine thenQ_n (hK8 _ _ ?_)
        refine WC.region ?_
        refine WL.op rfl (opW.moveI rfl ?_)
        refine WL.op rfl (opW.add rfl rfl (wrap_i64 (by omega)) ?_)
        refine WL.op rfl (opW.assignI rfl ?_)
        refine WL.nil ?_
        refine thenQ_n ?_
        rw [rep_set hkl] at hS
        exact ⟨xs.length - (k + 1), by omega, k + 1, ⟨rfl, congrArg (Value.int .i64) (by omega), trivial⟩, hS, by omega, rfl⟩
      ·
        have hr1 := hc1
        try simp only [decide_eq_true_eq, decide_eq_false_iff_not, Bool.and_eq_true, Bool.or_eq_true, Bool.and_eq_false_iff, Bool.or_eq_false_iff, Bool.not_eq_true', Bool.not_eq_false', Int.not_lt, Int.not_le] at hc1
        obtain rfl : k = xs.length := by omega
        rw [List.drop_length, List.append_nil] at hS
        refine WC.exit ?_
        refine thenQ_e ?_
        refine thenQ_e ?_
        refine blockQ_hit ?_
        refine thenQ_n (hK4 _ _ ?_)
        refine WC.ret ?_
        refine thenQ_r ?_
        refine bodyQ_ret .nil ?_
        exact hS.drop1
  ·
    have hr0 := hc0
    try simp only [decide_eq_true_eq, decide_eq_false_iff_not, Bool.and_eq_true, Bool.or_eq_true, Bool.and_eq_false_iff, Bool.or_eq_false_iff, Bool.not_eq_true', Bool.not_eq_false', Int.not_lt, Int.not_le] at hc0
    simp at hr0

theorem signB_Key (wb w0 : World) (S : List Ent) (s : ShKey) (xs : List (Vector UInt8 32)) (hv : OwnS s.l.v xs.length) (hS0 : St wb (ownE s.l.v 53 xs :: S) w0) : Ret Try.prog 86 #[.agg (Enc.enc s), .bool true] w0 (fun u w' => St wb (ownE (cutV s.l.v 0 (capV s.l.v) (capV s.l.v) (Enc.sz (Vector UInt8 32))) 53 (xs ++ List.replicate ((capV s.l.v) - xs.length) s.far) :: S) w') := by
  refine Ret.enter (args := [.agg (Enc.enc s), .bool true]) Try.func86 rfl Try.ntmps86 Try.results86 rfl ?_
  have hS := St.start w0
  replace hS := hS0
  refine WC.seq (fun K1 hK1 => ?_)
  refine WC.region ?_
  refine WL.op rfl (opW.boxA hS rfl ?_)
  intro b2 w _ hS
  refine WL.nil ?_
  refine thenQ_n (hK1 _ _ ?_)
  refine WC.seq (fun K2 hK2 => ?_)
  refine WC.seq (fun K3 hK3 => ?_)
  refine WC.region ?_
  refine WL.op rfl (opW.moveB rfl ?_)
  refine WL.op rfl (opW.not rfl ?_)
  refine WL.nil ?_
  refine thenQ_n (hK3 _ _ ?_)
  refine WC.cond _ rfl (fun hc0 => ?_) (fun hc0 => ?_)
  ·
    have hr0 := hc0
    try simp only [decide_eq_true_eq, decide_eq_false_iff_not, Bool.and_eq_true, Bool.or_eq_true, Bool.and_eq_false_iff, Bool.or_eq_false_iff, Bool.not_eq_true', Bool.not_eq_false', Int.not_lt, Int.not_le] at hc0
    simp at hr0
  ·
    have hr0 := hc0
    try simp only [decide_eq_true_eq, decide_eq_false_iff_not, Bool.and_eq_true, Bool.or_eq_true, Bool.and_eq_false_iff, Bool.or_eq_false_iff, Bool.not_eq_true', Bool.not_eq_false', Int.not_lt, Int.not_le] at hc0
    refine WC.skip ?_
    refine thenQ_n (hK2 _ _ ?_)
    refine WC.seq (fun K4 hK4 => ?_)
    refine WC.region ?_
    refine WL.op rfl (opW.fieldAddrB rfl ?_)
    refine WL.op rfl (opW.loadV rfl (hS.ld1 (by first | exact .h0 | exact .h1 | exact .h2 | exact .h3 | exact .h4 | exact .h5 | exact .h6 | exact .h7 | exact .h8 | exact .h9 | exact .h10 | exact .h11 | exact .h12 | exact .h13 | exact .h14) (ShKey.at_l _)) ?_)
    refine WL.op rfl (opW.fieldAddrB rfl ?_)
    refine WL.op rfl (opW.loadV rfl (hS.ld1 (by first | exact .h0 | exact .h1 | exact .h2 | exact .h3 | exact .h4 | exact .h5 | exact .h6 | exact .h7 | exact .h8 | exact .h9 | exact .h10 | exact .h11 | exact .h12 | exact .h13 | exact .h14) (ShKey.at_l _)) ?_)
    refine WL.op rfl (opW.cap (v := s.l.v) rfl (hS.sl (v := s.l.v) (xs := xs) (by first | exact .h0 | exact .h1 | exact .h2 | exact .h3 | exact .h4 | exact .h5 | exact .h6 | exact .h7 | exact .h8 | exact .h9 | exact .h10 | exact .h11 | exact .h12 | exact .h13 | exact .h14)) ?_)
    refine WL.op rfl (opW.cutS (l := 0) (h' := (capV s.l.v)) (m := (capV s.l.v)) (hS.sl (v := s.l.v) (xs := xs) (by first | exact .h0 | exact .h1 | exact .h2 | exact .h3 | exact .h4 | exact .h5 | exact .h6 | exact .h7 | exact .h8 | exact .h9 | exact .h10 | exact .h11 | exact .h12 | exact .h13 | exact .h14)) ⟨rfl, Nat.le_refl _⟩ ⟨⟨_, rfl⟩, Nat.le_refl _⟩ ⟨rfl, Nat.zero_le _⟩ ?_)
    refine WL.op rfl (opW.assignV (v := (cutV s.l.v 0 (capV s.l.v) (capV s.l.v) (Enc.sz (Vector UInt8 32)))) rfl ?_)
    refine WL.nil ?_
    refine thenQ_n (hK4 _ _ ?_)
    refine WC.seq (fun K5 hK5 => ?_)
    refine WC.region ?_
    refine WL.op rfl (opW.fieldAddrB rfl ?_)
    refine WL.op rfl (opW.loadV rfl (hS.ld1 (by first | exact .h0 | exact .h1 | exact .h2 | exact .h3 | exact .h4 | exact .h5 | exact .h6 | exact .h7 | exact .h8 | exact .h9 | exact .h10 | exact .h11 | exact .h12 | exact .h13 | exact .h14) (ShKey.at_l _)) ?_)
    refine WL.op rfl (opW.lenV rfl (hS.sl (v := s.l.v) (xs := xs) (by first | exact .h0 | exact .h1 | exact .h2 | exact .h3 | exact .h4 | exact .h5 | exact .h6 | exact .h7 | exact .h8 | exact .h9 | exact .h10 | exact .h11 | exact .h12 | exact .h13 | exact .h14)) ?_)
    refine WL.op rfl (opW.assignI rfl ?_)
    refine WL.nil ?_
    refine thenQ_n (hK5 _ _ ?_)
    refine WC.block ?_
    refine WC.loop (fun q f w => ∃ k : Nat, Fits [(2, .pointer (some ⟨b2, 0, none⟩)), (5, (cutV s.l.v 0 (capV s.l.v) (capV s.l.v) (Enc.sz (Vector UInt8 32)))), (6, .int .i64 (k : Int))] f ∧ St wb (blkE b2 (Enc.enc s) 92 :: ownE (cutV s.l.v 0 k (capV s.l.v) (Enc.sz (Vector UInt8 32))) 53 (xs ++ List.replicate (k - xs.length) s.far) :: S) w ∧ xs.length ≤ k ∧ k ≤ (capV s.l.v) ∧ q = (capV s.l.v) - k) ((capV s.l.v) - xs.length) ?_ ?_
    ·
      refine ⟨xs.length, ⟨rfl, rfl, rfl, trivial⟩, ?_, Nat.le_refl _, hv.le.1, rfl⟩
      have h1 := hS.ownFront (k := xs.length) (m := (capV s.l.v)) (S' := (blkE b2 (Enc.enc s) 92 :: ownE (cutV s.l.v 0 xs.length (capV s.l.v) (Enc.sz (Vector UInt8 32))) 53 (xs.take xs.length) :: S)) (Nat.le_refl _) hv.le.1 (Nat.le_refl _) (.there .here)
      rw [List.take_length] at h1
      rw [Nat.sub_self, List.replicate_zero, List.append_nil]; exact h1
    ·
      rintro q f w ⟨k, hfit, hS, hk0, hk1, hm⟩
      refine WC.fits _ hfit (fun g => ?_)
      clear hfit
      have hll : (xs ++ List.replicate (k - xs.length) s.far).length = k := by simp; omega
      have hcc : capV (cutV s.l.v 0 k (capV s.l.v) (Enc.sz (Vector UInt8 32))) = (capV s.l.v) := capV_cut0 _ _ _ _ hv.isS
      have hle := hv.le.2
      simp only [maxLen] at hle
      refine WC.seq (fun K6 hK6 => ?_)
      refine WC.seq (fun K7 hK7 => ?_)
      refine WC.region ?_
      refine WL.op rfl (opW.moveI rfl ?_)
      refine WL.op rfl (opW.moveV (v := (cutV s.l.v 0 (capV s.l.v) (capV s.l.v) (Enc.sz (Vector UInt8 32)))) rfl ?_)
      refine WL.op rfl (opW.lenCut hv rfl ?_)
      refine WL.op rfl (opW.lss rfl rfl ?_)
      refine WL.nil ?_
      refine thenQ_n (hK7 _ _ ?_)
      refine WC.cond _ rfl (fun hc2 => ?_) (fun hc2 => ?_)
      ·
        have hr2 := hc2
        try simp only [decide_eq_true_eq, decide_eq_false_iff_not, Bool.and_eq_true, Bool.or_eq_true, Bool.and_eq_false_iff, Bool.or_eq_false_iff, Bool.not_eq_true', Bool.not_eq_false', Int.not_lt, Int.not_le] at hc2
        have hkl : k < (capV s.l.v) := by omega
        refine WC.skip ?_
        refine thenQ_n (hK6 _ _ ?_)
        refine WC.seq (fun K8 hK8 => ?_)
        refine WC.block ?_
        refine WC.region ?_
        refine WL.op rfl (opW.moveV (v := (cutV s.l.v 0 (capV s.l.v) (capV s.l.v) (Enc.sz (Vector UInt8 32)))) rfl ?_)
        refine WL.op rfl (opW.moveI rfl ?_)
        refine WL.op rfl (opW.fieldAddrB rfl ?_)
        refine WL.op rfl (opW.loadV rfl (hS.ldF (cs := Enc.enc s) (by first | exact .h0 | exact .h1 | exact .h2 | exact .h3 | exact .h4 | exact .h5 | exact .h6 | exact .h7 | exact .h8 | exact .h9 | exact .h10 | exact .h11 | exact .h12 | exact .h13 | exact .h14) (ShKey.ex_far _) (by rw [Enc.size_eq]; decide)) ?_)
        refine WL.op rfl (opW.idxCut (α := (Vector UInt8 32)) hv rfl rfl (by omega) (Nat.le_refl _) ?_)
        refine WL.op0 (opW.storeRoom (v := (cutV s.l.v 0 k (capV s.l.v) (Enc.sz (Vector UInt8 32)))) (xs := (xs ++ List.replicate (k - xs.length) s.far)) (y' := s.far) hS (by first | exact .h0 | exact .h1 | exact .h2 | exact .h3 | exact .h4 | exact .h5 | exact .h6 | exact .h7 | exact .h8 | exact .h9 | exact .h10 | exact .h11 | exact .h12 | exact .h13 | exact .h14) (by rw [hcc, hll]; exact hkl) (by rw [elemP_cut0, hll]; rfl) rfl rfl ?_)
        intro w hS; replace hS := hS _ (by first | exact .h0 | exact .h1 | exact .h2 | exact .h3 | exact .h4 | exact .h5 | exact .h6 | exact .h7 | exact .h8 | exact .h9 | exact .h10 | exact .h11 | exact .h12 | exact .h13 | exact .h14)
        refine WL.nil ?_
        refine blockQ_n ?_
        refine thenQ_n (hK8 _ _ ?_)
        refine WC.region ?_
        refine WL.op rfl (opW.moveI rfl ?_)
        refine WL.op rfl (opW.add rfl rfl (wrap_i64 (by omega)) ?_)
        refine WL.op rfl (opW.assignI rfl ?_)
        refine WL.nil ?_
        refine thenQ_n ?_
        rw [hcc, hll, cutV_cut0, rep_room hk0] at hS
        exact ⟨(capV s.l.v) - (k + 1), by omega, k + 1, ⟨rfl, rfl, congrArg (Value.int .i64) (by omega), trivial⟩, hS, by omega, by omega, rfl⟩
      ·
        have hr2 := hc2
        try simp only [decide_eq_true_eq, decide_eq_false_iff_not, Bool.and_eq_true, Bool.or_eq_true, Bool.and_eq_false_iff, Bool.or_eq_false_iff, Bool.not_eq_true', Bool.not_eq_false', Int.not_lt, Int.not_le] at hc2
        obtain rfl : k = (capV s.l.v) := by omega
        refine WC.exit ?_
        refine thenQ_e ?_
        refine thenQ_e ?_
        refine blockQ_hit ?_
        refine bodyQ_end .nil ?_
        exact hS.drop1

theorem own_Key (w0 : World) (s : ShKey) (n m : Nat) (hv : OwnS s.l.v n) (hm : n + m = (capV s.l.v)) (ha : SlR w0 (cutV s.l.v 0 (capV s.l.v) (capV s.l.v) (Enc.sz (Vector UInt8 32))) (List.replicate n s.here ++ List.replicate m s.far)) : Ret Try.prog 85 #[.agg (Enc.enc s)] w0 (fun u w' => u = .bool true ∧ Bel w0 w') := by
  refine Ret.enter (args := [.agg (Enc.enc s)]) Try.func85 rfl Try.ntmps85 Try.results85 rfl ?_
  have hS := St.start w0
  have hs : SlR w0 s.l.v (List.replicate n s.here) := by
    refine SlR.uncut (ys := List.replicate m s.far) (by simpa using hv) ?_
    have e : (List.replicate n s.here ++ List.replicate m s.far).length = (capV s.l.v) := by simp; exact hm
    rw [e]; exact ha
  have hln : (List.replicate n s.here).length = n := by simp
  have hla : (List.replicate n s.here ++ List.replicate m s.far).length = n + m := by simp
  have hle := ha.le
  simp only [maxLen] at hle
  refine WC.seq (fun K1 hK1 => ?_)
  refine WC.region ?_
  refine WL.op rfl (opW.boxA hS rfl ?_)
  intro b1 w _ hS
  refine WL.op rfl (opW.assignB rfl ?_)
  refine WL.nil ?_
  refine thenQ_n (hK1 _ _ ?_)
  refine WC.seq (fun K2 hK2 => ?_)
  refine WC.seq (fun K3 hK3 => ?_)
  refine WC.region ?_
  refine WL.op rfl (opW.assignI rfl ?_)
  refine WL.nil ?_
  refine thenQ_n (hK3 _ _ ?_)
  refine WC.block ?_
  refine WC.loop (fun q f w => ∃ k : Nat, Fits [(1, .pointer (some ⟨b1, 0, none⟩)), (3, .int .i64 (k : Int))] f ∧ St w0 [blkE b1 (Enc.enc s) 92] w ∧ k ≤ n ∧ q = n - k) (n) ?_ ?_
  ·
    exact ⟨0, ⟨rfl, rfl, trivial⟩, hS, Nat.zero_le _, rfl⟩
  ·
    rintro q f w ⟨k, hfit, hS, hk0, hm1⟩
    refine WC.fits _ hfit (fun g => ?_)
    clear hfit
    refine WC.seq (fun K4 hK4 => ?_)
    refine WC.seq (fun K5 hK5 => ?_)
    refine WC.region ?_
    refine WL.op rfl (opW.moveI rfl ?_)
    refine WL.op rfl (opW.fieldAddrB rfl ?_)
    refine WL.op rfl (opW.loadV rfl (hS.ld1 (by first | exact .h0 | exact .h1 | exact .h2 | exact .h3 | exact .h4 | exact .h5 | exact .h6 | exact .h7 | exact .h8 | exact .h9 | exact .h10 | exact .h11 | exact .h12 | exact .h13 | exact .h14) (ShKey.at_l _)) ?_)
    refine WL.op rfl (opW.lenV rfl ((hs.bel hS.old)) ?_)
    refine WL.op rfl (opW.lss rfl rfl ?_)
    refine WL.nil ?_
    refine thenQ_n (hK5 _ _ ?_)
    refine WC.cond _ rfl (fun hc0 => ?_) (fun hc0 => ?_)
    ·
      have hr0 := hc0
      try simp only [decide_eq_true_eq, decide_eq_false_iff_not, Bool.and_eq_true, Bool.or_eq_true, Bool.and_eq_false_iff, Bool.or_eq_false_iff, Bool.not_eq_true', Bool.not_eq_false', Int.not_lt, Int.not_le] at hc0
      have hkl : k < (List.replicate n s.here).length := by rw [hln]; omega
      refine WC.skip ?_
      refine thenQ_n (hK4 _ _ ?_)
      refine WC.seq (fun K6 hK6 => ?_)
      refine WC.block ?_
      refine WC.seq (fun K7 hK7 => ?_)
      refine WC.draw 8 (.look 0 (.look 1 (.look 2 (.look 3 (.look 4 (.look 5 (.look 6 (.look 7 .nil)))))))) (by kernel_rfl) (fun _ _ _ h => h) (fun w1 hw1 => ?_)
      replace hS := hS.bel hw1
      have hS1 := hS
      have hT := St.start w1
      refine ML.look rfl rfl rfl (fun w hw => (by have hS := hS1.bel hw; exact opW.fieldAddrB rfl ⟨rfl, rfl⟩)) ?_
      refine ML.look rfl rfl rfl (fun w hw => (by have hS := hS1.bel hw; exact opW.loadV rfl (hS.ld1 (by first | exact .h0 | exact .h1 | exact .h2 | exact .h3 | exact .h4 | exact .h5 | exact .h6 | exact .h7 | exact .h8 | exact .h9 | exact .h10 | exact .h11 | exact .h12 | exact .h13 | exact .h14) (ShKey.at_l _)) ⟨rfl, rfl⟩)) ?_
      refine ML.look rfl rfl rfl (fun w hw => (by have hS := hS1.bel hw; exact opW.moveI rfl ⟨rfl, rfl⟩)) ?_
      refine ML.look rfl rfl rfl (fun w hw => (by have hS := hS1.bel hw; exact opW.idxV rfl ((hs.bel hS.old)) rfl (by omega) ⟨rfl, rfl⟩)) ?_
      refine ML.look rfl rfl rfl (fun w hw => (by have hS := hS1.bel hw; exact opW.loadV rfl (((hs.bel hS.old).isPt hkl).ldA (Enc.size_eq _)) ⟨rfl, rfl⟩)) ?_
      refine ML.look rfl rfl rfl (fun w hw => (by have hS := hS1.bel hw; exact opW.fieldAddrB rfl ⟨rfl, rfl⟩)) ?_
      refine ML.look rfl rfl rfl (fun w hw => (by have hS := hS1.bel hw; exact opW.loadV rfl (hS.ldF (cs := Enc.enc s) (by first | exact .h0 | exact .h1 | exact .h2 | exact .h3 | exact .h4 | exact .h5 | exact .h6 | exact .h7 | exact .h8 | exact .h9 | exact .h10 | exact .h11 | exact .h12 | exact .h13 | exact .h14) (ShKey.ex_here _) (by rw [Enc.size_eq]; decide)) ⟨rfl, rfl⟩)) ?_
      refine ML.look rfl rfl rfl (fun w hw => (by have hS := hS1.bel hw; exact opW.neqE rfl rfl ⟨rfl, rfl⟩)) ?_
      refine ML.nil ?_
      refine thenQ_n (hK7 _ _ ?_)
      refine WC.cond _ rfl (fun hc1 => ?_) (fun hc1 => ?_)
      ·
        have hr1 := hc1
        try simp only [decide_eq_true_eq, decide_eq_false_iff_not, Bool.and_eq_true, Bool.or_eq_true, Bool.and_eq_false_iff, Bool.or_eq_false_iff, Bool.not_eq_true', Bool.not_eq_false', Int.not_lt, Int.not_le] at hc1
        simp at hr1
      ·
        have hr1 := hc1
        try simp only [decide_eq_true_eq, decide_eq_false_iff_not, Bool.and_eq_true, Bool.or_eq_true, Bool.and_eq_false_iff, Bool.or_eq_false_iff, Bool.not_eq_true', Bool.not_eq_false', Int.not_lt, Int.not_le] at hc1
        refine WC.skip ?_
        refine blockQ_n ?_
        refine thenQ_n (hK6 _ _ ?_)
        refine WC.region ?_
        refine WL.op rfl (opW.moveI rfl ?_)
        refine WL.op rfl (opW.add rfl rfl (wrap_i64 (by omega)) ?_)
        refine WL.op rfl (opW.assignI rfl ?_)
        refine WL.nil ?_
        refine thenQ_n ?_
        exact ⟨n - (k + 1), by omega, k + 1, ⟨rfl, congrArg (Value.int .i64) (by omega), trivial⟩, hS, by omega, rfl⟩
    ·
      have hr0 := hc0
      try simp only [decide_eq_true_eq, decide_eq_false_iff_not, Bool.and_eq_true, Bool.or_eq_true, Bool.and_eq_false_iff, Bool.or_eq_false_iff, Bool.not_eq_true', Bool.not_eq_false', Int.not_lt, Int.not_le] at hc0
      refine WC.exit ?_
      refine thenQ_e ?_
      refine thenQ_e ?_
      refine blockQ_hit ?_
      refine thenQ_n (hK2 _ _ ?_)
      refine WC.seq (fun K8 hK8 => ?_)
      refine WC.region ?_
      refine WL.op rfl (opW.fieldAddrB rfl ?_)
      refine WL.op rfl (opW.loadV rfl (hS.ld1 (by first | exact .h0 | exact .h1 | exact .h2 | exact .h3 | exact .h4 | exact .h5 | exact .h6 | exact .h7 | exact .h8 | exact .h9 | exact .h10 | exact .h11 | exact .h12 | exact .h13 | exact .h14) (ShKey.at_l _)) ?_)
      refine WL.op rfl (opW.fieldAddrB rfl ?_)
      refine WL.op rfl (opW.loadV rfl (hS.ld1 (by first | exact .h0 | exact .h1 | exact .h2 | exact .h3 | exact .h4 | exact .h5 | exact .h6 | exact .h7 | exact .h8 | exact .h9 | exact .h10 | exact .h11 | exact .h12 | exact .h13 | exact .h14) (ShKey.at_l _)) ?_)
      refine WL.op rfl (opW.cap (v := s.l.v) rfl (hs.bel hS.old) ?_)
      refine WL.op rfl (opW.cutS (l := 0) (h' := (capV s.l.v)) (m := (capV s.l.v)) (hs.bel hS.old) ⟨rfl, Nat.le_refl _⟩ ⟨⟨_, rfl⟩, Nat.le_refl _⟩ ⟨rfl, Nat.zero_le _⟩ ?_)
      refine WL.op rfl (opW.assignV (v := (cutV s.l.v 0 (capV s.l.v) (capV s.l.v) (Enc.sz (Vector UInt8 32)))) rfl ?_)
      refine WL.nil ?_
      refine thenQ_n (hK8 _ _ ?_)
      refine WC.seq (fun K9 hK9 => ?_)
      refine WC.seq (fun K10 hK10 => ?_)
      refine WC.region ?_
      refine WL.op rfl (opW.fieldAddrB rfl ?_)
      refine WL.op rfl (opW.loadV rfl (hS.ld1 (by first | exact .h0 | exact .h1 | exact .h2 | exact .h3 | exact .h4 | exact .h5 | exact .h6 | exact .h7 | exact .h8 | exact .h9 | exact .h10 | exact .h11 | exact .h12 | exact .h13 | exact .h14) (ShKey.at_l _)) ?_)
      refine WL.op rfl (opW.lenV rfl ((hs.bel hS.old)) ?_)
      refine WL.op rfl (opW.assignI rfl ?_)
      refine WL.nil ?_
      refine thenQ_n (hK10 _ _ ?_)
      refine WC.block ?_
      refine WC.loop (fun q f w => ∃ k : Nat, Fits [(1, .pointer (some ⟨b1, 0, none⟩)), (4, (cutV s.l.v 0 (capV s.l.v) (capV s.l.v) (Enc.sz (Vector UInt8 32)))), (5, .int .i64 (k : Int))] f ∧ St w0 [blkE b1 (Enc.enc s) 92] w ∧ n ≤ k ∧ k ≤ n + m ∧ q = n + m - k) (n + m - n) ?_ ?_
      ·
        exact ⟨n, ⟨rfl, rfl, congrArg (fun i : Nat => Value.int .i64 (i : Int)) hln, trivial⟩, hS, Nat.le_refl _, by omega, rfl⟩
      ·
        rintro q f w ⟨k, hfit, hS, hk0, hk1, hm1⟩
        refine WC.fits _ hfit (fun g => ?_)
        clear hfit
        refine WC.seq (fun K11 hK11 => ?_)
        refine WC.seq (fun K12 hK12 => ?_)
        refine WC.region ?_
        refine WL.op rfl (opW.moveI rfl ?_)
        refine WL.op rfl (opW.moveV (v := (cutV s.l.v 0 (capV s.l.v) (capV s.l.v) (Enc.sz (Vector UInt8 32)))) rfl ?_)
        refine WL.op rfl (opW.lenV rfl ((ha.bel hS.old)) ?_)
        refine WL.op rfl (opW.lss rfl rfl ?_)
        refine WL.nil ?_
        refine thenQ_n (hK12 _ _ ?_)
        refine WC.cond _ rfl (fun hc2 => ?_) (fun hc2 => ?_)
        ·
          have hr2 := hc2
          try simp only [decide_eq_true_eq, decide_eq_false_iff_not, Bool.and_eq_true, Bool.or_eq_true, Bool.and_eq_false_iff, Bool.or_eq_false_iff, Bool.not_eq_true', Bool.not_eq_false', Int.not_lt, Int.not_le] at hc2
          have hkl : k < (List.replicate n s.here ++ List.replicate m s.far).length := by rw [hla]; omega
          refine WC.skip ?_
          refine thenQ_n (hK11 _ _ ?_)
          refine WC.seq (fun K13 hK13 => ?_)
          refine WC.block ?_
          refine WC.seq (fun K14 hK14 => ?_)
          refine WC.draw 7 (.look 0 (.look 1 (.look 2 (.look 3 (.look 4 (.look 5 (.look 6 .nil))))))) (by kernel_rfl) (fun _ _ _ h => h) (fun w1 hw1 => ?_)
          replace hS := hS.bel hw1
          have hS1 := hS
          have hT := St.start w1
          refine ML.look rfl rfl rfl (fun w hw => (by have hS := hS1.bel hw; exact opW.moveV (v := (cutV s.l.v 0 (capV s.l.v) (capV s.l.v) (Enc.sz (Vector UInt8 32)))) rfl ⟨rfl, rfl⟩)) ?_
          refine ML.look rfl rfl rfl (fun w hw => (by have hS := hS1.bel hw; exact opW.moveI rfl ⟨rfl, rfl⟩)) ?_
          refine ML.look rfl rfl rfl (fun w hw => (by have hS := hS1.bel hw; exact opW.idxV rfl ((ha.bel hS.old)) rfl (by omega) ⟨rfl, rfl⟩)) ?_
          refine ML.look rfl rfl rfl (fun w hw => (by have hS := hS1.bel hw; exact opW.loadV rfl (((ha.bel hS.old).isPt hkl).ldA (Enc.size_eq _)) ⟨rfl, rfl⟩)) ?_
          refine ML.look rfl rfl rfl (fun w hw => (by have hS := hS1.bel hw; exact opW.fieldAddrB rfl ⟨rfl, rfl⟩)) ?_
          refine ML.look rfl rfl rfl (fun w hw => (by have hS := hS1.bel hw; exact opW.loadV rfl (hS.ldF (cs := Enc.enc s) (by first | exact .h0 | exact .h1 | exact .h2 | exact .h3 | exact .h4 | exact .h5 | exact .h6 | exact .h7 | exact .h8 | exact .h9 | exact .h10 | exact .h11 | exact .h12 | exact .h13 | exact .h14) (ShKey.ex_far _) (by rw [Enc.size_eq]; decide)) ⟨rfl, rfl⟩)) ?_
          refine ML.look rfl rfl rfl (fun w hw => (by have hS := hS1.bel hw; exact opW.neqE rfl rfl ⟨rfl, rfl⟩)) ?_
          refine ML.nil ?_
          refine thenQ_n (hK14 _ _ ?_)
          refine WC.cond _ rfl (fun hc3 => ?_) (fun hc3 => ?_)
          ·
            have hr3 := hc3
            try simp only [decide_eq_true_eq, decide_eq_false_iff_not, Bool.and_eq_true, Bool.or_eq_true, Bool.and_eq_false_iff, Bool.or_eq_false_iff, Bool.not_eq_true', Bool.not_eq_false', Int.not_lt, Int.not_le] at hc3
            rw [List.getElem_append_right (by simp; omega)] at hr3
            simp at hr3
          ·
            have hr3 := hc3
            try simp only [decide_eq_true_eq, decide_eq_false_iff_not, Bool.and_eq_true, Bool.or_eq_true, Bool.and_eq_false_iff, Bool.or_eq_false_iff, Bool.not_eq_true', Bool.not_eq_false', Int.not_lt, Int.not_le] at hc3
            refine WC.skip ?_
            refine blockQ_n ?_
            refine thenQ_n (hK13 _ _ ?_)
            refine WC.region ?_
            refine WL.op rfl (opW.moveI rfl ?_)
            refine WL.op rfl (opW.add rfl rfl (wrap_i64 (by omega)) ?_)
            refine WL.op rfl (opW.assignI rfl ?_)
            refine WL.nil ?_
            refine thenQ_n ?_
            exact ⟨n + m - (k + 1), by omega, k + 1, ⟨rfl, rfl, congrArg (Value.int .i64) (by omega), trivial⟩, hS, by omega, by omega, rfl⟩
        ·
          have hr2 := hc2
          try simp only [decide_eq_true_eq, decide_eq_false_iff_not, Bool.and_eq_true, Bool.or_eq_true, Bool.and_eq_false_iff, Bool.or_eq_false_iff, Bool.not_eq_true', Bool.not_eq_false', Int.not_lt, Int.not_le] at hc2
          refine WC.exit ?_
          refine thenQ_e ?_
          refine thenQ_e ?_
          refine blockQ_hit ?_
          refine thenQ_n (hK9 _ _ ?_)
          refine WC.seq (fun K15 hK15 => ?_)
          refine WC.region ?_
          refine WL.op rfl (opW.assignB rfl ?_)
          refine WL.nil ?_
          refine thenQ_n (hK15 _ _ ?_)
          refine WC.ret ?_
          refine bodyQ_ret (.tmpB rfl .nil) ?_
          exact ⟨rfl, hS.old⟩

def pg_Key (s : ShKey) (xs : List (Vector UInt8 32)) (hv : OwnS s.l.v xs.length) : Pg Try.prog where
  iv := ⟨92, .agg (Enc.enc s)⟩
  e0 := ownE s.l.v 53 xs
  e1 := ownE s.l.v 53 (List.replicate xs.length s.here)
  e2 := ownE (cutV s.l.v 0 (capV s.l.v) (capV s.l.v) (Enc.sz (Vector UInt8 32))) 53 (List.replicate xs.length s.here ++ List.replicate ((capV s.l.v) - xs.length) s.far)
  s0 := fun wb S w h => ⟨_, _, _, rfl, inferInstance, inferInstance, inferInstance, signA_Key wb w S s xs h⟩
  s1 := fun wb S w h => ⟨_, _, _, rfl, inferInstance, inferInstance, inferInstance, by
    have := signB_Key wb w S s (List.replicate xs.length s.here) (by simpa using hv) h
    simpa using this⟩
  ow := fun wb S w h => ⟨_, _, _, rfl, inferInstance, inferInstance, inferInstance, by
    refine Ret.mono (own_Key w s xs.length ((capV s.l.v) - xs.length) hv (by have := hv.le.1; omega) (h.sl .here)) fun u w' hu => ⟨hu.1, h.bel hu.2⟩⟩

structure BookS where
  pages : SlV
def BookS.parts (x : BookS) : List (Array Value) := [#[x.pages.v]]
theorem BookS.sizes (x : BookS) : x.parts.map Array.size = [1] := by
  simp only [BookS.parts, List.map, Enc.size_eq]; rfl
instance : Enc BookS where
  enc x := joinA x.parts
  sz := 1
  pos := by omega
  size_eq x := by rw [joinA_size, BookS.sizes]; rfl
  one x := joinA_one (all_cons (Enc.one (α := SlV) _) all_nil)
theorem BookS.enc_eq (x : BookS) : Enc.enc x = joinA x.parts := rfl
theorem BookS.at_pages (x : BookS) : (Enc.enc x)[0]? = some (x.pages.v) := joinA_at [] [] _ (by rw [joinA_size]; simp only [List.map, Enc.size_eq]; rfl)
theorem BookS.set_pages (x : BookS) (v : SlV) : spl (Enc.enc x) 0 #[v.v] = Enc.enc { x with pages := v } := by
  have h := spl_join [] [] (#[x.pages.v]) (#[v.v]) (by first | (rw [Enc.size_eq, Enc.size_eq]; done) | rfl)
  rw [show (joinA []).size = 0 from (by rw [joinA_size]; simp only [List.map, Enc.size_eq]; rfl)] at h
  exact h

@[irreducible] def bkE (p : Nat) (sv : SlV) (pgs : List (Pg Try.prog)) : Ent := starE ([blkE p (Enc.enc (BookS.mk sv)) 42, ownE sv.v 69 (pgs.map Pg.iv)] ++ pgs.map Pg.e0)
theorem St.bkOpen {w0 w : World} {S : List Ent} {p : Nat} {sv : SlV} {pgs : List (Pg Try.prog)} (h : St w0 (bkE p sv pgs :: S) w) : St w0 (blkE p (Enc.enc (BookS.mk sv)) 42 :: ownE sv.v 69 (pgs.map Pg.iv) :: (pgs.map Pg.e0 ++ S)) w := by
  unfold bkE at h
  exact h.opened
theorem St.bkClose {w0 w : World} {S : List Ent} {p : Nat} {sv : SlV} {pgs : List (Pg Try.prog)} (h : St w0 (blkE p (Enc.enc (BookS.mk sv)) 42 :: ownE sv.v 69 (pgs.map Pg.iv) :: (pgs.map Pg.e0 ++ S)) w) : St w0 (bkE p sv pgs :: S) w := by
  unfold bkE
  exact St.closed (l := [blkE p (Enc.enc (BookS.mk sv)) 42, ownE sv.v 69 (pgs.map Pg.iv)] ++ pgs.map Pg.e0) h
theorem St.bkAdd {w0 w : World} {S : List Ent} {p : Nat} {sv : SlV} {pgs : List (Pg Try.prog)} (pg : Pg Try.prog) (h : St w0 (blkE p (Enc.enc (BookS.mk sv)) 42 :: ownE sv.v 69 (pgs.map Pg.iv ++ [pg.iv]) :: (pgs.map Pg.e0 ++ (pg.e0 :: S))) w) : St w0 (bkE p sv (pgs ++ [pg]) :: S) w := by
  refine St.bkClose ?_
  rw [List.map_append, List.map_append, List.append_assoc]
  exact h
/-- a book without pages -/
theorem St.bkNew {w0 w : World} {S : List Ent} {p : Nat} (h : St w0 (blkE p (Enc.enc (BookS.mk ⟨none, 0, 0⟩)) 42 :: S) w) : St w0 (bkE p ⟨none, 0, 0⟩ [] :: S) w := by
  refine St.bkClose ?_
  exact (h.nilOwn (α := IfV) 69).swap

theorem number_ok (w0 : World) (p : Nat) (sv : SlV) (pgs : List (Pg Try.prog)) (hp : Pt w0 (.pointer (some ⟨p, 0, none⟩)) (Enc.enc (BookS.mk sv))) (hs : SlR w0 sv.v (pgs.map Pg.iv)) (hl : pgs.length ≤ 100000) : Ret Try.prog 34 #[.pointer (some ⟨p, 0, none⟩)] w0 (fun u w' => u = .int .i64 ((pgs.length + 1 : Nat) : Int) ∧ Bel w0 w') := by
  refine Ret.enter (args := [.pointer (some ⟨p, 0, none⟩)]) Try.func34 rfl Try.ntmps34 Try.results34 rfl ?_
  have hS := St.start w0
  have hll : (pgs.map Pg.iv).length = pgs.length := by simp
  refine WC.seq (fun K1 hK1 => ?_)
  refine WC.region ?_
  refine WL.op rfl (opW.assignI rfl ?_)
  refine WL.nil ?_
  refine thenQ_n (hK1 _ _ ?_)
  refine WC.seq (fun K2 hK2 => ?_)
  refine WC.region ?_
  refine WL.op rfl (opW.moveV (v := .pointer (some ⟨p, 0, none⟩)) rfl ?_)
  refine WL.op rfl (opW.nilCheckB rfl ?_)
  refine WL.op rfl (opW.fieldAddrB rfl ?_)
  refine WL.op rfl (opW.loadV rfl ((hp.bel hS.old).at1 (BookS.at_pages _)) ?_)
  refine WL.op rfl (opW.lenV rfl ((hs.bel hS.old)) ?_)
  refine WL.op rfl (opW.add rfl rfl (wrap_i64 (by omega)) ?_)
  refine WL.op rfl (opW.assignI rfl ?_)
  refine WL.nil ?_
  refine thenQ_n (hK2 _ _ ?_)
  refine WC.ret ?_
  refine bodyQ_ret (.tmpI rfl .nil) ?_
  exact ⟨congrArg (Value.int .i64) (by simp : ((pgs.map Pg.iv).length : Int) + 1 = ((pgs.length + 1 : Nat) : Int)), hS.old⟩

theorem apart_ok (wb w0 : World) (S : List Ent) (p : Nat) (sv : SlV) (pgs : List (Pg Try.prog)) (hS0 : St wb (bkE p sv pgs :: S) w0) : Ret Try.prog 17 #[.pointer (some ⟨p, 0, none⟩)] w0 (fun u w' => u = .bool true ∧ St wb S w') := by
  refine Ret.enter (args := [.pointer (some ⟨p, 0, none⟩)]) Try.func17 rfl Try.ntmps17 Try.results17 rfl ?_
  have hS := St.start w0
  have hll : (pgs.map Pg.iv).length = pgs.length := by simp
  replace hS := hS0.bkOpen
  have hle := (hS.sl (v := sv.v) (xs := pgs.map Pg.iv) (by first | exact .h0 | exact .h1 | exact .h2 | exact .h3 | exact .h4 | exact .h5 | exact .h6 | exact .h7 | exact .h8 | exact .h9 | exact .h10 | exact .h11 | exact .h12 | exact .h13 | exact .h14)).le
  simp only [maxLen] at hle
  refine WC.seq (fun K1 hK1 => ?_)
  refine WC.region ?_
  refine WL.op rfl (opW.assignB rfl ?_)
  refine WL.nil ?_
  refine thenQ_n (hK1 _ _ ?_)
  refine WC.seq (fun K2 hK2 => ?_)
  refine WC.seq (fun K3 hK3 => ?_)
  refine WC.region ?_
  refine WL.op rfl (opW.moveV (v := .pointer (some ⟨p, 0, none⟩)) rfl ?_)
  refine WL.op rfl (opW.nilCheckB rfl ?_)
  refine WL.op rfl (opW.fieldAddrB rfl ?_)
  refine WL.op rfl (opW.loadV rfl (hS.ld1 (by first | exact .h0 | exact .h1 | exact .h2 | exact .h3 | exact .h4 | exact .h5 | exact .h6 | exact .h7 | exact .h8 | exact .h9 | exact .h10 | exact .h11 | exact .h12 | exact .h13 | exact .h14) (BookS.at_pages _)) ?_)
  refine WL.op rfl (opW.lenV rfl (hS.sl (v := sv.v) (xs := pgs.map Pg.iv) (by first | exact .h0 | exact .h1 | exact .h2 | exact .h3 | exact .h4 | exact .h5 | exact .h6 | exact .h7 | exact .h8 | exact .h9 | exact .h10 | exact .h11 | exact .h12 | exact .h13 | exact .h14)) ?_)
  refine WL.op rfl (opW.gtr rfl rfl ?_)
  refine WL.nil ?_
  refine thenQ_n (hK3 _ _ ?_)
  refine WC.cond _ rfl (fun hc0 => ?_) (fun hc0 => ?_)
  ·
    have hr0 := hc0
    try simp only [decide_eq_true_eq, decide_eq_false_iff_not, Bool.and_eq_true, Bool.or_eq_true, Bool.and_eq_false_iff, Bool.or_eq_false_iff, Bool.not_eq_true', Bool.not_eq_false', Int.not_lt, Int.not_le] at hc0
    refine WC.seq (fun K4 hK4 => ?_)
    refine WC.region ?_
    refine WL.op rfl (opW.assignB rfl ?_)
    refine WL.nil ?_
    refine thenQ_n (hK4 _ _ ?_)
    refine WC.ret ?_
    refine thenQ_r ?_
    refine bodyQ_ret (.tmpB rfl .nil) ?_
    exact ⟨rfl, hS.drop1.drop1.sub (List.sublist_append_right _ _)⟩
  ·
    have hr0 := hc0
    try simp only [decide_eq_true_eq, decide_eq_false_iff_not, Bool.and_eq_true, Bool.or_eq_true, Bool.and_eq_false_iff, Bool.or_eq_false_iff, Bool.not_eq_true', Bool.not_eq_false', Int.not_lt, Int.not_le] at hc0
    refine WC.skip ?_
    refine thenQ_n (hK2 _ _ ?_)
    refine WC.seq (fun K5 hK5 => ?_)
    refine WC.seq (fun K6 hK6 => ?_)
    refine WC.region ?_
    refine WL.op rfl (opW.assignI rfl ?_)
    refine WL.nil ?_
    refine thenQ_n (hK6 _ _ ?_)
    refine WC.block ?_
    refine WC.loop (fun q f w => ∃ k : Nat, Fits [(0, .pointer (some ⟨p, 0, none⟩)), (3, .int .i64 (k : Int))] f ∧ St wb (blkE p (Enc.enc (BookS.mk sv)) 42 :: ownE sv.v 69 (pgs.map Pg.iv) :: ((pgs.take k).map Pg.e1 ++ ((pgs.drop k).map Pg.e0 ++ S))) w ∧ k ≤ pgs.length ∧ q = pgs.length - k) (pgs.length) ?_ ?_
    ·
      refine ⟨0, ⟨rfl, rfl, trivial⟩, ?_, Nat.zero_le _, rfl⟩
      rw [List.drop_zero]; exact hS
    ·
      rintro q f w ⟨k, hfit, hS, hk0, hm⟩
      refine WC.fits _ hfit (fun g => ?_)
      clear hfit
      refine WC.seq (fun K7 hK7 => ?_)
      refine WC.seq (fun K8 hK8 => ?_)
      refine WC.region ?_
      refine WL.op rfl (opW.moveI rfl ?_)
      refine WL.op rfl (opW.moveV (v := .pointer (some ⟨p, 0, none⟩)) rfl ?_)
      refine WL.op rfl (opW.nilCheckB rfl ?_)
      refine WL.op rfl (opW.fieldAddrB rfl ?_)
      refine WL.op rfl (opW.loadV rfl (hS.ld1 (by first | exact .h0 | exact .h1 | exact .h2 | exact .h3 | exact .h4 | exact .h5 | exact .h6 | exact .h7 | exact .h8 | exact .h9 | exact .h10 | exact .h11 | exact .h12 | exact .h13 | exact .h14) (BookS.at_pages _)) ?_)
      refine WL.op rfl (opW.lenV rfl (hS.sl (v := sv.v) (xs := pgs.map Pg.iv) (by first | exact .h0 | exact .h1 | exact .h2 | exact .h3 | exact .h4 | exact .h5 | exact .h6 | exact .h7 | exact .h8 | exact .h9 | exact .h10 | exact .h11 | exact .h12 | exact .h13 | exact .h14)) ?_)
      refine WL.op rfl (opW.lss rfl rfl ?_)
      refine WL.nil ?_
      refine thenQ_n (hK8 _ _ ?_)
      refine WC.cond _ rfl (fun hc1 => ?_) (fun hc1 => ?_)
      ·
        have hr1 := hc1
        try simp only [decide_eq_true_eq, decide_eq_false_iff_not, Bool.and_eq_true, Bool.or_eq_true, Bool.and_eq_false_iff, Bool.or_eq_false_iff, Bool.not_eq_true', Bool.not_eq_false', Int.not_lt, Int.not_le] at hc1
        have hkl : k < pgs.length := by omega
        have hkm : k < (pgs.map Pg.iv).length := by omega
        refine WC.skip ?_
        refine thenQ_n (hK7 _ _ ?_)
        refine WC.seq (fun K9 hK9 => ?_)
        refine WC.block ?_
        refine WC.region ?_
        refine WL.op rfl (opW.moveV (v := .pointer (some ⟨p, 0, none⟩)) rfl ?_)
        refine WL.op rfl (opW.nilCheckB rfl ?_)
        refine WL.op rfl (opW.fieldAddrB rfl ?_)
        refine WL.op rfl (opW.loadV rfl (hS.ld1 (by first | exact .h0 | exact .h1 | exact .h2 | exact .h3 | exact .h4 | exact .h5 | exact .h6 | exact .h7 | exact .h8 | exact .h9 | exact .h10 | exact .h11 | exact .h12 | exact .h13 | exact .h14) (BookS.at_pages _)) ?_)
        refine WL.op rfl (opW.moveI rfl ?_)
        refine WL.op rfl (opW.idxV rfl (hS.sl (v := sv.v) (xs := pgs.map Pg.iv) (by first | exact .h0 | exact .h1 | exact .h2 | exact .h3 | exact .h4 | exact .h5 | exact .h6 | exact .h7 | exact .h8 | exact .h9 | exact .h10 | exact .h11 | exact .h12 | exact .h13 | exact .h14)) rfl (by omega) ?_)
        refine WL.op rfl (opW.loadV rfl (((hS.sl (v := sv.v) (xs := pgs.map Pg.iv) (by first | exact .h0 | exact .h1 | exact .h2 | exact .h3 | exact .h4 | exact .h5 | exact .h6 | exact .h7 | exact .h8 | exact .h9 | exact .h10 | exact .h11 | exact .h12 | exact .h13 | exact .h14)).isPt hkm).ldI (pv := pgs[k].iv.v) (by rw [List.getElem_map])) ?_)
        refine WL.op rfl (opW.invoke rfl (pgs[k].s0 _ _ _ (hS.perm (pg_out [_, _] pgs k hkl Pg.e1 Pg.e0 S))) rfl ?_)
        intro _ w hS
        replace hS := hS.perm (pg_in [_, _] pgs k hkl Pg.e1 Pg.e0 S)
        refine WL.nil ?_
        refine blockQ_n ?_
        refine thenQ_n (hK9 _ _ ?_)
        refine WC.region ?_
        refine WL.op rfl (opW.moveI rfl ?_)
        refine WL.op rfl (opW.add rfl rfl (wrap_i64 (by omega)) ?_)
        refine WL.op rfl (opW.assignI rfl ?_)
        refine WL.nil ?_
        refine thenQ_n ?_
        exact ⟨pgs.length - (k + 1), by omega, k + 1, ⟨rfl, congrArg (Value.int .i64) (by omega), trivial⟩, hS, by omega, rfl⟩
      ·
        have hr1 := hc1
        try simp only [decide_eq_true_eq, decide_eq_false_iff_not, Bool.and_eq_true, Bool.or_eq_true, Bool.and_eq_false_iff, Bool.or_eq_false_iff, Bool.not_eq_true', Bool.not_eq_false', Int.not_lt, Int.not_le] at hc1
        obtain rfl : k = pgs.length := by omega
        rw [List.take_length, List.drop_length, List.map_nil, List.nil_append] at hS
        refine WC.exit ?_
        refine thenQ_e ?_
        refine thenQ_e ?_
        refine blockQ_hit ?_
        refine thenQ_n (hK5 _ _ ?_)
        refine WC.seq (fun K10 hK10 => ?_)
        refine WC.seq (fun K11 hK11 => ?_)
        refine WC.region ?_
        refine WL.op rfl (opW.assignI rfl ?_)
        refine WL.nil ?_
        refine thenQ_n (hK11 _ _ ?_)
        refine WC.block ?_
        refine WC.loop (fun q f w => ∃ k : Nat, Fits [(0, .pointer (some ⟨p, 0, none⟩)), (4, .int .i64 (k : Int))] f ∧ St wb (blkE p (Enc.enc (BookS.mk sv)) 42 :: ownE sv.v 69 (pgs.map Pg.iv) :: ((pgs.take k).map Pg.e2 ++ ((pgs.drop k).map Pg.e1 ++ S))) w ∧ k ≤ pgs.length ∧ q = pgs.length - k) (pgs.length) ?_ ?_
        ·
          refine ⟨0, ⟨rfl, rfl, trivial⟩, ?_, Nat.zero_le _, rfl⟩
          rw [List.drop_zero]; exact hS
        ·
          rintro q f w ⟨k, hfit, hS, hk0, hm⟩
          refine WC.fits _ hfit (fun g => ?_)
          clear hfit
          refine WC.seq (fun K12 hK12 => ?_)
          refine WC.seq (fun K13 hK13 => ?_)
          refine WC.region ?_
          refine WL.op rfl (opW.moveI rfl ?_)
          refine WL.op rfl (opW.moveV (v := .pointer (some ⟨p, 0, none⟩)) rfl ?_)
          refine WL.op rfl (opW.nilCheckB rfl ?_)
          refine WL.op rfl (opW.fieldAddrB rfl ?_)
          refine WL.op rfl (opW.loadV rfl (hS.ld1 (by first | exact .h0 | exact .h1 | exact .h2 | exact .h3 | exact .h4 | exact .h5 | exact .h6 | exact .h7 | exact .h8 | exact .h9 | exact .h10 | exact .h11 | exact .h12 | exact .h13 | exact .h14) (BookS.at_pages _)) ?_)
          refine WL.op rfl (opW.lenV rfl (hS.sl (v := sv.v) (xs := pgs.map Pg.iv) (by first | exact .h0 | exact .h1 | exact .h2 | exact .h3 | exact .h4 | exact .h5 | exact .h6 | exact .h7 | exact .h8 | exact .h9 | exact .h10 | exact .h11 | exact .h12 | exact .h13 | exact .h14)) ?_)
          refine WL.op rfl (opW.lss rfl rfl ?_)
          refine WL.nil ?_
          refine thenQ_n (hK13 _ _ ?_)
          refine WC.cond _ rfl (fun hc2 => ?_) (fun hc2 => ?_)
          ·
            have hr2 := hc2
            try simp only [decide_eq_true_eq, decide_eq_false_iff_not, Bool.and_eq_true, Bool.or_eq_true, Bool.and_eq_false_iff, Bool.or_eq_false_iff, Bool.not_eq_true', Bool.not_eq_false', Int.not_lt, Int.not_le] at hc2
            have hkl : k < pgs.length := by omega
            have hkm : k < (pgs.map Pg.iv).length := by omega
            refine WC.skip ?_
            refine thenQ_n (hK12 _ _ ?_)
            refine WC.seq (fun K14 hK14 => ?_)
            refine WC.block ?_
            refine WC.region ?_
            refine WL.op rfl (opW.moveV (v := .pointer (some ⟨p, 0, none⟩)) rfl ?_)
            refine WL.op rfl (opW.nilCheckB rfl ?_)
            refine WL.op rfl (opW.fieldAddrB rfl ?_)
            refine WL.op rfl (opW.loadV rfl (hS.ld1 (by first | exact .h0 | exact .h1 | exact .h2 | exact .h3 | exact .h4 | exact .h5 | exact .h6 | exact .h7 | exact .h8 | exact .h9 | exact .h10 | exact .h11 | exact .h12 | exact .h13 | exact .h14) (BookS.at_pages _)) ?_)
            refine WL.op rfl (opW.moveI rfl ?_)
            refine WL.op rfl (opW.idxV rfl (hS.sl (v := sv.v) (xs := pgs.map Pg.iv) (by first | exact .h0 | exact .h1 | exact .h2 | exact .h3 | exact .h4 | exact .h5 | exact .h6 | exact .h7 | exact .h8 | exact .h9 | exact .h10 | exact .h11 | exact .h12 | exact .h13 | exact .h14)) rfl (by omega) ?_)
            refine WL.op rfl (opW.loadV rfl (((hS.sl (v := sv.v) (xs := pgs.map Pg.iv) (by first | exact .h0 | exact .h1 | exact .h2 | exact .h3 | exact .h4 | exact .h5 | exact .h6 | exact .h7 | exact .h8 | exact .h9 | exact .h10 | exact .h11 | exact .h12 | exact .h13 | exact .h14)).isPt hkm).ldI (pv := pgs[k].iv.v) (by rw [List.getElem_map])) ?_)
            refine WL.op rfl (opW.invoke rfl (pgs[k].s1 _ _ _ (hS.perm (pg_out [_, _] pgs k hkl Pg.e2 Pg.e1 S))) rfl ?_)
            intro _ w hS
            replace hS := hS.perm (pg_in [_, _] pgs k hkl Pg.e2 Pg.e1 S)
            refine WL.nil ?_
            refine blockQ_n ?_
            refine thenQ_n (hK14 _ _ ?_)
            refine WC.region ?_
            refine WL.op rfl (opW.moveI rfl ?_)
            refine WL.op rfl (opW.add rfl rfl (wrap_i64 (by omega)) ?_)
            refine WL.op rfl (opW.assignI rfl ?_)
            refine WL.nil ?_
            refine thenQ_n ?_
            exact ⟨pgs.length - (k + 1), by omega, k + 1, ⟨rfl, congrArg (Value.int .i64) (by omega), trivial⟩, hS, by omega, rfl⟩
          ·
            have hr2 := hc2
            try simp only [decide_eq_true_eq, decide_eq_false_iff_not, Bool.and_eq_true, Bool.or_eq_true, Bool.and_eq_false_iff, Bool.or_eq_false_iff, Bool.not_eq_true', Bool.not_eq_false', Int.not_lt, Int.not_le] at hc2
            obtain rfl : k = pgs.length := by omega
            rw [List.take_length, List.drop_length, List.map_nil, List.nil_append] at hS
            refine WC.exit ?_
            refine thenQ_e ?_
            refine thenQ_e ?_
            refine blockQ_hit ?_
            refine thenQ_n (hK10 _ _ ?_)
            refine WC.seq (fun K15 hK15 => ?_)
            refine WC.seq (fun K16 hK16 => ?_)
            refine WC.region ?_
            refine WL.op rfl (opW.assignI rfl ?_)
            refine WL.nil ?_
            refine thenQ_n (hK16 _ _ ?_)
            refine WC.block ?_
            refine WC.loop (fun q f w => ∃ k : Nat, Fits [(0, .pointer (some ⟨p, 0, none⟩)), (5, .int .i64 (k : Int))] f ∧ St wb (blkE p (Enc.enc (BookS.mk sv)) 42 :: ownE sv.v 69 (pgs.map Pg.iv) :: ((pgs.take k).map Pg.e2 ++ ((pgs.drop k).map Pg.e2 ++ S))) w ∧ k ≤ pgs.length ∧ q = pgs.length - k) (pgs.length) ?_ ?_
            ·
              refine ⟨0, ⟨rfl, rfl, trivial⟩, ?_, Nat.zero_le _, rfl⟩
              rw [List.drop_zero]; exact hS
            ·
              rintro q f w ⟨k, hfit, hS, hk0, hm⟩
              refine WC.fits _ hfit (fun g => ?_)
              clear hfit
              refine WC.seq (fun K17 hK17 => ?_)
              refine WC.seq (fun K18 hK18 => ?_)
              refine WC.region ?_
              refine WL.op rfl (opW.moveI rfl ?_)
              refine WL.op rfl (opW.moveV (v := .pointer (some ⟨p, 0, none⟩)) rfl ?_)
              refine WL.op rfl (opW.nilCheckB rfl ?_)
              refine WL.op rfl (opW.fieldAddrB rfl ?_)
              refine WL.op rfl (opW.loadV rfl (hS.ld1 (by first | exact .h0 | exact .h1 | exact .h2 | exact .h3 | exact .h4 | exact .h5 | exact .h6 | exact .h7 | exact .h8 | exact .h9 | exact .h10 | exact .h11 | exact .h12 | exact .h13 | exact .h14) (BookS.at_pages _)) ?_)
              refine WL.op rfl (opW.lenV rfl (hS.sl (v := sv.v) (xs := pgs.map Pg.iv) (by first | exact .h0 | exact .h1 | exact .h2 | exact .h3 | exact .h4 | exact .h5 | exact .h6 | exact .h7 | exact .h8 | exact .h9 | exact .h10 | exact .h11 | exact .h12 | exact .h13 | exact .h14)) ?_)
              refine WL.op rfl (opW.lss rfl rfl ?_)
              refine WL.nil ?_
              refine thenQ_n (hK18 _ _ ?_)
              refine WC.cond _ rfl (fun hc3 => ?_) (fun hc3 => ?_)
              ·
                have hr3 := hc3
                try simp only [decide_eq_true_eq, decide_eq_false_iff_not, Bool.and_eq_true, Bool.or_eq_true, Bool.and_eq_false_iff, Bool.or_eq_false_iff, Bool.not_eq_true', Bool.not_eq_false', Int.not_lt, Int.not_le] at hc3
                have hkl : k < pgs.length := by omega
                have hkm : k < (pgs.map Pg.iv).length := by omega
                refine WC.skip ?_
                refine thenQ_n (hK17 _ _ ?_)
                refine WC.seq (fun K19 hK19 => ?_)
                refine WC.block ?_
                refine WC.seq (fun K20 hK20 => ?_)
                refine WC.region ?_
                refine WL.op rfl (opW.moveV (v := .pointer (some ⟨p, 0, none⟩)) rfl ?_)
                refine WL.op rfl (opW.nilCheckB rfl ?_)
                refine WL.op rfl (opW.fieldAddrB rfl ?_)
                refine WL.op rfl (opW.loadV rfl (hS.ld1 (by first | exact .h0 | exact .h1 | exact .h2 | exact .h3 | exact .h4 | exact .h5 | exact .h6 | exact .h7 | exact .h8 | exact .h9 | exact .h10 | exact .h11 | exact .h12 | exact .h13 | exact .h14) (BookS.at_pages _)) ?_)
                refine WL.op rfl (opW.moveI rfl ?_)
                refine WL.op rfl (opW.idxV rfl (hS.sl (v := sv.v) (xs := pgs.map Pg.iv) (by first | exact .h0 | exact .h1 | exact .h2 | exact .h3 | exact .h4 | exact .h5 | exact .h6 | exact .h7 | exact .h8 | exact .h9 | exact .h10 | exact .h11 | exact .h12 | exact .h13 | exact .h14)) rfl (by omega) ?_)
                refine WL.op rfl (opW.loadV rfl (((hS.sl (v := sv.v) (xs := pgs.map Pg.iv) (by first | exact .h0 | exact .h1 | exact .h2 | exact .h3 | exact .h4 | exact .h5 | exact .h6 | exact .h7 | exact .h8 | exact .h9 | exact .h10 | exact .h11 | exact .h12 | exact .h13 | exact .h14)).isPt hkm).ldI (pv := pgs[k].iv.v) (by rw [List.getElem_map])) ?_)
                refine WL.op rfl (opW.invoke rfl (pgs[k].ow _ _ _ (hS.perm (pg_out [_, _] pgs k hkl Pg.e2 Pg.e2 S))) rfl ?_)
                rintro _ w ⟨rfl, hS⟩
                replace hS := hS.perm (pg_in [_, _] pgs k hkl Pg.e2 Pg.e2 S)
                refine WL.op rfl (opW.not rfl ?_)
                refine WL.nil ?_
                refine thenQ_n (hK20 _ _ ?_)
                refine WC.cond _ rfl (fun hc4 => ?_) (fun hc4 => ?_)
                ·
                  have hr4 := hc4
                  try simp only [decide_eq_true_eq, decide_eq_false_iff_not, Bool.and_eq_true, Bool.or_eq_true, Bool.and_eq_false_iff, Bool.or_eq_false_iff, Bool.not_eq_true', Bool.not_eq_false', Int.not_lt, Int.not_le] at hc4
                  simp at hr4
                ·
                  have hr4 := hc4
                  try simp only [decide_eq_true_eq, decide_eq_false_iff_not, Bool.and_eq_true, Bool.or_eq_true, Bool.and_eq_false_iff, Bool.or_eq_false_iff, Bool.not_eq_true', Bool.not_eq_false', Int.not_lt, Int.not_le] at hc4
                  refine WC.skip ?_
                  refine blockQ_n ?_
                  refine thenQ_n (hK19 _ _ ?_)
                  refine WC.region ?_
                  refine WL.op rfl (opW.moveI rfl ?_)
                  refine WL.op rfl (opW.add rfl rfl (wrap_i64 (by omega)) ?_)
                  refine WL.op rfl (opW.assignI rfl ?_)
                  refine WL.nil ?_
                  refine thenQ_n ?_
                  exact ⟨pgs.length - (k + 1), by omega, k + 1, ⟨rfl, congrArg (Value.int .i64) (by omega), trivial⟩, hS, by omega, rfl⟩
              ·
                have hr3 := hc3
                try simp only [decide_eq_true_eq, decide_eq_false_iff_not, Bool.and_eq_true, Bool.or_eq_true, Bool.and_eq_false_iff, Bool.or_eq_false_iff, Bool.not_eq_true', Bool.not_eq_false', Int.not_lt, Int.not_le] at hc3
                refine WC.exit ?_
                refine thenQ_e ?_
                refine thenQ_e ?_
                refine blockQ_hit ?_
                refine thenQ_n (hK15 _ _ ?_)
                refine WC.seq (fun K21 hK21 => ?_)
                refine WC.region ?_
                refine WL.op rfl (opW.assignB rfl ?_)
                refine WL.nil ?_
                refine thenQ_n (hK21 _ _ ?_)
                refine WC.ret ?_
                refine bodyQ_ret (.tmpB rfl .nil) ?_
                exact ⟨rfl, hS.drop1.drop1.sub ((List.sublist_append_right _ _).trans (List.sublist_append_right _ _))⟩

abbrev Key := Vector UInt8 32

theorem bkKey_ok (w0 : World) (n : Nat) (c : UInt8) (hn : n ≤ 1000000) : Ret Try.prog 48 #[.int .i64 (n : Int), .int .u8 (c.toNat : Int)] w0 (fun u w' => ∃ k : Key, u = .agg (Enc.enc k) ∧ Bel w0 w') := by
  refine Ret.enter (args := [.int .i64 (n : Int), .int .u8 (c.toNat : Int)]) Try.func48 rfl Try.ntmps48 Try.results48 rfl ?_
  have hS := St.start w0
  refine WC.seq (fun K1 hK1 => ?_)
  refine WC.region ?_
  refine WL.op rfl (opW.allocA hS ?_)
  intro b4 w _ hS
  refine WL.nil ?_
  refine thenQ_n (hK1 _ _ ?_)
  refine WC.seq (fun K2 hK2 => ?_)
  refine WC.region ?_
  refine WL.op rfl (opW.moveI rfl ?_)
  refine WL.op rfl (opW.conv rfl (wrap_u8of _) ?_)
  refine WL.op rfl (opW.moveI rfl ?_)
  refine WL.op rfl (opW.quo rfl rfl (by omega) (show IntKind.i64.wrap _ = ((n / 256 : Nat) : Int) from by rw [show ((n : Int)).tdiv 256 = ((n / 256 : Nat) : Int) from by rw [Int.tdiv_eq_ediv_of_nonneg (by omega)]; omega]; exact wrap_i64 (by omega)) ?_)
  refine WL.op rfl (opW.conv rfl (wrap_u8of _) ?_)
  refine WL.op rfl (opW.moveI rfl ?_)
  refine WL.op rfl (opW.buildVec (k := ((((vz 32).set 0 (u8of n)).set 1 (u8of (n / 256 : Nat))).set 2 77).set 31 c) (by first | rfl | (simp only [markK, enc_vset, enc_vz]; rfl)) (by intro p hp; first | (exfalso; simp at hp; done) | (simp only [List.map_cons, List.map_nil, List.mem_cons, List.not_mem_nil, or_false] at hp; rcases hp with rfl | rfl | rfl | rfl <;> exact ⟨by simp, rfl⟩)) ?_)
  refine WL.op0 (opW.storeE hS rfl rfl (by first | exact .h0 | exact .h1 | exact .h2 | exact .h3 | exact .h4 | exact .h5 | exact .h6 | exact .h7 | exact .h8 | exact .h9 | exact .h10 | exact .h11 | exact .h12 | exact .h13 | exact .h14) (by first | rfl | exact Enc.size_eq _) ?_)
  intro w hS; replace hS := hS _ (by first | exact .h0 | exact .h1 | exact .h2 | exact .h3 | exact .h4 | exact .h5 | exact .h6 | exact .h7 | exact .h8 | exact .h9 | exact .h10 | exact .h11 | exact .h12 | exact .h13 | exact .h14)
  refine WL.nil ?_
  refine thenQ_n (hK2 _ _ ?_)
  refine WC.ret ?_
  refine bodyQ_ret (.cell (by first | exact hS.ldA (by first | exact .h0 | exact .h1 | exact .h2 | exact .h3 | exact .h4 | exact .h5 | exact .h6 | exact .h7 | exact .h8 | exact .h9 | exact .h10 | exact .h11 | exact .h12 | exact .h13 | exact .h14) (by first | rfl | exact Enc.size_eq _) | exact hS.ld1 (by first | exact .h0 | exact .h1 | exact .h2 | exact .h3 | exact .h4 | exact .h5 | exact .h6 | exact .h7 | exact .h8 | exact .h9 | exact .h10 | exact .h11 | exact .h12 | exact .h13 | exact .h14) rfl) .nil) ?_
  exact ⟨_, rfl, hS.old⟩

theorem bkKeys_ok (wb w0 : World) (S : List Ent) (p : Nat) (sv : SlV) (pgs : List (Pg Try.prog)) (lv : Value) (xs : List Key) (hl : pgs.length ≤ 100000) (hS0 : St wb (bkE p sv pgs :: ownE lv 53 xs :: S) w0) : Ret Try.prog 33 #[.pointer (some ⟨p, 0, none⟩), lv] w0 (fun u w' => ∃ sv' pg, St wb (bkE p sv' (pgs ++ [pg]) :: S) w') := by
  refine Ret.enter (args := [.pointer (some ⟨p, 0, none⟩), lv]) Try.func33 rfl Try.ntmps33 Try.results33 rfl ?_
  have hS := St.start w0
  replace hS := hS0.bkOpen
  have hov : OwnS lv xs.length := (hS0.own (v := lv) (e := 53) (xs := xs) (.there .here)).shape
  obtain ⟨sl, rfl⟩ := (hS0.sl (v := lv) (e := 53) (xs := xs) (.there .here)).asV
  refine WC.seq (fun K1 hK1 => ?_)
  refine WC.region ?_
  refine WL.op rfl (opW.moveV (v := .pointer (some ⟨p, 0, none⟩)) rfl ?_)
  refine WL.op rfl (opW.call (number_ok _ p sv pgs (hS.pt (by first | exact .h0 | exact .h1 | exact .h2 | exact .h3 | exact .h4 | exact .h5 | exact .h6 | exact .h7 | exact .h8 | exact .h9 | exact .h10 | exact .h11 | exact .h12 | exact .h13 | exact .h14)) (hS.sl (v := sv.v) (by first | exact .h0 | exact .h1 | exact .h2 | exact .h3 | exact .h4 | exact .h5 | exact .h6 | exact .h7 | exact .h8 | exact .h9 | exact .h10 | exact .h11 | exact .h12 | exact .h13 | exact .h14)) hl) rfl ?_)
  rintro _ w ⟨rfl, hw⟩; replace hS := hS.bel hw
  refine WL.op rfl (opW.assignI rfl ?_)
  refine WL.nil ?_
  refine thenQ_n (hK1 _ _ ?_)
  refine WC.draw 13 (.look 0 (.look 1 (.look 2 (.look 3 (.look 4 (.look 5 (.look 6 (.look 8 (.one 7 (.one 9 (.look 10 (.look 11 (.one 12 (.one 13 (.one 14 (.one 15 (.one 16 .nil))))))))))))))))) (by kernel_rfl) (fun _ _ _ h => h) (fun w1 hw1 => ?_)
  replace hS := hS.bel hw1
  have hS1 := hS
  have hT := St.start w1
  refine ML.look rfl rfl rfl (fun w hw => (by have hS := hS1.bel hw; exact opW.moveV (v := .pointer (some ⟨p, 0, none⟩)) rfl ⟨rfl, rfl⟩)) ?_
  refine ML.look rfl rfl rfl (fun w hw => (by have hS := hS1.bel hw; exact opW.moveV (v := .pointer (some ⟨p, 0, none⟩)) rfl ⟨rfl, rfl⟩)) ?_
  refine ML.look rfl rfl rfl (fun w hw => (by have hS := hS1.bel hw; exact opW.nilCheckB rfl ⟨rfl, rfl⟩)) ?_
  refine ML.look rfl rfl rfl (fun w hw => (by have hS := hS1.bel hw; exact opW.fieldAddrB rfl ⟨rfl, rfl⟩)) ?_
  refine ML.look rfl rfl rfl (fun w hw => (by have hS := hS1.bel hw; exact opW.loadV rfl (hS.ld1 (by first | exact .h0 | exact .h1 | exact .h2 | exact .h3 | exact .h4 | exact .h5 | exact .h6 | exact .h7 | exact .h8 | exact .h9 | exact .h10 | exact .h11 | exact .h12 | exact .h13 | exact .h14) (BookS.at_pages _)) ⟨rfl, rfl⟩)) ?_
  refine ML.look rfl rfl rfl (fun w hw => (by have hS := hS1.bel hw; exact opW.moveV (v := sl.v) rfl ⟨rfl, rfl⟩)) ?_
  refine ML.look rfl rfl rfl (fun w hw => (by have hS := hS1.bel hw; exact opW.moveI rfl ⟨rfl, rfl⟩)) ?_
  refine ML.look rfl rfl rfl (fun w hw => (by have hS := hS1.bel hw; exact opW.moveI rfl ⟨rfl, rfl⟩)) ?_
  refine ML.one rfl rfl rfl (opW.call (bkKey_ok _ (pgs.length + 1) 1 (by omega)) rfl ?_)
  rintro _ w ⟨k1, rfl, hw⟩; replace hT := hT.bel hw
  refine ⟨hT.old, ?_⟩
  have hS := hS1.merge hT
  try simp only [List.cons_append, List.nil_append] at hS
  refine ML.one rfl rfl rfl (opW.call (bkKey_ok _ (pgs.length + 1) 2 (by omega)) rfl ?_)
  rintro _ w ⟨k2, rfl, hw⟩; replace hT := hT.bel hw
  refine ⟨hT.old, ?_⟩
  have hS := hS1.merge hT
  try simp only [List.cons_append, List.nil_append] at hS
  refine ML.look rfl rfl rfl (fun w hw => (by have hS := hS1.bel hw; exact opW.buildE (r := ((⟨sl, k1, k2⟩ : ShKey) : ShKey)) (ps := ShKey.parts ((⟨sl, k1, k2⟩ : ShKey) : ShKey)) (ShKey.enc_eq _) (by first | (simp only [markK, enc_vset, enc_vz, Header.enc_eq, Header.parts, Instr.enc_eq, Instr.parts, Lookup.enc_eq, Lookup.parts, Message.enc_eq, Message.parts, Reader.enc_eq, Reader.parts, Stop.enc_eq, Stop.parts, Taker.enc_eq, Taker.parts, ShByte.enc_eq, ShByte.parts, ShKey.enc_eq, ShKey.parts, BookS.enc_eq, BookS.parts]; rfl) | rfl) (by (repeat' (first | exact trivial | refine And.intro ?_ ?_)) <;> first | rfl | exact Enc.size_eq _ | (simp; done)) ⟨rfl, rfl⟩)) ?_
  refine ML.look rfl rfl rfl (fun w hw => (by have hS := hS1.bel hw; exact opW.iface rfl ⟨rfl, rfl⟩)) ?_
  refine ML.one rfl rfl rfl (opW.buildSl hT (([(⟨92, .agg (Enc.enc (⟨sl, k1, k2⟩ : ShKey))⟩ : IfV)] : List IfV)) [.iface 92 (.agg (Enc.enc (⟨sl, k1, k2⟩ : ShKey)))] rfl rfl rfl rfl (by decide) ?_)
  intro b19 w hw hT
  refine ⟨hT.old, ?_⟩
  have hS := hS1.merge hT
  try simp only [List.cons_append, List.nil_append] at hS
  refine ML.put1 rfl rfl rfl rfl (opW.appendOwn (α := IfV) rfl hS rfl (by first | exact .h0 | exact .h1 | exact .h2 | exact .h3 | exact .h4 | exact .h5 | exact .h6 | exact .h7 | exact .h8 | exact .h9 | exact .h10 | exact .h11 | exact .h12 | exact .h13 | exact .h14) (hS.sl (xs := ([(⟨92, .agg (Enc.enc (⟨sl, k1, k2⟩ : ShKey))⟩ : IfV)] : List IfV)) (by first | exact .h0 | exact .h1 | exact .h2 | exact .h3 | exact .h4 | exact .h5 | exact .h6 | exact .h7 | exact .h8 | exact .h9 | exact .h10 | exact .h11 | exact .h12 | exact .h13 | exact .h14)) (by simp only [List.length_map, List.length_cons, List.length_nil]; omega) (by simp only [maxLen, List.length_map, List.length_cons, List.length_nil]; omega) ?_)
  intro v20 w hS; replace hS := hS _ (by first | exact .h0 | exact .h1 | exact .h2 | exact .h3 | exact .h4 | exact .h5 | exact .h6 | exact .h7 | exact .h8 | exact .h9 | exact .h10 | exact .h11 | exact .h12 | exact .h13 | exact .h14)
  obtain ⟨sn, rfl⟩ := (hS.sl (v := v20) (xs := pgs.map Pg.iv ++ [(⟨92, .agg (Enc.enc (⟨sl, k1, k2⟩ : ShKey))⟩ : IfV)]) (by first | exact .h0 | exact .h1 | exact .h2 | exact .h3 | exact .h4 | exact .h5 | exact .h6 | exact .h7 | exact .h8 | exact .h9 | exact .h10 | exact .h11 | exact .h12 | exact .h13 | exact .h14)).asV
  refine ML.put1 rfl rfl rfl rfl (opW.nilCheckB rfl ?_)
  refine ML.put1 rfl rfl rfl rfl (opW.fieldAddrB rfl ?_)
  refine ML.put0 rfl rfl rfl (opW.storeF (v := sn.v) (sz := 1) (cs' := Enc.enc (BookS.mk sn)) hS rfl rfl (by first | exact .h0 | exact .h1 | exact .h2 | exact .h3 | exact .h4 | exact .h5 | exact .h6 | exact .h7 | exact .h8 | exact .h9 | exact .h10 | exact .h11 | exact .h12 | exact .h13 | exact .h14) rfl (by rw [Enc.size_eq]; decide) (Enc.one (α := SlV) sn) (BookS.set_pages (BookS.mk sv) sn) ?_)
  intro w hS; replace hS := hS _ (by first | exact .h0 | exact .h1 | exact .h2 | exact .h3 | exact .h4 | exact .h5 | exact .h6 | exact .h7 | exact .h8 | exact .h9 | exact .h10 | exact .h11 | exact .h12 | exact .h13 | exact .h14)
  refine ML.nil ?_
  refine bodyQ_end .nil ?_
  exact ⟨sn, pg_Key ⟨sl, k1, k2⟩ xs hov, St.bkAdd (pg_Key ⟨sl, k1, k2⟩ xs hov) hS.drop1⟩

theorem bkBytes_ok (wb w0 : World) (S : List Ent) (p : Nat) (sv : SlV) (pgs : List (Pg Try.prog)) (lv : Value) (xs : List UInt8) (hl : pgs.length ≤ 100000) (hS0 : St wb (bkE p sv pgs :: ownE lv 5 xs :: S) w0) : Ret Try.prog 16 #[.pointer (some ⟨p, 0, none⟩), lv] w0 (fun u w' => ∃ sv' pg, St wb (bkE p sv' (pgs ++ [pg]) :: S) w') := by
  refine Ret.enter (args := [.pointer (some ⟨p, 0, none⟩), lv]) Try.func16 rfl Try.ntmps16 Try.results16 rfl ?_
  have hS := St.start w0
  replace hS := hS0.bkOpen
  have hov : OwnS lv xs.length := (hS0.own (v := lv) (e := 5) (xs := xs) (.there .here)).shape
  obtain ⟨sl, rfl⟩ := (hS0.sl (v := lv) (e := 5) (xs := xs) (.there .here)).asV
  refine WC.seq (fun K1 hK1 => ?_)
  refine WC.region ?_
  refine WL.op rfl (opW.moveV (v := .pointer (some ⟨p, 0, none⟩)) rfl ?_)
  refine WL.op rfl (opW.call (number_ok _ p sv pgs (hS.pt (by first | exact .h0 | exact .h1 | exact .h2 | exact .h3 | exact .h4 | exact .h5 | exact .h6 | exact .h7 | exact .h8 | exact .h9 | exact .h10 | exact .h11 | exact .h12 | exact .h13 | exact .h14)) (hS.sl (v := sv.v) (by first | exact .h0 | exact .h1 | exact .h2 | exact .h3 | exact .h4 | exact .h5 | exact .h6 | exact .h7 | exact .h8 | exact .h9 | exact .h10 | exact .h11 | exact .h12 | exact .h13 | exact .h14)) hl) rfl ?_)
  rintro _ w ⟨rfl, hw⟩; replace hS := hS.bel hw
  refine WL.op rfl (opW.conv rfl (wrap_u8of _) ?_)
  refine WL.op rfl (opW.assignI rfl ?_)
  refine WL.nil ?_
  refine thenQ_n (hK1 _ _ ?_)
  refine WC.region ?_
  refine WL.op rfl (opW.moveV (v := .pointer (some ⟨p, 0, none⟩)) rfl ?_)
  refine WL.op rfl (opW.moveV (v := .pointer (some ⟨p, 0, none⟩)) rfl ?_)
  refine WL.op rfl (opW.nilCheckB rfl ?_)
  refine WL.op rfl (opW.fieldAddrB rfl ?_)
  refine WL.op rfl (opW.loadV rfl (hS.ld1 (by first | exact .h0 | exact .h1 | exact .h2 | exact .h3 | exact .h4 | exact .h5 | exact .h6 | exact .h7 | exact .h8 | exact .h9 | exact .h10 | exact .h11 | exact .h12 | exact .h13 | exact .h14) (BookS.at_pages _)) ?_)
  refine WL.op rfl (opW.moveV (v := sl.v) rfl ?_)
  refine WL.op rfl (opW.moveI rfl ?_)
  refine WL.op rfl (opW.moveI rfl ?_)
  refine WL.op rfl (opW.sub rfl rfl (wrap_u8of _) ?_)
  refine WL.op rfl (opW.buildE (r := ((⟨sl, (u8of ((pgs.length + 1 : Nat) : Int)), (u8of (255 - (((u8of ((pgs.length + 1 : Nat) : Int))).toNat : Int)))⟩ : ShByte) : ShByte)) (ps := ShByte.parts ((⟨sl, (u8of ((pgs.length + 1 : Nat) : Int)), (u8of (255 - (((u8of ((pgs.length + 1 : Nat) : Int))).toNat : Int)))⟩ : ShByte) : ShByte)) (ShByte.enc_eq _) (by first | rfl | (simp only [markK, enc_vset, enc_vz, Header.enc_eq, Header.parts, Instr.enc_eq, Instr.parts, Lookup.enc_eq, Lookup.parts, Message.enc_eq, Message.parts, Reader.enc_eq, Reader.parts, Stop.enc_eq, Stop.parts, Taker.enc_eq, Taker.parts, ShByte.enc_eq, ShByte.parts, ShKey.enc_eq, ShKey.parts, BookS.enc_eq, BookS.parts]; rfl)) (by (repeat' (first | exact trivial | refine And.intro ?_ ?_)) <;> first | rfl | exact Enc.size_eq _ | (simp; done)) ?_)
  refine WL.op rfl (opW.iface rfl ?_)
  refine WL.op rfl (opW.buildSl hS (([(⟨67, .agg (Enc.enc (⟨sl, (u8of ((pgs.length + 1 : Nat) : Int)), (u8of (255 - (((u8of ((pgs.length + 1 : Nat) : Int))).toNat : Int)))⟩ : ShByte))⟩ : IfV)] : List IfV)) [.iface 67 (.agg (Enc.enc (⟨sl, (u8of ((pgs.length + 1 : Nat) : Int)), (u8of (255 - (((u8of ((pgs.length + 1 : Nat) : Int))).toNat : Int)))⟩ : ShByte)))] rfl rfl rfl rfl (by decide) ?_)
  intro b19 w hw hS
  refine WL.op rfl (opW.appendOwn (α := IfV) rfl hS rfl (by first | exact .h0 | exact .h1 | exact .h2 | exact .h3 | exact .h4 | exact .h5 | exact .h6 | exact .h7 | exact .h8 | exact .h9 | exact .h10 | exact .h11 | exact .h12 | exact .h13 | exact .h14) (hS.sl (xs := ([(⟨67, .agg (Enc.enc (⟨sl, (u8of ((pgs.length + 1 : Nat) : Int)), (u8of (255 - (((u8of ((pgs.length + 1 : Nat) : Int))).toNat : Int)))⟩ : ShByte))⟩ : IfV)] : List IfV)) (by first | exact .h0 | exact .h1 | exact .h2 | exact .h3 | exact .h4 | exact .h5 | exact .h6 | exact .h7 | exact .h8 | exact .h9 | exact .h10 | exact .h11 | exact .h12 | exact .h13 | exact .h14)) (by simp only [List.length_map, List.length_cons, List.length_nil]; omega) (by simp only [maxLen, List.length_map, List.length_cons, List.length_nil]; omega) ?_)
  intro v20 w hS; replace hS := hS _ (by first | exact .h0 | exact .h1 | exact .h2 | exact .h3 | exact .h4 | exact .h5 | exact .h6 | exact .h7 | exact .h8 | exact .h9 | exact .h10 | exact .h11 | exact .h12 | exact .h13 | exact .h14)
  obtain ⟨sn, rfl⟩ := (hS.sl (v := v20) (xs := pgs.map Pg.iv ++ [(⟨67, .agg (Enc.enc (⟨sl, (u8of ((pgs.length + 1 : Nat) : Int)), (u8of (255 - (((u8of ((pgs.length + 1 : Nat) : Int))).toNat : Int)))⟩ : ShByte))⟩ : IfV)]) (by first | exact .h0 | exact .h1 | exact .h2 | exact .h3 | exact .h4 | exact .h5 | exact .h6 | exact .h7 | exact .h8 | exact .h9 | exact .h10 | exact .h11 | exact .h12 | exact .h13 | exact .h14)).asV
  refine WL.op rfl (opW.nilCheckB rfl ?_)
  refine WL.op rfl (opW.fieldAddrB rfl ?_)
  refine WL.op0 (opW.storeF (v := sn.v) (sz := 1) (cs' := Enc.enc (BookS.mk sn)) hS rfl rfl (by first | exact .h0 | exact .h1 | exact .h2 | exact .h3 | exact .h4 | exact .h5 | exact .h6 | exact .h7 | exact .h8 | exact .h9 | exact .h10 | exact .h11 | exact .h12 | exact .h13 | exact .h14) rfl (by rw [Enc.size_eq]; decide) (Enc.one (α := SlV) sn) (BookS.set_pages (BookS.mk sv) sn) ?_)
  intro w hS; replace hS := hS _ (by first | exact .h0 | exact .h1 | exact .h2 | exact .h3 | exact .h4 | exact .h5 | exact .h6 | exact .h7 | exact .h8 | exact .h9 | exact .h10 | exact .h11 | exact .h12 | exact .h13 | exact .h14)
  refine WL.nil ?_
  refine bodyQ_end .nil ?_
  exact ⟨sn, pg_Byte ⟨sl, (u8of ((pgs.length + 1 : Nat) : Int)), (u8of (255 - (((u8of ((pgs.length + 1 : Nat) : Int))).toNat : Int)))⟩ xs hov, St.bkAdd (pg_Byte ⟨sl, (u8of ((pgs.length + 1 : Nat) : Int)), (u8of (255 - (((u8of ((pgs.length + 1 : Nat) : Int))).toNat : Int)))⟩ xs hov) hS.drop1⟩

end Go.Fer
