/- numbers -/
import Derived.Test.YtmiacbnmifejdaaR
set_option linter.all false
namespace Go.Fer
open Go Go.Proofs Go.RowKit

theorem clone_b (w0 : World) (v : Value) (xs : List UInt8) (hx : SlR w0 v xs) (hl : xs.length ≤ 1000000) : Ret Try.prog 56 #[v] w0 (fun u w' => New w0 w' u 5 xs ∧ Bel w0 w') := by
  refine Ret.enter (args := [v]) Try.func56 rfl Try.ntmps56 Try.results56 rfl ?_
  have hS := St.start w0
  obtain ⟨a, c, rfl⟩ := hx.eq
  refine WC.seq (fun K1 hK1 => ?_)
  refine WC.region ?_
  refine WL.op rfl (opW.assignV (v := .slice none 0 0) rfl ?_)
  refine WL.nil ?_
  refine thenQ_n (hK1 _ _ ?_)
  refine WC.seq (fun K2 hK2 => ?_)
  refine WC.seq (fun K3 hK3 => ?_)
  refine WC.region ?_
  refine WL.op rfl (opW.moveV (v := .slice a xs.length c) rfl ?_)
  refine WL.op rfl (opW.eqlNil rfl rfl ?_)
  refine WL.nil ?_
  refine thenQ_n (hK3 _ _ ?_)
  refine WC.cond _ rfl (fun hc0 => ?_) (fun hc0 => ?_)
  ·
    have hr0 := hc0
    try simp only [decide_eq_true_eq, decide_eq_false_iff_not, Bool.and_eq_true, Bool.or_eq_true, Bool.and_eq_false_iff, Bool.or_eq_false_iff, Bool.not_eq_true', Bool.not_eq_false', Int.not_lt, Int.not_le] at hc0
    refine WC.seq (fun K4 hK4 => ?_)
    refine WC.region ?_
    refine WL.op rfl (opW.assignV (v := .slice none 0 0) rfl ?_)
    refine WL.nil ?_
    refine thenQ_n (hK4 _ _ ?_)
    refine WC.ret ?_
    refine thenQ_r ?_
    refine bodyQ_ret (.tmpV (v := .slice none 0 0) rfl .nil) ?_
    cases a with
    | none =>
      obtain ⟨rfl, _, _⟩ := hx.none_nil
      exact ⟨New.nil _ _ _, hS.old⟩
    | some a => cases hc0
  ·
    have hr0 := hc0
    try simp only [decide_eq_true_eq, decide_eq_false_iff_not, Bool.and_eq_true, Bool.or_eq_true, Bool.and_eq_false_iff, Bool.or_eq_false_iff, Bool.not_eq_true', Bool.not_eq_false', Int.not_lt, Int.not_le] at hc0
    refine WC.skip ?_
    refine thenQ_n (hK2 _ _ ?_)
    refine WC.seq (fun K5 hK5 => ?_)
    refine WC.region ?_
    refine WL.op rfl (opW.buildSl hS ([] : List UInt8) [] rfl rfl rfl rfl (by simp) ?_)
    intro b5 w _ hS
    refine WL.op rfl (opW.moveV (v := .slice a xs.length c) rfl ?_)
    refine WL.op rfl (opW.appendOwn (α := UInt8) rfl hS rfl (by first | exact .h0 | exact .h1 | exact .h2 | exact .h3 | exact .h4 | exact .h5 | exact .h6 | exact .h7 | exact .h8 | exact .h9 | exact .h10 | exact .h11 | exact .h12 | exact .h13 | exact .h14) ((hx.bel hS.old)) (by (try simp only [List.length_append, List.length_cons, List.length_nil, List.length_map]); omega) (by simp only [maxLen]; (try simp only [List.length_append, List.length_cons, List.length_nil, List.length_map]); omega) ?_)
    intro v7 w hS; replace hS := hS _ (by first | exact .h0 | exact .h1 | exact .h2 | exact .h3 | exact .h4 | exact .h5 | exact .h6 | exact .h7 | exact .h8 | exact .h9 | exact .h10 | exact .h11 | exact .h12 | exact .h13 | exact .h14)
    refine WL.op rfl (opW.assignV (v := v7) rfl ?_)
    refine WL.nil ?_
    refine thenQ_n (hK5 _ _ ?_)
    refine WC.ret ?_
    refine bodyQ_ret (.tmpV (v := v7) rfl .nil) ?_
    have h1 := hS.own_new (by first | exact .h0 | exact .h1 | exact .h2 | exact .h3 | exact .h4 | exact .h5 | exact .h6 | exact .h7 | exact .h8 | exact .h9 | exact .h10 | exact .h11 | exact .h12 | exact .h13 | exact .h14); simp only [List.nil_append] at h1; exact ⟨h1, hS.old⟩

theorem clip_b (w0 : World) (v : Value) (xs : List UInt8) (hx : SlR w0 v xs) : Ret Try.prog 32 #[v] w0 (fun u w' => u = cutV v 0 xs.length xs.length (Enc.sz (UInt8)) ∧ Bel w0 w') := by
  refine Ret.enter (args := [v]) Try.func32 rfl Try.ntmps32 Try.results32 rfl ?_
  have hS := St.start w0
  refine WC.seq (fun K1 hK1 => ?_)
  refine WC.region ?_
  refine WL.op rfl (opW.assignV (v := .slice none 0 0) rfl ?_)
  refine WL.nil ?_
  refine thenQ_n (hK1 _ _ ?_)
  refine WC.seq (fun K2 hK2 => ?_)
  refine WC.region ?_
  refine WL.op rfl (opW.moveV (v := v) rfl ?_)
  refine WL.op rfl (opW.moveV (v := v) rfl ?_)
  refine WL.op rfl (opW.lenV rfl ((hx.bel hS.old)) ?_)
  refine WL.op rfl (opW.moveV (v := v) rfl ?_)
  refine WL.op rfl (opW.lenV rfl ((hx.bel hS.old)) ?_)
  refine WL.op rfl (opW.cutS (hx.bel hS.old) ⟨⟨_, rfl⟩, hx.cap⟩ ⟨⟨_, rfl⟩, Nat.le_refl _⟩ ⟨rfl, Nat.zero_le _⟩ ?_)
  refine WL.op rfl (opW.assignV rfl ?_)
  refine WL.nil ?_
  refine thenQ_n (hK2 _ _ ?_)
  refine WC.ret ?_
  refine bodyQ_ret (.tmp .nil) ?_
  exact ⟨rfl, hS.old⟩

def lo (n : Nat) : UInt8 := UInt8.ofNat (n % 128 + 128)
theorem or128 (n : Nat) : bitsI .or .u8 ((n : Int) % 256) 128 = ((lo n).toNat : Int) := by
  have h : ∀ m : Fin 256, bitsI .or .u8 (m.val : Int) 128 = (((m.val % 128 + 128 : Nat) : Int)) := by decide +kernel
  have h1 := h ⟨n % 256, Nat.mod_lt _ (by omega)⟩
  simp only at h1
  have e1 : (((n % 256 : Nat) : Int)) = (n : Int) % 256 := by omega
  rw [e1] at h1
  rw [h1]
  have : (lo n).toNat = n % 128 + 128 := by simp [lo]; omega
  rw [this]; omega
theorem by8 (n : Nat) : (n : Int) % 256 = ((UInt8.ofNat n).toNat : Int) := by simp
theorem shr7 (n : Nat) : Int.fdiv (n : Int) (2 ^ (min (Int.toNat 7) IntKind.i64.bits)) = ((n / 128 : Nat) : Int) := by
  have : (2 : Int) ^ (min (Int.toNat 7) IntKind.i64.bits) = 128 := by decide
  rw [this, Int.fdiv_eq_ediv_of_nonneg _ (by omega)]; omega
/-- the bytes of a short number -/
def shortB (n : Nat) : List UInt8 :=
  if n < 128 then [UInt8.ofNat n] else if n < 16384 then [lo n, UInt8.ofNat (n / 128)] else [lo n, lo (n / 128), UInt8.ofNat (n / 128 / 128)]

theorem put_short (w0 : World) (v : Value) (xs : List UInt8) (n : Nat) (hx : SlR w0 v xs) (hl : xs.length ≤ 900000) (hn : n ≤ 65535) : Ret Try.prog 31 #[v, .int .i64 (n : Int)] w0 (fun u w' => ∃ v', u = .tuple #[v', .int .i64 0] ∧ New w0 w' v' 5 (xs ++ shortB n) ∧ Bel w0 w') := by
  refine Ret.enter (args := [v, .int .i64 (n : Int)]) Try.func31 rfl Try.ntmps31 Try.results31 rfl ?_
  have hS := St.start w0
  refine WC.seq (fun K1 hK1 => ?_)
  refine WC.region ?_
  refine WL.op rfl (opW.assignV (v := .slice none 0 0) rfl ?_)
  refine WL.op rfl (opW.assignI rfl ?_)
  refine WL.nil ?_
  refine thenQ_n (hK1 _ _ ?_)
  refine WC.seq (fun K2 hK2 => ?_)
  refine WC.seq (fun K3 hK3 => ?_)
  refine WC.region ?_
  refine WL.op rfl (opW.moveI rfl ?_)
  refine WL.op rfl (opW.lss rfl rfl ?_)
  refine WL.op rfl (opW.moveB rfl ?_)
  refine WL.gd _ 9 _ rfl rfl rfl rfl (fun hg10 => opW.moveI rfl ⟨rfl, Bel.refl _⟩) (fun w hw => ?_)
  replace hS := hS.bel hw
  refine WL.gd _ 9 _ rfl rfl rfl rfl (fun hg11 => opW.gtr (by first | exact gv_of rfl hg11 | rfl) rfl ⟨rfl, Bel.refl _⟩) (fun w hw => ?_)
  replace hS := hS.bel hw
  refine WL.op rfl (opW.pickOr rfl rfl (by first | rfl) ?_)
  refine WL.nil ?_
  refine thenQ_n (hK3 _ _ ?_)
  refine WC.cond _ rfl (fun hc0 => ?_) (fun hc0 => ?_)
  ·
    have hr0 := hc0
    try simp only [decide_eq_true_eq, decide_eq_false_iff_not, Bool.and_eq_true, Bool.or_eq_true, Bool.and_eq_false_iff, Bool.or_eq_false_iff, Bool.not_eq_true', Bool.not_eq_false', Int.not_lt, Int.not_le] at hc0
    omega
  ·
    have hr0 := hc0
    try simp only [decide_eq_true_eq, decide_eq_false_iff_not, Bool.and_eq_true, Bool.or_eq_true, Bool.and_eq_false_iff, Bool.or_eq_false_iff, Bool.not_eq_true', Bool.not_eq_false', Int.not_lt, Int.not_le] at hc0
    refine WC.skip ?_
    refine thenQ_n (hK2 _ _ ?_)
    refine WC.seq (fun K4 hK4 => ?_)
    refine WC.region ?_
    refine WL.op rfl (opW.moveV (v := v) rfl ?_)
    refine WL.op rfl (opW.call (clone_b _ _ _ (hx.bel hS.old) (by omega)) rfl ?_)
    rintro v14 w ⟨hv14, hw⟩
    replace hS := hS.newOwn hw hv14.1 hv14.2
    refine WL.op rfl (opW.assignV (v := v14) rfl ?_)
    refine WL.nil ?_
    refine thenQ_n (hK4 _ _ ?_)
    refine WC.seq (fun K5 hK5 => ?_)
    refine WC.block ?_
    refine WC.seq (fun K6 hK6 => ?_)
    refine WC.block ?_
    refine WC.seq (fun K7 hK7 => ?_)
    refine WC.block ?_
    refine WC.seq (fun K8 hK8 => ?_)
    refine WC.block ?_
    refine WC.seq (fun K9 hK9 => ?_)
    refine WC.seq (fun K10 hK10 => ?_)
    refine WC.seq (fun K11 hK11 => ?_)
    refine WC.region ?_
    refine WL.op rfl (opW.moveI rfl ?_)
    refine WL.op rfl (opW.geq rfl rfl ?_)
    refine WL.op rfl (opW.assignB rfl ?_)
    refine WL.nil ?_
    refine thenQ_n (hK11 _ _ ?_)
    refine WC.cond _ rfl (fun hc1 => ?_) (fun hc1 => ?_)
    ·
      have hr1 := hc1
      try simp only [decide_eq_true_eq, decide_eq_false_iff_not, Bool.and_eq_true, Bool.or_eq_true, Bool.and_eq_false_iff, Bool.or_eq_false_iff, Bool.not_eq_true', Bool.not_eq_false', Int.not_lt, Int.not_le] at hc1
      refine WC.exit ?_
      refine thenQ_e ?_
      refine thenQ_e ?_
      refine blockQ_hit ?_
      refine thenQ_n (hK8 _ _ ?_)
      refine WC.seq (fun K12 hK12 => ?_)
      refine WC.region ?_
      refine WL.op rfl (opW.moveV (v := v14) rfl ?_)
      refine WL.op rfl (opW.moveI rfl ?_)
      refine WL.op rfl (opW.conv rfl (wrap_u8_mod _) ?_)
      refine WL.op rfl (opW.or rfl rfl (or128 _) ?_)
      refine WL.op rfl (opW.buildSl hS [lo n] [.int .u8 ((lo n).toNat : Int)] rfl rfl rfl rfl (by decide) ?_)
      intro b25 w _ hS
      refine WL.op rfl (opW.appendOwn (α := UInt8) rfl hS rfl (by first | exact .h0 | exact .h1 | exact .h2 | exact .h3 | exact .h4 | exact .h5 | exact .h6 | exact .h7 | exact .h8 | exact .h9 | exact .h10 | exact .h11 | exact .h12 | exact .h13 | exact .h14) ((hS.sl (by first | exact .h0 | exact .h1 | exact .h2 | exact .h3 | exact .h4 | exact .h5 | exact .h6 | exact .h7 | exact .h8 | exact .h9 | exact .h10 | exact .h11 | exact .h12 | exact .h13 | exact .h14))) (by (try simp only [List.length_append, List.length_cons, List.length_nil, List.length_map]); omega) (by simp only [maxLen]; (try simp only [List.length_append, List.length_cons, List.length_nil, List.length_map]); omega) ?_)
      intro v26 w hS; replace hS := hS _ (by first | exact .h0 | exact .h1 | exact .h2 | exact .h3 | exact .h4 | exact .h5 | exact .h6 | exact .h7 | exact .h8 | exact .h9 | exact .h10 | exact .h11 | exact .h12 | exact .h13 | exact .h14)
      refine WL.op rfl (opW.assignV (v := v26) rfl ?_)
      refine WL.nil ?_
      refine thenQ_n (hK12 _ _ ?_)
      refine WC.region ?_
      refine WL.op rfl (opW.moveI rfl ?_)
      refine WL.op rfl (opW.shr rfl rfl (by omega) (shr7 _) ?_)
      refine WL.op rfl (opW.assignI rfl ?_)
      refine WL.nil ?_
      refine blockQ_n ?_
      refine thenQ_n (hK7 _ _ ?_)
      refine WC.seq (fun K13 hK13 => ?_)
      refine WC.region ?_
      refine WL.op rfl (opW.moveV (v := v26) rfl ?_)
      refine WL.op rfl (opW.moveI rfl ?_)
      refine WL.op rfl (opW.conv rfl (wrap_u8_mod _) ?_)
      refine WL.op rfl (opW.or rfl rfl (or128 _) ?_)
      refine WL.op rfl (opW.buildSl hS [lo _] [.int .u8 ((lo _).toNat : Int)] rfl rfl rfl rfl (by decide) ?_)
      intro b33 w _ hS
      refine WL.op rfl (opW.appendOwn (α := UInt8) rfl hS rfl (by first | exact .h0 | exact .h1 | exact .h2 | exact .h3 | exact .h4 | exact .h5 | exact .h6 | exact .h7 | exact .h8 | exact .h9 | exact .h10 | exact .h11 | exact .h12 | exact .h13 | exact .h14) ((hS.sl (by first | exact .h0 | exact .h1 | exact .h2 | exact .h3 | exact .h4 | exact .h5 | exact .h6 | exact .h7 | exact .h8 | exact .h9 | exact .h10 | exact .h11 | exact .h12 | exact .h13 | exact .h14))) (by (try simp only [List.length_append, List.length_cons, List.length_nil, List.length_map]); omega) (by simp only [maxLen]; (try simp only [List.length_append, List.length_cons, List.length_nil, List.length_map]); omega) ?_)
      intro v34 w hS; replace hS := hS _ (by first | exact .h0 | exact .h1 | exact .h2 | exact .h3 | exact .h4 | exact .h5 | exact .h6 | exact .h7 | exact .h8 | exact .h9 | exact .h10 | exact .h11 | exact .h12 | exact .h13 | exact .h14)
      refine WL.op rfl (opW.assignV (v := v34) rfl ?_)
      refine WL.nil ?_
      refine thenQ_n (hK13 _ _ ?_)
      refine WC.region ?_
      refine WL.op rfl (opW.moveI rfl ?_)
      refine WL.op rfl (opW.shr rfl rfl (by omega) (shr7 _) ?_)
      refine WL.op rfl (opW.assignI rfl ?_)
      refine WL.nil ?_
      refine blockQ_n ?_
      refine thenQ_n (hK6 _ _ ?_)
      refine WC.seq (fun K14 hK14 => ?_)
      refine WC.region ?_
      refine WL.op rfl (opW.moveV (v := v34) rfl ?_)
      refine WL.op rfl (opW.moveI rfl ?_)
      refine WL.op rfl (opW.conv rfl ((wrap_u8_mod _).trans (by8 _)) ?_)
      refine WL.op rfl (opW.buildSl hS [UInt8.ofNat _] [.int .u8 ((UInt8.ofNat _).toNat : Int)] rfl rfl rfl rfl (by decide) ?_)
      intro b40 w _ hS
      refine WL.op rfl (opW.appendOwn (α := UInt8) rfl hS rfl (by first | exact .h0 | exact .h1 | exact .h2 | exact .h3 | exact .h4 | exact .h5 | exact .h6 | exact .h7 | exact .h8 | exact .h9 | exact .h10 | exact .h11 | exact .h12 | exact .h13 | exact .h14) ((hS.sl (by first | exact .h0 | exact .h1 | exact .h2 | exact .h3 | exact .h4 | exact .h5 | exact .h6 | exact .h7 | exact .h8 | exact .h9 | exact .h10 | exact .h11 | exact .h12 | exact .h13 | exact .h14))) (by (try simp only [List.length_append, List.length_cons, List.length_nil, List.length_map]); omega) (by simp only [maxLen]; (try simp only [List.length_append, List.length_cons, List.length_nil, List.length_map]); omega) ?_)
      intro v41 w hS; replace hS := hS _ (by first | exact .h0 | exact .h1 | exact .h2 | exact .h3 | exact .h4 | exact .h5 | exact .h6 | exact .h7 | exact .h8 | exact .h9 | exact .h10 | exact .h11 | exact .h12 | exact .h13 | exact .h14)
      refine WL.op rfl (opW.assignV (v := v41) rfl ?_)
      refine WL.nil ?_
      refine thenQ_n (hK14 _ _ ?_)
      refine WC.exit ?_
      refine blockQ_hit ?_
      refine thenQ_n (hK5 _ _ ?_)
      refine WC.seq (fun K15 hK15 => ?_)
      refine WC.region ?_
      refine WL.op rfl (opW.moveV (v := v41) rfl ?_)
      refine WL.op rfl (opW.call (clip_b _ _ _ (hS.sl (by first | exact .h0 | exact .h1 | exact .h2 | exact .h3 | exact .h4 | exact .h5 | exact .h6 | exact .h7 | exact .h8 | exact .h9 | exact .h10 | exact .h11 | exact .h12 | exact .h13 | exact .h14))) rfl ?_)
      rintro v43 w ⟨hv43, hw⟩; replace hS := hS.bel hw
      refine WL.op rfl (opW.assignV (v := v43) rfl ?_)
      refine WL.op rfl (opW.assignI rfl ?_)
      refine WL.nil ?_
      refine thenQ_n (hK15 _ _ ?_)
      refine WC.ret ?_
      refine bodyQ_ret (.tmpV (v := v43) rfl (.tmpI rfl .nil)) ?_
      refine ⟨_, rfl, ?_, hS.old⟩
      subst hv43
      have h1 := New.cut (v := v41) (α := UInt8) (hS.own_new (by first | exact .h0 | exact .h1 | exact .h2 | exact .h3 | exact .h4 | exact .h5 | exact .h6 | exact .h7 | exact .h8 | exact .h9 | exact .h10 | exact .h11 | exact .h12 | exact .h13 | exact .h14))
      exact h1.of_eq (by unfold shortB; first | (rw [if_neg (by omega), if_neg (by omega)]; simp; done) | (rw [if_neg (by omega), if_pos (by omega)]; simp; done) | (rw [if_pos (by omega)]; done))
    ·
      have hr1 := hc1
      try simp only [decide_eq_true_eq, decide_eq_false_iff_not, Bool.and_eq_true, Bool.or_eq_true, Bool.and_eq_false_iff, Bool.or_eq_false_iff, Bool.not_eq_true', Bool.not_eq_false', Int.not_lt, Int.not_le] at hc1
      refine WC.skip ?_
      refine thenQ_n (hK10 _ _ ?_)
      refine WC.seq (fun K16 hK16 => ?_)
      refine WC.region ?_
      refine WL.op rfl (opW.moveI rfl ?_)
      refine WL.op rfl (opW.geq rfl rfl ?_)
      refine WL.op rfl (opW.assignB rfl ?_)
      refine WL.nil ?_
      refine thenQ_n (hK16 _ _ ?_)
      refine WC.cond _ rfl (fun hc2 => ?_) (fun hc2 => ?_)
      ·
        have hr2 := hc2
        try simp only [decide_eq_true_eq, decide_eq_false_iff_not, Bool.and_eq_true, Bool.or_eq_true, Bool.and_eq_false_iff, Bool.or_eq_false_iff, Bool.not_eq_true', Bool.not_eq_false', Int.not_lt, Int.not_le] at hc2
        refine WC.exit ?_
        refine thenQ_e ?_
        refine blockQ_miss rfl ?_
        refine thenQ_e ?_
        refine blockQ_hit ?_
        refine thenQ_n (hK7 _ _ ?_)
        refine WC.seq (fun K17 hK17 => ?_)
        refine WC.region ?_
        refine WL.op rfl (opW.moveV (v := v14) rfl ?_)
        refine WL.op rfl (opW.moveI rfl ?_)
        refine WL.op rfl (opW.conv rfl (wrap_u8_mod _) ?_)
        refine WL.op rfl (opW.or rfl rfl (or128 _) ?_)
        refine WL.op rfl (opW.buildSl hS [lo _] [.int .u8 ((lo _).toNat : Int)] rfl rfl rfl rfl (by decide) ?_)
        intro b33 w _ hS
        refine WL.op rfl (opW.appendOwn (α := UInt8) rfl hS rfl (by first | exact .h0 | exact .h1 | exact .h2 | exact .h3 | exact .h4 | exact .h5 | exact .h6 | exact .h7 | exact .h8 | exact .h9 | exact .h10 | exact .h11 | exact .h12 | exact .h13 | exact .h14) ((hS.sl (by first | exact .h0 | exact .h1 | exact .h2 | exact .h3 | exact .h4 | exact .h5 | exact .h6 | exact .h7 | exact .h8 | exact .h9 | exact .h10 | exact .h11 | exact .h12 | exact .h13 | exact .h14))) (by (try simp only [List.length_append, List.length_cons, List.length_nil, List.length_map]); omega) (by simp only [maxLen]; (try simp only [List.length_append, List.length_cons, List.length_nil, List.length_map]); omega) ?_)
        intro v34 w hS; replace hS := hS _ (by first | exact .h0 | exact .h1 | exact .h2 | exact .h3 | exact .h4 | exact .h5 | exact .h6 | exact .h7 | exact .h8 | exact .h9 | exact .h10 | exact .h11 | exact .h12 | exact .h13 | exact .h14)
        refine WL.op rfl (opW.assignV (v := v34) rfl ?_)
        refine WL.nil ?_
        refine thenQ_n (hK17 _ _ ?_)
        refine WC.region ?_
        refine WL.op rfl (opW.moveI rfl ?_)
        refine WL.op rfl (opW.shr rfl rfl (by omega) (shr7 _) ?_)
        refine WL.op rfl (opW.assignI rfl ?_)
        refine WL.nil ?_
        refine blockQ_n ?_
        refine thenQ_n (hK6 _ _ ?_)
        refine WC.seq (fun K18 hK18 => ?_)
        refine WC.region ?_
        refine WL.op rfl (opW.moveV (v := v34) rfl ?_)
        refine WL.op rfl (opW.moveI rfl ?_)
        refine WL.op rfl (opW.conv rfl ((wrap_u8_mod _).trans (by8 _)) ?_)
        refine WL.op rfl (opW.buildSl hS [UInt8.ofNat _] [.int .u8 ((UInt8.ofNat _).toNat : Int)] rfl rfl rfl rfl (by decide) ?_)
        intro b40 w _ hS
        refine WL.op rfl (opW.appendOwn (α := UInt8) rfl hS rfl (by first | exact .h0 | exact .h1 | exact .h2 | exact .h3 | exact .h4 | exact .h5 | exact .h6 | exact .h7 | exact .h8 | exact .h9 | exact .h10 | exact .h11 | exact .h12 | exact .h13 | exact .h14) ((hS.sl (by first | exact .h0 | exact .h1 | exact .h2 | exact .h3 | exact .h4 | exact .h5 | exact .h6 | exact .h7 | exact .h8 | exact .h9 | exact .h10 | exact .h11 | exact .h12 | exact .h13 | exact .h14))) (by (try simp only [List.length_append, List.length_cons, List.length_nil, List.length_map]); omega) (by simp only [maxLen]; (try simp only [List.length_append, List.length_cons, List.length_nil, List.length_map]); omega) ?_)
        intro v41 w hS; replace hS := hS _ (by first | exact .h0 | exact .h1 | exact .h2 | exact .h3 | exact .h4 | exact .h5 | exact .h6 | exact .h7 | exact .h8 | exact .h9 | exact .h10 | exact .h11 | exact .h12 | exact .h13 | exact .h14)
        refine WL.op rfl (opW.assignV (v := v41) rfl ?_)
        refine WL.nil ?_
        refine thenQ_n (hK18 _ _ ?_)
        refine WC.exit ?_
        refine blockQ_hit ?_
        refine thenQ_n (hK5 _ _ ?_)
        refine WC.seq (fun K19 hK19 => ?_)
        refine WC.region ?_
        refine WL.op rfl (opW.moveV (v := v41) rfl ?_)
        refine WL.op rfl (opW.call (clip_b _ _ _ (hS.sl (by first | exact .h0 | exact .h1 | exact .h2 | exact .h3 | exact .h4 | exact .h5 | exact .h6 | exact .h7 | exact .h8 | exact .h9 | exact .h10 | exact .h11 | exact .h12 | exact .h13 | exact .h14))) rfl ?_)
        rintro v43 w ⟨hv43, hw⟩; replace hS := hS.bel hw
        refine WL.op rfl (opW.assignV (v := v43) rfl ?_)
        refine WL.op rfl (opW.assignI rfl ?_)
        refine WL.nil ?_
        refine thenQ_n (hK19 _ _ ?_)
        refine WC.ret ?_
        refine bodyQ_ret (.tmpV (v := v43) rfl (.tmpI rfl .nil)) ?_
        refine ⟨_, rfl, ?_, hS.old⟩
        subst hv43
        have h1 := New.cut (v := v41) (α := UInt8) (hS.own_new (by first | exact .h0 | exact .h1 | exact .h2 | exact .h3 | exact .h4 | exact .h5 | exact .h6 | exact .h7 | exact .h8 | exact .h9 | exact .h10 | exact .h11 | exact .h12 | exact .h13 | exact .h14))
        exact h1.of_eq (by unfold shortB; first | (rw [if_neg (by omega), if_neg (by omega)]; simp; done) | (rw [if_neg (by omega), if_pos (by omega)]; simp; done) | (rw [if_pos (by omega)]; done))
      ·
        have hr2 := hc2
        try simp only [decide_eq_true_eq, decide_eq_false_iff_not, Bool.and_eq_true, Bool.or_eq_true, Bool.and_eq_false_iff, Bool.or_eq_false_iff, Bool.not_eq_true', Bool.not_eq_false', Int.not_lt, Int.not_le] at hc2
        refine WC.skip ?_
        refine thenQ_n (hK9 _ _ ?_)
        refine WC.exit ?_
        refine blockQ_miss rfl ?_
        refine thenQ_e ?_
        refine blockQ_miss rfl ?_
        refine thenQ_e ?_
        refine blockQ_hit ?_
        refine thenQ_n (hK6 _ _ ?_)
        refine WC.seq (fun K20 hK20 => ?_)
        refine WC.region ?_
        refine WL.op rfl (opW.moveV (v := v14) rfl ?_)
        refine WL.op rfl (opW.moveI rfl ?_)
        refine WL.op rfl (opW.conv rfl ((wrap_u8_mod _).trans (by8 _)) ?_)
        refine WL.op rfl (opW.buildSl hS [UInt8.ofNat _] [.int .u8 ((UInt8.ofNat _).toNat : Int)] rfl rfl rfl rfl (by decide) ?_)
        intro b40 w _ hS
        refine WL.op rfl (opW.appendOwn (α := UInt8) rfl hS rfl (by first | exact .h0 | exact .h1 | exact .h2 | exact .h3 | exact .h4 | exact .h5 | exact .h6 | exact .h7 | exact .h8 | exact .h9 | exact .h10 | exact .h11 | exact .h12 | exact .h13 | exact .h14) ((hS.sl (by first | exact .h0 | exact .h1 | exact .h2 | exact .h3 | exact .h4 | exact .h5 | exact .h6 | exact .h7 | exact .h8 | exact .h9 | exact .h10 | exact .h11 | exact .h12 | exact .h13 | exact .h14))) (by (try simp only [List.length_append, List.length_cons, List.length_nil, List.length_map]); omega) (by simp only [maxLen]; (try simp only [List.length_append, List.length_cons, List.length_nil, List.length_map]); omega) ?_)
        intro v41 w hS; replace hS := hS _ (by first | exact .h0 | exact .h1 | exact .h2 | exact .h3 | exact .h4 | exact .h5 | exact .h6 | exact .h7 | exact .h8 | exact .h9 | exact .h10 | exact .h11 | exact .h12 | exact .h13 | exact .h14)
        refine WL.op rfl (opW.assignV (v := v41) rfl ?_)
        refine WL.nil ?_
        refine thenQ_n (hK20 _ _ ?_)
        refine WC.exit ?_
        refine blockQ_hit ?_
        refine thenQ_n (hK5 _ _ ?_)
        refine WC.seq (fun K21 hK21 => ?_)
        refine WC.region ?_
        refine WL.op rfl (opW.moveV (v := v41) rfl ?_)
        refine WL.op rfl (opW.call (clip_b _ _ _ (hS.sl (by first | exact .h0 | exact .h1 | exact .h2 | exact .h3 | exact .h4 | exact .h5 | exact .h6 | exact .h7 | exact .h8 | exact .h9 | exact .h10 | exact .h11 | exact .h12 | exact .h13 | exact .h14))) rfl ?_)
        rintro v43 w ⟨hv43, hw⟩; replace hS := hS.bel hw
        refine WL.op rfl (opW.assignV (v := v43) rfl ?_)
        refine WL.op rfl (opW.assignI rfl ?_)
        refine WL.nil ?_
        refine thenQ_n (hK21 _ _ ?_)
        refine WC.ret ?_
        refine bodyQ_ret (.tmpV (v := v43) rfl (.tmpI rfl .nil)) ?_
        refine ⟨_, rfl, ?_, hS.old⟩
        subst hv43
        have h1 := New.cut (v := v41) (α := UInt8) (hS.own_new (by first | exact .h0 | exact .h1 | exact .h2 | exact .h3 | exact .h4 | exact .h5 | exact .h6 | exact .h7 | exact .h8 | exact .h9 | exact .h10 | exact .h11 | exact .h12 | exact .h13 | exact .h14))
        exact h1.of_eq (by unfold shortB; first | (rw [if_neg (by omega), if_neg (by omega)]; simp; done) | (rw [if_neg (by omega), if_pos (by omega)]; simp; done) | (rw [if_pos (by omega)]; done))

theorem put_short_err (w0 : World) (v : Value) (n : Int) (hn : n < 0 ∨ 65535 < n) : Ret Try.prog 31 #[v, .int .i64 n] w0 (fun u w' => u = .tuple #[.slice none 0 0, .int .i64 1] ∧ Bel w0 w') := by
  refine Ret.enter (args := [v, .int .i64 n]) Try.func31 rfl Try.ntmps31 Try.results31 rfl ?_
  have hS := St.start w0
  refine WC.seq (fun K1 hK1 => ?_)
  refine WC.region ?_
  refine WL.op rfl (opW.assignV (v := .slice none 0 0) rfl ?_)
  refine WL.op rfl (opW.assignI rfl ?_)
  refine WL.nil ?_
  refine thenQ_n (hK1 _ _ ?_)
  refine WC.seq (fun K2 hK2 => ?_)
  refine WC.seq (fun K3 hK3 => ?_)
  refine WC.region ?_
  refine WL.op rfl (opW.moveI rfl ?_)
  refine WL.op rfl (opW.lss rfl rfl ?_)
  refine WL.op rfl (opW.moveB rfl ?_)
  refine WL.gd _ 9 _ rfl rfl rfl rfl (fun hg10 => opW.moveI rfl ⟨rfl, Bel.refl _⟩) (fun w hw => ?_)
  replace hS := hS.bel hw
  refine WL.gd _ 9 _ rfl rfl rfl rfl (fun hg11 => opW.gtr (by first | exact gv_of rfl hg11 | rfl) rfl ⟨rfl, Bel.refl _⟩) (fun w hw => ?_)
  replace hS := hS.bel hw
  refine WL.op rfl (opW.pickOr rfl rfl (by first | rfl) ?_)
  refine WL.nil ?_
  refine thenQ_n (hK3 _ _ ?_)
  refine WC.cond _ rfl (fun hc0 => ?_) (fun hc0 => ?_)
  ·
    have hr0 := hc0
    try simp only [decide_eq_true_eq, decide_eq_false_iff_not, Bool.and_eq_true, Bool.or_eq_true, Bool.and_eq_false_iff, Bool.or_eq_false_iff, Bool.not_eq_true', Bool.not_eq_false', Int.not_lt, Int.not_le] at hc0
    refine WC.seq (fun K4 hK4 => ?_)
    refine WC.region ?_
    refine WL.op rfl (opW.assignV (v := .slice none 0 0) rfl ?_)
    refine WL.op rfl (opW.assignI rfl ?_)
    refine WL.nil ?_
    refine thenQ_n (hK4 _ _ ?_)
    refine WC.ret ?_
    refine thenQ_r ?_
    refine bodyQ_ret (.tmpV (v := .slice none 0 0) rfl (.tmpI rfl .nil)) ?_
    exact ⟨rfl, hS.old⟩
  ·
    have hr0 := hc0
    try simp only [decide_eq_true_eq, decide_eq_false_iff_not, Bool.and_eq_true, Bool.or_eq_true, Bool.and_eq_false_iff, Bool.or_eq_false_iff, Bool.not_eq_true', Bool.not_eq_false', Int.not_lt, Int.not_le] at hc0
    omega

/-- a short number off bytes: number, how many bytes, error -/
def gs : List UInt8 → Nat → Nat → Int × Int × Int
  | [], _, _ => (0, 0, 5)
  | c :: r, k, n => if (decide ((k : Int) > 0) && decide ((c.toNat : Int) = 0) || decide ((k : Int) = 2) && decide (3 < (c.toNat : Int))) = true then (0, 0, 4)
    else if (c.toNat : Int) < 128 then (((n + c.toNat % 128 * 2 ^ (7 * k) : Nat) : Int), ((k + 1 : Nat) : Int), 0) else gs r (k + 1) (n + c.toNat % 128 * 2 ^ (7 * k))
theorem gs_step {b : List UInt8} {k : Nat} (hk : k < b.length) (n : Nat) : gs (b.drop k) k n = gs (b[k] :: b.drop (k + 1)) k n := by rw [List.drop_eq_getElem_cons hk]
theorem gs_end {b : List UInt8} {k n : Nat} (hk : b.length ≤ k) : gs (b.drop k) k n = (0, 0, 5) := by rw [List.drop_of_length_le hk]; rfl
theorem gs_shl {c : UInt8} {k : Nat} (hk : k ≤ 2) : IntKind.i64.wrap (((c.toNat % 128 : Nat) : Int) * 2 ^ (min (Int.toNat (7 * (k : Int))) IntKind.i64.bits)) = ((c.toNat % 128 * 2 ^ (7 * k) : Nat) : Int) := by
  have e : (7 * (k : Int)) = ((7 * k : Nat) : Int) := by omega
  rw [e]
  have hb : c.toNat % 128 * 2 ^ (7 * k) ≤ 127 * 2 ^ 14 := Nat.mul_le_mul (by omega) (Nat.pow_le_pow_right (by omega) (by omega))
  refine shl_i64 (by omega) (by simp) (by omega)
theorem gs_or {c : UInt8} {k n : Nat} (hk : k ≤ 2) (hn : n < 2 ^ (7 * k)) : bitsI .or .i64 (n : Int) ((c.toNat % 128 * 2 ^ (7 * k) : Nat) : Int) = ((n + c.toNat % 128 * 2 ^ (7 * k) : Nat) : Int) := by
  have hb : c.toNat % 128 * 2 ^ (7 * k) ≤ 127 * 2 ^ 14 := Nat.mul_le_mul (by omega) (Nat.pow_le_pow_right (by omega) (by omega))
  have hp : 2 ^ (7 * k) ≤ 2 ^ 14 := Nat.pow_le_pow_right (by omega) (by omega)
  rw [bits_or_i64 _ _ (by omega) (by omega), or_add_low _ _ _ hn]
theorem gs_lt {c : UInt8} {k n : Nat} (hn : n < 2 ^ (7 * k)) : n + c.toNat % 128 * 2 ^ (7 * k) < 2 ^ (7 * (k + 1)) := by
  have e : 2 ^ (7 * (k + 1)) = 128 * 2 ^ (7 * k) := by rw [Nat.mul_add, Nat.pow_add, Nat.mul_comm]
  have : c.toNat % 128 * 2 ^ (7 * k) ≤ 127 * 2 ^ (7 * k) := Nat.mul_le_mul_right _ (by omega)
  omega

theorem get_short (w0 : World) (v : Value) (b : List UInt8) (hx : SlR w0 v b) : Ret Try.prog 42 #[v] w0 (fun u w' => u = .tuple #[.int .i64 (gs b 0 0).1, .int .i64 (gs b 0 0).2.1, .int .i64 (gs b 0 0).2.2] ∧ Bel w0 w') := by
  refine Ret.enter (args := [v]) Try.func42 rfl Try.ntmps42 Try.results42 rfl ?_
  have hS := St.start w0
  refine WC.seq (fun K1 hK1 => ?_)
  refine WC.region ?_
  refine WL.op rfl (opW.assignI rfl ?_)
  refine WL.op rfl (opW.assignI rfl ?_)
  refine WL.op rfl (opW.assignI rfl ?_)
  refine WL.nil ?_
  refine thenQ_n (hK1 _ _ ?_)
  refine WC.seq (fun K2 hK2 => ?_)
  refine WC.seq (fun K3 hK3 => ?_)
  refine WC.region ?_
  refine WL.op rfl (opW.moveV (v := v) rfl ?_)
  refine WL.op rfl (opW.lenV rfl ((hx.bel hS.old)) ?_)
  refine WL.op rfl (opW.moveI rfl ?_)
  refine WL.nil ?_
  refine thenQ_n (hK3 _ _ ?_)
  refine WC.block ?_
  refine WC.loop (fun m f w => ∃ k n : Nat, Fits [(2, .int .i64 (n : Int)), (7, v), (8, .int .i64 (b.length : Int)), (9, .int .i64 (k : Int))] f ∧ St w0 [] w ∧ gs (b.drop k) k n = gs b 0 0 ∧ n < 2 ^ (7 * k) ∧ k ≤ 2 ∧ m = b.length - k) (b.length) ?_ ?_
  ·
    exact ⟨0, 0, ⟨rfl, rfl, rfl, rfl, trivial⟩, hS, rfl, by decide, by omega, rfl⟩
  ·
    rintro m f w ⟨k, n, hfit, hS, hg, hn, hk2, hm⟩
    refine WC.fits _ hfit (fun g => ?_)
    clear hfit
    refine WC.seq (fun K4 hK4 => ?_)
    refine WC.region ?_
    refine WL.op rfl (opW.lss rfl rfl ?_)
    refine WL.nil ?_
    refine thenQ_n (hK4 _ _ ?_)
    refine WC.seq (fun K5 hK5 => ?_)
    refine WC.cond _ rfl (fun hc0 => ?_) (fun hc0 => ?_)
    ·
      have hr0 := hc0
      try simp only [decide_eq_true_eq, decide_eq_false_iff_not, Bool.and_eq_true, Bool.or_eq_true, Bool.and_eq_false_iff, Bool.or_eq_false_iff, Bool.not_eq_true', Bool.not_eq_false', Int.not_lt, Int.not_le] at hc0
      have hk : k < b.length := by omega
      have hlt := u8_lt b[k]
      have hle := hx.le
      simp only [maxLen] at hle
      refine WC.skip ?_
      refine thenQ_n (hK5 _ _ ?_)
      refine WC.seq (fun K6 hK6 => ?_)
      refine WC.block ?_
      refine WC.seq (fun K7 hK7 => ?_)
      refine WC.region ?_
      refine WL.op rfl (opW.moveI rfl ?_)
      refine WL.op rfl (opW.idxV rfl ((hx.bel hS.old)) rfl (by omega) ?_)
      refine WL.op rfl (opW.loadV rfl (((hx.bel hS.old).pt (List.getElem?_eq_getElem hk)).ld rfl) ?_)
      refine WL.op rfl (opW.assignI rfl ?_)
      refine WL.op rfl (opW.assignI rfl ?_)
      refine WL.nil ?_
      refine thenQ_n (hK7 _ _ ?_)
      refine WC.seq (fun K8 hK8 => ?_)
      refine WC.seq (fun K9 hK9 => ?_)
      refine WC.region ?_
      refine WL.op rfl (opW.moveI rfl ?_)
      refine WL.op rfl (opW.gtr rfl rfl ?_)
      refine WL.op rfl (opW.moveB rfl ?_)
      refine WL.gd _ 16 _ rfl rfl rfl rfl (fun hg17 => opW.moveI rfl ⟨rfl, Bel.refl _⟩) (fun w hw => ?_)
      replace hS := hS.bel hw
      refine WL.gd _ 16 _ rfl rfl rfl rfl (fun hg18 => opW.eql (by first | exact gv_of rfl hg18 | rfl) rfl ⟨rfl, Bel.refl _⟩) (fun w hw => ?_)
      replace hS := hS.bel hw
      refine WL.op rfl (opW.pickAnd rfl (by first | rfl) rfl ?_)
      refine WL.op rfl (opW.moveB rfl ?_)
      refine WL.gd _ 20 _ rfl rfl rfl rfl (fun hg21 => opW.moveI rfl ⟨rfl, Bel.refl _⟩) (fun w hw => ?_)
      replace hS := hS.bel hw
      refine WL.gd _ 20 _ rfl rfl rfl rfl (fun hg22 => opW.eql (by first | exact gv_of rfl hg22 | rfl) rfl ⟨rfl, Bel.refl _⟩) (fun w hw => ?_)
      replace hS := hS.bel hw
      refine WL.gd _ 20 _ rfl rfl rfl rfl (fun hg23 => opW.moveB (by first | exact gv_of rfl hg23 | rfl) ⟨rfl, Bel.refl _⟩) (fun w hw => ?_)
      replace hS := hS.bel hw
      refine WL.gd2 _ _ 23 _ rfl rfl rfl rfl (fun hg24 => opW.moveI rfl ⟨rfl, Bel.refl _⟩) (fun w hw => ?_)
      replace hS := hS.bel hw
      refine WL.gd2 _ _ 23 _ rfl rfl rfl rfl (fun hg25 => opW.gtr (by first | exact gv_of rfl hg25 | rfl) rfl ⟨rfl, Bel.refl _⟩) (fun w hw => ?_)
      replace hS := hS.bel hw
      refine WL.gd _ 20 _ rfl rfl rfl rfl (fun hg26 => opW.pickAnd (by first | exact gv_of rfl hg26 | rfl) (by first | exact gv_and rfl hg26 | rfl) rfl ⟨rfl, Bel.refl _⟩) (fun w hw => ?_)
      replace hS := hS.bel hw
      refine WL.op rfl (opW.pickOr rfl rfl (by first | rfl) ?_)
      refine WL.nil ?_
      refine thenQ_n (hK9 _ _ ?_)
      refine WC.cond _ rfl (fun hc1 => ?_) (fun hc1 => ?_)
      ·
        have hr1 := hc1
        try simp only [decide_eq_true_eq, decide_eq_false_iff_not, Bool.and_eq_true, Bool.or_eq_true, Bool.and_eq_false_iff, Bool.or_eq_false_iff, Bool.not_eq_true', Bool.not_eq_false', Int.not_lt, Int.not_le] at hc1
        refine WC.seq (fun K10 hK10 => ?_)
        refine WC.region ?_
        refine WL.op rfl (opW.assignI rfl ?_)
        refine WL.op rfl (opW.assignI rfl ?_)
        refine WL.op rfl (opW.assignI rfl ?_)
        refine WL.nil ?_
        refine thenQ_n (hK10 _ _ ?_)
        refine WC.ret ?_
        refine thenQ_r ?_
        refine blockQ_r ?_
        refine thenQ_r ?_
        refine thenQ_r ?_
        refine blockQ_r ?_
        refine thenQ_r ?_
        refine bodyQ_ret (.tmpI rfl (.tmpI rfl (.tmpI rfl .nil))) ?_
        refine ⟨?_, hS.old⟩
        rw [← hg, gs_step hk, gs, if_pos (by simpa using hr1)]
        rfl
      ·
        have hr1 := hc1
        try simp only [decide_eq_true_eq, decide_eq_false_iff_not, Bool.and_eq_true, Bool.or_eq_true, Bool.and_eq_false_iff, Bool.or_eq_false_iff, Bool.not_eq_true', Bool.not_eq_false', Int.not_lt, Int.not_le] at hc1
        refine WC.skip ?_
        refine thenQ_n (hK8 _ _ ?_)
        refine WC.seq (fun K11 hK11 => ?_)
        refine WC.region ?_
        refine WL.op rfl (opW.moveI rfl ?_)
        refine WL.op rfl (opW.moveI rfl ?_)
        refine WL.op rfl (opW.andNot rfl rfl (andNot128 _) ?_)
        refine WL.op rfl (opW.conv rfl (wrap_i64 (by omega)) ?_)
        refine WL.op rfl (opW.moveI rfl ?_)
        refine WL.op rfl (opW.mul rfl rfl (wrap_i64 (by omega)) ?_)
        refine WL.op rfl (opW.shl rfl rfl (by omega) (gs_shl hk2) ?_)
        refine WL.op rfl (opW.or rfl rfl (gs_or hk2 hn) ?_)
        refine WL.op rfl (opW.assignI rfl ?_)
        refine WL.nil ?_
        refine thenQ_n (hK11 _ _ ?_)
        refine WC.seq (fun K12 hK12 => ?_)
        refine WC.region ?_
        refine WL.op rfl (opW.moveI rfl ?_)
        refine WL.op rfl (opW.lss rfl rfl ?_)
        refine WL.nil ?_
        refine thenQ_n (hK12 _ _ ?_)
        refine WC.cond _ rfl (fun hc2 => ?_) (fun hc2 => ?_)
        ·
          have hr2 := hc2
          try simp only [decide_eq_true_eq, decide_eq_false_iff_not, Bool.and_eq_true, Bool.or_eq_true, Bool.and_eq_false_iff, Bool.or_eq_false_iff, Bool.not_eq_true', Bool.not_eq_false', Int.not_lt, Int.not_le] at hc2
          refine WC.seq (fun K13 hK13 => ?_)
          refine WC.region ?_
          refine WL.op rfl (opW.moveI rfl ?_)
          refine WL.op rfl (opW.moveI rfl ?_)
          refine WL.op rfl (opW.add rfl rfl (wrap_i64 (by omega)) ?_)
          refine WL.op rfl (opW.assignI rfl ?_)
          refine WL.op rfl (opW.assignI rfl ?_)
          refine WL.op rfl (opW.assignI rfl ?_)
          refine WL.nil ?_
          refine thenQ_n (hK13 _ _ ?_)
          refine WC.ret ?_
          refine blockQ_r ?_
          refine thenQ_r ?_
          refine thenQ_r ?_
          refine blockQ_r ?_
          refine thenQ_r ?_
          refine bodyQ_ret (.tmpI rfl (.tmpI rfl (.tmpI rfl .nil))) ?_
          refine ⟨?_, hS.old⟩
          rw [← hg, gs_step hk, gs, if_neg (by simpa using hr1), if_pos (by omega)]
          rfl
        ·
          have hr2 := hc2
          try simp only [decide_eq_true_eq, decide_eq_false_iff_not, Bool.and_eq_true, Bool.or_eq_true, Bool.and_eq_false_iff, Bool.or_eq_false_iff, Bool.not_eq_true', Bool.not_eq_false', Int.not_lt, Int.not_le] at hc2
          refine WC.skip ?_
          refine blockQ_n ?_
          refine thenQ_n (hK6 _ _ ?_)
          refine WC.region ?_
          refine WL.op rfl (opW.add rfl rfl (wrap_i64 (by omega)) ?_)
          refine WL.op rfl (opW.moveI rfl ?_)
          refine WL.nil ?_
          refine thenQ_n ?_
          refine ⟨b.length - (k + 1), by omega, k + 1, n + b[k].toNat % 128 * 2 ^ (7 * k), ⟨rfl, rfl, rfl, congrArg (Value.int .i64) (by omega), trivial⟩, hS, ?_, gs_lt hn, ?_, rfl⟩
          · rw [← hg, gs_step hk, gs, if_neg (by simpa using hr1), if_neg (by omega)]
          · omega
    ·
      have hr0 := hc0
      try simp only [decide_eq_true_eq, decide_eq_false_iff_not, Bool.and_eq_true, Bool.or_eq_true, Bool.and_eq_false_iff, Bool.or_eq_false_iff, Bool.not_eq_true', Bool.not_eq_false', Int.not_lt, Int.not_le] at hc0
      refine WC.exit ?_
      refine thenQ_e ?_
      refine thenQ_e ?_
      refine blockQ_hit ?_
      refine thenQ_n (hK2 _ _ ?_)
      refine WC.seq (fun K14 hK14 => ?_)
      refine WC.region ?_
      refine WL.op rfl (opW.assignI rfl ?_)
      refine WL.op rfl (opW.assignI rfl ?_)
      refine WL.op rfl (opW.assignI rfl ?_)
      refine WL.nil ?_
      refine thenQ_n (hK14 _ _ ?_)
      refine WC.ret ?_
      refine bodyQ_ret (.tmpI rfl (.tmpI rfl (.tmpI rfl .nil))) ?_
      refine ⟨?_, hS.old⟩
      rw [← hg, gs_end (by omega)]
      rfl

end Go.Fer
