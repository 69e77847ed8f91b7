/- CostsMore -/
import Derived.Test.YtoahabjkpnfneaaF
set_option linter.all false
namespace Go.Fer
open Go Go.Proofs Go.RowKit

theorem tm_one {a b : Nat} (h : a * b < 18446744073709551616) : tmF a b 1 false = a * b := by
  unfold tmF
  rw [if_neg (by rw [Nat.div_eq_of_lt h]; decide)]
  simp
theorem cost_small {s d u : Nat} {w : Int} {n : Nat} (hs : s ≤ 1000) (hd : d < 10000) (hw : (max 0 w).toNat = n) (hn : n ≤ 70000) {T : Nat} (hT : T = 720 * s + 300 * n + d / 4 + u) : (T ≤ 18446744073709551615 ∧ costF s d w u = T) ∨ (18446744073709551615 < T ∧ costF s d w u = 18446744073709551615) := by
  have e : costF s d w u = min T 18446744073709551615 := by
    unfold costF
    rw [sumL_min]
    unfold partsL
    rw [hw, tm_one (by omega), tm_one (by omega), Nat.mod_eq_of_lt (by omega)]
    simp only [List.map_cons, List.map_nil, List.sum_cons, List.sum_nil]
    congr 1
    omega
  rw [e]
  rcases Nat.lt_or_ge 18446744073709551615 T with h | h
  · exact .inr ⟨h, Nat.min_eq_right (Nat.le_of_lt h)⟩
  · exact .inl ⟨h, Nat.min_eq_left h⟩
theorem more_all {s d n u : Nat} (hs : s ≤ 300) (hd : d < 3000) (hn : n ≤ 65535) (hu : u < 18446744073709551616) :
    (18446744073709550895 < costF s d n u → costF (s + 1) d n u = 18446744073709551615 ∧ costF s d n u ≤ costF s (d + 4) n u) ∧
    (costF s d n u ≤ 18446744073709550895 → u + 1 < 18446744073709551616 ∧ costF (s + 1) d n u = costF s d n u + 720 ∧ costF s d ((n : Int) + 1) u = costF s d n u + 300 ∧ costF s (d + 4) n u = costF s d n u + 1 ∧ costF s d n (u + 1) = costF s d n u + 1) := by
  have h1 := cost_small (s := s) (d := d) (u := u) (w := n) (n := n) (by omega) (by omega) (by omega) (by omega) rfl
  have h2 := cost_small (s := s + 1) (d := d) (u := u) (w := n) (n := n) (by omega) (by omega) (by omega) (by omega) rfl
  have h3 := cost_small (s := s) (d := d) (u := u) (w := (n : Int) + 1) (n := n + 1) (by omega) (by omega) (by omega) (by omega) rfl
  have h4 := cost_small (s := s) (d := d + 4) (u := u) (w := n) (n := n) (by omega) (by omega) (by omega) (by omega) rfl
  have h5 := cost_small (s := s) (d := d) (u := u + 1) (w := n) (n := n) (by omega) (by omega) (by omega) (by omega) rfl
  have e : (d + 4) / 4 = d / 4 + 1 := by omega
  rw [e] at h4
  generalize d / 4 = q at *
  refine ⟨fun h => ⟨by omega, by omega⟩, fun h => ⟨by omega, by omega, by omega, by omega, by omega⟩⟩
theorem parts_all {s d n u : Nat} (hs : s ≤ 300) (hd : d < 3000) (hn : n ≤ 65535) (hu : u < 18446744073709551616) :
    costF s 0 0 0 = 720 * s ∧ costF 0 d 0 0 = d / 4 ∧ costF 0 0 n 0 = 300 * n ∧ costF s d (-1 - n) u = costF s d 0 u ∧ (u ≤ 18446744073709551615 - (720 * s + d / 4 + 300 * n) → costF s d n u = 720 * s + d / 4 + 300 * n + u) ∧ (¬ u ≤ 18446744073709551615 - (720 * s + d / 4 + 300 * n) → costF s d n u = 18446744073709551615) := by
  have h1 := cost_small (s := s) (d := 0) (u := 0) (w := 0) (n := 0) (by omega) (by omega) (by omega) (by omega) rfl
  have h2 := cost_small (s := 0) (d := d) (u := 0) (w := 0) (n := 0) (by omega) (by omega) (by omega) (by omega) rfl
  have h3 := cost_small (s := 0) (d := 0) (u := 0) (w := n) (n := n) (by omega) (by omega) (by omega) (by omega) rfl
  have h4 := cost_small (s := s) (d := d) (u := u) (w := n) (n := n) (by omega) (by omega) (by omega) (by omega) rfl
  refine ⟨by omega, by omega, by omega, ?_, fun h => by omega, fun h => by omega⟩
  unfold costF partsL
  rw [show (max 0 (-1 - (n : Int))).toNat = (max 0 (0 : Int)).toNat by omega]
theorem okA {w0 w : World} {ins : List Instr} {i : Instr} (h : ∀ e ∈ ins, Instr.okz w0 e) (hb : Bel w0 w) (hi : Instr.ok w i) : ∀ e ∈ ins ++ [i], Instr.ok w e := by
  intro e he
  rcases List.mem_append.1 he with h1 | h1
  · exact ((h e h1).bel hb).ok
  · simp at h1; subst h1; exact hi

set_option maxHeartbeats 1000000 in

theorem more_law (w0 : World) (x : Tx) (n : Nat) (units : Nat) (hx : x.okz w0) (hn : n ≤ 65535) (hu : units < 18446744073709551616) : Ret Try.prog 4 #[.agg (Enc.enc x), .int .u16 (n : Int), .int .u64 ((units : Nat) : Int)] w0 (fun r w' => r = .bool true ∧ Bel w0 w') := by
  refine Ret.enter (args := [.agg (Enc.enc x), .int .u16 (n : Int), .int .u64 ((units : Nat) : Int)]) Try.func4 rfl Try.ntmps4 Try.results4 rfl ?_
  have hS := St.start w0
  obtain ⟨⟨sg, hsg, hsl, _⟩, hm⟩ := hx
  have hm0 := hm
  obtain ⟨_, _, ⟨ins, hins, hil, hiok⟩, _⟩ := hm0
  refine WC.seq (fun K1 hK1 => ?_)
  refine WC.region ?_
  refine WL.op rfl (opW.boxA hS rfl ?_)
  intro b3 w _ hS
  refine WL.op rfl (opW.assignB rfl ?_)
  refine WL.nil ?_
  refine thenQ_n (hK1 _ _ ?_)
  refine WC.seq (fun K2 hK2 => ?_)
  refine WC.seq (fun K3 hK3 => ?_)
  refine WC.region ?_
  refine WL.op rfl (opW.fieldAddrB rfl ?_)
  refine WL.op rfl (opW.loadV rfl (hS.ldF (by first | exact .here | exact .there (.here) | exact .there (.there (.here)) | exact .there (.there (.there (.here))) | exact .there (.there (.there (.there (.here)))) | exact .there (.there (.there (.there (.there (.here))))) | exact .there (.there (.there (.there (.there (.there (.here)))))) | exact .there (.there (.there (.there (.there (.there (.there (.here))))))) | exact .there (.there (.there (.there (.there (.there (.there (.there (.here)))))))) | exact .there (.there (.there (.there (.there (.there (.there (.there (.there (.here))))))))) | exact .there (.there (.there (.there (.there (.there (.there (.there (.there (.there (.here)))))))))) | exact .there (.there (.there (.there (.there (.there (.there (.there (.there (.there (.there (.here))))))))))) | exact .there (.there (.there (.there (.there (.there (.there (.there (.there (.there (.there (.there (.here))))))))))))) (Tx.ex_m x) (by rw [Enc.size_eq]; decide)) ?_)
  refine WL.op rfl (opW.call (great9_ok _ x.m (hm.bel hS.old) ins (hins.bel hS.old) (by omega) (fun e he => (hiok e he).bel hS.old)) rfl ?_)
  rintro _ w ⟨bb, rfl, hbb, hw⟩; replace hS := hS.bel hw
  refine WL.op rfl (opW.moveB rfl ?_)
  refine WL.gd _ 14 _ rfl rfl rfl rfl (fun hg15 => opW.fieldAddrB rfl ⟨rfl, Bel.refl _⟩) (fun w hw => ?_)
  replace hS := hS.bel hw
  refine WL.gd _ 14 _ rfl rfl rfl rfl (fun hg16 => opW.loadV (by first | exact gv_of rfl hg16 | rfl) (hS.ld1 (by first | exact .here | exact .there (.here) | exact .there (.there (.here)) | exact .there (.there (.there (.here))) | exact .there (.there (.there (.there (.here)))) | exact .there (.there (.there (.there (.there (.here))))) | exact .there (.there (.there (.there (.there (.there (.here)))))) | exact .there (.there (.there (.there (.there (.there (.there (.here))))))) | exact .there (.there (.there (.there (.there (.there (.there (.there (.here)))))))) | exact .there (.there (.there (.there (.there (.there (.there (.there (.there (.here))))))))) | exact .there (.there (.there (.there (.there (.there (.there (.there (.there (.there (.here)))))))))) | exact .there (.there (.there (.there (.there (.there (.there (.there (.there (.there (.there (.here))))))))))) | exact .there (.there (.there (.there (.there (.there (.there (.there (.there (.there (.there (.there (.here))))))))))))) (Tx.at_sigs x)) ⟨rfl, Bel.refl _⟩) (fun w hw => ?_)
  replace hS := hS.bel hw
  refine WL.gd _ 14 _ rfl rfl rfl rfl (fun hg17 => opW.lenV (by first | exact gv_of rfl hg17 | rfl) ((hsg.bel hS.old)) ⟨rfl, Bel.refl _⟩) (fun w hw => ?_)
  replace hS := hS.bel hw
  refine WL.gd _ 14 _ rfl rfl rfl rfl (fun hg18 => opW.gtr (by first | exact gv_of rfl hg18 | rfl) rfl ⟨rfl, Bel.refl _⟩) (fun w hw => ?_)
  replace hS := hS.bel hw
  refine WL.op rfl (opW.pickOr rfl rfl (by first | rfl) ?_)
  refine WL.nil ?_
  refine thenQ_n (hK3 _ _ ?_)
  refine WC.cond _ rfl (fun hc0 => ?_) (fun hc0 => ?_)
  ·
    have hr0 := hc0
    try simp only [decide_eq_true_eq, decide_eq_false_iff_not, Bool.and_eq_true, Bool.or_eq_true, Bool.and_eq_false_iff, Bool.or_eq_false_iff, Bool.not_eq_true', Bool.not_eq_false', Int.not_lt, Int.not_le] at hc0
    refine WC.seq (fun K4 hK4 => ?_)
    refine WC.region ?_
    refine WL.op rfl (opW.call (lives9 _) rfl ?_)
    rintro _ w ⟨rfl, hw⟩; replace hS := hS.bel hw
    refine WL.op rfl (opW.assignB rfl ?_)
    refine WL.nil ?_
    refine thenQ_n (hK4 _ _ ?_)
    refine WC.ret ?_
    refine thenQ_r ?_
    refine bodyQ_ret (.tmpB rfl .nil) ?_
    exact ⟨rfl, hS.old⟩
  ·
    have hr0 := hc0
    try simp only [decide_eq_true_eq, decide_eq_false_iff_not, Bool.and_eq_true, Bool.or_eq_true, Bool.and_eq_false_iff, Bool.or_eq_false_iff, Bool.not_eq_true', Bool.not_eq_false', Int.not_lt, Int.not_le] at hc0
    obtain ⟨hb1, hb2⟩ : bb = false ∧ ¬ (300 : Int) < (sg.length : Int) := by
      simp only [Bool.or_eq_false_iff, decide_eq_false_iff_not] at hr0
      exact hr0
    have hdl := hbb hb1
    have hma := more_all (s := sg.length) (d := dataL ins) (n := n) (u := units) (by omega) (by omega) hn hu
    refine WC.skip ?_
    refine thenQ_n (hK2 _ _ ?_)
    refine WC.seq (fun K5 hK5 => ?_)
    refine WC.region ?_
    refine WL.op rfl (opW.moveI rfl ?_)
    refine WL.op rfl (opW.conv rfl (wrap_i64 (by omega)) ?_)
    refine WL.op rfl (opW.assignI rfl ?_)
    refine WL.nil ?_
    refine thenQ_n (hK5 _ _ ?_)
    refine WC.seq (fun K6 hK6 => ?_)
    refine WC.region ?_
    refine WL.op rfl (opW.loadV rfl (hS.ldA (cs := Enc.enc x) (by first | exact .here | exact .there (.here) | exact .there (.there (.here)) | exact .there (.there (.there (.here))) | exact .there (.there (.there (.there (.here)))) | exact .there (.there (.there (.there (.there (.here))))) | exact .there (.there (.there (.there (.there (.there (.here)))))) | exact .there (.there (.there (.there (.there (.there (.there (.here))))))) | exact .there (.there (.there (.there (.there (.there (.there (.there (.here)))))))) | exact .there (.there (.there (.there (.there (.there (.there (.there (.there (.here))))))))) | exact .there (.there (.there (.there (.there (.there (.there (.there (.there (.there (.here)))))))))) | exact .there (.there (.there (.there (.there (.there (.there (.there (.there (.there (.there (.here))))))))))) | exact .there (.there (.there (.there (.there (.there (.there (.there (.there (.there (.there (.there (.here))))))))))))) (Enc.size_eq x)) ?_)
    refine WL.op rfl (opW.moveI rfl ?_)
    refine WL.op rfl (opW.moveI rfl ?_)
    refine WL.op rfl (opW.call (cost_of _ x (n : Int) units sg ins (hsg.bel hS.old) (hins.bel hS.old) (fun e he => ((hiok e he).bel hS.old).ok) (by omega) hu) rfl ?_)
    rintro _ w ⟨rfl, hw⟩; replace hS := hS.bel hw
    refine WL.op rfl (opW.assignI rfl ?_)
    refine WL.nil ?_
    refine thenQ_n (hK6 _ _ ?_)
    refine WC.seq (fun K7 hK7 => ?_)
    refine WC.region ?_
    refine WL.op rfl (opW.loadV rfl (hS.ldA (cs := Enc.enc x) (by first | exact .here | exact .there (.here) | exact .there (.there (.here)) | exact .there (.there (.there (.here))) | exact .there (.there (.there (.there (.here)))) | exact .there (.there (.there (.there (.there (.here))))) | exact .there (.there (.there (.there (.there (.there (.here)))))) | exact .there (.there (.there (.there (.there (.there (.there (.here))))))) | exact .there (.there (.there (.there (.there (.there (.there (.there (.here)))))))) | exact .there (.there (.there (.there (.there (.there (.there (.there (.there (.here))))))))) | exact .there (.there (.there (.there (.there (.there (.there (.there (.there (.there (.here)))))))))) | exact .there (.there (.there (.there (.there (.there (.there (.there (.there (.there (.there (.here))))))))))) | exact .there (.there (.there (.there (.there (.there (.there (.there (.there (.there (.there (.there (.here))))))))))))) (Enc.size_eq x)) ?_)
    refine WL.op rfl (opW.allocA hS ?_)
    intro b9 w _ hS
    refine WL.op0 (opW.storeE hS rfl rfl (by first | exact .here | exact .there (.here) | exact .there (.there (.here)) | exact .there (.there (.there (.here))) | exact .there (.there (.there (.there (.here)))) | exact .there (.there (.there (.there (.there (.here))))) | exact .there (.there (.there (.there (.there (.there (.here)))))) | exact .there (.there (.there (.there (.there (.there (.there (.here))))))) | exact .there (.there (.there (.there (.there (.there (.there (.there (.here)))))))) | exact .there (.there (.there (.there (.there (.there (.there (.there (.there (.here))))))))) | exact .there (.there (.there (.there (.there (.there (.there (.there (.there (.there (.here)))))))))) | exact .there (.there (.there (.there (.there (.there (.there (.there (.there (.there (.there (.here))))))))))) | exact .there (.there (.there (.there (.there (.there (.there (.there (.there (.there (.there (.there (.here))))))))))))) (by first | rfl | exact Enc.size_eq _) ?_)
    intro w hS; replace hS := hS _ (by first | exact .here | exact .there (.here) | exact .there (.there (.here)) | exact .there (.there (.there (.here))) | exact .there (.there (.there (.there (.here)))) | exact .there (.there (.there (.there (.there (.here))))) | exact .there (.there (.there (.there (.there (.there (.here)))))) | exact .there (.there (.there (.there (.there (.there (.there (.here))))))) | exact .there (.there (.there (.there (.there (.there (.there (.there (.here)))))))) | exact .there (.there (.there (.there (.there (.there (.there (.there (.there (.here))))))))) | exact .there (.there (.there (.there (.there (.there (.there (.there (.there (.there (.here)))))))))) | exact .there (.there (.there (.there (.there (.there (.there (.there (.there (.there (.there (.here))))))))))) | exact .there (.there (.there (.there (.there (.there (.there (.there (.there (.there (.there (.there (.here)))))))))))))
    refine WL.nil ?_
    refine thenQ_n (hK7 _ _ ?_)
    refine WC.seq (fun K8 hK8 => ?_)
    refine WC.region ?_
    refine WL.op rfl (opW.fieldAddrB rfl ?_)
    refine WL.op rfl (opW.loadV rfl (hS.ld1 (by first | exact .here | exact .there (.here) | exact .there (.there (.here)) | exact .there (.there (.there (.here))) | exact .there (.there (.there (.there (.here)))) | exact .there (.there (.there (.there (.there (.here))))) | exact .there (.there (.there (.there (.there (.there (.here)))))) | exact .there (.there (.there (.there (.there (.there (.there (.here))))))) | exact .there (.there (.there (.there (.there (.there (.there (.there (.here)))))))) | exact .there (.there (.there (.there (.there (.there (.there (.there (.there (.here))))))))) | exact .there (.there (.there (.there (.there (.there (.there (.there (.there (.there (.here)))))))))) | exact .there (.there (.there (.there (.there (.there (.there (.there (.there (.there (.there (.here))))))))))) | exact .there (.there (.there (.there (.there (.there (.there (.there (.there (.there (.there (.there (.here))))))))))))) (Tx.at_sigs x)) ?_)
    refine WL.op rfl (opW.appendNil (α := Vector UInt8 64) rfl hS rfl ((hsg.bel hS.old)) (by omega) (by simp only [maxLen]; omega) ?_)
    intro v30 w hw hS
    refine WL.op rfl (opW.buildVec (k := (vz 64)) (by first | rfl | (simp only [mz, enc_vset, enc_vz]; rfl)) (by intro p hp; first | (exfalso; simp at hp; done) | (simp only [List.map_cons, List.map_nil, List.mem_cons, List.not_mem_nil, or_false] at hp; rcases hp with rfl | rfl | rfl | rfl <;> exact ⟨by simp, rfl⟩)) ?_)
    refine WL.op rfl (opW.buildSl hS (([vz 64] : List (Vector UInt8 64))) [.agg (Enc.enc (vz 64))] rfl rfl rfl rfl (by decide) ?_)
    intro b32 w hw hS
    refine WL.op rfl (opW.appendOwn (α := Vector UInt8 64) rfl hS rfl (by first | exact .here | exact .there (.here) | exact .there (.there (.here)) | exact .there (.there (.there (.here))) | exact .there (.there (.there (.there (.here)))) | exact .there (.there (.there (.there (.there (.here))))) | exact .there (.there (.there (.there (.there (.there (.here)))))) | exact .there (.there (.there (.there (.there (.there (.there (.here))))))) | exact .there (.there (.there (.there (.there (.there (.there (.there (.here)))))))) | exact .there (.there (.there (.there (.there (.there (.there (.there (.there (.here))))))))) | exact .there (.there (.there (.there (.there (.there (.there (.there (.there (.there (.here)))))))))) | exact .there (.there (.there (.there (.there (.there (.there (.there (.there (.there (.there (.here))))))))))) | exact .there (.there (.there (.there (.there (.there (.there (.there (.there (.there (.there (.there (.here))))))))))))) (hS.sl (by first | exact .here | exact .there (.here) | exact .there (.there (.here)) | exact .there (.there (.there (.here))) | exact .there (.there (.there (.there (.here)))) | exact .there (.there (.there (.there (.there (.here))))) | exact .there (.there (.there (.there (.there (.there (.here)))))) | exact .there (.there (.there (.there (.there (.there (.there (.here))))))) | exact .there (.there (.there (.there (.there (.there (.there (.there (.here)))))))) | exact .there (.there (.there (.there (.there (.there (.there (.there (.there (.here))))))))) | exact .there (.there (.there (.there (.there (.there (.there (.there (.there (.there (.here)))))))))) | exact .there (.there (.there (.there (.there (.there (.there (.there (.there (.there (.there (.here))))))))))) | exact .there (.there (.there (.there (.there (.there (.there (.there (.there (.there (.there (.there (.here)))))))))))))) (by simp only [List.length_cons, List.length_nil]; omega) (by simp only [maxLen, List.length_cons, List.length_nil]; omega) ?_)
    intro v33 w hS; replace hS := hS _ (by first | exact .here | exact .there (.here) | exact .there (.there (.here)) | exact .there (.there (.there (.here))) | exact .there (.there (.there (.there (.here)))) | exact .there (.there (.there (.there (.there (.here))))) | exact .there (.there (.there (.there (.there (.there (.here)))))) | exact .there (.there (.there (.there (.there (.there (.there (.here))))))) | exact .there (.there (.there (.there (.there (.there (.there (.there (.here)))))))) | exact .there (.there (.there (.there (.there (.there (.there (.there (.there (.here))))))))) | exact .there (.there (.there (.there (.there (.there (.there (.there (.there (.there (.here)))))))))) | exact .there (.there (.there (.there (.there (.there (.there (.there (.there (.there (.there (.here))))))))))) | exact .there (.there (.there (.there (.there (.there (.there (.there (.there (.there (.there (.there (.here)))))))))))))
    obtain ⟨s33, rfl⟩ := (hS.sl (v := v33) (xs := (sg ++ [vz 64])) (by first | exact .here | exact .there (.here) | exact .there (.there (.here)) | exact .there (.there (.there (.here))) | exact .there (.there (.there (.there (.here)))) | exact .there (.there (.there (.there (.there (.here))))) | exact .there (.there (.there (.there (.there (.there (.here)))))) | exact .there (.there (.there (.there (.there (.there (.there (.here))))))) | exact .there (.there (.there (.there (.there (.there (.there (.there (.here)))))))) | exact .there (.there (.there (.there (.there (.there (.there (.there (.there (.here))))))))) | exact .there (.there (.there (.there (.there (.there (.there (.there (.there (.there (.here)))))))))) | exact .there (.there (.there (.there (.there (.there (.there (.there (.there (.there (.there (.here))))))))))) | exact .there (.there (.there (.there (.there (.there (.there (.there (.there (.there (.there (.there (.here)))))))))))))).asV
    refine WL.op rfl (opW.fieldAddrB rfl ?_)
    refine WL.op0 (opW.storeF (v := s33.v) (sz := 1) (cs' := Enc.enc ({ x with sigs := s33 } : Tx)) hS rfl rfl (by first | exact .here | exact .there (.here) | exact .there (.there (.here)) | exact .there (.there (.there (.here))) | exact .there (.there (.there (.there (.here)))) | exact .there (.there (.there (.there (.there (.here))))) | exact .there (.there (.there (.there (.there (.there (.here)))))) | exact .there (.there (.there (.there (.there (.there (.there (.here))))))) | exact .there (.there (.there (.there (.there (.there (.there (.there (.here)))))))) | exact .there (.there (.there (.there (.there (.there (.there (.there (.there (.here))))))))) | exact .there (.there (.there (.there (.there (.there (.there (.there (.there (.there (.here)))))))))) | exact .there (.there (.there (.there (.there (.there (.there (.there (.there (.there (.there (.here))))))))))) | exact .there (.there (.there (.there (.there (.there (.there (.there (.there (.there (.there (.there (.here))))))))))))) rfl (by rw [Enc.size_eq]; decide) (Enc.one s33) (Tx.set_sigs x s33) ?_)
    intro w hS; replace hS := hS _ (by first | exact .here | exact .there (.here) | exact .there (.there (.here)) | exact .there (.there (.there (.here))) | exact .there (.there (.there (.there (.here)))) | exact .there (.there (.there (.there (.there (.here))))) | exact .there (.there (.there (.there (.there (.there (.here)))))) | exact .there (.there (.there (.there (.there (.there (.there (.here))))))) | exact .there (.there (.there (.there (.there (.there (.there (.there (.here)))))))) | exact .there (.there (.there (.there (.there (.there (.there (.there (.there (.here))))))))) | exact .there (.there (.there (.there (.there (.there (.there (.there (.there (.there (.here)))))))))) | exact .there (.there (.there (.there (.there (.there (.there (.there (.there (.there (.there (.here))))))))))) | exact .there (.there (.there (.there (.there (.there (.there (.there (.there (.there (.there (.there (.here)))))))))))))
    refine WL.nil ?_
    refine thenQ_n (hK8 _ _ ?_)
    refine WC.seq (fun K9 hK9 => ?_)
    refine WC.region ?_
    refine WL.op rfl (opW.loadV rfl (hS.ldA (cs := Enc.enc x) (by first | exact .here | exact .there (.here) | exact .there (.there (.here)) | exact .there (.there (.there (.here))) | exact .there (.there (.there (.there (.here)))) | exact .there (.there (.there (.there (.there (.here))))) | exact .there (.there (.there (.there (.there (.there (.here)))))) | exact .there (.there (.there (.there (.there (.there (.there (.here))))))) | exact .there (.there (.there (.there (.there (.there (.there (.there (.here)))))))) | exact .there (.there (.there (.there (.there (.there (.there (.there (.there (.here))))))))) | exact .there (.there (.there (.there (.there (.there (.there (.there (.there (.there (.here)))))))))) | exact .there (.there (.there (.there (.there (.there (.there (.there (.there (.there (.there (.here))))))))))) | exact .there (.there (.there (.there (.there (.there (.there (.there (.there (.there (.there (.there (.here))))))))))))) (Enc.size_eq x)) ?_)
    refine WL.op rfl (opW.allocA hS ?_)
    intro b10 w _ hS
    refine WL.op0 (opW.storeE hS rfl rfl (by first | exact .here | exact .there (.here) | exact .there (.there (.here)) | exact .there (.there (.there (.here))) | exact .there (.there (.there (.there (.here)))) | exact .there (.there (.there (.there (.there (.here))))) | exact .there (.there (.there (.there (.there (.there (.here)))))) | exact .there (.there (.there (.there (.there (.there (.there (.here))))))) | exact .there (.there (.there (.there (.there (.there (.there (.there (.here)))))))) | exact .there (.there (.there (.there (.there (.there (.there (.there (.there (.here))))))))) | exact .there (.there (.there (.there (.there (.there (.there (.there (.there (.there (.here)))))))))) | exact .there (.there (.there (.there (.there (.there (.there (.there (.there (.there (.there (.here))))))))))) | exact .there (.there (.there (.there (.there (.there (.there (.there (.there (.there (.there (.there (.here))))))))))))) (by first | rfl | exact Enc.size_eq _) ?_)
    intro w hS; replace hS := hS _ (by first | exact .here | exact .there (.here) | exact .there (.there (.here)) | exact .there (.there (.there (.here))) | exact .there (.there (.there (.there (.here)))) | exact .there (.there (.there (.there (.there (.here))))) | exact .there (.there (.there (.there (.there (.there (.here)))))) | exact .there (.there (.there (.there (.there (.there (.there (.here))))))) | exact .there (.there (.there (.there (.there (.there (.there (.there (.here)))))))) | exact .there (.there (.there (.there (.there (.there (.there (.there (.there (.here))))))))) | exact .there (.there (.there (.there (.there (.there (.there (.there (.there (.there (.here)))))))))) | exact .there (.there (.there (.there (.there (.there (.there (.there (.there (.there (.there (.here))))))))))) | exact .there (.there (.there (.there (.there (.there (.there (.there (.there (.there (.there (.there (.here)))))))))))))
    refine WL.nil ?_
    refine thenQ_n (hK9 _ _ ?_)
    refine WC.seq (fun K10 hK10 => ?_)
    refine WC.region ?_
    refine WL.op rfl (opW.fieldAddrB rfl ?_)
    refine WL.op rfl (opW.fieldAddrB rfl ?_)
    refine WL.op rfl (opW.loadV rfl (hS.ld1 (by first | exact .here | exact .there (.here) | exact .there (.there (.here)) | exact .there (.there (.there (.here))) | exact .there (.there (.there (.there (.here)))) | exact .there (.there (.there (.there (.there (.here))))) | exact .there (.there (.there (.there (.there (.there (.here)))))) | exact .there (.there (.there (.there (.there (.there (.there (.here))))))) | exact .there (.there (.there (.there (.there (.there (.there (.there (.here)))))))) | exact .there (.there (.there (.there (.there (.there (.there (.there (.there (.here))))))))) | exact .there (.there (.there (.there (.there (.there (.there (.there (.there (.there (.here)))))))))) | exact .there (.there (.there (.there (.there (.there (.there (.there (.there (.there (.there (.here))))))))))) | exact .there (.there (.there (.there (.there (.there (.there (.there (.there (.there (.there (.there (.here))))))))))))) (Tx.at_m_instrs x)) ?_)
    refine WL.op rfl (opW.appendNil (α := Instr) rfl hS rfl ((hins.bel hS.old)) (by omega) (by simp only [maxLen]; omega) ?_)
    intro v39 w hw hS
    refine WL.op rfl (opW.buildSl hS (([1, 2, 3, 4] : List UInt8)) [.int .u8 1, .int .u8 2, .int .u8 3, .int .u8 4] rfl rfl rfl rfl (by decide) ?_)
    intro b40 w hw hS
    refine WL.op rfl (opW.buildE (r := ((⟨0, ⟨none, 0, 0⟩, ⟨some ⟨b40, 0, none⟩, 4, 4⟩⟩ : Instr) : Instr)) (ps := Instr.parts ((⟨0, ⟨none, 0, 0⟩, ⟨some ⟨b40, 0, none⟩, 4, 4⟩⟩ : Instr) : Instr)) (Instr.enc_eq _) (by first | rfl | (simp only [mz, enc_vset, enc_vz, Header.enc_eq, Header.parts, Instr.enc_eq, Instr.parts, Lookup.enc_eq, Lookup.parts, Message.enc_eq, Message.parts, Tx.enc_eq, Tx.parts]; rfl)) (by (repeat' (first | exact trivial | refine And.intro ?_ ?_)) <;> first | rfl | exact Enc.size_eq _ | (simp; done)) ?_)
    refine WL.op rfl (opW.buildSl hS (([(⟨0, ⟨none, 0, 0⟩, ⟨some ⟨b40, 0, none⟩, 4, 4⟩⟩ : Instr)] : List Instr)) [.agg (Enc.enc (⟨0, ⟨none, 0, 0⟩, ⟨some ⟨b40, 0, none⟩, 4, 4⟩⟩ : Instr))] rfl rfl rfl rfl (by decide) ?_)
    intro b42 w hw hS
    refine WL.op rfl (opW.appendOwn (α := Instr) rfl hS rfl (by first | exact .here | exact .there (.here) | exact .there (.there (.here)) | exact .there (.there (.there (.here))) | exact .there (.there (.there (.there (.here)))) | exact .there (.there (.there (.there (.there (.here))))) | exact .there (.there (.there (.there (.there (.there (.here)))))) | exact .there (.there (.there (.there (.there (.there (.there (.here))))))) | exact .there (.there (.there (.there (.there (.there (.there (.there (.here)))))))) | exact .there (.there (.there (.there (.there (.there (.there (.there (.there (.here))))))))) | exact .there (.there (.there (.there (.there (.there (.there (.there (.there (.there (.here)))))))))) | exact .there (.there (.there (.there (.there (.there (.there (.there (.there (.there (.there (.here))))))))))) | exact .there (.there (.there (.there (.there (.there (.there (.there (.there (.there (.there (.there (.here))))))))))))) (hS.sl (by first | exact .here | exact .there (.here) | exact .there (.there (.here)) | exact .there (.there (.there (.here))) | exact .there (.there (.there (.there (.here)))) | exact .there (.there (.there (.there (.there (.here))))) | exact .there (.there (.there (.there (.there (.there (.here)))))) | exact .there (.there (.there (.there (.there (.there (.there (.here))))))) | exact .there (.there (.there (.there (.there (.there (.there (.there (.here)))))))) | exact .there (.there (.there (.there (.there (.there (.there (.there (.there (.here))))))))) | exact .there (.there (.there (.there (.there (.there (.there (.there (.there (.there (.here)))))))))) | exact .there (.there (.there (.there (.there (.there (.there (.there (.there (.there (.there (.here))))))))))) | exact .there (.there (.there (.there (.there (.there (.there (.there (.there (.there (.there (.there (.here)))))))))))))) (by simp only [List.length_cons, List.length_nil]; omega) (by simp only [maxLen, List.length_cons, List.length_nil]; omega) ?_)
    intro v43 w hS; replace hS := hS _ (by first | exact .here | exact .there (.here) | exact .there (.there (.here)) | exact .there (.there (.there (.here))) | exact .there (.there (.there (.there (.here)))) | exact .there (.there (.there (.there (.there (.here))))) | exact .there (.there (.there (.there (.there (.there (.here)))))) | exact .there (.there (.there (.there (.there (.there (.there (.here))))))) | exact .there (.there (.there (.there (.there (.there (.there (.there (.here)))))))) | exact .there (.there (.there (.there (.there (.there (.there (.there (.there (.here))))))))) | exact .there (.there (.there (.there (.there (.there (.there (.there (.there (.there (.here)))))))))) | exact .there (.there (.there (.there (.there (.there (.there (.there (.there (.there (.there (.here))))))))))) | exact .there (.there (.there (.there (.there (.there (.there (.there (.there (.there (.there (.there (.here)))))))))))))
    obtain ⟨s43, rfl⟩ := (hS.sl (v := v43) (xs := (ins ++ [(⟨0, ⟨none, 0, 0⟩, ⟨some ⟨b40, 0, none⟩, 4, 4⟩⟩ : Instr)])) (by first | exact .here | exact .there (.here) | exact .there (.there (.here)) | exact .there (.there (.there (.here))) | exact .there (.there (.there (.there (.here)))) | exact .there (.there (.there (.there (.there (.here))))) | exact .there (.there (.there (.there (.there (.there (.here)))))) | exact .there (.there (.there (.there (.there (.there (.there (.here))))))) | exact .there (.there (.there (.there (.there (.there (.there (.there (.here)))))))) | exact .there (.there (.there (.there (.there (.there (.there (.there (.there (.here))))))))) | exact .there (.there (.there (.there (.there (.there (.there (.there (.there (.there (.here)))))))))) | exact .there (.there (.there (.there (.there (.there (.there (.there (.there (.there (.there (.here))))))))))) | exact .there (.there (.there (.there (.there (.there (.there (.there (.there (.there (.there (.there (.here)))))))))))))).asV
    refine WL.op rfl (opW.fieldAddrB rfl ?_)
    refine WL.op rfl (opW.fieldAddrB rfl ?_)
    refine WL.op0 (opW.storeF (v := s43.v) (sz := 1) (cs' := Enc.enc ({ x with m := { x.m with instrs := s43 } } : Tx)) hS rfl rfl (by first | exact .here | exact .there (.here) | exact .there (.there (.here)) | exact .there (.there (.there (.here))) | exact .there (.there (.there (.there (.here)))) | exact .there (.there (.there (.there (.there (.here))))) | exact .there (.there (.there (.there (.there (.there (.here)))))) | exact .there (.there (.there (.there (.there (.there (.there (.here))))))) | exact .there (.there (.there (.there (.there (.there (.there (.there (.here)))))))) | exact .there (.there (.there (.there (.there (.there (.there (.there (.there (.here))))))))) | exact .there (.there (.there (.there (.there (.there (.there (.there (.there (.there (.here)))))))))) | exact .there (.there (.there (.there (.there (.there (.there (.there (.there (.there (.there (.here))))))))))) | exact .there (.there (.there (.there (.there (.there (.there (.there (.there (.there (.there (.there (.here))))))))))))) rfl (by rw [Enc.size_eq]; decide) (Enc.one s43) (Tx.set_m_instrs x s43) ?_)
    intro w hS; replace hS := hS _ (by first | exact .here | exact .there (.here) | exact .there (.there (.here)) | exact .there (.there (.there (.here))) | exact .there (.there (.there (.there (.here)))) | exact .there (.there (.there (.there (.there (.here))))) | exact .there (.there (.there (.there (.there (.there (.here)))))) | exact .there (.there (.there (.there (.there (.there (.there (.here))))))) | exact .there (.there (.there (.there (.there (.there (.there (.there (.here)))))))) | exact .there (.there (.there (.there (.there (.there (.there (.there (.there (.here))))))))) | exact .there (.there (.there (.there (.there (.there (.there (.there (.there (.there (.here)))))))))) | exact .there (.there (.there (.there (.there (.there (.there (.there (.there (.there (.there (.here))))))))))) | exact .there (.there (.there (.there (.there (.there (.there (.there (.there (.there (.there (.there (.here)))))))))))))
    refine WL.nil ?_
    refine thenQ_n (hK10 _ _ ?_)
    refine WC.seq (fun K11 hK11 => ?_)
    refine WC.seq (fun K12 hK12 => ?_)
    refine WC.region ?_
    refine WL.op rfl (opW.moveI rfl ?_)
    refine WL.op rfl (opW.gtr rfl rfl ?_)
    refine WL.nil ?_
    refine thenQ_n (hK12 _ _ ?_)
    refine WC.cond _ rfl (fun hc1 => ?_) (fun hc1 => ?_)
    ·
      have hr1 := hc1
      try simp only [decide_eq_true_eq, decide_eq_false_iff_not, Bool.and_eq_true, Bool.or_eq_true, Bool.and_eq_false_iff, Bool.or_eq_false_iff, Bool.not_eq_true', Bool.not_eq_false', Int.not_lt, Int.not_le] at hc1
      obtain ⟨hE, hF⟩ := hma.1 (by omega)
      refine WC.seq (fun K13 hK13 => ?_)
      refine WC.region ?_
      refine WL.op rfl (opW.loadV rfl (hS.ldA (cs := Enc.enc ({ x with sigs := s33 } : Tx)) (by first | exact .here | exact .there (.here) | exact .there (.there (.here)) | exact .there (.there (.there (.here))) | exact .there (.there (.there (.there (.here)))) | exact .there (.there (.there (.there (.there (.here))))) | exact .there (.there (.there (.there (.there (.there (.here)))))) | exact .there (.there (.there (.there (.there (.there (.there (.here))))))) | exact .there (.there (.there (.there (.there (.there (.there (.there (.here)))))))) | exact .there (.there (.there (.there (.there (.there (.there (.there (.there (.here))))))))) | exact .there (.there (.there (.there (.there (.there (.there (.there (.there (.there (.here)))))))))) | exact .there (.there (.there (.there (.there (.there (.there (.there (.there (.there (.there (.here))))))))))) | exact .there (.there (.there (.there (.there (.there (.there (.there (.there (.there (.there (.there (.here))))))))))))) (Enc.size_eq _)) ?_)
      refine WL.op rfl (opW.moveI rfl ?_)
      refine WL.op rfl (opW.moveI rfl ?_)
      refine WL.op rfl (opW.call (cost_of _ ({ x with sigs := s33 } : Tx) (n : Int) units (sg ++ [vz 64]) ins (hS.sl (v := s33.v) (xs := (sg ++ [vz 64])) (by first | exact .here | exact .there (.here) | exact .there (.there (.here)) | exact .there (.there (.there (.here))) | exact .there (.there (.there (.there (.here)))) | exact .there (.there (.there (.there (.there (.here))))) | exact .there (.there (.there (.there (.there (.there (.here)))))) | exact .there (.there (.there (.there (.there (.there (.there (.here))))))) | exact .there (.there (.there (.there (.there (.there (.there (.there (.here)))))))) | exact .there (.there (.there (.there (.there (.there (.there (.there (.there (.here))))))))) | exact .there (.there (.there (.there (.there (.there (.there (.there (.there (.there (.here)))))))))) | exact .there (.there (.there (.there (.there (.there (.there (.there (.there (.there (.there (.here))))))))))) | exact .there (.there (.there (.there (.there (.there (.there (.there (.there (.there (.there (.there (.here)))))))))))))) (hins.bel hS.old) (fun e he => ((hiok e he).bel hS.old).ok) (by omega) hu) rfl ?_)
      rintro _ w ⟨rfl, hw⟩; replace hS := hS.bel hw
      rw [show (sg ++ [vz 64]).length = sg.length + 1 by simp]
      rw [hE]
      refine WL.op rfl (opW.boolT (by decide) (opW.eql rfl rfl ⟨rfl, rfl⟩) ?_)
      refine WL.op rfl (opW.moveB rfl ?_)
      refine WL.gT 53 rfl rfl rfl (WL.op rfl (opW.loadV rfl (hS.ldA (cs := Enc.enc ({ x with m := { x.m with instrs := s43 } } : Tx)) (by first | exact .here | exact .there (.here) | exact .there (.there (.here)) | exact .there (.there (.there (.here))) | exact .there (.there (.there (.there (.here)))) | exact .there (.there (.there (.there (.there (.here))))) | exact .there (.there (.there (.there (.there (.there (.here)))))) | exact .there (.there (.there (.there (.there (.there (.there (.here))))))) | exact .there (.there (.there (.there (.there (.there (.there (.there (.here)))))))) | exact .there (.there (.there (.there (.there (.there (.there (.there (.there (.here))))))))) | exact .there (.there (.there (.there (.there (.there (.there (.there (.there (.there (.here)))))))))) | exact .there (.there (.there (.there (.there (.there (.there (.there (.there (.there (.there (.here))))))))))) | exact .there (.there (.there (.there (.there (.there (.there (.there (.there (.there (.there (.there (.here))))))))))))) (Enc.size_eq _)) ?_))
      refine WL.gT 53 rfl rfl rfl (WL.op rfl (opW.moveI rfl ?_))
      refine WL.gT 53 rfl rfl rfl (WL.op rfl (opW.moveI rfl ?_))
      refine WL.gT 53 rfl rfl rfl (WL.op rfl (opW.call (cost_of _ ({ x with m := { x.m with instrs := s43 } } : Tx) (n : Int) units sg (ins ++ [(⟨0, ⟨none, 0, 0⟩, ⟨some ⟨b40, 0, none⟩, 4, 4⟩⟩ : Instr)]) (hsg.bel hS.old) (hS.sl (v := s43.v) (xs := (ins ++ [(⟨0, ⟨none, 0, 0⟩, ⟨some ⟨b40, 0, none⟩, 4, 4⟩⟩ : Instr)])) (by first | exact .here | exact .there (.here) | exact .there (.there (.here)) | exact .there (.there (.there (.here))) | exact .there (.there (.there (.there (.here)))) | exact .there (.there (.there (.there (.there (.here))))) | exact .there (.there (.there (.there (.there (.there (.here)))))) | exact .there (.there (.there (.there (.there (.there (.there (.here))))))) | exact .there (.there (.there (.there (.there (.there (.there (.there (.here)))))))) | exact .there (.there (.there (.there (.there (.there (.there (.there (.there (.here))))))))) | exact .there (.there (.there (.there (.there (.there (.there (.there (.there (.there (.here)))))))))) | exact .there (.there (.there (.there (.there (.there (.there (.there (.there (.there (.there (.here))))))))))) | exact .there (.there (.there (.there (.there (.there (.there (.there (.there (.there (.there (.there (.here)))))))))))))) (okA hiok hS.old ⟨⟨[], SlR.nil _, fun _ _ => trivial⟩, ⟨_, hS.sl (v := .slice (some ⟨b40, 0, none⟩) 4 4) (xs := ([1, 2, 3, 4] : List UInt8)) (by first | exact .here | exact .there (.here) | exact .there (.there (.here)) | exact .there (.there (.there (.here))) | exact .there (.there (.there (.there (.here)))) | exact .there (.there (.there (.there (.there (.here))))) | exact .there (.there (.there (.there (.there (.there (.here)))))) | exact .there (.there (.there (.there (.there (.there (.there (.here))))))) | exact .there (.there (.there (.there (.there (.there (.there (.there (.here)))))))) | exact .there (.there (.there (.there (.there (.there (.there (.there (.there (.here))))))))) | exact .there (.there (.there (.there (.there (.there (.there (.there (.there (.there (.here)))))))))) | exact .there (.there (.there (.there (.there (.there (.there (.there (.there (.there (.there (.here))))))))))) | exact .there (.there (.there (.there (.there (.there (.there (.there (.there (.there (.there (.there (.here))))))))))))), fun _ _ => trivial⟩⟩) (by omega) hu) rfl ?_))
      rintro _ w ⟨rfl, hw⟩; replace hS := hS.bel hw
      rw [show dataL (ins ++ [(⟨0, ⟨none, 0, 0⟩, ⟨some ⟨b40, 0, none⟩, 4, 4⟩⟩ : Instr)]) = dataL ins + 4 by simp [dataL, lenV, SlV.v]]
      refine WL.gT 53 rfl rfl rfl (WL.op rfl (opW.moveI rfl ?_))
      refine WL.gT 53 rfl rfl rfl (WL.op rfl (opW.boolT (decide_eq_true (by omega)) (opW.geq rfl rfl ⟨rfl, rfl⟩) ?_))
      refine WL.op rfl (opW.pickT rfl rfl ?_)
      refine WL.op rfl (opW.moveB rfl ?_)
      refine WL.gT 61 rfl rfl rfl (WL.op rfl (opW.call (lives9 _) rfl ?_))
      rintro _ w ⟨rfl, hw⟩; replace hS := hS.bel hw
      refine WL.op rfl (opW.pickT rfl rfl ?_)
      refine WL.op rfl (opW.assignB rfl ?_)
      refine WL.nil ?_
      refine thenQ_n (hK13 _ _ ?_)
      refine WC.ret ?_
      refine thenQ_r ?_
      refine bodyQ_ret (.tmpB rfl .nil) ?_
      exact ⟨rfl, hS.old⟩
    ·
      have hr1 := hc1
      try simp only [decide_eq_true_eq, decide_eq_false_iff_not, Bool.and_eq_true, Bool.or_eq_true, Bool.and_eq_false_iff, Bool.or_eq_false_iff, Bool.not_eq_true', Bool.not_eq_false', Int.not_lt, Int.not_le] at hc1
      obtain ⟨hu1, hA, hB, hC, hD⟩ := hma.2 (by omega)
      refine WC.skip ?_
      refine thenQ_n (hK11 _ _ ?_)
      refine WC.seq (fun K14 hK14 => ?_)
      refine WC.seq (fun K15 hK15 => ?_)
      refine WC.region ?_
      refine WL.op rfl (opW.loadV rfl (hS.ldA (cs := Enc.enc ({ x with sigs := s33 } : Tx)) (by first | exact .here | exact .there (.here) | exact .there (.there (.here)) | exact .there (.there (.there (.here))) | exact .there (.there (.there (.there (.here)))) | exact .there (.there (.there (.there (.there (.here))))) | exact .there (.there (.there (.there (.there (.there (.here)))))) | exact .there (.there (.there (.there (.there (.there (.there (.here))))))) | exact .there (.there (.there (.there (.there (.there (.there (.there (.here)))))))) | exact .there (.there (.there (.there (.there (.there (.there (.there (.there (.here))))))))) | exact .there (.there (.there (.there (.there (.there (.there (.there (.there (.there (.here)))))))))) | exact .there (.there (.there (.there (.there (.there (.there (.there (.there (.there (.there (.here))))))))))) | exact .there (.there (.there (.there (.there (.there (.there (.there (.there (.there (.there (.there (.here))))))))))))) (Enc.size_eq _)) ?_)
      refine WL.op rfl (opW.moveI rfl ?_)
      refine WL.op rfl (opW.moveI rfl ?_)
      refine WL.op rfl (opW.call (cost_of _ ({ x with sigs := s33 } : Tx) (n : Int) units (sg ++ [vz 64]) ins (hS.sl (v := s33.v) (xs := (sg ++ [vz 64])) (by first | exact .here | exact .there (.here) | exact .there (.there (.here)) | exact .there (.there (.there (.here))) | exact .there (.there (.there (.there (.here)))) | exact .there (.there (.there (.there (.there (.here))))) | exact .there (.there (.there (.there (.there (.there (.here)))))) | exact .there (.there (.there (.there (.there (.there (.there (.here))))))) | exact .there (.there (.there (.there (.there (.there (.there (.there (.here)))))))) | exact .there (.there (.there (.there (.there (.there (.there (.there (.there (.here))))))))) | exact .there (.there (.there (.there (.there (.there (.there (.there (.there (.there (.here)))))))))) | exact .there (.there (.there (.there (.there (.there (.there (.there (.there (.there (.there (.here))))))))))) | exact .there (.there (.there (.there (.there (.there (.there (.there (.there (.there (.there (.there (.here)))))))))))))) (hins.bel hS.old) (fun e he => ((hiok e he).bel hS.old).ok) (by omega) hu) rfl ?_)
      rintro _ w ⟨rfl, hw⟩; replace hS := hS.bel hw
      rw [show (sg ++ [vz 64]).length = sg.length + 1 by simp]
      refine WL.op rfl (opW.moveI rfl ?_)
      refine WL.op rfl (opW.add rfl rfl (nadd (b := 720) (by omega)) ?_)
      refine WL.op rfl (opW.boolF (by rw [hA]; simp) (opW.neq rfl rfl ⟨rfl, rfl⟩) ?_)
      refine WL.op rfl (opW.moveB rfl ?_)
      refine WL.gT 71 rfl rfl rfl (WL.op rfl (opW.loadV rfl (hS.ldA (cs := Enc.enc x) (by first | exact .here | exact .there (.here) | exact .there (.there (.here)) | exact .there (.there (.there (.here))) | exact .there (.there (.there (.there (.here)))) | exact .there (.there (.there (.there (.there (.here))))) | exact .there (.there (.there (.there (.there (.there (.here)))))) | exact .there (.there (.there (.there (.there (.there (.there (.here))))))) | exact .there (.there (.there (.there (.there (.there (.there (.there (.here)))))))) | exact .there (.there (.there (.there (.there (.there (.there (.there (.there (.here))))))))) | exact .there (.there (.there (.there (.there (.there (.there (.there (.there (.there (.here)))))))))) | exact .there (.there (.there (.there (.there (.there (.there (.there (.there (.there (.there (.here))))))))))) | exact .there (.there (.there (.there (.there (.there (.there (.there (.there (.there (.there (.there (.here))))))))))))) (Enc.size_eq x)) ?_))
      refine WL.gT 71 rfl rfl rfl (WL.op rfl (opW.moveI rfl ?_))
      refine WL.gT 71 rfl rfl rfl (WL.op rfl (opW.add rfl rfl (wrap_i64 (by omega)) ?_))
      refine WL.gT 71 rfl rfl rfl (WL.op rfl (opW.moveI rfl ?_))
      refine WL.gT 71 rfl rfl rfl (WL.op rfl (opW.call (cost_of _ x ((n : Int) + 1) units sg ins (hsg.bel hS.old) (hins.bel hS.old) (fun e he => ((hiok e he).bel hS.old).ok) (by omega) hu) rfl ?_))
      rintro _ w ⟨rfl, hw⟩; replace hS := hS.bel hw
      refine WL.gT 71 rfl rfl rfl (WL.op rfl (opW.moveI rfl ?_))
      refine WL.gT 71 rfl rfl rfl (WL.op rfl (opW.add rfl rfl (nadd (b := 300) (by omega)) ?_))
      refine WL.gT 71 rfl rfl rfl (WL.op rfl (opW.boolF (by rw [hB]; simp) (opW.neq rfl rfl ⟨rfl, rfl⟩) ?_))
      refine WL.op rfl (opW.pickT rfl rfl ?_)
      refine WL.op rfl (opW.moveB rfl ?_)
      refine WL.gT 81 rfl rfl rfl (WL.op rfl (opW.loadV rfl (hS.ldA (cs := Enc.enc ({ x with m := { x.m with instrs := s43 } } : Tx)) (by first | exact .here | exact .there (.here) | exact .there (.there (.here)) | exact .there (.there (.there (.here))) | exact .there (.there (.there (.there (.here)))) | exact .there (.there (.there (.there (.there (.here))))) | exact .there (.there (.there (.there (.there (.there (.here)))))) | exact .there (.there (.there (.there (.there (.there (.there (.here))))))) | exact .there (.there (.there (.there (.there (.there (.there (.there (.here)))))))) | exact .there (.there (.there (.there (.there (.there (.there (.there (.there (.here))))))))) | exact .there (.there (.there (.there (.there (.there (.there (.there (.there (.there (.here)))))))))) | exact .there (.there (.there (.there (.there (.there (.there (.there (.there (.there (.there (.here))))))))))) | exact .there (.there (.there (.there (.there (.there (.there (.there (.there (.there (.there (.there (.here))))))))))))) (Enc.size_eq _)) ?_))
      refine WL.gT 81 rfl rfl rfl (WL.op rfl (opW.moveI rfl ?_))
      refine WL.gT 81 rfl rfl rfl (WL.op rfl (opW.moveI rfl ?_))
      refine WL.gT 81 rfl rfl rfl (WL.op rfl (opW.call (cost_of _ ({ x with m := { x.m with instrs := s43 } } : Tx) (n : Int) units sg (ins ++ [(⟨0, ⟨none, 0, 0⟩, ⟨some ⟨b40, 0, none⟩, 4, 4⟩⟩ : Instr)]) (hsg.bel hS.old) (hS.sl (v := s43.v) (xs := (ins ++ [(⟨0, ⟨none, 0, 0⟩, ⟨some ⟨b40, 0, none⟩, 4, 4⟩⟩ : Instr)])) (by first | exact .here | exact .there (.here) | exact .there (.there (.here)) | exact .there (.there (.there (.here))) | exact .there (.there (.there (.there (.here)))) | exact .there (.there (.there (.there (.there (.here))))) | exact .there (.there (.there (.there (.there (.there (.here)))))) | exact .there (.there (.there (.there (.there (.there (.there (.here))))))) | exact .there (.there (.there (.there (.there (.there (.there (.there (.here)))))))) | exact .there (.there (.there (.there (.there (.there (.there (.there (.there (.here))))))))) | exact .there (.there (.there (.there (.there (.there (.there (.there (.there (.there (.here)))))))))) | exact .there (.there (.there (.there (.there (.there (.there (.there (.there (.there (.there (.here))))))))))) | exact .there (.there (.there (.there (.there (.there (.there (.there (.there (.there (.there (.there (.here)))))))))))))) (okA hiok hS.old ⟨⟨[], SlR.nil _, fun _ _ => trivial⟩, ⟨_, hS.sl (v := .slice (some ⟨b40, 0, none⟩) 4 4) (xs := ([1, 2, 3, 4] : List UInt8)) (by first | exact .here | exact .there (.here) | exact .there (.there (.here)) | exact .there (.there (.there (.here))) | exact .there (.there (.there (.there (.here)))) | exact .there (.there (.there (.there (.there (.here))))) | exact .there (.there (.there (.there (.there (.there (.here)))))) | exact .there (.there (.there (.there (.there (.there (.there (.here))))))) | exact .there (.there (.there (.there (.there (.there (.there (.there (.here)))))))) | exact .there (.there (.there (.there (.there (.there (.there (.there (.there (.here))))))))) | exact .there (.there (.there (.there (.there (.there (.there (.there (.there (.there (.here)))))))))) | exact .there (.there (.there (.there (.there (.there (.there (.there (.there (.there (.there (.here))))))))))) | exact .there (.there (.there (.there (.there (.there (.there (.there (.there (.there (.there (.there (.here))))))))))))), fun _ _ => trivial⟩⟩) (by omega) hu) rfl ?_))
      rintro _ w ⟨rfl, hw⟩; replace hS := hS.bel hw
      rw [show dataL (ins ++ [(⟨0, ⟨none, 0, 0⟩, ⟨some ⟨b40, 0, none⟩, 4, 4⟩⟩ : Instr)]) = dataL ins + 4 by simp [dataL, lenV, SlV.v]]
      refine WL.gT 81 rfl rfl rfl (WL.op rfl (opW.moveI rfl ?_))
      refine WL.gT 81 rfl rfl rfl (WL.op rfl (opW.add rfl rfl (nadd (b := 1) (by omega)) ?_))
      refine WL.gT 81 rfl rfl rfl (WL.op rfl (opW.boolF (by rw [hC]; simp) (opW.neq rfl rfl ⟨rfl, rfl⟩) ?_))
      refine WL.op rfl (opW.pickT rfl rfl ?_)
      refine WL.nil ?_
      refine thenQ_n (hK15 _ _ ?_)
      refine WC.cond _ rfl (fun hc2 => ?_) (fun hc2 => ?_)
      ·
        have hr2 := hc2
        try simp only [decide_eq_true_eq, decide_eq_false_iff_not, Bool.and_eq_true, Bool.or_eq_true, Bool.and_eq_false_iff, Bool.or_eq_false_iff, Bool.not_eq_true', Bool.not_eq_false', Int.not_lt, Int.not_le] at hc2
        simp at hr2
      ·
        have hr2 := hc2
        try simp only [decide_eq_true_eq, decide_eq_false_iff_not, Bool.and_eq_true, Bool.or_eq_true, Bool.and_eq_false_iff, Bool.or_eq_false_iff, Bool.not_eq_true', Bool.not_eq_false', Int.not_lt, Int.not_le] at hc2
        refine WC.skip ?_
        refine thenQ_n (hK14 _ _ ?_)
        refine WC.seq (fun K16 hK16 => ?_)
        refine WC.region ?_
        refine WL.op rfl (opW.loadV rfl (hS.ldA (cs := Enc.enc x) (by first | exact .here | exact .there (.here) | exact .there (.there (.here)) | exact .there (.there (.there (.here))) | exact .there (.there (.there (.there (.here)))) | exact .there (.there (.there (.there (.there (.here))))) | exact .there (.there (.there (.there (.there (.there (.here)))))) | exact .there (.there (.there (.there (.there (.there (.there (.here))))))) | exact .there (.there (.there (.there (.there (.there (.there (.there (.here)))))))) | exact .there (.there (.there (.there (.there (.there (.there (.there (.there (.here))))))))) | exact .there (.there (.there (.there (.there (.there (.there (.there (.there (.there (.here)))))))))) | exact .there (.there (.there (.there (.there (.there (.there (.there (.there (.there (.there (.here))))))))))) | exact .there (.there (.there (.there (.there (.there (.there (.there (.there (.there (.there (.there (.here))))))))))))) (Enc.size_eq x)) ?_)
        refine WL.op rfl (opW.moveI rfl ?_)
        refine WL.op rfl (opW.moveI rfl ?_)
        refine WL.op rfl (opW.add rfl rfl (nadd (b := 1) hu1) ?_)
        refine WL.op rfl (opW.call (cost_of _ x (n : Int) (units + 1) sg ins (hsg.bel hS.old) (hins.bel hS.old) (fun e he => ((hiok e he).bel hS.old).ok) (by omega) hu1) rfl ?_)
        rintro _ w ⟨rfl, hw⟩; replace hS := hS.bel hw
        refine WL.op rfl (opW.moveI rfl ?_)
        refine WL.op rfl (opW.add rfl rfl (nadd (b := 1) (by omega)) ?_)
        refine WL.op rfl (opW.boolT (by rw [hD]; simp) (opW.eql rfl rfl ⟨rfl, rfl⟩) ?_)
        refine WL.op rfl (opW.moveB rfl ?_)
        refine WL.gT 98 rfl rfl rfl (WL.op rfl (opW.call (lives9 _) rfl ?_))
        rintro _ w ⟨rfl, hw⟩; replace hS := hS.bel hw
        refine WL.op rfl (opW.pickT rfl rfl ?_)
        refine WL.op rfl (opW.assignB rfl ?_)
        refine WL.nil ?_
        refine thenQ_n (hK16 _ _ ?_)
        refine WC.ret ?_
        refine bodyQ_ret (.tmpB rfl .nil) ?_
        exact ⟨rfl, hS.old⟩

end Go.Fer
