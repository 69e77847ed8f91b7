/- reading lists -/
import Derived.Test.YtmiacbnmifejdaaD
set_option linter.all false
namespace Go.Fer
open Go Go.Proofs Go.RowKit

theorem clip_key (w0 : World) (v : Value) (xs : List (Vector UInt8 32)) (hx : SlR w0 v xs) : Ret Try.prog 81 #[v] w0 (fun u w' => u = cutV v 0 xs.length xs.length (Enc.sz ((Vector UInt8 32))) ∧ Bel w0 w') := by
  refine Ret.enter (args := [v]) Try.func81 rfl Try.ntmps81 Try.results81 rfl ?_
  have hS := St.start w0
  refine WC.seq (fun K1 hK1 => ?_)
  refine WC.region ?_
  refine WL.op rfl (opW.assignV (v := .slice none 0 0) rfl ?_)
  refine WL.nil ?_
  refine thenQ_n (hK1 _ _ ?_)
  refine WC.seq (fun K2 hK2 => ?_)
  refine WC.region ?_
  refine WL.op rfl (opW.moveV (v := v) rfl ?_)
  refine WL.op rfl (opW.moveV (v := v) rfl ?_)
  refine WL.op rfl (opW.lenV rfl ((hx.bel hS.old)) ?_)
  refine WL.op rfl (opW.moveV (v := v) rfl ?_)
  refine WL.op rfl (opW.lenV rfl ((hx.bel hS.old)) ?_)
  refine WL.op rfl (opW.cutS (hx.bel hS.old) ⟨⟨_, rfl⟩, hx.cap⟩ ⟨⟨_, rfl⟩, Nat.le_refl _⟩ ⟨rfl, Nat.zero_le _⟩ ?_)
  refine WL.op rfl (opW.assignV rfl ?_)
  refine WL.nil ?_
  refine thenQ_n (hK2 _ _ ?_)
  refine WC.ret ?_
  refine bodyQ_ret (.tmp .nil) ?_
  exact ⟨rfl, hS.old⟩

theorem clip_instr (w0 : World) (v : Value) (xs : List Instr) (hx : SlR w0 v xs) : Ret Try.prog 82 #[v] w0 (fun u w' => u = cutV v 0 xs.length xs.length (Enc.sz (Instr)) ∧ Bel w0 w') := by
  refine Ret.enter (args := [v]) Try.func82 rfl Try.ntmps82 Try.results82 rfl ?_
  have hS := St.start w0
  refine WC.seq (fun K1 hK1 => ?_)
  refine WC.region ?_
  refine WL.op rfl (opW.assignV (v := .slice none 0 0) rfl ?_)
  refine WL.nil ?_
  refine thenQ_n (hK1 _ _ ?_)
  refine WC.seq (fun K2 hK2 => ?_)
  refine WC.region ?_
  refine WL.op rfl (opW.moveV (v := v) rfl ?_)
  refine WL.op rfl (opW.moveV (v := v) rfl ?_)
  refine WL.op rfl (opW.lenV rfl ((hx.bel hS.old)) ?_)
  refine WL.op rfl (opW.moveV (v := v) rfl ?_)
  refine WL.op rfl (opW.lenV rfl ((hx.bel hS.old)) ?_)
  refine WL.op rfl (opW.cutS (hx.bel hS.old) ⟨⟨_, rfl⟩, hx.cap⟩ ⟨⟨_, rfl⟩, Nat.le_refl _⟩ ⟨rfl, Nat.zero_le _⟩ ?_)
  refine WL.op rfl (opW.assignV rfl ?_)
  refine WL.nil ?_
  refine thenQ_n (hK2 _ _ ?_)
  refine WC.ret ?_
  refine bodyQ_ret (.tmp .nil) ?_
  exact ⟨rfl, hS.old⟩

theorem clip_lookup (w0 : World) (v : Value) (xs : List Lookup) (hx : SlR w0 v xs) : Ret Try.prog 84 #[v] w0 (fun u w' => u = cutV v 0 xs.length xs.length (Enc.sz (Lookup)) ∧ Bel w0 w') := by
  refine Ret.enter (args := [v]) Try.func84 rfl Try.ntmps84 Try.results84 rfl ?_
  have hS := St.start w0
  refine WC.seq (fun K1 hK1 => ?_)
  refine WC.region ?_
  refine WL.op rfl (opW.assignV (v := .slice none 0 0) rfl ?_)
  refine WL.nil ?_
  refine thenQ_n (hK1 _ _ ?_)
  refine WC.seq (fun K2 hK2 => ?_)
  refine WC.region ?_
  refine WL.op rfl (opW.moveV (v := v) rfl ?_)
  refine WL.op rfl (opW.moveV (v := v) rfl ?_)
  refine WL.op rfl (opW.lenV rfl ((hx.bel hS.old)) ?_)
  refine WL.op rfl (opW.moveV (v := v) rfl ?_)
  refine WL.op rfl (opW.lenV rfl ((hx.bel hS.old)) ?_)
  refine WL.op rfl (opW.cutS (hx.bel hS.old) ⟨⟨_, rfl⟩, hx.cap⟩ ⟨⟨_, rfl⟩, Nat.le_refl _⟩ ⟨rfl, Nat.zero_le _⟩ ?_)
  refine WL.op rfl (opW.assignV rfl ?_)
  refine WL.nil ?_
  refine thenQ_n (hK2 _ _ ?_)
  refine WC.ret ?_
  refine bodyQ_ret (.tmp .nil) ?_
  exact ⟨rfl, hS.old⟩

theorem rd_all_key (wb w0 : World) (S : List Ent) (p : Nat) (bs : SlV) (xs : List UInt8) (a : Nat) (hb : SlR wb bs.v xs) (hxl : xs.length ≤ 1000000000) (ha : a ≤ xs.length) (hS0 : St wb (rdE p bs a :: S) w0) : RetP Try.prog 73 #[.pointer (some ⟨p, 0, none⟩), .func (.func 74) #[.pointer (some ⟨p, 0, none⟩)] #[]] w0 (fun u w' => ∃ (s : SlV) (a' : Nat), u = s.v ∧ (rAll xs (rKey xs) (.ok a)).2 = .ok a' ∧ a' ≤ xs.length ∧ (rAll xs (rKey xs) (.ok a)).1.length < 65536 ∧ St wb (ownE s.v 58 (rAll xs (rKey xs) (.ok a)).1 :: rdE p bs a' :: S) w') (fun v w' => ∃ (e : Int) (a' : Nat), (rAll xs (rKey xs) (.ok a)).2 = .error e ∧ v = stopV e ∧ St wb (rdE p bs a' :: S) w') := by
  refine RetP.enter (args := [.pointer (some ⟨p, 0, none⟩), .func (.func 74) #[.pointer (some ⟨p, 0, none⟩)] #[]]) Try.func73 rfl Try.ntmps73 Try.results73 rfl ?_
  have hS := St.start w0
  replace hS := hS0
  refine WC.seq (fun K1 hK1 => ?_)
  refine WC.region ?_
  refine WL.op rfl (opW.assignV (v := .slice none 0 0) rfl ?_)
  refine WL.nil ?_
  refine thenQ_n (hK1 _ _ ?_)
  refine WC.seq (fun K2 hK2 => ?_)
  refine WC.seq (fun K3 hK3 => ?_)
  refine WC.region ?_
  refine WL.op rfl (opW.moveV (v := .pointer (some ⟨p, 0, none⟩)) rfl ?_)
  refine WL.opP rfl (opWP.call (rd_short _ _ _ p bs xs a hb hxl ha hS) rfl ?_ ?_)
  · rintro pv w ⟨e, a', he, rfl, hS⟩
    exact ⟨_, rfl, e, a', by unfold rAll; rw [he, rMany_e], rfl, hS⟩
  rintro _ w ⟨a0, rfl, h0, ha0, hS⟩
  have hlt := rShort_lt xs (.ok a)
  have hR : rAll xs (rKey xs) (.ok a) = rMany (rKey xs) (rShort xs (.ok a)).1 (.ok a0) := by unfold rAll; rw [h0]
  refine WL.op rfl (opW.moveI rfl ?_)
  refine WL.nil ?_
  refine thenQ_n (hK3 _ _ ?_)
  refine WC.block ?_
  refine WC.loop (fun q f w => ∃ (k ak : Nat) (v : Value) (l : List (Vector UInt8 32)), Fits [(1, .func (.func 74) #[.pointer (some ⟨p, 0, none⟩)] #[]), (4, v), (6, .int .i64 ((rShort xs (.ok a)).1 : Int)), (7, .int .i64 (k : Int))] f ∧ St wb (ownE v 58 l :: rdE p bs ak :: S) w ∧ k ≤ (rShort xs (.ok a)).1 ∧ ak ≤ xs.length ∧ l.length = k ∧ rMany (rKey xs) (rShort xs (.ok a)).1 (.ok a0) = (l ++ (rMany (rKey xs) ((rShort xs (.ok a)).1 - k) (.ok ak)).1, (rMany (rKey xs) ((rShort xs (.ok a)).1 - k) (.ok ak)).2) ∧ q = (rShort xs (.ok a)).1 - k) ((rShort xs (.ok a)).1) ?_ ?_
  ·
    exact ⟨0, a0, .slice none 0 0, [], ⟨rfl, rfl, rfl, rfl, trivial⟩, hS.nilOwn 58, Nat.zero_le _, ha0, rfl, rfl, rfl⟩
  ·
    rintro q f w ⟨k, ak, v, l, hfit, hS, hkN, hak, hll, hM, hm⟩
    refine WC.fits _ hfit (fun g => ?_)
    clear hfit
    refine WC.seq (fun K4 hK4 => ?_)
    refine WC.region ?_
    refine WL.op rfl (opW.lss rfl rfl ?_)
    refine WL.nil ?_
    refine thenQ_n (hK4 _ _ ?_)
    refine WC.seq (fun K5 hK5 => ?_)
    refine WC.cond _ rfl (fun hc0 => ?_) (fun hc0 => ?_)
    ·
      have hr0 := hc0
      try simp only [decide_eq_true_eq, decide_eq_false_iff_not, Bool.and_eq_true, Bool.or_eq_true, Bool.and_eq_false_iff, Bool.or_eq_false_iff, Bool.not_eq_true', Bool.not_eq_false', Int.not_lt, Int.not_le] at hc0
      have hkl : k < (rShort xs (.ok a)).1 := by omega
      have hNk : (rShort xs (.ok a)).1 - k = ((rShort xs (.ok a)).1 - (k + 1)) + 1 := by omega
      refine WC.skip ?_
      refine thenQ_n (hK5 _ _ ?_)
      refine WC.seq (fun K6 hK6 => ?_)
      refine WC.block ?_
      refine WC.region ?_
      refine WL.op rfl (opW.moveV (v := v) rfl ?_)
      refine WL.op rfl (opW.moveV (v := .func (.func 74) #[.pointer (some ⟨p, 0, none⟩)] #[]) rfl ?_)
      refine WL.opP rfl (opWP.callM (vs := []) rfl (rd_key _ _ _ p bs xs ak hb hxl hak (hS.pick (by first | exact .h0 | exact .h1 | exact .h2 | exact .h3 | exact .h4 | exact .h5 | exact .h6 | exact .h7 | exact .h8 | exact .h9 | exact .h10 | exact .h11 | exact .h12 | exact .h13 | exact .h14))) rfl ?_ ?_)
      · rintro pv w ⟨e, a', he, rfl, hS⟩
        exact ⟨_, rfl, e, a', by rw [hR, hM, hNk, rMany_succ, he, rMany_e], rfl, hS.sub (by repeat (first | with_reducible exact List.nil_sublist _ | with_reducible exact List.Sublist.refl _ | with_reducible refine List.Sublist.cons₂ _ ?_ | with_reducible refine List.Sublist.cons _ ?_))⟩
      rintro _ w ⟨a1, rfl, h1, ha1, hS⟩
      refine WL.op rfl (opW.buildSl hS (([(rKey xs (.ok ak)).1] : List (Vector UInt8 32))) [.agg (Enc.enc ((rKey xs (.ok ak)).1))] rfl rfl rfl rfl (by decide) ?_)
      intro b12 w hw hS
      refine WL.op rfl (opW.appendOwn (α := Vector UInt8 32) (v := v) (xs := l) rfl hS rfl (by first | exact .h0 | exact .h1 | exact .h2 | exact .h3 | exact .h4 | exact .h5 | exact .h6 | exact .h7 | exact .h8 | exact .h9 | exact .h10 | exact .h11 | exact .h12 | exact .h13 | exact .h14) (hS.sl (v := .slice (some ⟨b12, 0, none⟩) 1 1) (xs := [(rKey xs (.ok ak)).1]) (by first | exact .h0 | exact .h1 | exact .h2 | exact .h3 | exact .h4 | exact .h5 | exact .h6 | exact .h7 | exact .h8 | exact .h9 | exact .h10 | exact .h11 | exact .h12 | exact .h13 | exact .h14)) (by simp only [List.length_cons, List.length_nil]; omega) (by simp only [List.length_cons, List.length_nil, maxLen]; omega) ?_)
      intro v13 w hS; replace hS := hS _ (by first | exact .h0 | exact .h1 | exact .h2 | exact .h3 | exact .h4 | exact .h5 | exact .h6 | exact .h7 | exact .h8 | exact .h9 | exact .h10 | exact .h11 | exact .h12 | exact .h13 | exact .h14)
      refine WL.op rfl (opW.assignV (v := v13) rfl ?_)
      refine WL.nil ?_
      refine blockQ_n ?_
      refine thenQ_n (hK6 _ _ ?_)
      refine WC.region ?_
      refine WL.op rfl (opW.add rfl rfl (wrap_i64 (by omega)) ?_)
      refine WL.op rfl (opW.moveI rfl ?_)
      refine WL.nil ?_
      refine thenQ_n ?_
      have hM1 : rMany (rKey xs) (rShort xs (.ok a)).1 (.ok a0) = ((l ++ [((rKey xs (.ok ak)).1)]) ++ (rMany (rKey xs) ((rShort xs (.ok a)).1 - (k + 1)) (.ok a1)).1, (rMany (rKey xs) ((rShort xs (.ok a)).1 - (k + 1)) (.ok a1)).2) := by
        rw [hM, hNk, rMany_succ, h1, List.append_assoc]; rfl
      exact ⟨(rShort xs (.ok a)).1 - (k + 1), by omega, k + 1, a1, v13, l ++ [((rKey xs (.ok ak)).1)], ⟨rfl, rfl, rfl, congrArg (Value.int .i64) (by omega), trivial⟩, (hS.pick (e := ownE v13 58 (l ++ [((rKey xs (.ok ak)).1)])) (by first | exact .h0 | exact .h1 | exact .h2 | exact .h3 | exact .h4 | exact .h5 | exact .h6 | exact .h7 | exact .h8 | exact .h9 | exact .h10 | exact .h11 | exact .h12 | exact .h13 | exact .h14)).sub (by repeat (first | with_reducible exact List.nil_sublist _ | with_reducible exact List.Sublist.refl _ | with_reducible refine List.Sublist.cons₂ _ ?_ | with_reducible refine List.Sublist.cons _ ?_)), by omega, ha1, by rw [List.length_append, hll]; rfl, hM1, rfl⟩
    ·
      have hr0 := hc0
      try simp only [decide_eq_true_eq, decide_eq_false_iff_not, Bool.and_eq_true, Bool.or_eq_true, Bool.and_eq_false_iff, Bool.or_eq_false_iff, Bool.not_eq_true', Bool.not_eq_false', Int.not_lt, Int.not_le] at hc0
      obtain rfl : k = (rShort xs (.ok a)).1 := by omega
      rw [Nat.sub_self] at hM
      refine WC.exit ?_
      refine thenQ_e ?_
      refine thenQ_e ?_
      refine blockQ_hit ?_
      refine thenQ_n (hK2 _ _ ?_)
      refine WC.seq (fun K7 hK7 => ?_)
      refine WC.region ?_
      refine WL.op rfl (opW.moveV (v := v) rfl ?_)
      refine WL.op rfl (opW.call (clip_key _ _ l (hS.sl (v := v) (xs := l) (by first | exact .h0 | exact .h1 | exact .h2 | exact .h3 | exact .h4 | exact .h5 | exact .h6 | exact .h7 | exact .h8 | exact .h9 | exact .h10 | exact .h11 | exact .h12 | exact .h13 | exact .h14))) rfl ?_)
      rintro v16 w ⟨hv16, hw⟩; replace hS := hS.bel hw
      refine WL.op rfl (opW.assignV (v := v16) rfl ?_)
      refine WL.nil ?_
      refine thenQ_n (hK7 _ _ ?_)
      refine WC.ret ?_
      refine bodyQP_ret (.tmpV (v := v16) rfl .nil) ?_
      subst hv16
      replace hS := hS.cutOwn (v := v) (T := 58) (xs := l) (by first | exact .h0 | exact .h1 | exact .h2 | exact .h3 | exact .h4 | exact .h5 | exact .h6 | exact .h7 | exact .h8 | exact .h9 | exact .h10 | exact .h11 | exact .h12 | exact .h13 | exact .h14)
      obtain ⟨s16, hs16⟩ := (hS.sl (α := Vector UInt8 32) (xs := l) (by first | exact .h0 | exact .h1 | exact .h2 | exact .h3 | exact .h4 | exact .h5 | exact .h6 | exact .h7 | exact .h8 | exact .h9 | exact .h10 | exact .h11 | exact .h12 | exact .h13 | exact .h14)).asV
      rw [hs16] at hS ⊢
      refine ⟨s16, ak, rfl, ?_, hak, ?_, ?_⟩
      · rw [hR, hM]; rfl
      · rw [hR, hM]; show (l ++ []).length < 65536; rw [List.append_nil]; omega
      · rw [hR, hM]; show St wb (ownE s16.v _ (l ++ []) :: _) _; rw [List.append_nil]; exact hS

theorem rd_all_instr (wb w0 : World) (S : List Ent) (p : Nat) (bs : SlV) (xs : List UInt8) (a : Nat) (hb : SlR wb bs.v xs) (hxl : xs.length ≤ 1000000000) (ha : a ≤ xs.length) (hS0 : St wb (rdE p bs a :: S) w0) : RetP Try.prog 75 #[.pointer (some ⟨p, 0, none⟩), .func (.func 76) #[.pointer (some ⟨p, 0, none⟩)] #[]] w0 (fun u w' => ∃ (s : SlV) (is : List Instr) (a' : Nat), u = s.v ∧ (rAll xs (rInstr xs) (.ok a)).2 = .ok a' ∧ a' ≤ xs.length ∧ is.length = (rAll xs (rInstr xs) (.ok a)).1.length ∧ is.map (·.program) = (rAll xs (rInstr xs) (.ok a)).1.map (·.1) ∧ (rAll xs (rInstr xs) (.ok a)).1.length < 65536 ∧ St wb (ownE s.v 90 is :: b2E (zipI is (rAll xs (rInstr xs) (.ok a)).1) :: rdE p bs a' :: S) w') (fun v w' => ∃ (e : Int) (a' : Nat), (rAll xs (rInstr xs) (.ok a)).2 = .error e ∧ v = stopV e ∧ St wb (rdE p bs a' :: S) w') := by
  refine RetP.enter (args := [.pointer (some ⟨p, 0, none⟩), .func (.func 76) #[.pointer (some ⟨p, 0, none⟩)] #[]]) Try.func75 rfl Try.ntmps75 Try.results75 rfl ?_
  have hS := St.start w0
  replace hS := hS0
  refine WC.seq (fun K1 hK1 => ?_)
  refine WC.region ?_
  refine WL.op rfl (opW.assignV (v := .slice none 0 0) rfl ?_)
  refine WL.nil ?_
  refine thenQ_n (hK1 _ _ ?_)
  refine WC.seq (fun K2 hK2 => ?_)
  refine WC.seq (fun K3 hK3 => ?_)
  refine WC.region ?_
  refine WL.op rfl (opW.moveV (v := .pointer (some ⟨p, 0, none⟩)) rfl ?_)
  refine WL.opP rfl (opWP.call (rd_short _ _ _ p bs xs a hb hxl ha hS) rfl ?_ ?_)
  · rintro pv w ⟨e, a', he, rfl, hS⟩
    exact ⟨_, rfl, e, a', by unfold rAll; rw [he, rMany_e], rfl, hS⟩
  rintro _ w ⟨a0, rfl, h0, ha0, hS⟩
  have hlt := rShort_lt xs (.ok a)
  have hR : rAll xs (rInstr xs) (.ok a) = rMany (rInstr xs) (rShort xs (.ok a)).1 (.ok a0) := by unfold rAll; rw [h0]
  refine WL.op rfl (opW.moveI rfl ?_)
  refine WL.nil ?_
  refine thenQ_n (hK3 _ _ ?_)
  refine WC.block ?_
  refine WC.loop (fun q f w => ∃ (k ak : Nat) (v : Value) (l : List (UInt8 × List UInt8 × List UInt8)) (is : List Instr), Fits [(1, .func (.func 76) #[.pointer (some ⟨p, 0, none⟩)] #[]), (4, v), (6, .int .i64 ((rShort xs (.ok a)).1 : Int)), (7, .int .i64 (k : Int))] f ∧ St wb (ownE v 90 is :: b2E (zipI is l) :: rdE p bs ak :: S) w ∧ k ≤ (rShort xs (.ok a)).1 ∧ ak ≤ xs.length ∧ l.length = k ∧ is.length = l.length ∧ is.map (·.program) = l.map (·.1) ∧ rMany (rInstr xs) (rShort xs (.ok a)).1 (.ok a0) = (l ++ (rMany (rInstr xs) ((rShort xs (.ok a)).1 - k) (.ok ak)).1, (rMany (rInstr xs) ((rShort xs (.ok a)).1 - k) (.ok ak)).2) ∧ q = (rShort xs (.ok a)).1 - k) ((rShort xs (.ok a)).1) ?_ ?_
  ·
    exact ⟨0, a0, .slice none 0 0, [], [], ⟨rfl, rfl, rfl, rfl, trivial⟩, (hS.b2New).nilOwn 90, Nat.zero_le _, ha0, rfl, rfl, rfl, rfl, rfl⟩
  ·
    rintro q f w ⟨k, ak, v, l, is, hfit, hS, hkN, hak, hll, his, hip0, hM, hm⟩
    refine WC.fits _ hfit (fun g => ?_)
    clear hfit
    refine WC.seq (fun K4 hK4 => ?_)
    refine WC.region ?_
    refine WL.op rfl (opW.lss rfl rfl ?_)
    refine WL.nil ?_
    refine thenQ_n (hK4 _ _ ?_)
    refine WC.seq (fun K5 hK5 => ?_)
    refine WC.cond _ rfl (fun hc0 => ?_) (fun hc0 => ?_)
    ·
      have hr0 := hc0
      try simp only [decide_eq_true_eq, decide_eq_false_iff_not, Bool.and_eq_true, Bool.or_eq_true, Bool.and_eq_false_iff, Bool.or_eq_false_iff, Bool.not_eq_true', Bool.not_eq_false', Int.not_lt, Int.not_le] at hc0
      have hkl : k < (rShort xs (.ok a)).1 := by omega
      have hNk : (rShort xs (.ok a)).1 - k = ((rShort xs (.ok a)).1 - (k + 1)) + 1 := by omega
      refine WC.skip ?_
      refine thenQ_n (hK5 _ _ ?_)
      refine WC.seq (fun K6 hK6 => ?_)
      refine WC.block ?_
      refine WC.region ?_
      refine WL.op rfl (opW.moveV (v := v) rfl ?_)
      refine WL.op rfl (opW.moveV (v := .func (.func 76) #[.pointer (some ⟨p, 0, none⟩)] #[]) rfl ?_)
      refine WL.opP rfl (opWP.callM (vs := []) rfl (rd_instr _ _ _ p bs xs ak hb hxl hak (hS.pick (by first | exact .h0 | exact .h1 | exact .h2 | exact .h3 | exact .h4 | exact .h5 | exact .h6 | exact .h7 | exact .h8 | exact .h9 | exact .h10 | exact .h11 | exact .h12 | exact .h13 | exact .h14))) rfl ?_ ?_)
      · rintro pv w ⟨e, a', he, rfl, hS⟩
        exact ⟨_, rfl, e, a', by rw [hR, hM, hNk, rMany_succ, he, rMany_e], rfl, hS.sub (by repeat (first | with_reducible exact List.nil_sublist _ | with_reducible exact List.Sublist.refl _ | with_reducible refine List.Sublist.cons₂ _ ?_ | with_reducible refine List.Sublist.cons _ ?_))⟩
      rintro _ w ⟨i, a1, rfl, hip, h1, ha1, hS⟩
      refine WL.op rfl (opW.buildSl hS (([i] : List (Instr))) [.agg (Enc.enc (i))] rfl rfl rfl rfl (by decide) ?_)
      intro b12 w hw hS
      refine WL.op rfl (opW.appendOwn (α := Instr) (v := v) (xs := is) rfl hS rfl (by first | exact .h0 | exact .h1 | exact .h2 | exact .h3 | exact .h4 | exact .h5 | exact .h6 | exact .h7 | exact .h8 | exact .h9 | exact .h10 | exact .h11 | exact .h12 | exact .h13 | exact .h14) (hS.sl (v := .slice (some ⟨b12, 0, none⟩) 1 1) (xs := [i]) (by first | exact .h0 | exact .h1 | exact .h2 | exact .h3 | exact .h4 | exact .h5 | exact .h6 | exact .h7 | exact .h8 | exact .h9 | exact .h10 | exact .h11 | exact .h12 | exact .h13 | exact .h14)) (by simp only [List.length_cons, List.length_nil]; omega) (by simp only [List.length_cons, List.length_nil, maxLen]; omega) ?_)
      intro v13 w hS; replace hS := hS _ (by first | exact .h0 | exact .h1 | exact .h2 | exact .h3 | exact .h4 | exact .h5 | exact .h6 | exact .h7 | exact .h8 | exact .h9 | exact .h10 | exact .h11 | exact .h12 | exact .h13 | exact .h14)
      replace hS := St.b2Add (p := ((i.accounts, ((rInstr xs (.ok ak)).1).2.1), (i.data, ((rInstr xs (.ok ak)).1).2.2))) (l := zipI is l) (((hS.pick (e := b2E (zipI is l)) (by first | exact .h0 | exact .h1 | exact .h2 | exact .h3 | exact .h4 | exact .h5 | exact .h6 | exact .h7 | exact .h8 | exact .h9 | exact .h10 | exact .h11 | exact .h12 | exact .h13 | exact .h14)).pick (e := ownE i.data.v 5 ((rInstr xs (.ok ak)).1).2.2) (by first | exact .h0 | exact .h1 | exact .h2 | exact .h3 | exact .h4 | exact .h5 | exact .h6 | exact .h7 | exact .h8 | exact .h9 | exact .h10 | exact .h11 | exact .h12 | exact .h13 | exact .h14)).pick (e := ownE i.accounts.v 5 ((rInstr xs (.ok ak)).1).2.1) (by first | exact .h0 | exact .h1 | exact .h2 | exact .h3 | exact .h4 | exact .h5 | exact .h6 | exact .h7 | exact .h8 | exact .h9 | exact .h10 | exact .h11 | exact .h12 | exact .h13 | exact .h14))
      rw [← zipI_snoc his i ((rInstr xs (.ok ak)).1)] at hS
      refine WL.op rfl (opW.assignV (v := v13) rfl ?_)
      refine WL.nil ?_
      refine blockQ_n ?_
      refine thenQ_n (hK6 _ _ ?_)
      refine WC.region ?_
      refine WL.op rfl (opW.add rfl rfl (wrap_i64 (by omega)) ?_)
      refine WL.op rfl (opW.moveI rfl ?_)
      refine WL.nil ?_
      refine thenQ_n ?_
      have hM1 : rMany (rInstr xs) (rShort xs (.ok a)).1 (.ok a0) = ((l ++ [((rInstr xs (.ok ak)).1)]) ++ (rMany (rInstr xs) ((rShort xs (.ok a)).1 - (k + 1)) (.ok a1)).1, (rMany (rInstr xs) ((rShort xs (.ok a)).1 - (k + 1)) (.ok a1)).2) := by
        rw [hM, hNk, rMany_succ, h1, List.append_assoc]; rfl
      exact ⟨(rShort xs (.ok a)).1 - (k + 1), by omega, k + 1, a1, v13, l ++ [((rInstr xs (.ok ak)).1)], is ++ [i], ⟨rfl, rfl, rfl, congrArg (Value.int .i64) (by omega), trivial⟩, (hS.pick (e := ownE v13 90 (is ++ [i])) (by first | exact .h0 | exact .h1 | exact .h2 | exact .h3 | exact .h4 | exact .h5 | exact .h6 | exact .h7 | exact .h8 | exact .h9 | exact .h10 | exact .h11 | exact .h12 | exact .h13 | exact .h14)).sub (by repeat (first | with_reducible exact List.nil_sublist _ | with_reducible exact List.Sublist.refl _ | with_reducible refine List.Sublist.cons₂ _ ?_ | with_reducible refine List.Sublist.cons _ ?_)), by omega, ha1, by rw [List.length_append, hll]; rfl, by rw [List.length_append, List.length_append, his]; rfl, by rw [List.map_append, List.map_append, hip0]; exact congrArg (fun x => l.map (·.1) ++ [x]) hip, hM1, rfl⟩
    ·
      have hr0 := hc0
      try simp only [decide_eq_true_eq, decide_eq_false_iff_not, Bool.and_eq_true, Bool.or_eq_true, Bool.and_eq_false_iff, Bool.or_eq_false_iff, Bool.not_eq_true', Bool.not_eq_false', Int.not_lt, Int.not_le] at hc0
      obtain rfl : k = (rShort xs (.ok a)).1 := by omega
      rw [Nat.sub_self] at hM
      refine WC.exit ?_
      refine thenQ_e ?_
      refine thenQ_e ?_
      refine blockQ_hit ?_
      refine thenQ_n (hK2 _ _ ?_)
      refine WC.seq (fun K7 hK7 => ?_)
      refine WC.region ?_
      refine WL.op rfl (opW.moveV (v := v) rfl ?_)
      refine WL.op rfl (opW.call (clip_instr _ _ is (hS.sl (v := v) (xs := is) (by first | exact .h0 | exact .h1 | exact .h2 | exact .h3 | exact .h4 | exact .h5 | exact .h6 | exact .h7 | exact .h8 | exact .h9 | exact .h10 | exact .h11 | exact .h12 | exact .h13 | exact .h14))) rfl ?_)
      rintro v16 w ⟨hv16, hw⟩; replace hS := hS.bel hw
      refine WL.op rfl (opW.assignV (v := v16) rfl ?_)
      refine WL.nil ?_
      refine thenQ_n (hK7 _ _ ?_)
      refine WC.ret ?_
      refine bodyQP_ret (.tmpV (v := v16) rfl .nil) ?_
      subst hv16
      replace hS := hS.cutOwn (v := v) (T := 90) (xs := is) (by first | exact .h0 | exact .h1 | exact .h2 | exact .h3 | exact .h4 | exact .h5 | exact .h6 | exact .h7 | exact .h8 | exact .h9 | exact .h10 | exact .h11 | exact .h12 | exact .h13 | exact .h14)
      obtain ⟨s16, hs16⟩ := (hS.sl (α := Instr) (xs := is) (by first | exact .h0 | exact .h1 | exact .h2 | exact .h3 | exact .h4 | exact .h5 | exact .h6 | exact .h7 | exact .h8 | exact .h9 | exact .h10 | exact .h11 | exact .h12 | exact .h13 | exact .h14)).asV
      rw [hs16] at hS ⊢
      have e1 : (rAll xs (rInstr xs) (.ok a)).1 = l := by rw [hR, hM]; exact List.append_nil l
      refine ⟨s16, is, ak, rfl, ?_, hak, ?_, ?_, ?_, ?_⟩
      · rw [hR, hM]; rfl
      · rw [e1]; exact his
      · rw [e1]; exact hip0
      · rw [e1]; omega
      · rw [e1]; exact hS

theorem rd_all_lookup (wb w0 : World) (S : List Ent) (p : Nat) (bs : SlV) (xs : List UInt8) (a : Nat) (hb : SlR wb bs.v xs) (hxl : xs.length ≤ 1000000000) (ha : a ≤ xs.length) (hS0 : St wb (rdE p bs a :: S) w0) : RetP Try.prog 77 #[.pointer (some ⟨p, 0, none⟩), .func (.func 78) #[.pointer (some ⟨p, 0, none⟩)] #[]] w0 (fun u w' => ∃ (s : SlV) (is : List Lookup) (a' : Nat), u = s.v ∧ (rAll xs (rLookup xs) (.ok a)).2 = .ok a' ∧ a' ≤ xs.length ∧ is.length = (rAll xs (rLookup xs) (.ok a)).1.length ∧ is.map (·.table) = (rAll xs (rLookup xs) (.ok a)).1.map (·.1) ∧ (rAll xs (rLookup xs) (.ok a)).1.length < 65536 ∧ St wb (ownE s.v 92 is :: b2E (zipL is (rAll xs (rLookup xs) (.ok a)).1) :: rdE p bs a' :: S) w') (fun v w' => ∃ (e : Int) (a' : Nat), (rAll xs (rLookup xs) (.ok a)).2 = .error e ∧ v = stopV e ∧ St wb (rdE p bs a' :: S) w') := by
  refine RetP.enter (args := [.pointer (some ⟨p, 0, none⟩), .func (.func 78) #[.pointer (some ⟨p, 0, none⟩)] #[]]) Try.func77 rfl Try.ntmps77 Try.results77 rfl ?_
  have hS := St.start w0
  replace hS := hS0
  refine WC.seq (fun K1 hK1 => ?_)
  refine WC.region ?_
  refine WL.op rfl (opW.assignV (v := .slice none 0 0) rfl ?_)
  refine WL.nil ?_
  refine thenQ_n (hK1 _ _ ?_)
  refine WC.seq (fun K2 hK2 => ?_)
  refine WC.seq (fun K3 hK3 => ?_)
  refine WC.region ?_
  refine WL.op rfl (opW.moveV (v := .pointer (some ⟨p, 0, none⟩)) rfl ?_)
  refine WL.opP rfl (opWP.call (rd_short _ _ _ p bs xs a hb hxl ha hS) rfl ?_ ?_)
  · rintro pv w ⟨e, a', he, rfl, hS⟩
    exact ⟨_, rfl, e, a', by unfold rAll; rw [he, rMany_e], rfl, hS⟩
  rintro _ w ⟨a0, rfl, h0, ha0, hS⟩
  have hlt := rShort_lt xs (.ok a)
  have hR : rAll xs (rLookup xs) (.ok a) = rMany (rLookup xs) (rShort xs (.ok a)).1 (.ok a0) := by unfold rAll; rw [h0]
  refine WL.op rfl (opW.moveI rfl ?_)
  refine WL.nil ?_
  refine thenQ_n (hK3 _ _ ?_)
  refine WC.block ?_
  refine WC.loop (fun q f w => ∃ (k ak : Nat) (v : Value) (l : List (Vector UInt8 32 × List UInt8 × List UInt8)) (is : List Lookup), Fits [(1, .func (.func 78) #[.pointer (some ⟨p, 0, none⟩)] #[]), (4, v), (6, .int .i64 ((rShort xs (.ok a)).1 : Int)), (7, .int .i64 (k : Int))] f ∧ St wb (ownE v 92 is :: b2E (zipL is l) :: rdE p bs ak :: S) w ∧ k ≤ (rShort xs (.ok a)).1 ∧ ak ≤ xs.length ∧ l.length = k ∧ is.length = l.length ∧ is.map (·.table) = l.map (·.1) ∧ rMany (rLookup xs) (rShort xs (.ok a)).1 (.ok a0) = (l ++ (rMany (rLookup xs) ((rShort xs (.ok a)).1 - k) (.ok ak)).1, (rMany (rLookup xs) ((rShort xs (.ok a)).1 - k) (.ok ak)).2) ∧ q = (rShort xs (.ok a)).1 - k) ((rShort xs (.ok a)).1) ?_ ?_
  ·
    exact ⟨0, a0, .slice none 0 0, [], [], ⟨rfl, rfl, rfl, rfl, trivial⟩, (hS.b2New).nilOwn 92, Nat.zero_le _, ha0, rfl, rfl, rfl, rfl, rfl⟩
  ·
    rintro q f w ⟨k, ak, v, l, is, hfit, hS, hkN, hak, hll, his, hip0, hM, hm⟩
    refine WC.fits _ hfit (fun g => ?_)
    clear hfit
    refine WC.seq (fun K4 hK4 => ?_)
    refine WC.region ?_
    refine WL.op rfl (opW.lss rfl rfl ?_)
    refine WL.nil ?_
    refine thenQ_n (hK4 _ _ ?_)
    refine WC.seq (fun K5 hK5 => ?_)
    refine WC.cond _ rfl (fun hc0 => ?_) (fun hc0 => ?_)
    ·
      have hr0 := hc0
      try simp only [decide_eq_true_eq, decide_eq_false_iff_not, Bool.and_eq_true, Bool.or_eq_true, Bool.and_eq_false_iff, Bool.or_eq_false_iff, Bool.not_eq_true', Bool.not_eq_false', Int.not_lt, Int.not_le] at hc0
      have hkl : k < (rShort xs (.ok a)).1 := by omega
      have hNk : (rShort xs (.ok a)).1 - k = ((rShort xs (.ok a)).1 - (k + 1)) + 1 := by omega
      refine WC.skip ?_
      refine thenQ_n (hK5 _ _ ?_)
      refine WC.seq (fun K6 hK6 => ?_)
      refine WC.block ?_
      refine WC.region ?_
      refine WL.op rfl (opW.moveV (v := v) rfl ?_)
      refine WL.op rfl (opW.moveV (v := .func (.func 78) #[.pointer (some ⟨p, 0, none⟩)] #[]) rfl ?_)
      refine WL.opP rfl (opWP.callM (vs := []) rfl (rd_lookup _ _ _ p bs xs ak hb hxl hak (hS.pick (by first | exact .h0 | exact .h1 | exact .h2 | exact .h3 | exact .h4 | exact .h5 | exact .h6 | exact .h7 | exact .h8 | exact .h9 | exact .h10 | exact .h11 | exact .h12 | exact .h13 | exact .h14))) rfl ?_ ?_)
      · rintro pv w ⟨e, a', he, rfl, hS⟩
        exact ⟨_, rfl, e, a', by rw [hR, hM, hNk, rMany_succ, he, rMany_e], rfl, hS.sub (by repeat (first | with_reducible exact List.nil_sublist _ | with_reducible exact List.Sublist.refl _ | with_reducible refine List.Sublist.cons₂ _ ?_ | with_reducible refine List.Sublist.cons _ ?_))⟩
      rintro _ w ⟨i, a1, rfl, hip, h1, ha1, hS⟩
      refine WL.op rfl (opW.buildSl hS (([i] : List (Lookup))) [.agg (Enc.enc (i))] rfl rfl rfl rfl (by decide) ?_)
      intro b12 w hw hS
      refine WL.op rfl (opW.appendOwn (α := Lookup) (v := v) (xs := is) rfl hS rfl (by first | exact .h0 | exact .h1 | exact .h2 | exact .h3 | exact .h4 | exact .h5 | exact .h6 | exact .h7 | exact .h8 | exact .h9 | exact .h10 | exact .h11 | exact .h12 | exact .h13 | exact .h14) (hS.sl (v := .slice (some ⟨b12, 0, none⟩) 1 1) (xs := [i]) (by first | exact .h0 | exact .h1 | exact .h2 | exact .h3 | exact .h4 | exact .h5 | exact .h6 | exact .h7 | exact .h8 | exact .h9 | exact .h10 | exact .h11 | exact .h12 | exact .h13 | exact .h14)) (by simp only [List.length_cons, List.length_nil]; omega) (by simp only [List.length_cons, List.length_nil, maxLen]; omega) ?_)
      intro v13 w hS; replace hS := hS _ (by first | exact .h0 | exact .h1 | exact .h2 | exact .h3 | exact .h4 | exact .h5 | exact .h6 | exact .h7 | exact .h8 | exact .h9 | exact .h10 | exact .h11 | exact .h12 | exact .h13 | exact .h14)
      replace hS := St.b2Add (p := ((i.writes, ((rLookup xs (.ok ak)).1).2.1), (i.reads, ((rLookup xs (.ok ak)).1).2.2))) (l := zipL is l) (((hS.pick (e := b2E (zipL is l)) (by first | exact .h0 | exact .h1 | exact .h2 | exact .h3 | exact .h4 | exact .h5 | exact .h6 | exact .h7 | exact .h8 | exact .h9 | exact .h10 | exact .h11 | exact .h12 | exact .h13 | exact .h14)).pick (e := ownE i.reads.v 5 ((rLookup xs (.ok ak)).1).2.2) (by first | exact .h0 | exact .h1 | exact .h2 | exact .h3 | exact .h4 | exact .h5 | exact .h6 | exact .h7 | exact .h8 | exact .h9 | exact .h10 | exact .h11 | exact .h12 | exact .h13 | exact .h14)).pick (e := ownE i.writes.v 5 ((rLookup xs (.ok ak)).1).2.1) (by first | exact .h0 | exact .h1 | exact .h2 | exact .h3 | exact .h4 | exact .h5 | exact .h6 | exact .h7 | exact .h8 | exact .h9 | exact .h10 | exact .h11 | exact .h12 | exact .h13 | exact .h14))
      rw [← zipL_snoc his i ((rLookup xs (.ok ak)).1)] at hS
      refine WL.op rfl (opW.assignV (v := v13) rfl ?_)
      refine WL.nil ?_
      refine blockQ_n ?_
      refine thenQ_n (hK6 _ _ ?_)
      refine WC.region ?_
      refine WL.op rfl (opW.add rfl rfl (wrap_i64 (by omega)) ?_)
      refine WL.op rfl (opW.moveI rfl ?_)
      refine WL.nil ?_
      refine thenQ_n ?_
      have hM1 : rMany (rLookup xs) (rShort xs (.ok a)).1 (.ok a0) = ((l ++ [((rLookup xs (.ok ak)).1)]) ++ (rMany (rLookup xs) ((rShort xs (.ok a)).1 - (k + 1)) (.ok a1)).1, (rMany (rLookup xs) ((rShort xs (.ok a)).1 - (k + 1)) (.ok a1)).2) := by
        rw [hM, hNk, rMany_succ, h1, List.append_assoc]; rfl
      exact ⟨(rShort xs (.ok a)).1 - (k + 1), by omega, k + 1, a1, v13, l ++ [((rLookup xs (.ok ak)).1)], is ++ [i], ⟨rfl, rfl, rfl, congrArg (Value.int .i64) (by omega), trivial⟩, (hS.pick (e := ownE v13 92 (is ++ [i])) (by first | exact .h0 | exact .h1 | exact .h2 | exact .h3 | exact .h4 | exact .h5 | exact .h6 | exact .h7 | exact .h8 | exact .h9 | exact .h10 | exact .h11 | exact .h12 | exact .h13 | exact .h14)).sub (by repeat (first | with_reducible exact List.nil_sublist _ | with_reducible exact List.Sublist.refl _ | with_reducible refine List.Sublist.cons₂ _ ?_ | with_reducible refine List.Sublist.cons _ ?_)), by omega, ha1, by rw [List.length_append, hll]; rfl, by rw [List.length_append, List.length_append, his]; rfl, by rw [List.map_append, List.map_append, hip0]; exact congrArg (fun x => l.map (·.1) ++ [x]) hip, hM1, rfl⟩
    ·
      have hr0 := hc0
      try simp only [decide_eq_true_eq, decide_eq_false_iff_not, Bool.and_eq_true, Bool.or_eq_true, Bool.and_eq_false_iff, Bool.or_eq_false_iff, Bool.not_eq_true', Bool.not_eq_false', Int.not_lt, Int.not_le] at hc0
      obtain rfl : k = (rShort xs (.ok a)).1 := by omega
      rw [Nat.sub_self] at hM
      refine WC.exit ?_
      refine thenQ_e ?_
      refine thenQ_e ?_
      refine blockQ_hit ?_
      refine thenQ_n (hK2 _ _ ?_)
      refine WC.seq (fun K7 hK7 => ?_)
      refine WC.region ?_
      refine WL.op rfl (opW.moveV (v := v) rfl ?_)
      refine WL.op rfl (opW.call (clip_lookup _ _ is (hS.sl (v := v) (xs := is) (by first | exact .h0 | exact .h1 | exact .h2 | exact .h3 | exact .h4 | exact .h5 | exact .h6 | exact .h7 | exact .h8 | exact .h9 | exact .h10 | exact .h11 | exact .h12 | exact .h13 | exact .h14))) rfl ?_)
      rintro v16 w ⟨hv16, hw⟩; replace hS := hS.bel hw
      refine WL.op rfl (opW.assignV (v := v16) rfl ?_)
      refine WL.nil ?_
      refine thenQ_n (hK7 _ _ ?_)
      refine WC.ret ?_
      refine bodyQP_ret (.tmpV (v := v16) rfl .nil) ?_
      subst hv16
      replace hS := hS.cutOwn (v := v) (T := 92) (xs := is) (by first | exact .h0 | exact .h1 | exact .h2 | exact .h3 | exact .h4 | exact .h5 | exact .h6 | exact .h7 | exact .h8 | exact .h9 | exact .h10 | exact .h11 | exact .h12 | exact .h13 | exact .h14)
      obtain ⟨s16, hs16⟩ := (hS.sl (α := Lookup) (xs := is) (by first | exact .h0 | exact .h1 | exact .h2 | exact .h3 | exact .h4 | exact .h5 | exact .h6 | exact .h7 | exact .h8 | exact .h9 | exact .h10 | exact .h11 | exact .h12 | exact .h13 | exact .h14)).asV
      rw [hs16] at hS ⊢
      have e1 : (rAll xs (rLookup xs) (.ok a)).1 = l := by rw [hR, hM]; exact List.append_nil l
      refine ⟨s16, is, ak, rfl, ?_, hak, ?_, ?_, ?_, ?_⟩
      · rw [hR, hM]; rfl
      · rw [e1]; exact his
      · rw [e1]; exact hip0
      · rw [e1]; omega
      · rw [e1]; exact hS

end Go.Fer
