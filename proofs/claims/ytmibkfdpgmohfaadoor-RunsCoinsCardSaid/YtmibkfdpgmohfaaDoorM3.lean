/- coins in two words; twice -/
import Derived.Test.YtmibkfdpgmohfaaDoorL5
set_option linter.all false
namespace Go.Fer
open Go Go.Proofs Go.RowKit

def tot (n : Nat) : Vector U64 2 := #v[⟨n / 18446744073709551616⟩, ⟨n % 18446744073709551616⟩]
theorem hi_le {S k : Nat} (h : S ≤ k * 18446744073709551615) (hk : k ≤ 100000) : S / 18446744073709551616 ≤ 100000 := by omega
theorem enc_v2 (a b : U64) : Enc.enc (#v[a, b] : Vector U64 2) = #[.int .u64 (a.n : Int), .int .u64 (b.n : Int)] := by simp [enc_vec64]
theorem isAgg_int {P : Program} {e : Nat} {k : IntKind} (h : IntT P e k) (w : World) : (isAgg e).run P w = .ok false w := by simp [isAgg, run_underlying h.out]
theorem eqT_v2 {P : Program} {T e : Nat} (ha : ArrT P T 2 e) (hi : IntT P e .u64) (hs : SizeT P e 1) : EqT P T (Vector U64 2) 2 where
  le := by omega
  run w d hd x y := by
    obtain ⟨d, rfl⟩ : ∃ d', d = d' + 2 := ⟨d - 2, by omega⟩
    obtain ⟨a, b, rfl⟩ : ∃ a b, x = #v[a, b] := ⟨x[0], x[1], by apply Vector.ext; intro i hi; match i, hi with | 0, _ => rfl | 1, _ => rfl⟩
    obtain ⟨a', b', rfl⟩ : ∃ a b, y = #v[a, b] := ⟨y[0], y[1], by apply Vector.ext; intro i hi; match i, hi with | 0, _ => rfl | 1, _ => rfl⟩
    rw [enc_v2, enc_v2, Op.equalIn]
    have hp : ∀ (v : Value) (xs : Array Value) (i : Nat), xs[i]? = some v → (part e xs i).run P w = .ok v w := fun v xs i h => by simp [part, isAgg_int hi w, h]
    have he : ∀ a b : U64, (Op.equalIn (d + 1) e (.int .u64 (a.n : Int)) (.int .u64 (b.n : Int))).run P w = .ok (decide (a = b)) w := fun a b => by
      rw [run_equalIn_int w d e .u64 .u64 _ _ hi.out]
      congr 1
      rw [Bool.eq_iff_iff]
      simp only [beq_iff_eq, decide_eq_true_eq]
      constructor
      · intro h; cases a; cases b; exact congrArg U64.mk (by simp only at h; omega)
      · intro h; rw [h]
    have hl : [0:2].toList = [0, 1] := rfl
    simp only [Sem.run_bind, run_underlying ha.out, Result.andThen_ok, run_sizeOf' hs, Std.Legacy.Range.forIn_eq_forIn_range', Std.Legacy.Range.size, Nat.sub_zero, Nat.add_sub_cancel, Nat.div_one, List.range', List.forIn_cons, List.forIn_nil, hp (.int .u64 (a.n : Int)) #[.int .u64 (a.n : Int), .int .u64 (b.n : Int)] (0 * 1) rfl, hp (.int .u64 (a'.n : Int)) #[.int .u64 (a'.n : Int), .int .u64 (b'.n : Int)] (0 * 1) rfl, he]
    by_cases h1 : a = a'
    · subst h1
      rw [decide_eq_true rfl]
      simp only [Bool.not_true, Bool.false_eq_true, if_false, Sem.run_pure, Result.andThen_ok, Sem.run_bind, hp (.int .u64 (b.n : Int)) #[.int .u64 (a.n : Int), .int .u64 (b.n : Int)] ((0 + 1) * 1) rfl, hp (.int .u64 (b'.n : Int)) #[.int .u64 (a.n : Int), .int .u64 (b'.n : Int)] ((0 + 1) * 1) rfl, he]
      by_cases h2 : b = b'
      · subst h2; simp
      · have : (#v[a, b] : Vector U64 2) ≠ #v[a, b'] := fun e => h2 (by have := congrArg (fun v : Vector U64 2 => v[1]) e; simpa using this)
        simp [h2, this]
    · have : (#v[a, b] : Vector U64 2) ≠ #v[a', b'] := fun e => h1 (by have := congrArg (fun v : Vector U64 2 => v[0]) e; simpa using this)
      rw [decide_eq_false h1]
      simp [this]

instance : EqT Tryd.prog 65 (Vector U64 2) 2 := eqT_v2 inferInstance inferInstance inferInstance
theorem v2_at0 (a b : U64) : (Enc.enc (#v[a, b] : Vector U64 2))[0]? = some (.int .u64 (a.n : Int)) := by rw [enc_v2]; rfl
theorem v2_at1 (a b : U64) : (Enc.enc (#v[a, b] : Vector U64 2))[1]? = some (.int .u64 (b.n : Int)) := by rw [enc_v2]; rfl
theorem v2_set0 (a b : U64) (x : Nat) : spl (Enc.enc (#v[a, b] : Vector U64 2)) 0 #[.int .u64 (x : Int)] = Enc.enc (#v[⟨x⟩, b] : Vector U64 2) := by rw [enc_v2, enc_v2]; rfl
theorem v2_set1 (a b : U64) (x : Nat) : spl (Enc.enc (#v[a, b] : Vector U64 2)) 1 #[.int .u64 (x : Int)] = Enc.enc (#v[a, ⟨x⟩] : Vector U64 2) := by rw [enc_v2, enc_v2]; rfl
theorem v2_zero : (#[.int .u64 0, .int .u64 0] : Array Value) = Enc.enc (#v[⟨0⟩, ⟨0⟩] : Vector U64 2) := by rw [enc_v2]; rfl
theorem tot_step {S c : Nat} (hc : c < 18446744073709551616) : tot (S + c) = #v[⟨if ((S % 18446744073709551616 + c) % 18446744073709551616) < S % 18446744073709551616 then S / 18446744073709551616 + 1 else S / 18446744073709551616⟩, ⟨(S % 18446744073709551616 + c) % 18446744073709551616⟩] := by
  unfold tot
  congr 3
  · split <;> congr 1 <;> omega
  · congr 2; omega

theorem total15 (w0 : World) (v : Value) (l : List Account) (hx : SlR w0 v l) (hw : ∀ y ∈ l, okW y) (hb : l.length ≤ 100000) : Ret Tryd.prog 13 #[v] w0 (fun u w' => u = .agg (Enc.enc (tot (sumC l))) ∧ Bel w0 w') := by
  refine Ret.enter (args := [v]) Tryd.func13 rfl Tryd.ntmps13 Tryd.results13 rfl ?_
  have hS := St.start w0
  refine WC.seq (fun K1 hK1 => ?_)
  refine WC.region ?_
  refine WL.op rfl (opW.allocA hS ?_)
  intro b2 w _ hS
  refine WL.nil ?_
  refine thenQ_n (hK1 _ _ ?_)
  refine WC.seq (fun K2 hK2 => ?_)
  refine WC.region ?_
  refine WL.op rfl (opW.allocA hS ?_)
  intro b3 w _ hS
  refine WL.nil ?_
  refine thenQ_n (hK2 _ _ ?_)
  refine WC.seq (fun K3 hK3 => ?_)
  refine WC.seq (fun K4 hK4 => ?_)
  refine WC.region ?_
  refine WL.op rfl (opW.assignI rfl ?_)
  refine WL.nil ?_
  refine thenQ_n (hK4 _ _ ?_)
  refine WC.block ?_
  refine WC.loop (fun m f w => ∃ k : Nat, Fits [(0, v), (2, .pointer (some ⟨b2, 0, none⟩)), (3, .pointer (some ⟨b3, 0, none⟩)), (4, .int .i64 (k : Int))] f ∧ St w0 [blkE b3 (Enc.enc (tot (sumC (l.take k)))) 65, blkE b2 #[.int .u64 0, .int .u64 0] 65] w ∧ k ≤ l.length ∧ m = l.length - k) (l.length) ?_ ?_
  ·
    exact ⟨0, ⟨rfl, rfl, rfl, rfl, trivial⟩, (show St w0 [blkE b3 (Enc.enc (tot (sumC (l.take 0)))) 65, blkE b2 #[.int .u64 0, .int .u64 0] 65] w from (by rw [List.take_zero, show tot (sumC []) = #v[⟨0⟩, ⟨0⟩] from rfl, ← v2_zero]; exact hS)), Nat.zero_le _, rfl⟩
  ·
    rintro m f w ⟨k, hfit, hS, hk0, hm⟩
    refine WC.fits _ hfit (fun g => ?_)
    clear hfit
    refine WC.seq (fun K5 hK5 => ?_)
    refine WC.seq (fun K6 hK6 => ?_)
    refine WC.region ?_
    refine WL.op rfl (opW.moveI rfl ?_)
    refine WL.op rfl (opW.moveV (v := v) rfl ?_)
    refine WL.op rfl (opW.lenV rfl ((hx.bel hS.old)) ?_)
    refine WL.op rfl (opW.lss rfl rfl ?_)
    refine WL.nil ?_
    refine thenQ_n (hK6 _ _ ?_)
    refine WC.cond _ rfl (fun hc0 => ?_) (fun hc0 => ?_)
    ·
      have hr0 := hc0
      try simp only [decide_eq_true_eq, decide_eq_false_iff_not, Bool.and_eq_true, Bool.or_eq_true, Bool.and_eq_false_iff, Bool.or_eq_false_iff, Bool.not_eq_true', Bool.not_eq_false', Int.not_lt, Int.not_le] at hc0
      have hkl : k < l.length := by omega
      have hck := (hw _ (List.getElem_mem hkl)).1
      have hsl := sumC_le (l := l.take k) fun y hy => hw y (List.mem_of_mem_take hy)
      have htl : (l.take k).length ≤ k := by simp; omega
      have htm := Nat.mul_le_mul_right 18446744073709551616 htl
      have hHI : ((sumC (l.take k)) / 18446744073709551616) ≤ 100000 := hi_le hsl (by omega)
      have hts : tot (sumC (l.take (k + 1))) = _ := (congrArg tot (sumC_take hkl)).trans (tot_step (S := (sumC (l.take k))) hck)
      replace hS := (show St w0 [blkE b3 (Enc.enc (#v[⟨((sumC (l.take k)) / 18446744073709551616)⟩, ⟨((sumC (l.take k)) % 18446744073709551616)⟩] : Vector U64 2)) 65, blkE b2 #[.int .u64 0, .int .u64 0] 65] _ from hS)
      refine WC.skip ?_
      refine thenQ_n (hK5 _ _ ?_)
      refine WC.seq (fun K7 hK7 => ?_)
      refine WC.block ?_
      refine WC.seq (fun K8 hK8 => ?_)
      refine WC.draw 9 (.look 0 (.look 1 (.look 2 (.look 3 (.look 4 (.look 5 (.look 6 (.look 7 (.look 8 .nil))))))))) (by kernel_rfl) (fun _ _ _ h => h) (fun w1 hw1 => ?_)
      replace hS := hS.bel hw1
      have hS1 := hS
      have hT := St.start w1
      refine ML.look rfl rfl rfl (fun w hw => (by have hS := hS1.bel hw; exact opW.idxArr rfl rfl (by omega) ⟨rfl, rfl⟩)) ?_
      refine ML.look rfl rfl rfl (fun w hw => (by have hS := hS1.bel hw; exact opW.loadV rfl (hS.ld1 (b := b3) (cs := Enc.enc (#v[⟨((sumC (l.take k)) / 18446744073709551616)⟩, ⟨((sumC (l.take k)) % 18446744073709551616)⟩] : Vector U64 2)) (by first | exact .h0 | exact .h1 | exact .h2 | exact .h3 | exact .h4 | exact .h5 | exact .h6 | exact .h7 | exact .h8 | exact .h9 | exact .h10 | exact .h11 | exact .h12 | exact .h13 | exact .h14) (v2_at1 ⟨((sumC (l.take k)) / 18446744073709551616)⟩ ⟨((sumC (l.take k)) % 18446744073709551616)⟩)) ⟨rfl, rfl⟩)) ?_
      refine ML.look rfl rfl rfl (fun w hw => (by have hS := hS1.bel hw; exact opW.moveV (v := v) rfl ⟨rfl, rfl⟩)) ?_
      refine ML.look rfl rfl rfl (fun w hw => (by have hS := hS1.bel hw; exact opW.moveI rfl ⟨rfl, rfl⟩)) ?_
      refine ML.look rfl rfl rfl (fun w hw => (by have hS := hS1.bel hw; exact opW.idxV rfl ((hx.bel hS.old)) rfl (by omega) ⟨rfl, rfl⟩)) ?_
      refine ML.look rfl rfl rfl (fun w hw => (by have hS := hS1.bel hw; exact opW.fieldAddr rfl ((hx.bel hS.old).isP hkl) ⟨rfl, rfl⟩)) ?_
      refine ML.look rfl rfl rfl (fun w hw => (by have hS := hS1.bel hw; exact opW.loadV rfl (Ld.pt1 ((hx.bel hS.old).isPt hkl) 0 (Account.at_coins _)) ⟨rfl, rfl⟩)) ?_
      refine ML.look rfl rfl rfl (fun w hw => (by have hS := hS1.bel hw; exact opW.add rfl rfl ((show IntKind.u64.wrap ((((sumC (l.take k)) % 18446744073709551616) : Int) + (l[k].coins : Int)) = ((((((sumC (l.take k)) % 18446744073709551616) + l[k].coins) % 18446744073709551616) : Nat) : Int) from by rw [IntKind.wrap_u64]; omega)) ⟨rfl, rfl⟩)) ?_
      refine ML.look rfl rfl rfl (fun w hw => (by have hS := hS1.bel hw; exact opW.assignI rfl ⟨rfl, rfl⟩)) ?_
      refine ML.nil ?_
      refine thenQ_n (hK8 _ _ ?_)
      refine WC.mid (fun f w => ∃ hh : Nat, Fits [(0, v), (2, .pointer (some ⟨b2, 0, none⟩)), (3, .pointer (some ⟨b3, 0, none⟩)), (4, .int .i64 (k : Int)), (5, .int .u64 ((((((sumC (l.take k)) % 18446744073709551616) + l[k].coins) % 18446744073709551616) : Nat) : Int))] f ∧ St w0 [blkE b3 (Enc.enc (#v[⟨hh⟩, ⟨((sumC (l.take k)) % 18446744073709551616)⟩] : Vector U64 2)) 65, blkE b2 #[.int .u64 0, .int .u64 0] 65] w ∧ hh = (if ((((sumC (l.take k)) % 18446744073709551616) + l[k].coins) % 18446744073709551616) < ((sumC (l.take k)) % 18446744073709551616) then ((sumC (l.take k)) / 18446744073709551616) + 1 else ((sumC (l.take k)) / 18446744073709551616))) ?_ ?_
      ·
        refine WC.seq (fun K9 hK9 => ?_)
        refine WC.region ?_
        refine WL.op rfl (opW.moveI rfl ?_)
        refine WL.op rfl (opW.idxArr rfl rfl (by omega) ?_)
        refine WL.op rfl (opW.loadV rfl (hS.ld1 (b := b3) (cs := Enc.enc (#v[⟨((sumC (l.take k)) / 18446744073709551616)⟩, ⟨((sumC (l.take k)) % 18446744073709551616)⟩] : Vector U64 2)) (by first | exact .h0 | exact .h1 | exact .h2 | exact .h3 | exact .h4 | exact .h5 | exact .h6 | exact .h7 | exact .h8 | exact .h9 | exact .h10 | exact .h11 | exact .h12 | exact .h13 | exact .h14) (v2_at1 ⟨((sumC (l.take k)) / 18446744073709551616)⟩ ⟨((sumC (l.take k)) % 18446744073709551616)⟩)) ?_)
        refine WL.op rfl (opW.lss rfl rfl ?_)
        refine WL.nil ?_
        refine thenQ_n (hK9 _ _ ?_)
        refine WC.cond _ rfl (fun hc1 => ?_) (fun hc1 => ?_)
        ·
          have hr1 := hc1
          try simp only [decide_eq_true_eq, decide_eq_false_iff_not, Bool.and_eq_true, Bool.or_eq_true, Bool.and_eq_false_iff, Bool.or_eq_false_iff, Bool.not_eq_true', Bool.not_eq_false', Int.not_lt, Int.not_le] at hc1
          have hov : ((((sumC (l.take k)) % 18446744073709551616) + l[k].coins) % 18446744073709551616) < ((sumC (l.take k)) % 18446744073709551616) := by omega
          refine WC.region ?_
          refine WL.op rfl (opW.idxArr rfl rfl (by omega) ?_)
          refine WL.op rfl (opW.loadV rfl (hS.ld1 (b := b3) (cs := Enc.enc (#v[⟨((sumC (l.take k)) / 18446744073709551616)⟩, ⟨((sumC (l.take k)) % 18446744073709551616)⟩] : Vector U64 2)) (by first | exact .h0 | exact .h1 | exact .h2 | exact .h3 | exact .h4 | exact .h5 | exact .h6 | exact .h7 | exact .h8 | exact .h9 | exact .h10 | exact .h11 | exact .h12 | exact .h13 | exact .h14) (v2_at0 ⟨((sumC (l.take k)) / 18446744073709551616)⟩ ⟨((sumC (l.take k)) % 18446744073709551616)⟩)) ?_)
          refine WL.op rfl (opW.add rfl rfl ((show IntKind.u64.wrap ((((sumC (l.take k)) / 18446744073709551616) : Int) + 1) = ((((sumC (l.take k)) / 18446744073709551616) + 1 : Nat) : Int) from nadd (b := 1) (Nat.lt_of_le_of_lt (Nat.succ_le_succ hHI) (by decide)))) ?_)
          refine WL.op rfl (opW.idxArr rfl rfl (by omega) ?_)
          refine WL.op0 (opW.storeF (b := b3) (o := 0) (v := .int .u64 ((((sumC (l.take k)) / 18446744073709551616) + 1 : Nat) : Int)) (sz := 1) (cs := Enc.enc (#v[⟨((sumC (l.take k)) / 18446744073709551616)⟩, ⟨((sumC (l.take k)) % 18446744073709551616)⟩] : Vector U64 2)) (cs' := Enc.enc (#v[⟨((sumC (l.take k)) / 18446744073709551616) + 1⟩, ⟨((sumC (l.take k)) % 18446744073709551616)⟩] : Vector U64 2)) hS rfl rfl (by first | exact .h0 | exact .h1 | exact .h2 | exact .h3 | exact .h4 | exact .h5 | exact .h6 | exact .h7 | exact .h8 | exact .h9 | exact .h10 | exact .h11 | exact .h12 | exact .h13 | exact .h14) rfl (by rw [Enc.size_eq]; decide) (one_int _ _) (v2_set0 _ _ _) ?_)
          intro w hS; replace hS := hS _ (by first | exact .h0 | exact .h1 | exact .h2 | exact .h3 | exact .h4 | exact .h5 | exact .h6 | exact .h7 | exact .h8 | exact .h9 | exact .h10 | exact .h11 | exact .h12 | exact .h13 | exact .h14)
          refine WL.nil ?_
          refine thenQ_n ?_
          first | exact ⟨((sumC (l.take k)) / 18446744073709551616) + 1, ⟨rfl, rfl, rfl, rfl, rfl, trivial⟩, hS.sub (by repeat (first | with_reducible exact List.nil_sublist _ | with_reducible exact List.Sublist.refl _ | with_reducible refine List.Sublist.cons₂ _ ?_ | with_reducible refine List.Sublist.cons _ ?_)), (if_pos hov).symm⟩ | exact ⟨((sumC (l.take k)) / 18446744073709551616), ⟨rfl, rfl, rfl, rfl, rfl, trivial⟩, hS.sub (by repeat (first | with_reducible exact List.nil_sublist _ | with_reducible exact List.Sublist.refl _ | with_reducible refine List.Sublist.cons₂ _ ?_ | with_reducible refine List.Sublist.cons _ ?_)), (if_neg hov).symm⟩
        ·
          have hr1 := hc1
          try simp only [decide_eq_true_eq, decide_eq_false_iff_not, Bool.and_eq_true, Bool.or_eq_true, Bool.and_eq_false_iff, Bool.or_eq_false_iff, Bool.not_eq_true', Bool.not_eq_false', Int.not_lt, Int.not_le] at hc1
          have hov : ¬ ((((sumC (l.take k)) % 18446744073709551616) + l[k].coins) % 18446744073709551616) < ((sumC (l.take k)) % 18446744073709551616) := by omega
          refine WC.skip ?_
          refine thenQ_n ?_
          first | exact ⟨((sumC (l.take k)) / 18446744073709551616) + 1, ⟨rfl, rfl, rfl, rfl, rfl, trivial⟩, hS.sub (by repeat (first | with_reducible exact List.nil_sublist _ | with_reducible exact List.Sublist.refl _ | with_reducible refine List.Sublist.cons₂ _ ?_ | with_reducible refine List.Sublist.cons _ ?_)), (if_pos hov).symm⟩ | exact ⟨((sumC (l.take k)) / 18446744073709551616), ⟨rfl, rfl, rfl, rfl, rfl, trivial⟩, hS.sub (by repeat (first | with_reducible exact List.nil_sublist _ | with_reducible exact List.Sublist.refl _ | with_reducible refine List.Sublist.cons₂ _ ?_ | with_reducible refine List.Sublist.cons _ ?_)), (if_neg hov).symm⟩
      ·
        rintro f w ⟨hh, hfit, hS, hhh⟩
        refine WC.fits _ hfit (fun g => ?_)
        clear hfit
        refine WC.region ?_
        refine WL.op rfl (opW.moveI rfl ?_)
        refine WL.op rfl (opW.idxArr rfl rfl (by omega) ?_)
        refine WL.op0 (opW.storeF (b := b3) (o := 1) (v := .int .u64 ((((((sumC (l.take k)) % 18446744073709551616) + l[k].coins) % 18446744073709551616) : Nat) : Int)) (sz := 1) (cs := Enc.enc (#v[⟨hh⟩, ⟨((sumC (l.take k)) % 18446744073709551616)⟩] : Vector U64 2)) (cs' := Enc.enc (#v[⟨hh⟩, ⟨((((sumC (l.take k)) % 18446744073709551616) + l[k].coins) % 18446744073709551616)⟩] : Vector U64 2)) hS rfl rfl (by first | exact .h0 | exact .h1 | exact .h2 | exact .h3 | exact .h4 | exact .h5 | exact .h6 | exact .h7 | exact .h8 | exact .h9 | exact .h10 | exact .h11 | exact .h12 | exact .h13 | exact .h14) rfl (by rw [Enc.size_eq]; decide) (one_int _ _) (v2_set1 _ _ _) ?_)
        intro w hS; replace hS := hS _ (by first | exact .h0 | exact .h1 | exact .h2 | exact .h3 | exact .h4 | exact .h5 | exact .h6 | exact .h7 | exact .h8 | exact .h9 | exact .h10 | exact .h11 | exact .h12 | exact .h13 | exact .h14)
        refine WL.nil ?_
        refine blockQ_n ?_
        refine thenQ_n (hK7 _ _ ?_)
        refine WC.region ?_
        refine WL.op rfl (opW.moveI rfl ?_)
        refine WL.op rfl (opW.add rfl rfl (wrap_i64 (by omega)) ?_)
        refine WL.op rfl (opW.assignI rfl ?_)
        refine WL.nil ?_
        refine thenQ_n ?_
        exact ⟨l.length - (k + 1), by omega, k + 1, ⟨rfl, rfl, rfl, congrArg (Value.int .i64) (by omega), trivial⟩, (by rw [hts, ← hhh]; exact hS.sub (by repeat (first | with_reducible exact List.nil_sublist _ | with_reducible exact List.Sublist.refl _ | with_reducible refine List.Sublist.cons₂ _ ?_ | with_reducible refine List.Sublist.cons _ ?_))), by omega, rfl⟩
    ·
      have hr0 := hc0
      try simp only [decide_eq_true_eq, decide_eq_false_iff_not, Bool.and_eq_true, Bool.or_eq_true, Bool.and_eq_false_iff, Bool.or_eq_false_iff, Bool.not_eq_true', Bool.not_eq_false', Int.not_lt, Int.not_le] at hc0
      refine WC.exit ?_
      refine thenQ_e ?_
      refine thenQ_e ?_
      refine blockQ_hit ?_
      refine thenQ_n (hK3 _ _ ?_)
      refine WC.seq (fun K10 hK10 => ?_)
      refine WC.region ?_
      refine WL.op rfl (opW.loadV rfl (hS.ldA (b := b3) (cs := Enc.enc (tot (sumC (l.take k)))) (by first | exact .h0 | exact .h1 | exact .h2 | exact .h3 | exact .h4 | exact .h5 | exact .h6 | exact .h7 | exact .h8 | exact .h9 | exact .h10 | exact .h11 | exact .h12 | exact .h13 | exact .h14) (Enc.size_eq _)) ?_)
      refine WL.op0 (opW.storeE (r := tot (sumC (l.take k))) hS rfl rfl (by first | exact .h0 | exact .h1 | exact .h2 | exact .h3 | exact .h4 | exact .h5 | exact .h6 | exact .h7 | exact .h8 | exact .h9 | exact .h10 | exact .h11 | exact .h12 | exact .h13 | exact .h14) rfl ?_)
      intro w hS; replace hS := hS _ (by first | exact .h0 | exact .h1 | exact .h2 | exact .h3 | exact .h4 | exact .h5 | exact .h6 | exact .h7 | exact .h8 | exact .h9 | exact .h10 | exact .h11 | exact .h12 | exact .h13 | exact .h14)
      refine WL.nil ?_
      refine thenQ_n (hK10 _ _ ?_)
      refine WC.ret ?_
      refine bodyQ_ret (.cell (hS.ldA (b := b2) (cs := Enc.enc (tot (sumC (l.take k)))) (by first | exact .h0 | exact .h1 | exact .h2 | exact .h3 | exact .h4 | exact .h5 | exact .h6 | exact .h7 | exact .h8 | exact .h9 | exact .h10 | exact .h11 | exact .h12 | exact .h13 | exact .h14) (Enc.size_eq _)) .nil) ?_
      obtain rfl : k = l.length := by omega
      rw [List.take_length] at hS ⊢
      exact ⟨rfl, hS.old⟩

theorem twice15 (w0 : World) (v : Value) (r : List Role) (hr : SlR w0 v r) : Ret Tryd.prog 7 #[v] w0 (fun u w' => ∃ b, u = .bool b ∧ Bel w0 w') := by
  refine Ret.enter (args := [v]) Tryd.func7 rfl Tryd.ntmps7 Tryd.results7 rfl ?_
  have hS := St.start w0
  refine WC.seq (fun K1 hK1 => ?_)
  refine WC.region ?_
  refine WL.op rfl (opW.assignB rfl ?_)
  refine WL.nil ?_
  refine thenQ_n (hK1 _ _ ?_)
  refine WC.seq (fun K2 hK2 => ?_)
  refine WC.seq (fun K3 hK3 => ?_)
  refine WC.region ?_
  refine WL.op rfl (opW.assignI rfl ?_)
  refine WL.nil ?_
  refine thenQ_n (hK3 _ _ ?_)
  refine WC.block ?_
  refine WC.loop (fun m f w => ∃ k : Nat, Fits [(0, v), (3, .int .i64 (k : Int))] f ∧ St w0 [] w ∧ k ≤ r.length ∧ m = r.length - k) (r.length) ?_ ?_
  ·
    exact ⟨0, ⟨rfl, rfl, trivial⟩, hS, Nat.zero_le _, rfl⟩
  ·
    rintro m f w ⟨k, hfit, hS, hk0, hm⟩
    refine WC.fits _ hfit (fun g => ?_)
    clear hfit
    refine WC.seq (fun K4 hK4 => ?_)
    refine WC.seq (fun K5 hK5 => ?_)
    refine WC.region ?_
    refine WL.op rfl (opW.moveI rfl ?_)
    refine WL.op rfl (opW.moveV (v := v) rfl ?_)
    refine WL.op rfl (opW.lenV rfl ((hr.bel hS.old)) ?_)
    refine WL.op rfl (opW.lss rfl rfl ?_)
    refine WL.nil ?_
    refine thenQ_n (hK5 _ _ ?_)
    refine WC.cond _ rfl (fun hc0 => ?_) (fun hc0 => ?_)
    ·
      have hr0 := hc0
      try simp only [decide_eq_true_eq, decide_eq_false_iff_not, Bool.and_eq_true, Bool.or_eq_true, Bool.and_eq_false_iff, Bool.or_eq_false_iff, Bool.not_eq_true', Bool.not_eq_false', Int.not_lt, Int.not_le] at hc0
      have hkl : k < r.length := by omega
      have hrl := hr.le
      simp only [maxLen] at hrl
      refine WC.skip ?_
      refine thenQ_n (hK4 _ _ ?_)
      refine WC.seq (fun K6 hK6 => ?_)
      refine WC.block ?_
      refine WC.seq (fun K7 hK7 => ?_)
      refine WC.region ?_
      refine WL.op rfl (opW.assignI rfl ?_)
      refine WL.nil ?_
      refine thenQ_n (hK7 _ _ ?_)
      refine WC.block ?_
      refine WC.loop (fun q f w => ∃ j : Nat, Fits [(0, v), (3, .int .i64 (k : Int)), (4, .int .i64 (j : Int))] f ∧ St w0 [] w ∧ j ≤ k ∧ q = k - j) (k) ?_ ?_
      ·
        exact ⟨0, ⟨rfl, rfl, rfl, trivial⟩, hS, Nat.zero_le _, rfl⟩
      ·
        rintro q f w ⟨j, hfit, hS, hj0, hq⟩
        refine WC.fits _ hfit (fun g => ?_)
        clear hfit
        refine WC.seq (fun K8 hK8 => ?_)
        refine WC.seq (fun K9 hK9 => ?_)
        refine WC.region ?_
        refine WL.op rfl (opW.moveI rfl ?_)
        refine WL.op rfl (opW.moveI rfl ?_)
        refine WL.op rfl (opW.lss rfl rfl ?_)
        refine WL.nil ?_
        refine thenQ_n (hK9 _ _ ?_)
        refine WC.cond _ rfl (fun hc1 => ?_) (fun hc1 => ?_)
        ·
          have hr1 := hc1
          try simp only [decide_eq_true_eq, decide_eq_false_iff_not, Bool.and_eq_true, Bool.or_eq_true, Bool.and_eq_false_iff, Bool.or_eq_false_iff, Bool.not_eq_true', Bool.not_eq_false', Int.not_lt, Int.not_le] at hc1
          have hjl : j < r.length := by omega
          refine WC.skip ?_
          refine thenQ_n (hK8 _ _ ?_)
          refine WC.seq (fun K10 hK10 => ?_)
          refine WC.block ?_
          refine WC.seq (fun K11 hK11 => ?_)
          refine WC.draw 11 (.look 0 (.look 1 (.look 2 (.look 3 (.look 4 (.look 5 (.look 6 (.look 7 (.look 8 (.look 9 (.look 10 .nil))))))))))) (by kernel_rfl) (fun _ _ _ h => h) (fun w1 hw1 => ?_)
          replace hS := hS.bel hw1
          have hS1 := hS
          have hT := St.start w1
          refine ML.look rfl rfl rfl (fun w hw => (by have hS := hS1.bel hw; exact opW.moveV (v := v) rfl ⟨rfl, rfl⟩)) ?_
          refine ML.look rfl rfl rfl (fun w hw => (by have hS := hS1.bel hw; exact opW.moveI rfl ⟨rfl, rfl⟩)) ?_
          refine ML.look rfl rfl rfl (fun w hw => (by have hS := hS1.bel hw; exact opW.idxV rfl ((hr.bel hS.old)) rfl (by omega) ⟨rfl, rfl⟩)) ?_
          refine ML.look rfl rfl rfl (fun w hw => (by have hS := hS1.bel hw; exact opW.fieldAddr rfl ((hr.bel hS.old).isP hkl) ⟨rfl, rfl⟩)) ?_
          refine ML.look rfl rfl rfl (fun w hw => (by have hS := hS1.bel hw; exact opW.loadV rfl (Ld.ptA ((hr.bel hS.old).isPt hkl) 0 (Role.ex_key _) (by rw [Enc.size_eq]; decide)) ⟨rfl, rfl⟩)) ?_
          refine ML.look rfl rfl rfl (fun w hw => (by have hS := hS1.bel hw; exact opW.moveV (v := v) rfl ⟨rfl, rfl⟩)) ?_
          refine ML.look rfl rfl rfl (fun w hw => (by have hS := hS1.bel hw; exact opW.moveI rfl ⟨rfl, rfl⟩)) ?_
          refine ML.look rfl rfl rfl (fun w hw => (by have hS := hS1.bel hw; exact opW.idxV rfl ((hr.bel hS.old)) rfl (by omega) ⟨rfl, rfl⟩)) ?_
          refine ML.look rfl rfl rfl (fun w hw => (by have hS := hS1.bel hw; exact opW.fieldAddr rfl ((hr.bel hS.old).isP hjl) ⟨rfl, rfl⟩)) ?_
          refine ML.look rfl rfl rfl (fun w hw => (by have hS := hS1.bel hw; exact opW.loadV rfl (Ld.ptA ((hr.bel hS.old).isPt hjl) 0 (Role.ex_key _) (by rw [Enc.size_eq]; decide)) ⟨rfl, rfl⟩)) ?_
          refine ML.look rfl rfl rfl (fun w hw => (by have hS := hS1.bel hw; exact opW.eqlE rfl rfl ⟨rfl, rfl⟩)) ?_
          refine ML.nil ?_
          refine thenQ_n (hK11 _ _ ?_)
          refine WC.cond _ rfl (fun hc2 => ?_) (fun hc2 => ?_)
          ·
            have hr2 := hc2
            try simp only [decide_eq_true_eq, decide_eq_false_iff_not, Bool.and_eq_true, Bool.or_eq_true, Bool.and_eq_false_iff, Bool.or_eq_false_iff, Bool.not_eq_true', Bool.not_eq_false', Int.not_lt, Int.not_le] at hc2
            refine WC.seq (fun K12 hK12 => ?_)
            refine WC.region ?_
            refine WL.op rfl (opW.assignB rfl ?_)
            refine WL.nil ?_
            refine thenQ_n (hK12 _ _ ?_)
            refine WC.ret ?_
            refine blockQ_r ?_
            refine thenQ_r ?_
            refine thenQ_r ?_
            refine blockQ_r ?_
            refine blockQ_r ?_
            refine thenQ_r ?_
            refine thenQ_r ?_
            refine blockQ_r ?_
            refine thenQ_r ?_
            refine bodyQ_ret (.tmpB rfl .nil) ?_
            exact ⟨_, rfl, hS.old⟩
          ·
            have hr2 := hc2
            try simp only [decide_eq_true_eq, decide_eq_false_iff_not, Bool.and_eq_true, Bool.or_eq_true, Bool.and_eq_false_iff, Bool.or_eq_false_iff, Bool.not_eq_true', Bool.not_eq_false', Int.not_lt, Int.not_le] at hc2
            refine WC.skip ?_
            refine blockQ_n ?_
            refine thenQ_n (hK10 _ _ ?_)
            refine WC.region ?_
            refine WL.op rfl (opW.moveI rfl ?_)
            refine WL.op rfl (opW.add rfl rfl (wrap_i64 (by omega)) ?_)
            refine WL.op rfl (opW.assignI rfl ?_)
            refine WL.nil ?_
            refine thenQ_n ?_
            exact ⟨k - (j + 1), by omega, j + 1, ⟨rfl, rfl, congrArg (Value.int .i64) (by omega), trivial⟩, hS, by omega, rfl⟩
        ·
          have hr1 := hc1
          try simp only [decide_eq_true_eq, decide_eq_false_iff_not, Bool.and_eq_true, Bool.or_eq_true, Bool.and_eq_false_iff, Bool.or_eq_false_iff, Bool.not_eq_true', Bool.not_eq_false', Int.not_lt, Int.not_le] at hc1
          refine WC.exit ?_
          refine thenQ_e ?_
          refine thenQ_e ?_
          refine blockQ_hit ?_
          refine blockQ_n ?_
          refine thenQ_n (hK6 _ _ ?_)
          refine WC.region ?_
          refine WL.op rfl (opW.moveI rfl ?_)
          refine WL.op rfl (opW.add rfl rfl (wrap_i64 (by omega)) ?_)
          refine WL.op rfl (opW.assignI rfl ?_)
          refine WL.nil ?_
          refine thenQ_n ?_
          exact ⟨r.length - (k + 1), by omega, k + 1, ⟨rfl, congrArg (Value.int .i64) (by omega), trivial⟩, hS, by omega, rfl⟩
    ·
      have hr0 := hc0
      try simp only [decide_eq_true_eq, decide_eq_false_iff_not, Bool.and_eq_true, Bool.or_eq_true, Bool.and_eq_false_iff, Bool.or_eq_false_iff, Bool.not_eq_true', Bool.not_eq_false', Int.not_lt, Int.not_le] at hc0
      refine WC.exit ?_
      refine thenQ_e ?_
      refine thenQ_e ?_
      refine blockQ_hit ?_
      refine thenQ_n (hK2 _ _ ?_)
      refine WC.seq (fun K13 hK13 => ?_)
      refine WC.region ?_
      refine WL.op rfl (opW.assignB rfl ?_)
      refine WL.nil ?_
      refine thenQ_n (hK13 _ _ ?_)
      refine WC.ret ?_
      refine bodyQ_ret (.tmpB rfl .nil) ?_
      exact ⟨_, rfl, hS.old⟩

end Go.Fer
