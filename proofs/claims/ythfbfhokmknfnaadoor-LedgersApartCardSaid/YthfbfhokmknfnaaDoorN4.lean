/- Fold -/
import Derived.Test.YthfbfhokmknfnaaDoorN2
import Derived.Test.YthfbfhokmknfnaaDoorFolds
set_option linter.all false
namespace Go.Fer
open Go Go.Proofs Go.RowKit

theorem runL_len16 {r : List Role} {bu : Nat} {bad : Int} : ∀ {qs : List PI} {i : Nat} {x : XS}, (∀ a ∈ x.l, okW a) → (runL r bu bad qs i x).2.2.l.length = x.l.length ∧ ∀ a ∈ (runL r bu bad qs i x).2.2.l, okW a
 | [], i, x, h => ⟨rfl, h⟩
 | q :: qs, i, x, h => by
  have hk := stepF_keeps (r := r) (bu := bu) (bad := bad) (i := i) (q := q) h
  unfold runL
  split
  ·exact hk
  ·have h2 := runL_len16 (r := r) (bu := bu) (bad := bad) (qs := qs) (i := i + 1) hk.2
   exact ⟨h2.1.trans hk.1, h2.2⟩
theorem accF_len16 {R : Ready} {r : List Role} {qs : List PI} {l : List Account} (h : ∀ a ∈ l, okW a) : (accF R r qs l).length = l.length ∧ ∀ a ∈ accF R r qs l, okW a := by
 unfold accF runZ
 split
 ·exact runL_len16 (x := ⟨0, 0, l⟩) h
 ·exact ⟨rfl, h⟩
theorem chgF_mem {r : List Role} {l : List Account} {x : Holding} (h : x ∈ chgF r l) : x.account ∈ l ∧ ∃ ρ ∈ r, ρ.key = x.key ∧ ρ.writes = true := by
 unfold chgF at h
 obtain ⟨⟨ρ, a⟩, h1, h2⟩ := List.mem_filterMap.1 h
 have hz := List.of_mem_zip h1
 unfold chg1 at h2
 split at h2
 ·next hw => cases h2; exact ⟨hz.2, ρ, hz.1, rfl, hw⟩
 ·cases h2
theorem putsF_ok16 {d : StD} (h : StOk d) (hw : okS d) : ∀ {ch : List Holding}, (∀ x ∈ ch, okW x.account) → okS (putsF d ch)
 | [], _ => hw
 | x :: ch, hc => by
  have h2 : okS (d.put x.key x.account) := fun k => by
   rw [StD.get_put h]
   split
   ·exact hc x List.mem_cons_self
   ·exact hw k
  exact putsF_ok16 (h.put _ _) h2 (fun y hy => hc y (List.mem_cons_of_mem _ hy))
theorem nextF_ok {d : StD} {x : TX} (h : StOk d) (hw : okS d) : StOk (nextF d x) ∧ okS (nextF d x) := by
 unfold nextF
 split
 ·refine ⟨putsF_ok h _, putsF_ok16 h hw fun y hy => ?_⟩
  exact (accF_len16 (TX.l_ok hw)).2 _ (chgF_mem hy).1
 ·exact ⟨h, hw⟩
/-- the store behind the first k transactions -/
@[irreducible] def dAt (d : StD) (xs : List TX) (k : Nat) : StD := (xs.take k).foldl nextF d
theorem dAt_0 (d : StD) (xs : List TX) : dAt d xs 0 = d := by unfold dAt; rfl
theorem dAt_step {d : StD} {xs : List TX} {k : Nat} (h : k < xs.length) : dAt d xs (k + 1) = nextF (dAt d xs k) xs[k] := by
 unfold dAt; rw [List.take_succ_eq_append_getElem h, List.foldl_append]; rfl
theorem dAt_ok {d : StD} {xs : List TX} (h : StOk d) (hw : okS d) : ∀ k, StOk (dAt d xs k) ∧ okS (dAt d xs k)
 | 0 => by rw [dAt_0]; exact ⟨h, hw⟩
 | k + 1 => by
  by_cases hk : k < xs.length
  ·rw [dAt_step hk]; exact nextF_ok (dAt_ok h hw k).1 (dAt_ok h hw k).2
  ·have : dAt d xs (k + 1) = dAt d xs k := by
    unfold dAt; rw [List.take_of_length_le (by omega), List.take_of_length_le (by omega)]
   rw [this]; exact dAt_ok h hw k

theorem applied1_ok (wb w0 : World) (l p bs bl : Nat) (vl : Value) (xs : List TX) (d : StD) (T : List Ent) (β : Type) (EB : β → List Ent) (GB : Nat → β → Prop) (Jx : World → Prop) (hg : ErrLaid wb) (hok : StOk d) (hsok : okS d) (hlen : xs.length ≤ 100000) (hx : ∀ b w, St wb (EB b ++ T) w → SlR w vl (xs.map TX.R) ∧ ∀ x ∈ xs, TXOk w x) (hY : ∀ k (hk : k < xs.length) b o ch W1, GB k b → OcIs (dAt d xs k) xs[k] o ch → St wb (ownE o.changed.v 66 ch :: stE p (dAt d xs (k + 1)) :: blkE bs #[.pointer (some ⟨p, 0, none⟩)] 26 :: blkE bl #[vl] 23 :: (EB b ++ T)) W1 → YieldAt Fence.wide 0 Tryd.prog l #[.agg (Enc.enc o), .int .i64 (errF (dAt d xs k) xs[k])] W1 fun e W' => (e = .returned (.bool true) ∧ ∃ b', GB (k + 1) b' ∧ St wb (stE p (dAt d xs (k + 1)) :: blkE bs #[.pointer (some ⟨p, 0, none⟩)] 26 :: blkE bl #[vl] 23 :: (EB b' ++ T)) W') ∨ (e = .returned (.bool false) ∧ Jx W')) (b0 : β) (hb0 : GB 0 b0) (hS0 : St wb (stE p d :: blkE bs #[.pointer (some ⟨p, 0, none⟩)] 26 :: blkE bl #[vl] 23 :: (EB b0 ++ T)) w0) : Ret Tryd.prog 46 #[.func (.yield l) #[] #[], .pointer (some ⟨bl, 0, none⟩), .pointer (some ⟨bs, 0, none⟩)] w0 (fun _ w' => (∃ b, GB xs.length b ∧ St wb (stE p (dAt d xs xs.length) :: blkE bs #[.pointer (some ⟨p, 0, none⟩)] 26 :: blkE bl #[vl] 23 :: (EB b ++ T)) w') ∨ Jx w') := by
 refine Ret.enter (args := [.func (.yield l) #[] #[], .pointer (some ⟨bl, 0, none⟩), .pointer (some ⟨bs, 0, none⟩)]) Tryd.func46 rfl Tryd.ntmps46 Tryd.results46 rfl ?_
 have hS := St.start w0
 replace hS := hS0
 refine WC.seq (fun K1 hK1 => ?_)
 refine WC.region ?_
 refine WL.op rfl (opW.loadV rfl (hS.ld1 (b := bl) (cs := #[vl]) (by repeat constructor) rfl) ?_)
 refine WL.op rfl (opW.lenV rfl ((hx b0 _ (hS.sub (by repeat with_reducible first | exact su1 _ | exact su2 _ | refine su3 ?_ | refine su4 ?_))).1) ?_)
 refine WL.op rfl (opW.moveI rfl ?_)
 refine WL.nil ?_
 refine thenQ_n (hK1 _ _ ?_)
 refine WC.block ?_
 refine WC.loop (fun q f w => ∃ (k : Nat) (b : β), Fits [(0, .func (.yield l) #[] #[]), (2, .pointer (some ⟨bs, 0, none⟩)), (6, vl), (7, .int .i64 (xs.length : Int)), (8, .int .i64 (k : Int))] f ∧ St wb (stE p (dAt d xs k) :: blkE bs #[.pointer (some ⟨p, 0, none⟩)] 26 :: blkE bl #[vl] 23 :: (EB b ++ T)) w ∧ GB k b ∧ k ≤ xs.length ∧ q = xs.length - k) (xs.length) ?_ ?_
 ·
  exact ⟨0, b0, ⟨rfl, rfl, rfl, congrArg (fun n : Nat => Value.int .i64 (n : Int)) (List.length_map _), rfl, trivial⟩, (by rw [dAt_0]; exact hS.sub (by repeat with_reducible first | exact su1 _ | exact su2 _ | refine su3 ?_ | refine su4 ?_)), hb0, Nat.zero_le _, rfl⟩
 ·
  rintro q f w ⟨k, b, hfit, hS, hgb, hk0, hm⟩
  refine WC.fits _ hfit (fun g => ?_)
  clear hfit
  refine WC.seq (fun K2 hK2 => ?_)
  refine WC.region ?_
  refine WL.op rfl (opW.lss rfl rfl ?_)
  refine WL.nil ?_
  refine thenQ_n (hK2 _ _ ?_)
  refine WC.seq (fun K3 hK3 => ?_)
  refine WC.cond _ rfl (fun hc0 => ?_) (fun hc0 => ?_)
  ·
   have hr0 := hc0
   try simp only [sq1,sq2,sq3,sq4,sq5,sq6,sq7,sq8,sq9,sq0] at hc0
   have hkl : k < xs.length := by omega
   have hkm : k < (xs.map TX.R).length := by rw [List.length_map]; exact hkl
   have hdk := dAt_ok (xs := xs) hok hsok k
   refine WC.skip ?_
   refine thenQ_n (hK3 _ _ ?_)
   refine WC.seq (fun K4 hK4 => ?_)
   refine WC.block ?_
   refine WC.seq (fun K5 hK5 => ?_)
   refine WC.region ?_
   refine WL.op rfl (opW.idxV rfl ((hx b _ (hS.sub (by repeat with_reducible first | exact su1 _ | exact su2 _ | refine su3 ?_ | refine su4 ?_))).1) rfl (by omega) ?_)
   refine WL.op rfl (opW.loadV rfl (Ld.val ((((hx b _ (hS.sub (by repeat with_reducible first | exact su1 _ | exact su2 _ | refine su3 ?_ | refine su4 ?_))).1).isPt hkm).ldA (Enc.size_eq _)) (by rw [List.getElem_map])) ?_)
   refine WL.op rfl (opW.allocA hS ?_)
   intro b5 w _ hS
   refine WL.op0 (opW.storeE hS rfl rfl (by repeat constructor) (by first | rfl | exact Enc.size_eq _) ?_)
   intro w hS; replace hS := hS _ (by repeat constructor)
   refine WL.nil ?_
   refine thenQ_n (hK5 _ _ ?_)
   refine WC.seq (fun K6 hK6 => ?_)
   refine WC.regionI ?_
   show WLI none 0 _ _ _ [] _ [0, 1, 2, 3, 4, 5, 6, 7] _ _
   refine WLI.op rfl rfl (by simp) (opW.opI (opW.moveV (v := .func (.yield l) #[] #[]) rfl ?_))
   refine WLI.op rfl rfl (by simp) (opW.opI (opW.loadV rfl (hS.ld1 (b := bs) (cs := #[.pointer (some ⟨p, 0, none⟩)]) (by repeat constructor) rfl) ?_))
   refine WLI.op rfl rfl (by simp) (opW.opI (opW.loadV rfl (hS.ldA (b := b5) (cs := Enc.enc xs[k].R) (by repeat constructor) (Enc.size_eq xs[k].R)) ?_))
   refine WLI.op rfl rfl (by simp) (opW.opI (opW.call (apply16 wb _ (blkE b5 (Enc.enc xs[k].R) 56 :: blkE bs #[.pointer (some ⟨p, 0, none⟩)] 26 :: blkE bl #[vl] 23 :: (EB b ++ T)) p (dAt d xs k) xs[k] hdk.1 hdk.2 hg (fun w hS => (hx b w (hS.sub (by repeat with_reducible first | exact su1 _ | exact su2 _ | refine su3 ?_ | refine su4 ?_))).2 _ (List.getElem_mem hkl)) (hS.pick (e := stE p (dAt d xs k)) (by repeat constructor))) rfl ?_))
   rintro _ w ⟨o, ch, rfl, hoc, hS⟩
   rw [← dAt_step hkl] at hS
   refine WLI.op rfl rfl (by simp) (opW.opI (opW.extract rfl rfl ?_))
   refine WLI.op rfl rfl (by simp) (opW.opI (opW.extract rfl rfl ?_))
   refine WLI.op rfl rfl (by simp) (opI.yield2 (us := #[.agg (Enc.enc o), .int .i64 (errF (dAt d xs k) xs[k])]) (R' := fun v W' => ∃ bb, v = .bool bb ∧ ((bb = true ∧ ∃ b', GB (k + 1) b' ∧ St wb (stE p (dAt d xs (k + 1)) :: blkE bs #[.pointer (some ⟨p, 0, none⟩)] 26 :: blkE bl #[vl] 23 :: (EB b' ++ T)) W') ∨ (bb = false ∧ Jx W'))) rfl rfl (YieldAt.mono (hY k hkl b o ch _ hgb hoc (hS.sub (by repeat with_reducible first | exact su1 _ | exact su2 _ | refine su3 ?_ | refine su4 ?_))) (fun e W' h => h.elim (fun h => ⟨_, h.1, true, rfl, .inl ⟨rfl, h.2⟩⟩) (fun h => ⟨_, h.1, false, rfl, .inr ⟨rfl, h.2⟩⟩))) ?_)
   rintro _ w ⟨bb, rfl, hq18⟩
   clear hS
   have hS := St.start w
   refine WLI.op rfl rfl (by simp) (opW.opI (opW.not rfl ?_))
   refine WLI.nil ?_
   refine thenQ_n (hK6 _ _ ?_)
   refine WC.cond _ rfl (fun hc1 => ?_) (fun hc1 => ?_)
   ·
    have hr1 := hc1
    try simp only [sq1,sq2,sq3,sq4,sq5,sq6,sq7,sq8,sq9,sq0] at hc1
    obtain rfl : bb = false := by simpa using hr1
    have hJ := (hq18.resolve_left (fun h => absurd h.1 (by decide))).2
    refine WC.ret ?_
    refine blockQ_r ?_
    refine thenQ_r ?_
    refine thenQ_r ?_
    refine blockQ_r ?_
    refine bodyQ_ret .nil ?_
    exact .inr hJ
   ·
    have hr1 := hc1
    try simp only [sq1,sq2,sq3,sq4,sq5,sq6,sq7,sq8,sq9,sq0] at hc1
    obtain rfl : bb = true := by simpa using hr1
    obtain ⟨_, b2, hgb2, hS2⟩ := hq18.resolve_right (fun h => absurd h.1 (by decide))
    replace hS := hS2
    refine WC.skip ?_
    refine blockQ_n ?_
    refine thenQ_n (hK4 _ _ ?_)
    refine WC.region ?_
    refine WL.op rfl (opW.add rfl rfl (wrap_i64 (by omega)) ?_)
    refine WL.op rfl (opW.moveI rfl ?_)
    refine WL.nil ?_
    refine thenQ_n ?_
    exact ⟨xs.length - (k + 1), by omega, k + 1, b2, ⟨rfl, rfl, rfl, rfl, congrArg (Value.int .i64) (by omega), trivial⟩, hS, hgb2, by omega, rfl⟩
  ·
   have hr0 := hc0
   try simp only [sq1,sq2,sq3,sq4,sq5,sq6,sq7,sq8,sq9,sq0] at hc0
   refine WC.exit ?_
   refine thenQ_e ?_
   refine thenQ_e ?_
   refine blockQ_hit ?_
   refine bodyQ_end .nil ?_
   obtain rfl : k = xs.length := by omega
   exact .inl ⟨b, hgb, hS⟩

theorem applied_ok (wb w0 : World) (S : List Ent) (p : Nat) (sv : SlV) (hS0 : St wb S w0) : Ret Tryd.prog 28 #[.pointer (some ⟨p, 0, none⟩), sv.v] w0 (fun u w' => ∃ bl bs, u = .func (.func 46) #[] #[.pointer (some ⟨bl, 0, none⟩), .pointer (some ⟨bs, 0, none⟩)] ∧ St wb (blkE bl #[sv.v] 23 :: blkE bs #[.pointer (some ⟨p, 0, none⟩)] 26 :: S) w') := by
 refine Ret.enter (args := [.pointer (some ⟨p, 0, none⟩), sv.v]) Tryd.func28 rfl Tryd.ntmps28 Tryd.results28 rfl ?_
 have hS := St.start w0
 replace hS := hS0
 refine WC.seq (fun K1 hK1 => ?_)
 refine WC.region ?_
 refine WL.op rfl (opW.box1 hS rfl rfl ?_)
 intro b2 w _ hS
 refine WL.op rfl (opW.box1 hS rfl rfl ?_)
 intro b3 w _ hS
 refine WL.op rfl (opW.assignV rfl ?_)
 refine WL.nil ?_
 refine thenQ_n (hK1 _ _ ?_)
 refine WC.seq (fun K2 hK2 => ?_)
 refine WC.region ?_
 refine WL.op rfl (opW.makeFn (vs := []) (cs := [.pointer (some ⟨b3, 0, none⟩), .pointer (some ⟨b2, 0, none⟩)]) rfl rfl ?_)
 refine WL.op rfl (opW.assignV (v := .func (.func 46) #[] #[.pointer (some ⟨b3, 0, none⟩), .pointer (some ⟨b2, 0, none⟩)]) rfl ?_)
 refine WL.nil ?_
 refine thenQ_n (hK2 _ _ ?_)
 refine WC.ret ?_
 refine bodyQ_ret (.tmpV (v := .func (.func 46) #[] #[.pointer (some ⟨b3, 0, none⟩), .pointer (some ⟨b2, 0, none⟩)]) rfl .nil) ?_
 exact ⟨b3, b2, rfl, hS⟩

theorem dm (a b : Nat) : a * b / 18446744073709551616 * 18446744073709551616 + a * b % 18446744073709551616 = a * b := Nat.div_add_mod' _ _
/-- a product divided, up or down, held -/
def tmF (a b d : Nat) (up : Bool) : Nat := if d ≤ a * b / 18446744073709551616 then 18446744073709551615 else if (up && decide (0 < a * b % d)) = true then sumH (a * b / d) 1 else a * b / d
def sumL (l : List U64) : Nat := l.foldl (fun a x => sumH a x.n) 0
theorem sumL_step {l : List U64} {k : Nat} (hk : k < l.length) : sumL (l.take (k + 1)) = sumH (sumL (l.take k)) l[k].n := by
 unfold sumL; rw [List.take_succ_eq_append_getElem hk, List.foldl_append]; rfl
theorem sumL_lt (l : List U64) : sumL l < 18446744073709551616 := by
 have h : ∀ (l : List U64) (a : Nat), a < 18446744073709551616 → l.foldl (fun a x => sumH a x.n) a < 18446744073709551616 := by
  intro l
  induction l with
  | nil => intro a h; exact h
  | cons x r ih => intro a h; exact ih _ (sumH_lt _ _)
 exact h l 0 (by decide)
def Okl (l : List U64) : Prop := ∀ x ∈ l, x.n < 18446744073709551616
theorem okl2 {a b : Nat} (h : a < 18446744073709551616) (h2 : b < 18446744073709551616) : Okl [⟨a⟩, ⟨b⟩] := by
 intro x hx
 simp at hx
 rcases hx with rfl | rfl
 ·exact h
 ·exact h2
theorem okl_append {l m : List U64} (h : Okl l) (h2 : Okl m) : Okl (l ++ m) := by
 intro x hx
 rcases List.mem_append.1 hx with hx | hx
 ·exact h x hx
 ·exact h2 x hx
theorem mulHi_lt {a b : Nat} (ha : a < 18446744073709551616) (hb : b < 18446744073709551616) : a * b / 18446744073709551616 < 18446744073709551616 := by
 rw [Nat.div_lt_iff_lt_mul (by decide)]
 have := Nat.mul_le_mul (show a ≤ 18446744073709551615 by omega) (show b ≤ 18446744073709551615 by omega)
 omega
theorem quoLt {a b d : Nat} (h : ¬ d ≤ a * b / 18446744073709551616) : a * b / d < 18446744073709551616 := by
 rw [Nat.div_lt_iff_lt_mul (by omega)]
 have h1 := Nat.div_add_mod' (a * b) 18446744073709551616
 have h2 := Nat.mod_lt (a * b) (show 0 < 18446744073709551616 by decide)
 rw [Nat.mul_comm 18446744073709551616]
 have h3 : (a * b / 18446744073709551616 + 1) * 18446744073709551616 ≤ d * 18446744073709551616 := Nat.mul_le_mul_right _ (by omega)
 omega

theorem sum1_ok (wb w0 : World) (S : List Ent) (p a n : Nat) (ha : a < 18446744073709551616) (hn : n < 18446744073709551616) (hS0 : St wb (blkE p #[.int .u64 ((a : Nat) : Int)] 32 :: S) w0) : Ret Tryd.prog 47 #[.int .u64 ((n : Nat) : Int), .pointer (some ⟨p, 0, none⟩)] w0 (fun u w' => St wb (blkE p #[.int .u64 ((sumH a n : Nat) : Int)] 32 :: S) w') := by
 refine Ret.enter (args := [.int .u64 ((n : Nat) : Int), .pointer (some ⟨p, 0, none⟩)]) Tryd.func47 rfl Tryd.ntmps47 Tryd.results47 rfl ?_
 have hS := St.start w0
 replace hS := hS0
 refine WC.seq (fun K1 hK1 => ?_)
 refine WC.region ?_
 refine WL.op rfl (opW.loadV rfl (hS.ld1 (by repeat constructor) rfl) ?_)
 refine WL.op rfl (opW.moveI rfl ?_)
 refine WL.op rfl (opW.callX (run_add64' Tryd.func48 (by kernel_rfl) (by kernel_rfl) (by kernel_rfl) (by kernel_rfl) a n _) rfl ?_)
 refine WL.op rfl (opW.moveV (v := .tuple #[.int .u64 (((a + n) % 18446744073709551616 : Nat) : Int), .int .u64 (((a + n) / 18446744073709551616 : Nat) : Int)]) rfl ?_)
 refine WL.op rfl (opW.extract rfl rfl ?_)
 refine WL.op rfl (opW.extract rfl rfl ?_)
 refine WL.op rfl (opW.assignI rfl ?_)
 refine WL.op rfl (opW.assignI rfl ?_)
 refine WL.nil ?_
 refine thenQ_n (hK1 _ _ ?_)
 refine WC.region ?_
 refine WL.op rfl (opW.moveI rfl ?_)
 refine WL.op rfl (opW.moveI rfl ?_)
 refine WL.op rfl (opW.neg rfl rfl ?_)
 refine WL.op rfl (opW.or rfl rfl (sumH_or a n ha hn) ?_)
 refine WL.op0 (opW.storeAll (b := p) (c := #[.int .u64 ((sumH a n : Nat) : Int)]) (cs := #[.int .u64 ((a : Nat) : Int)]) hS rfl rfl (by repeat constructor) rfl rfl (one_int _ _) ?_)
 intro w hS; replace hS := hS _ (by repeat constructor)
 refine WL.nil ?_
 refine bodyQ_end .nil ?_
 exact hS

theorem wsum_ok (w0 : World) (v : Value) (xs : List U64) (hx : SlR w0 v xs) (hb : Okl xs) : Ret Tryd.prog 29 #[v] w0 (fun u w' => u = .int .u64 ((sumL xs : Nat) : Int) ∧ Bel w0 w') := by
 refine Ret.enter (args := [v]) Tryd.func29 rfl Tryd.ntmps29 Tryd.results29 rfl ?_
 have hS := St.start w0
 refine WC.seq (fun K1 hK1 => ?_)
 refine WC.region ?_
 refine WL.op rfl (opW.assignI rfl ?_)
 refine WL.nil ?_
 refine thenQ_n (hK1 _ _ ?_)
 refine WC.seq (fun K2 hK2 => ?_)
 refine WC.region ?_
 refine WL.op rfl (opW.alloc1 hS rfl ?_)
 intro b3 w _ hS
 refine WL.op0 (opW.storeAll (b := b3) (c := #[.int .u64 0]) (cs := #[.int .u64 0]) hS rfl rfl (by repeat constructor) rfl rfl (one_int _ _) ?_)
 intro w hS; replace hS := hS _ (by repeat constructor)
 refine WL.nil ?_
 refine thenQ_n (hK2 _ _ ?_)
 refine WC.seq (fun K3 hK3 => ?_)
 refine WC.region ?_
 refine WL.op rfl (opW.makeFn (vs := []) (cs := [.pointer (some ⟨b3, 0, none⟩)]) rfl rfl ?_)
 refine WL.op rfl (opW.assignV (v := (.func (.func 47) #[] #[.pointer (some ⟨b3, 0, none⟩)])) rfl ?_)
 refine WL.nil ?_
 refine thenQ_n (hK3 _ _ ?_)
 refine WC.seq (fun K4 hK4 => ?_)
 refine WC.seq (fun K5 hK5 => ?_)
 refine WC.region ?_
 refine WL.op rfl (opW.moveV (v := v) rfl ?_)
 refine WL.op rfl (opW.lenV rfl ((hx.bel hS.old)) ?_)
 refine WL.op rfl (opW.moveI rfl ?_)
 refine WL.nil ?_
 refine thenQ_n (hK5 _ _ ?_)
 refine WC.block ?_
 refine WC.loop (fun q f w => ∃ k : Nat, Fits [(3, .pointer (some ⟨b3, 0, none⟩)), (4, (.func (.func 47) #[] #[.pointer (some ⟨b3, 0, none⟩)])), (8, v), (9, .int .i64 (xs.length : Int)), (10, .int .i64 (k : Int))] f ∧ St w0 [blkE b3 #[.int .u64 ((sumL (xs.take k) : Nat) : Int)] 32] w ∧ k ≤ xs.length ∧ q = xs.length - k) (xs.length) ?_ ?_
 ·
  exact ⟨0, ⟨rfl, rfl, rfl, rfl, rfl, trivial⟩, hS, Nat.zero_le _, rfl⟩
 ·
  rintro q f w ⟨k, hfit, hS, hk0, hm⟩
  refine WC.fits _ hfit (fun g => ?_)
  clear hfit
  refine WC.seq (fun K6 hK6 => ?_)
  refine WC.region ?_
  refine WL.op rfl (opW.lss rfl rfl ?_)
  refine WL.nil ?_
  refine thenQ_n (hK6 _ _ ?_)
  refine WC.seq (fun K7 hK7 => ?_)
  refine WC.cond _ rfl (fun hc0 => ?_) (fun hc0 => ?_)
  ·
   have hr0 := hc0
   try simp only [sq1,sq2,sq3,sq4,sq5,sq6,sq7,sq8,sq9,sq0] at hc0
   have hkl : k < xs.length := by omega
   have hle := hx.le
   simp only [maxLen] at hle
   refine WC.skip ?_
   refine thenQ_n (hK7 _ _ ?_)
   refine WC.seq (fun K8 hK8 => ?_)
   refine WC.block ?_
   refine WC.seq (fun K9 hK9 => ?_)
   refine WC.region ?_
   refine WL.op rfl (opW.idxV rfl ((hx.bel hS.old)) rfl (by omega) ?_)
   refine WL.op rfl (opW.loadV rfl (((hx.bel hS.old).isPt hkl).ld rfl) ?_)
   refine WL.op rfl (opW.assignI rfl ?_)
   refine WL.nil ?_
   refine thenQ_n (hK9 _ _ ?_)
   refine WC.region ?_
   refine WL.op rfl (opW.moveV (v := (.func (.func 47) #[] #[.pointer (some ⟨b3, 0, none⟩)])) rfl ?_)
   refine WL.op rfl (opW.moveI rfl ?_)
   refine WL.op rfl (opW.callFn (cs := [.pointer (some ⟨b3, 0, none⟩)]) rfl (sum1_ok _ _ _ b3 _ xs[k].n (sumL_lt _) (hb _ (List.getElem_mem hkl)) hS) rfl ?_)
   intro v16 w hS
   refine WL.nil ?_
   refine blockQ_n ?_
   refine thenQ_n (hK8 _ _ ?_)
   refine WC.region ?_
   refine WL.op rfl (opW.add rfl rfl (wrap_i64 (by omega)) ?_)
   refine WL.op rfl (opW.moveI rfl ?_)
   refine WL.nil ?_
   refine thenQ_n ?_
   rw [← sumL_step hkl] at hS
   exact ⟨xs.length - (k + 1), by omega, k + 1, ⟨rfl, rfl, rfl, rfl, congrArg (Value.int .i64) (by omega), trivial⟩, hS, by omega, rfl⟩
  ·
   have hr0 := hc0
   try simp only [sq1,sq2,sq3,sq4,sq5,sq6,sq7,sq8,sq9,sq0] at hc0
   refine WC.exit ?_
   refine thenQ_e ?_
   refine thenQ_e ?_
   refine blockQ_hit ?_
   refine thenQ_n (hK4 _ _ ?_)
   refine WC.seq (fun K10 hK10 => ?_)
   refine WC.region ?_
   refine WL.op rfl (opW.loadV rfl (hS.ld1 (by repeat constructor) rfl) ?_)
   refine WL.op rfl (opW.assignI rfl ?_)
   refine WL.nil ?_
   refine thenQ_n (hK10 _ _ ?_)
   refine WC.ret ?_
   refine bodyQ_ret (.tmpI rfl .nil) ?_
   have hkk : k = xs.length := by omega
   rw [hkk, List.take_length]
   exact ⟨rfl, hS.old⟩

theorem clip_o (w0 : World) (v : Value) (xs : List Outcome) (hx : SlR w0 v xs) : Ret Tryd.prog 30 #[v] w0 (fun u w' => u = cutV v 0 xs.length xs.length (Enc.sz (Outcome)) ∧ Bel w0 w') := by
 refine Ret.enter (args := [v]) Tryd.func30 rfl Tryd.ntmps30 Tryd.results30 rfl ?_
 have hS := St.start w0
 refine WC.seq (fun K1 hK1 => ?_)
 refine WC.region ?_
 refine WL.op rfl (opW.assignV (v := .slice none 0 0) rfl ?_)
 refine WL.nil ?_
 refine thenQ_n (hK1 _ _ ?_)
 refine WC.seq (fun K2 hK2 => ?_)
 refine WC.region ?_
 refine WL.op rfl (opW.moveV (v := v) rfl ?_)
 refine WL.op rfl (opW.moveV (v := v) rfl ?_)
 refine WL.op rfl (opW.lenV rfl ((hx.bel hS.old)) ?_)
 refine WL.op rfl (opW.moveV (v := v) rfl ?_)
 refine WL.op rfl (opW.lenV rfl ((hx.bel hS.old)) ?_)
 refine WL.op rfl (opW.cutS (hx.bel hS.old) ⟨⟨_, rfl⟩, hx.cap⟩ ⟨⟨_, rfl⟩, Nat.le_refl _⟩ ⟨rfl, Nat.zero_le _⟩ ?_)
 refine WL.op rfl (opW.assignV rfl ?_)
 refine WL.nil ?_
 refine thenQ_n (hK2 _ _ ?_)
 refine WC.ret ?_
 refine bodyQ_ret (.tmp .nil) ?_
 exact ⟨rfl, hS.old⟩

/-- what outcomes changed, each with its own memory -/
@[irreducible] def ochE (ps : List (Outcome × List Holding)) : Ent := starE (ps.map fun x => ownE x.1.changed.v 66 x.2)
theorem St.ochNil {w0 w : World} {S : List Ent} (h : St w0 S w) : St w0 (ochE [] :: S) w := by
 unfold ochE; exact St.closed (l := []) h
theorem St.ochAdd {w0 w : World} {S : List Ent} {ps : List (Outcome × List Holding)} {o : Outcome} {ch : List Holding} (h : St w0 (ochE ps :: ownE o.changed.v 66 ch :: S) w) : St w0 (ochE (ps ++ [(o, ch)]) :: S) w := by
 unfold ochE at h ⊢
 have h2 := h.opened
 refine St.closed (l := (ps ++ [(o, ch)]).map fun x => ownE x.1.changed.v 66 x.2) ?_
 rw [List.map_append, List.append_assoc]
 exact h2
def feeL (ps : List (Outcome × List Holding)) : Nat := ps.foldl (fun a x => sumL [⟨a⟩, ⟨x.1.fee⟩]) 0
theorem feeL_step (ps : List (Outcome × List Holding)) (x : Outcome × List Holding) : feeL (ps ++ [x]) = sumL [⟨feeL ps⟩, ⟨x.1.fee⟩] := by unfold feeL; rw [List.foldl_append]; rfl
theorem feeL_lt : ∀ (ps : List (Outcome × List Holding)), feeL ps < 18446744073709551616 := by
 intro ps
 rcases List.eq_nil_or_concat ps with rfl | ⟨qs, x, rfl⟩
 ·decide
 ·rw [List.concat_eq_append, feeL_step]; exact sumL_lt _
structure FB where
 v : SlV
 ps : List (Outcome × List Holding)
def OutIs (d : StD) (xs : List TX) (ps : List (Outcome × List Holding)) : Prop := ∀ j (h : j < ps.length) (h2 : j < xs.length), OcIs (dAt d xs j) xs[j] ps[j].1 ps[j].2 ∧ errF (dAt d xs j) xs[j] = 0
/-- what a fold is: k transactions went through -/
structure FoldIs (d : StD) (xs : List TX) (k : Nat) (ps : List (Outcome × List Holding)) (e : Int) : Prop where
 le : k ≤ xs.length
 len : ps.length = k
 out : OutIs d xs ps
 fin : (k = xs.length ∧ e = 0) ∨ ∃ h : k < xs.length, e = errF (dAt d xs k) xs[k] ∧ e ≠ 0
theorem OutIs.step {d : StD} {xs : List TX} {ps : List (Outcome × List Holding)} {o : Outcome} {ch : List Holding} (h : OutIs d xs ps) (hk : ps.length < xs.length) (ho : OcIs (dAt d xs ps.length) xs[ps.length] o ch) (he : errF (dAt d xs ps.length) xs[ps.length] = 0) : OutIs d xs (ps ++ [(o, ch)]) := by
 intro j h1 h2
 rcases Nat.lt_or_ge j ps.length with h3 | h3
 ·rw [List.getElem_append_left h3]; exact h j h3 h2
 ·have : j = ps.length := by rw [List.length_append] at h1; simp at h1; omega
  subst this
  rw [List.getElem_append_right (Nat.le_refl _)]
  simp only [Nat.sub_self, List.getElem_cons_zero]
  exact ⟨ho, he⟩
theorem permX (a b c : Ent) (E S X : List Ent) : (X ++ (a :: b :: c :: (E ++ S))).Perm (a :: b :: c :: (E ++ (S ++ X))) := by
 have h : (X ++ (a :: b :: c :: (E ++ S))).Perm ((a :: b :: c :: (E ++ S)) ++ X) := List.perm_append_comm
 simpa [List.append_assoc] using h
theorem permX4 (o a b c : Ent) (E S X : List Ent) : (X ++ (o :: a :: b :: c :: (E ++ S))).Perm (o :: a :: b :: c :: (E ++ (S ++ X))) := by
 have h : (X ++ (o :: a :: b :: c :: (E ++ S))).Perm ((o :: a :: b :: c :: (E ++ S)) ++ X) := List.perm_append_comm
 simpa [List.append_assoc] using h
theorem permX5 (n o a b c : Ent) (E S X : List Ent) : (X ++ (n :: o :: a :: b :: c :: (E ++ S))).Perm (n :: o :: a :: b :: c :: (E ++ (S ++ X))) := by
 have h : (X ++ (n :: o :: a :: b :: c :: (E ++ S))).Perm ((n :: o :: a :: b :: c :: (E ++ S)) ++ X) := List.perm_append_comm
 simpa [List.append_assoc] using h
def errAt (d : StD) (xs : List TX) (k : Nat) : Int := if h : k < xs.length then errF (dAt d xs k) xs[k] else 0
theorem errAt_lt {d : StD} {xs : List TX} {k : Nat} (h : k < xs.length) : errAt d xs k = errF (dAt d xs k) xs[k] := dif_pos h
theorem OcIs.fee {w : World} {d : StD} {x : TX} {o : Outcome} {ch : List Holding} (h : OcIs d x o ch) (hx : TXOk w x) (he : errF d x = 0) : o.fee < 18446744073709551616 := by
 rcases h with ⟨_, _, s, rfl⟩ | ⟨h, _⟩
 ·exact hx.fe
 ·exact absurd he h

/-- the fold's own variables -/
def EBF (b4 b5 b6 : Nat) (b : FB) (e : Int) : List Ent := [blkE b4 #[b.v.v] 31, blkE b5 #[.int .u64 ((feeL b.ps : Nat) : Int)] 32, blkE b6 #[.int .i64 e] 33, ownE b.v.v 59 (b.ps.map Prod.fst), ochE b.ps]

theorem fold_ok (wb w0 : World) (S : List Ent) (p : Nat) (sv : SlV) (xs : List TX) (d : StD) (hg : ErrLaid wb) (hok : StOk d) (hsok : okS d) (hlen : xs.length ≤ 100000) (hx : ∀ w, St wb S w → SlR w sv.v (xs.map TX.R) ∧ ∀ x ∈ xs, TXOk w x) (hS0 : St wb (stE p d :: S) w0) :
  Ret Tryd.prog 10 #[.pointer (some ⟨p, 0, none⟩), sv.v] w0 (fun u w' => ∃ (k : Nat) (s : SlV) (ps : List (Outcome × List Holding)) (e : Int), u = .tuple #[s.v, .int .u64 ((feeL ps : Nat) : Int), .int .i64 e] ∧ FoldIs d xs k ps e ∧ St wb (ownE s.v 59 (ps.map Prod.fst) :: ochE ps :: stE p (dAt d xs k) :: S) w') := by
 refine Ret.enterI (args := [.pointer (some ⟨p, 0, none⟩), sv.v]) Tryd.func10 rfl Tryd.ntmps10 rfl ?_
 have hS := hS0
 refine WCI.seqR ?_
 show WLI none 2 _ _ _ _ _ [0, 1, 2] _ _
 refine WLI.op rfl rfl (by simp) (opW.opI (opW.alloc1 (v := .slice none 0 0) hS rfl ?_))
 intro b4 w _ hS
 refine WLI.op rfl rfl (by simp) (opW.opI (opW.alloc1 (v := .int .u64 0) hS rfl ?_))
 intro b5 w _ hS
 refine WLI.op rfl rfl (by simp) (opW.opI (opW.alloc1 (v := .int .i64 0) hS rfl ?_))
 intro b6 w _ hS
 refine WLI.nil ⟨rfl, ?_⟩
 refine WCI.scope ?_
 refine WCI.seq (WCI.seqR ?_)
 show WLI none 2 _ _ _ _ _ [0, 1, 2] _ _
 refine WLI.op rfl rfl (by simp) (opW.opI (opW.moveV (v := .pointer (some ⟨p, 0, none⟩)) rfl ?_))
 refine WLI.op rfl rfl (by simp) (opW.opI (opW.call (there16 wb _ _ p d hok (hS.pick (e := stE p d) (by repeat constructor))) rfl ?_))
 rintro _ w ⟨rfl, hS⟩
 refine WLI.op0 rfl (by simp) (opW.opI (opW.storeAll (b := b6) (c := #[.int .i64 0]) hS rfl rfl (by repeat constructor) rfl rfl (one_int _ _) ?_))
 intro w hS; replace hS := hS _ (by repeat constructor)
 refine WLI.nil ⟨rfl, ?_⟩
 refine WCI.seqR ?_
 show WLI none 2 _ _ _ _ _ [0, 1] _ _
 refine WLI.op rfl rfl (by simp) (opW.opI (opW.loadV (v := .int .i64 0) rfl (hS.ld1 (b := b6) (cs := #[.int .i64 0]) (by repeat constructor) rfl) ?_))
 refine WLI.op rfl rfl (by simp) (opW.opI (opW.boolF (by decide) (opW.neq rfl rfl ⟨rfl, rfl⟩) ?_))
 refine WLI.nil ⟨rfl, ?_⟩
 refine WCI.cond false rfl (fun h => by cases h) (fun _ => ?_)
 refine WCI.skip fun a ha => ?_
 refine WCI.run (WCI.seq (WCI.label fun a ha => ?_)) ha
 refine WCI.run (WCI.seq (WCI.seqR ?_)) ha
 show WLI none 2 _ _ _ _ _ [0, 1, 2] _ _
 refine WLI.op rfl rfl (by simp) (opW.opI (opW.moveV (v := .pointer (some ⟨p, 0, none⟩)) rfl ?_))
 refine WLI.op rfl rfl (by simp) (opW.opI (opW.moveV (v := sv.v) rfl ?_))
 refine WLI.op rfl rfl (by simp) (opW.opI (opW.call (applied_ok wb _ _ p sv hS) rfl ?_))
 rintro _ w ⟨bl, bs, rfl, hS⟩
 refine WLI.nil ⟨rfl, ?_⟩
 have hS1 : St wb (stE p (dAt d xs 0) :: blkE bs #[.pointer (some ⟨p, 0, none⟩)] 26 :: blkE bl #[sv.v] 23 :: ([blkE b4 #[(⟨none, 0, 0⟩ : SlV).v] 31, blkE b5 #[.int .u64 ((feeL [] : Nat) : Int)] 32, blkE b6 #[.int .i64 0] 33, ownE (⟨none, 0, 0⟩ : SlV).v 59 (([] : List (Outcome × List Holding)).map Prod.fst), ochE []] ++ S)) w := by
  rw [dAt_0]
  have h := (hS.nilOwn (α := Outcome) 59).ochNil
  exact (((((((h.pick (e := ochE []) (by repeat constructor)).pick (e := ownE (.slice none 0 0) 59 ([] : List Outcome)) (by repeat constructor)).pick (e := blkE b6 #[.int .i64 0] 33) (by repeat constructor)).pick (e := blkE b5 #[.int .u64 0] 32) (by repeat constructor)).pick (e := blkE b4 #[.slice none 0 0] 31) (by repeat constructor)).pick (e := blkE bl #[sv.v] 23) (by repeat constructor)).pick (e := blkE bs #[.pointer (some ⟨p, 0, none⟩)] 26) (by repeat constructor)).pick (e := stE p d) (by repeat constructor)
 refine WCI.rangeS (τ := Nat × FB × Outcome × List Holding) (σ := Nat × FB) (ρ := Nat × FB × Int) (lb := [.pointer (some ⟨bl, 0, none⟩), .pointer (some ⟨bs, 0, none⟩)])
  (fun t => ∃ h : t.1 < xs.length, t.2.1.ps.length = t.1 ∧ OutIs d xs t.2.1.ps ∧ OcIs (dAt d xs t.1) xs[t.1] t.2.2.1 t.2.2.2)
  (fun t => ownE t.2.2.1.changed.v 66 t.2.2.2 :: stE p (dAt d xs (t.1 + 1)) :: blkE bs #[.pointer (some ⟨p, 0, none⟩)] 26 :: blkE bl #[sv.v] 23 :: (EBF b4 b5 b6 t.2.1 0 ++ S))
  (fun t => .agg (Enc.enc t.2.2.1)) (fun t => .int .i64 (errAt d xs t.1))
  (fun t s => s.1 = t.1 + 1 ∧ s.2.ps.length = s.1 ∧ OutIs d xs s.2.ps)
  (fun s => stE p (dAt d xs s.1) :: blkE bs #[.pointer (some ⟨p, 0, none⟩)] 26 :: blkE bl #[sv.v] 23 :: (EBF b4 b5 b6 s.2 0 ++ S))
  (fun t r => r.1 = t.1 ∧ ∃ h : r.1 < xs.length, r.2.1.ps.length = r.1 ∧ OutIs d xs r.2.1.ps ∧ r.2.2 = errF (dAt d xs r.1) xs[r.1] ∧ r.2.2 ≠ 0)
  (fun r => stE p (dAt d xs r.1) :: blkE bs #[.pointer (some ⟨p, 0, none⟩)] 26 :: blkE bl #[sv.v] 23 :: (EBF b4 b5 b6 r.2.1 r.2.2 ++ S))
  (fun s => s.1 = xs.length ∧ s.2.ps.length = s.1 ∧ OutIs d xs s.2.ps)
  (fun r => ∃ h : r.1 < xs.length, r.2.1.ps.length = r.1 ∧ OutIs d xs r.2.1.ps ∧ r.2.2 = errF (dAt d xs r.1) xs[r.1] ∧ r.2.2 ≠ 0)
  rfl rfl rfl hS1 ?hit ?hb (fun D0 W s hf hS a ha => ?t1) (fun D0 W r hf hS a ha => ?t2)
 case hit =>
  intro l X Xs W hW hY
  have h := applied1_ok wb W l p bs bl sv.v xs d (S ++ X) FB (fun b => EBF b4 b5 b6 b 0) (fun k b => b.ps.length = k ∧ OutIs d xs b.ps) (fun W' => ∃ r : Nat × FB × Int, (∃ h : r.1 < xs.length, r.2.1.ps.length = r.1 ∧ OutIs d xs r.2.1.ps ∧ r.2.2 = errF (dAt d xs r.1) xs[r.1] ∧ r.2.2 ≠ 0) ∧ St wb (Xs ++ (stE p (dAt d xs r.1) :: blkE bs #[.pointer (some ⟨p, 0, none⟩)] 26 :: blkE bl #[sv.v] 23 :: (EBF b4 b5 b6 r.2.1 r.2.2 ++ S))) W') hg hok hsok hlen (fun b w h => hx w (h.sub ((List.sublist_append_left S X).trans (List.sublist_append_right _ _)))) (by
   intro k hk b o ch W1 hgb hoc hS
   have h := hY (k, b, o, ch) W1 ⟨hk, hgb.1, hgb.2, hoc⟩ (hS.perm (permX4 _ _ _ _ _ _ _).symm)
   simp only [errAt_lt hk] at h
   refine YieldAt.mono h ?_
   rintro e W' (⟨he, ⟨k2, b2⟩, ⟨hk2, h1, h2⟩, hS⟩ | ⟨he, r, hr, hS⟩)
   ·have hk2 : k2 = k + 1 := hk2
    subst hk2
    exact .inl ⟨he, b2, ⟨h1, h2⟩, hS.perm (permX _ _ _ _ _ _)⟩
   ·exact .inr ⟨he, r, hr.2, hS⟩) ⟨⟨none, 0, 0⟩, []⟩ ⟨rfl, fun j h => absurd h (by simp)⟩ (by
   have h := hW.perm (permX _ _ _ _ _ _)
   rw [dAt_0] at h
   exact h)
  refine Ret.mono h ?_
  rintro _ W' (⟨b, hb, hS⟩ | hj)
  ·exact .inl ⟨(xs.length, b), ⟨rfl, hb⟩, hS.perm (permX _ _ _ _ _ _).symm⟩
  ·exact .inr hj
 case hb =>
  rintro l X ⟨k, b, o, ch⟩ W ⟨hk, hl, hout, hoc⟩ hS
  replace hS := hS.perm (permX4 _ _ _ _ _ _ _)
  simp only [EBF, List.cons_append, List.nil_append] at hS
  simp only [errAt_lt hk]
  have hxk := (hx W (hS.sub (by repeat (first | exact List.Sublist.refl _ | exact List.sublist_append_left _ _ | refine List.Sublist.cons _ ?_)))).2 _ (List.getElem_mem hk)
  generalize he0 : errF (dAt d xs k) xs[k] = e0
  refine WCR.seqR ?_
  show WLI (some l) 0 _ _ _ _ _ [0, 1] _ _
  refine WLI.op rfl rfl (by simp) (opW.opI (opW.allocA hS ?_))
  intro b7 w _ hS
  rw [zOut] at hS
  refine WLI.op0 rfl (by simp) (opW.opI (opW.storeE (r := o) (cs := Enc.enc oz) hS rfl rfl (by repeat constructor) (Enc.size_eq oz) ?_))
  intro w hS; replace hS := hS _ (by repeat constructor)
  refine WLI.nil ⟨rfl, ?_⟩
  refine WCR.region ?_
  show WLI (some l) 0 _ _ _ _ _ [0] _ _
  refine WLI.op rfl rfl (by simp) (opW.opI (opW.assignV (v := .int .i64 e0) rfl ?_))
  refine WLI.nil ⟨rfl, blkE b7 (Enc.enc o) 59 :: ownE o.changed.v 66 ch :: stE p (dAt d xs (k + 1)) :: blkE bs #[.pointer (some ⟨p, 0, none⟩)] 26 :: blkE bl #[sv.v] 23 :: (EBF b4 b5 b6 b 0 ++ S), hS.perm (permX5 _ _ _ _ _ (EBF b4 b5 b6 b 0) S X).symm, fun X2 W2 hS => ?_⟩
  replace hS := hS.perm (permX5 _ _ _ _ _ _ _ _)
  simp only [EBF, List.cons_append, List.nil_append] at hS
  refine WCR.block (WCR.seq (WCR.seqR ?_))
  show WLI (some l) 0 _ _ _ _ _ [0, 1] _ _
  refine WLI.op rfl rfl (by simp) (opW.opI (opW.moveV (v := .int .i64 e0) rfl ?_))
  refine WLI.op0 rfl (by simp) (opW.opI (opW.storeAll (b := b6) (c := #[.int .i64 e0]) (cs := #[.int .i64 0]) hS rfl rfl (by repeat constructor) rfl rfl (one_int _ _) ?_))
  intro w hS; replace hS := hS _ (by repeat constructor)
  refine WLI.nil ⟨rfl, ?_⟩
  refine WCR.seqR ?_
  show WLI (some l) 0 _ _ _ _ _ [0, 1] _ _
  refine WLI.op rfl rfl (by simp) (opW.opI (opW.loadV (v := .int .i64 e0) rfl (hS.ld1 (b := b6) (cs := #[.int .i64 e0]) (by repeat constructor) rfl) ?_))
  refine WLI.op rfl rfl (by simp) (opW.opI (opW.neq (a := e0) (b := 0) rfl rfl ?_))
  refine WLI.nil ⟨rfl, ?_⟩
  refine WCR.cond (!decide (e0 = 0)) rfl (fun hc => ?_) (fun hc => ?_)
  ·have hne : e0 ≠ 0 := by simpa using hc
   have hdd : dAt d xs (k + 1) = dAt d xs k := by rw [dAt_step hk]; unfold nextF; rw [if_neg (by rw [he0]; exact hne)]
   rw [hdd] at hS
   refine WCR.exit ?_
   refine (if_neg (show ¬ (0 : Nat) = 1 by decide)).mpr (.inr ⟨rfl, (k, b, e0), ⟨rfl, hk, hl, hout, he0.symm, hne⟩, St.perm ?_ (permX _ _ _ _ _ _).symm⟩)
   simp only [EBF, List.cons_append, List.nil_append]
   exact hS.sub (by repeat with_reducible first | exact su1 _ | exact su2 _ | refine su3 ?_ | refine su4 ?_)
  ·have hz : e0 = 0 := by simpa using hc
   subst hz
   have hlt := feeL_lt b.ps
   have hof : o.fee < 18446744073709551616 := hoc.fee hxk he0
   have hstep : OutIs d xs (b.ps ++ [(o, ch)]) := by
    have hl2 : b.ps.length = k := hl
    subst hl2
    exact OutIs.step hout hk hoc he0
   have hbl : (b.ps.map Prod.fst).length ≤ 100000 := by rw [List.length_map, hl]; omega
   refine WCR.skip ?_
   show WCR _ _ _ _ _ _ _
   refine WCR.drawI 9 (.look 0 (.look 1 (.look 4 (.look 5 (.look 6 (.fork 2 7 (.fork 3 7 (.one 7 (.one 8 (.one 9 (.one 10 .nil)))) (.one 3 (.one 8 (.one 9 (.one 10 .nil))))) (.one 2 (.one 3 (.one 8 (.one 9 (.one 10 .nil))))))))))) (by kernel_rfl) (by rintro c f w (⟨h, _⟩ | ⟨h, _⟩) <;> cases h) (by rintro f w (⟨h, _⟩ | ⟨h, _⟩) <;> cases h) (fun w1 hw1 => ?_)
   replace hS := hS.bel hw1
   refine ⟨fun w => St wb (blkE b7 (Enc.enc o) 59 :: ownE o.changed.v 66 ch :: stE p (dAt d xs (k + 1)) :: blkE bs #[.pointer (some ⟨p, 0, none⟩)] 26 :: blkE bl #[sv.v] 23 :: blkE b4 #[b.v.v] 31 :: blkE b5 #[.int .u64 ((feeL b.ps : Nat) : Int)] 32 :: blkE b6 #[.int .i64 0] 33 :: ochE b.ps :: (S ++ X2)) w, hS.sub (by repeat with_reducible first | exact su1 _ | exact su2 _ | refine su3 ?_ | refine su4 ?_), ?_⟩
   refine ML.look rfl rfl rfl (fun w hw => (by have hS := hw; exact opW.loadV (v := b.v.v) rfl (hS.ld1 (b := b4) (cs := #[b.v.v]) (by repeat constructor) rfl) ⟨rfl, rfl⟩)) ?_
   refine ML.look rfl rfl rfl (fun w hw => (by have hS := hw; exact opW.loadV (v := .agg (Enc.enc o)) rfl (hS.ldA (b := b7) (cs := Enc.enc o) (by repeat constructor) (Enc.size_eq o)) ⟨rfl, rfl⟩)) ?_
   refine ML.look rfl rfl rfl (fun w hw => (by have hS := hw; exact opW.loadV (v := .int .u64 ((feeL b.ps : Nat) : Int)) rfl (hS.ld1 (b := b5) (cs := #[.int .u64 ((feeL b.ps : Nat) : Int)]) (by repeat constructor) rfl) ⟨rfl, rfl⟩)) ?_
   refine ML.look rfl rfl rfl (fun w hw => (by have hS := hw; exact opW.fieldAddrB rfl ⟨rfl, rfl⟩)) ?_
   refine ML.look rfl rfl rfl (fun w hw => (by have hS := hw; exact opW.loadV (v := .int .u64 ((o.fee : Nat) : Int)) rfl (hS.ld1 (b := b7) (cs := Enc.enc o) (by repeat constructor) (Outcome.at_fee o)) ⟨rfl, rfl⟩)) ?_
   refine ML.fork rfl rfl rfl rfl ?_ ?_
   ·refine opW.buildSl hS ([o] : List Outcome) [.agg (Enc.enc o)] (by simp only [Value.cells]; rw [zOut]; exact Enc.size_eq oz) rfl (by simp only [List.map_cons, List.map_nil, Value.cells]) rfl (by decide) ?_
    intro b24 w hw hS
    refine ⟨hS.sub (by repeat with_reducible first | exact su1 _ | exact su2 _ | refine su3 ?_ | refine su4 ?_), ?_⟩
    refine ML.fork rfl rfl rfl rfl ?_ ?_
    ·refine opW.appendOwn (α := Outcome) (v := b.v.v) (xs := b.ps.map Prod.fst) (ys := [o]) (by simp only [Value.cells]; rw [zOut]; exact Enc.size_eq oz) hS rfl (by repeat constructor) (hS.sl (v := .slice (some ⟨b24, 0, none⟩) 1 1) (xs := ([o] : List Outcome)) (by repeat constructor)) (by simp only [List.length_cons, List.length_nil]; omega) (by simp only [maxLen, List.length_cons, List.length_nil]; omega) ?_
     intro v25 w hS; replace hS := hS _ (by repeat constructor)
     obtain ⟨s25, rfl⟩ := (hS.sl (v := v25) (xs := b.ps.map Prod.fst ++ [o]) (by repeat constructor)).asV
     refine ⟨hS.sub (by repeat with_reducible first | exact su1 _ | exact su2 _ | refine su3 ?_ | refine su4 ?_), ?_⟩
     refine ML.one rfl rfl rfl (opW.buildSl hS ([⟨feeL b.ps⟩, ⟨o.fee⟩] : List U64) [.int .u64 ((feeL b.ps : Nat) : Int), .int .u64 ((o.fee : Nat) : Int)] rfl rfl rfl rfl (by decide) ?_)
     intro b29 w hw hS
     refine ⟨hS.sub (by repeat with_reducible first | exact su1 _ | exact su2 _ | refine su3 ?_ | refine su4 ?_), ?_⟩
     refine ML.one rfl rfl rfl (opW.call (wsum_ok _ _ [⟨feeL b.ps⟩, ⟨o.fee⟩] (hS.sl (v := .slice (some ⟨b29, 0, none⟩) 2 2) (xs := ([⟨feeL b.ps⟩, ⟨o.fee⟩] : List U64)) (by repeat constructor)) (okl2 hlt hof)) rfl ?_)
     rintro _ w ⟨rfl, hw⟩; replace hS := hS.bel hw
     refine ⟨hS.sub (by repeat with_reducible first | exact su1 _ | exact su2 _ | refine su3 ?_ | refine su4 ?_), ?_⟩
     rw [← feeL_step b.ps (o, ch)]
     refine ML.put0 rfl rfl rfl (opW.storeAll (b := b4) (c := #[s25.v]) (cs := #[b.v.v]) hS rfl rfl (by repeat constructor) rfl rfl (Enc.one (α := SlV) s25) ?_)
     intro w hS; replace hS := hS _ (by repeat constructor)
     refine ML.put0 rfl rfl rfl (opW.storeAll (b := b5) (c := #[.int .u64 ((feeL (b.ps ++ [(o, ch)]) : Nat) : Int)]) (cs := #[.int .u64 ((feeL b.ps : Nat) : Int)]) hS rfl rfl (by repeat constructor) rfl rfl (one_int _ _) ?_)
     intro w hS; replace hS := hS _ (by repeat constructor)
     have hS2 := ((hS.pick (e := ownE o.changed.v 66 ch) (by repeat constructor)).pick (e := ochE b.ps) (by repeat constructor)).ochAdd
     refine ML.nil (.inl ⟨rfl, (k + 1, ⟨s25, b.ps ++ [(o, ch)]⟩), ⟨rfl, by show (b.ps ++ [(o, ch)]).length = k + 1; rw [List.length_append, hl]; rfl, hstep⟩, St.perm ?_ (permX _ _ _ _ _ _).symm⟩)
     simp only [EBF, List.cons_append, List.nil_append, List.map_append, List.map_cons, List.map_nil]
     exact (((((((hS2.pick (e := ochE (b.ps ++ [(o, ch)])) (by repeat constructor)).pick (e := ownE s25.v 59 (b.ps.map Prod.fst ++ [o])) (by repeat constructor)).pick (e := blkE b6 #[.int .i64 0] 33) (by repeat constructor)).pick (e := blkE b5 #[.int .u64 ((feeL (b.ps ++ [(o, ch)]) : Nat) : Int)] 32) (by repeat constructor)).pick (e := blkE b4 #[s25.v] 31) (by repeat constructor)).pick (e := blkE bl #[sv.v] 23) (by repeat constructor)).pick (e := blkE bs #[.pointer (some ⟨p, 0, none⟩)] 26) (by repeat constructor)).pick (e := stE p (dAt d xs (k + 1))) (by repeat constructor) |>.sub (by repeat with_reducible first | exact su1 _ | exact su2 _ | refine su3 ?_ | refine su4 ?_)
    ·refine opW.buildSl hS ([⟨feeL b.ps⟩, ⟨o.fee⟩] : List U64) [.int .u64 ((feeL b.ps : Nat) : Int), .int .u64 ((o.fee : Nat) : Int)] rfl rfl rfl rfl (by decide) ?_
     intro b29 w hw hS
     refine ⟨hS.sub (by repeat with_reducible first | exact su1 _ | exact su2 _ | refine su3 ?_ | refine su4 ?_), ?_⟩
     refine ML.one rfl rfl rfl (opW.appendOwn (α := Outcome) (v := b.v.v) (xs := b.ps.map Prod.fst) (ys := [o]) (by simp only [Value.cells]; rw [zOut]; exact Enc.size_eq oz) hS rfl (by repeat constructor) (hS.sl (v := .slice (some ⟨b24, 0, none⟩) 1 1) (xs := ([o] : List Outcome)) (by repeat constructor)) (by simp only [List.length_cons, List.length_nil]; omega) (by simp only [maxLen, List.length_cons, List.length_nil]; omega) ?_)
     intro v25 w hS; replace hS := hS _ (by repeat constructor)
     obtain ⟨s25, rfl⟩ := (hS.sl (v := v25) (xs := b.ps.map Prod.fst ++ [o]) (by repeat constructor)).asV
     refine ⟨hS.sub (by repeat with_reducible first | exact su1 _ | exact su2 _ | refine su3 ?_ | refine su4 ?_), ?_⟩
     refine ML.one rfl rfl rfl (opW.call (wsum_ok _ _ [⟨feeL b.ps⟩, ⟨o.fee⟩] (hS.sl (v := .slice (some ⟨b29, 0, none⟩) 2 2) (xs := ([⟨feeL b.ps⟩, ⟨o.fee⟩] : List U64)) (by repeat constructor)) (okl2 hlt hof)) rfl ?_)
     rintro _ w ⟨rfl, hw⟩; replace hS := hS.bel hw
     refine ⟨hS.sub (by repeat with_reducible first | exact su1 _ | exact su2 _ | refine su3 ?_ | refine su4 ?_), ?_⟩
     rw [← feeL_step b.ps (o, ch)]
     refine ML.put0 rfl rfl rfl (opW.storeAll (b := b4) (c := #[s25.v]) (cs := #[b.v.v]) hS rfl rfl (by repeat constructor) rfl rfl (Enc.one (α := SlV) s25) ?_)
     intro w hS; replace hS := hS _ (by repeat constructor)
     refine ML.put0 rfl rfl rfl (opW.storeAll (b := b5) (c := #[.int .u64 ((feeL (b.ps ++ [(o, ch)]) : Nat) : Int)]) (cs := #[.int .u64 ((feeL b.ps : Nat) : Int)]) hS rfl rfl (by repeat constructor) rfl rfl (one_int _ _) ?_)
     intro w hS; replace hS := hS _ (by repeat constructor)
     have hS2 := ((hS.pick (e := ownE o.changed.v 66 ch) (by repeat constructor)).pick (e := ochE b.ps) (by repeat constructor)).ochAdd
     refine ML.nil (.inl ⟨rfl, (k + 1, ⟨s25, b.ps ++ [(o, ch)]⟩), ⟨rfl, by show (b.ps ++ [(o, ch)]).length = k + 1; rw [List.length_append, hl]; rfl, hstep⟩, St.perm ?_ (permX _ _ _ _ _ _).symm⟩)
     simp only [EBF, List.cons_append, List.nil_append, List.map_append, List.map_cons, List.map_nil]
     exact (((((((hS2.pick (e := ochE (b.ps ++ [(o, ch)])) (by repeat constructor)).pick (e := ownE s25.v 59 (b.ps.map Prod.fst ++ [o])) (by repeat constructor)).pick (e := blkE b6 #[.int .i64 0] 33) (by repeat constructor)).pick (e := blkE b5 #[.int .u64 ((feeL (b.ps ++ [(o, ch)]) : Nat) : Int)] 32) (by repeat constructor)).pick (e := blkE b4 #[s25.v] 31) (by repeat constructor)).pick (e := blkE bl #[sv.v] 23) (by repeat constructor)).pick (e := blkE bs #[.pointer (some ⟨p, 0, none⟩)] 26) (by repeat constructor)).pick (e := stE p (dAt d xs (k + 1))) (by repeat constructor) |>.sub (by repeat with_reducible first | exact su1 _ | exact su2 _ | refine su3 ?_ | refine su4 ?_)
   ·refine opW.buildSl hS ([⟨feeL b.ps⟩, ⟨o.fee⟩] : List U64) [.int .u64 ((feeL b.ps : Nat) : Int), .int .u64 ((o.fee : Nat) : Int)] rfl rfl rfl rfl (by decide) ?_
    intro b29 w hw hS
    refine ⟨hS.sub (by repeat with_reducible first | exact su1 _ | exact su2 _ | refine su3 ?_ | refine su4 ?_), ?_⟩
    refine ML.one rfl rfl rfl (opW.buildSl hS ([o] : List Outcome) [.agg (Enc.enc o)] (by simp only [Value.cells]; rw [zOut]; exact Enc.size_eq oz) rfl (by simp only [List.map_cons, List.map_nil, Value.cells]) rfl (by decide) ?_)
    intro b24 w hw hS
    refine ⟨hS.sub (by repeat with_reducible first | exact su1 _ | exact su2 _ | refine su3 ?_ | refine su4 ?_), ?_⟩
    refine ML.one rfl rfl rfl (opW.appendOwn (α := Outcome) (v := b.v.v) (xs := b.ps.map Prod.fst) (ys := [o]) (by simp only [Value.cells]; rw [zOut]; exact Enc.size_eq oz) hS rfl (by repeat constructor) (hS.sl (v := .slice (some ⟨b24, 0, none⟩) 1 1) (xs := ([o] : List Outcome)) (by repeat constructor)) (by simp only [List.length_cons, List.length_nil]; omega) (by simp only [maxLen, List.length_cons, List.length_nil]; omega) ?_)
    intro v25 w hS; replace hS := hS _ (by repeat constructor)
    obtain ⟨s25, rfl⟩ := (hS.sl (v := v25) (xs := b.ps.map Prod.fst ++ [o]) (by repeat constructor)).asV
    refine ⟨hS.sub (by repeat with_reducible first | exact su1 _ | exact su2 _ | refine su3 ?_ | refine su4 ?_), ?_⟩
    refine ML.one rfl rfl rfl (opW.call (wsum_ok _ _ [⟨feeL b.ps⟩, ⟨o.fee⟩] (hS.sl (v := .slice (some ⟨b29, 0, none⟩) 2 2) (xs := ([⟨feeL b.ps⟩, ⟨o.fee⟩] : List U64)) (by repeat constructor)) (okl2 hlt hof)) rfl ?_)
    rintro _ w ⟨rfl, hw⟩; replace hS := hS.bel hw
    refine ⟨hS.sub (by repeat with_reducible first | exact su1 _ | exact su2 _ | refine su3 ?_ | refine su4 ?_), ?_⟩
    rw [← feeL_step b.ps (o, ch)]
    refine ML.put0 rfl rfl rfl (opW.storeAll (b := b4) (c := #[s25.v]) (cs := #[b.v.v]) hS rfl rfl (by repeat constructor) rfl rfl (Enc.one (α := SlV) s25) ?_)
    intro w hS; replace hS := hS _ (by repeat constructor)
    refine ML.put0 rfl rfl rfl (opW.storeAll (b := b5) (c := #[.int .u64 ((feeL (b.ps ++ [(o, ch)]) : Nat) : Int)]) (cs := #[.int .u64 ((feeL b.ps : Nat) : Int)]) hS rfl rfl (by repeat constructor) rfl rfl (one_int _ _) ?_)
    intro w hS; replace hS := hS _ (by repeat constructor)
    have hS2 := ((hS.pick (e := ownE o.changed.v 66 ch) (by repeat constructor)).pick (e := ochE b.ps) (by repeat constructor)).ochAdd
    refine ML.nil (.inl ⟨rfl, (k + 1, ⟨s25, b.ps ++ [(o, ch)]⟩), ⟨rfl, by show (b.ps ++ [(o, ch)]).length = k + 1; rw [List.length_append, hl]; rfl, hstep⟩, St.perm ?_ (permX _ _ _ _ _ _).symm⟩)
    simp only [EBF, List.cons_append, List.nil_append, List.map_append, List.map_cons, List.map_nil]
    exact (((((((hS2.pick (e := ochE (b.ps ++ [(o, ch)])) (by repeat constructor)).pick (e := ownE s25.v 59 (b.ps.map Prod.fst ++ [o])) (by repeat constructor)).pick (e := blkE b6 #[.int .i64 0] 33) (by repeat constructor)).pick (e := blkE b5 #[.int .u64 ((feeL (b.ps ++ [(o, ch)]) : Nat) : Int)] 32) (by repeat constructor)).pick (e := blkE b4 #[s25.v] 31) (by repeat constructor)).pick (e := blkE bl #[sv.v] 23) (by repeat constructor)).pick (e := blkE bs #[.pointer (some ⟨p, 0, none⟩)] 26) (by repeat constructor)).pick (e := stE p (dAt d xs (k + 1))) (by repeat constructor) |>.sub (by repeat with_reducible first | exact su1 _ | exact su2 _ | refine su3 ?_ | refine su4 ?_)
 case t1 =>
  obtain ⟨k, b⟩ := s
  obtain ⟨hk, hl, hout⟩ := hf
  have hk : k = xs.length := hk
  have hF : FoldIs d xs k b.ps 0 := ⟨Nat.le_of_eq hk, hl, hout, .inl ⟨hk, rfl⟩⟩
  simp only [EBF, List.cons_append, List.nil_append] at hS
  refine WCI.run ?_ ha
  letI : Dfr := ⟨[{ target := .collected D0, args := #[] }]⟩
  refine WCI.seqD 7 (.look 2 (.look 3 (.one 0 (.one 1 (.one 4 (.one 5 (.one 6 .nil))))))) (by kernel_rfl) (fun w1 hw1 => ?_)
  replace hS := hS.bel hw1
  refine ⟨fun w => St wb [blkE b5 #[.int .u64 ((feeL b.ps : Nat) : Int)] 32, blkE b6 #[.int .i64 0] 33] w, hS.sub (by repeat with_reducible first | exact su1 _ | exact su2 _ | refine su3 ?_ | refine su4 ?_), ?_⟩
  refine ML.look rfl rfl rfl (fun w hw => (by have hS := hw; exact opW.loadV (v := .int .u64 ((feeL b.ps : Nat) : Int)) rfl (hS.ld1 (b := b5) (cs := #[.int .u64 ((feeL b.ps : Nat) : Int)]) (by repeat constructor) rfl) ⟨rfl, rfl⟩)) ?_
  refine ML.look rfl rfl rfl (fun w hw => (by have hS := hw; exact opW.loadV (v := .int .i64 0) rfl (hS.ld1 (b := b6) (cs := #[.int .i64 0]) (by repeat constructor) rfl) ⟨rfl, rfl⟩)) ?_
  refine ML.one rfl rfl rfl (opW.loadV (v := b.v.v) rfl (hS.ld1 (b := b4) (cs := #[b.v.v]) (by repeat constructor) rfl) ?_)
  refine ⟨hS.sub (by repeat with_reducible first | exact su1 _ | exact su2 _ | refine su3 ?_ | refine su4 ?_), ?_⟩
  refine ML.one rfl rfl rfl (opW.call (clip_o _ b.v.v (b.ps.map Prod.fst) (hS.sl (v := b.v.v) (xs := (b.ps.map Prod.fst)) (by repeat constructor))) rfl ?_)
  rintro v32 w ⟨hv32, hw⟩; replace hS := hS.bel hw
  replace hS := hS.cutOwn (v := b.v.v) (T := 59) (xs := (b.ps.map Prod.fst)) (by repeat constructor)
  rw [← hv32] at hS
  obtain ⟨s2, rfl⟩ := (hS.sl (v := v32) (xs := (b.ps.map Prod.fst)) (by repeat constructor)).asV
  refine ⟨hS.sub (by repeat with_reducible first | exact su1 _ | exact su2 _ | refine su3 ?_ | refine su4 ?_), ?_⟩
  refine ML.one0 rfl rfl (opW.storeAll (b := b4) (c := #[s2.v]) (cs := #[b.v.v]) hS rfl rfl (by repeat constructor) rfl rfl (Enc.one (α := SlV) s2) ?_)
  intro w hS; replace hS := hS _ (by repeat constructor)
  refine ⟨hS.sub (by repeat with_reducible first | exact su1 _ | exact su2 _ | refine su3 ?_ | refine su4 ?_), ?_⟩
  refine ML.one0 rfl rfl (opW.storeAll (b := b5) (c := #[.int .u64 ((feeL b.ps : Nat) : Int)]) (cs := #[.int .u64 ((feeL b.ps : Nat) : Int)]) hS rfl rfl (by repeat constructor) rfl rfl (one_int _ _) ?_)
  intro w hS; replace hS := hS _ (by repeat constructor)
  refine ⟨hS.sub (by repeat with_reducible first | exact su1 _ | exact su2 _ | refine su3 ?_ | refine su4 ?_), ?_⟩
  refine ML.one0 rfl rfl (opW.storeAll (b := b6) (c := #[.int .i64 0]) (cs := #[.int .i64 0]) hS rfl rfl (by repeat constructor) rfl rfl (one_int _ _) ?_)
  intro w hS; replace hS := hS _ (by repeat constructor)
  refine ⟨hS.sub (by repeat with_reducible first | exact su1 _ | exact su2 _ | refine su3 ?_ | refine su4 ?_), ?_⟩
  refine ML.nil ⟨rfl, ?_⟩
  refine WCI.ret fun a ha => ?_
  have hdd : w.heap[D0]? = some (.deferred (some [])) := hS.raw (by repeat constructor)
  have hS2 := hS.rawPut (o := .deferred (some [])) (.deferred none) (by repeat constructor)
  exact bodyM_one ha hdd Tryd.results10 (.cell (hS2.ld1 (b := b4) (cs := #[s2.v]) (by repeat constructor) rfl) (.cell (hS2.ld1 (b := b5) (cs := #[.int .u64 ((feeL b.ps : Nat) : Int)]) (by repeat constructor) rfl) (.cell (hS2.ld1 (b := b6) (cs := #[.int .i64 0]) (by repeat constructor) rfl) .nil))) ⟨k, s2, b.ps, 0, rfl, hF, (((hS2.pick (e := stE p (dAt d xs k)) (by repeat constructor)).pick (e := ochE b.ps) (by repeat constructor)).pick (e := ownE s2.v 59 (b.ps.map Prod.fst)) (by repeat constructor)).sub (by repeat with_reducible first | exact su1 _ | exact su2 _ | refine su3 ?_ | refine su4 ?_)⟩
 case t2 =>
  obtain ⟨k, b, e⟩ := r
  obtain ⟨hk, hl, hout, he, hne⟩ := hf
  have hF : FoldIs d xs k b.ps e := ⟨Nat.le_of_lt hk, hl, hout, .inr ⟨hk, he, hne⟩⟩
  simp only [EBF, List.cons_append, List.nil_append] at hS
  refine WCI.run ?_ ha
  letI : Dfr := ⟨[{ target := .collected D0, args := #[] }]⟩
  refine WCI.seqD 7 (.look 2 (.look 3 (.one 0 (.one 1 (.one 4 (.one 5 (.one 6 .nil))))))) (by kernel_rfl) (fun w1 hw1 => ?_)
  replace hS := hS.bel hw1
  refine ⟨fun w => St wb [blkE b5 #[.int .u64 ((feeL b.ps : Nat) : Int)] 32, blkE b6 #[.int .i64 e] 33] w, hS.sub (by repeat with_reducible first | exact su1 _ | exact su2 _ | refine su3 ?_ | refine su4 ?_), ?_⟩
  refine ML.look rfl rfl rfl (fun w hw => (by have hS := hw; exact opW.loadV (v := .int .u64 ((feeL b.ps : Nat) : Int)) rfl (hS.ld1 (b := b5) (cs := #[.int .u64 ((feeL b.ps : Nat) : Int)]) (by repeat constructor) rfl) ⟨rfl, rfl⟩)) ?_
  refine ML.look rfl rfl rfl (fun w hw => (by have hS := hw; exact opW.loadV (v := .int .i64 e) rfl (hS.ld1 (b := b6) (cs := #[.int .i64 e]) (by repeat constructor) rfl) ⟨rfl, rfl⟩)) ?_
  refine ML.one rfl rfl rfl (opW.loadV (v := b.v.v) rfl (hS.ld1 (b := b4) (cs := #[b.v.v]) (by repeat constructor) rfl) ?_)
  refine ⟨hS.sub (by repeat with_reducible first | exact su1 _ | exact su2 _ | refine su3 ?_ | refine su4 ?_), ?_⟩
  refine ML.one rfl rfl rfl (opW.call (clip_o _ b.v.v (b.ps.map Prod.fst) (hS.sl (v := b.v.v) (xs := (b.ps.map Prod.fst)) (by repeat constructor))) rfl ?_)
  rintro v32 w ⟨hv32, hw⟩; replace hS := hS.bel hw
  replace hS := hS.cutOwn (v := b.v.v) (T := 59) (xs := (b.ps.map Prod.fst)) (by repeat constructor)
  rw [← hv32] at hS
  obtain ⟨s2, rfl⟩ := (hS.sl (v := v32) (xs := (b.ps.map Prod.fst)) (by repeat constructor)).asV
  refine ⟨hS.sub (by repeat with_reducible first | exact su1 _ | exact su2 _ | refine su3 ?_ | refine su4 ?_), ?_⟩
  refine ML.one0 rfl rfl (opW.storeAll (b := b4) (c := #[s2.v]) (cs := #[b.v.v]) hS rfl rfl (by repeat constructor) rfl rfl (Enc.one (α := SlV) s2) ?_)
  intro w hS; replace hS := hS _ (by repeat constructor)
  refine ⟨hS.sub (by repeat with_reducible first | exact su1 _ | exact su2 _ | refine su3 ?_ | refine su4 ?_), ?_⟩
  refine ML.one0 rfl rfl (opW.storeAll (b := b5) (c := #[.int .u64 ((feeL b.ps : Nat) : Int)]) (cs := #[.int .u64 ((feeL b.ps : Nat) : Int)]) hS rfl rfl (by repeat constructor) rfl rfl (one_int _ _) ?_)
  intro w hS; replace hS := hS _ (by repeat constructor)
  refine ⟨hS.sub (by repeat with_reducible first | exact su1 _ | exact su2 _ | refine su3 ?_ | refine su4 ?_), ?_⟩
  refine ML.one0 rfl rfl (opW.storeAll (b := b6) (c := #[.int .i64 e]) (cs := #[.int .i64 e]) hS rfl rfl (by repeat constructor) rfl rfl (one_int _ _) ?_)
  intro w hS; replace hS := hS _ (by repeat constructor)
  refine ⟨hS.sub (by repeat with_reducible first | exact su1 _ | exact su2 _ | refine su3 ?_ | refine su4 ?_), ?_⟩
  refine ML.nil ⟨rfl, ?_⟩
  refine WCI.ret fun a ha => ?_
  have hdd : w.heap[D0]? = some (.deferred (some [])) := hS.raw (by repeat constructor)
  have hS2 := hS.rawPut (o := .deferred (some [])) (.deferred none) (by repeat constructor)
  exact bodyM_one ha hdd Tryd.results10 (.cell (hS2.ld1 (b := b4) (cs := #[s2.v]) (by repeat constructor) rfl) (.cell (hS2.ld1 (b := b5) (cs := #[.int .u64 ((feeL b.ps : Nat) : Int)]) (by repeat constructor) rfl) (.cell (hS2.ld1 (b := b6) (cs := #[.int .i64 e]) (by repeat constructor) rfl) .nil))) ⟨k, s2, b.ps, e, rfl, hF, (((hS2.pick (e := stE p (dAt d xs k)) (by repeat constructor)).pick (e := ochE b.ps) (by repeat constructor)).pick (e := ownE s2.v 59 (b.ps.map Prod.fst)) (by repeat constructor)).sub (by repeat with_reducible first | exact su1 _ | exact su2 _ | refine su3 ?_ | refine su4 ?_)⟩

end Go.Fer
