/- transactions that do not conflict, plainly -/
import Derived.Test.YthfbfhokmknfnaaDoorNE
import Derived.Test.YthfbfhokmknfnaaDoorL2
set_option linter.all false
namespace Go.Fer
open Go Go.Proofs Go.RowKit

/-- how a list of roles uses a key: 3: it is written; 1: it is there; 0: it is not -/
def useV (l : List Role) (x : Key) : Int := if l.any (fun r => decide (r.key = x) && r.writes) = true then 3 else if l.any (fun r => decide (r.key = x)) = true then 1 else 0
theorem useV_cases (l : List Role) (x : Key) : useV l x = 0 ∨ useV l x = 1 ∨ useV l x = 3 := by
 unfold useV; split
 ·exact .inr (.inr rfl)
 ·split
  ·exact .inr (.inl rfl)
  ·exact .inl rfl
def UseIs (kvs : List (Key × Int)) (l : List Role) : Prop := ∀ x : Key, aget x kvs = if useV l x = 0 then none else some (useV l x)
theorem UseIs.nil : UseIs [] [] := fun x => by simp [aget, useV]
theorem UseIs.got {kvs : List (Key × Int)} {l : List Role} (h : UseIs kvs l) (x : Key) : (aget x kvs).getD 0 = useV l x := by
 rw [h x]; split
 ·rename_i e; rw [e]; rfl
 ·rfl
theorem or2 {a : Int} (h : a = 0 ∨ a = 1 ∨ a = 3) : bitsI .or .i64 a 2 = if a = 0 then 2 else 3 := by rcases h with rfl | rfl | rfl <;> decide
theorem or1 {a : Int} (h : a = 0 ∨ a = 1 ∨ a = 2 ∨ a = 3) : bitsI .or .i64 a 1 = if a = 0 ∨ a = 1 then 1 else 3 := by rcases h with rfl | rfl | rfl | rfl <;> decide
theorem useV_step {l : List Role} {k : Nat} (hk : k < l.length) (x : Key) : useV (l.take (k + 1)) x = if l[k].key = x then (if l[k].writes = true then 3 else if useV (l.take k) x = 3 then 3 else 1) else useV (l.take k) x := by
 rw [List.take_succ_eq_append_getElem hk]
 unfold useV
 simp only [List.any_append, List.any_cons, List.any_nil, Bool.or_false]
 by_cases h1 : l[k].key = x
 ·by_cases h2 : l[k].writes = true
  ·simp [h1, h2]
  ·simp only [h1, h2, decide_true, Bool.true_and, if_true]
   cases (l.take k).any (fun r => decide (r.key = x) && r.writes) <;> simp
   split <;> simp
 ·simp [h1]

theorem uses_ok (w0 : World) (v : Value) (xs : List Role) (hx : SlR w0 v xs) : Ret Tryd.prog 50 #[v] w0 (fun u w' => ∃ kvs : List (Key × Int), NewM w0 w' u (Value.int .i64) kvs ∧ UseIs kvs xs ∧ Bel w0 w') := by
 refine Ret.enter (args := [v]) Tryd.func50 rfl Tryd.ntmps50 Tryd.results50 rfl ?_
 have hS := St.start w0
 refine WC.seq (fun K1 hK1 => ?_)
 refine WC.region ?_
 refine WL.op rfl (opW.assignV (v := .map none) rfl ?_)
 refine WL.nil ?_
 refine thenQ_n (hK1 _ _ ?_)
 refine WC.seq (fun K2 hK2 => ?_)
 refine WC.region ?_
 refine WL.op rfl (opW.makeMap Key (Value.int .i64) hS ?_)
 intro r w _ hS
 refine WL.op rfl (opW.assignV (v := .map (some r)) rfl ?_)
 refine WL.nil ?_
 refine thenQ_n (hK2 _ _ ?_)
 refine WC.seq (fun K3 hK3 => ?_)
 refine WC.seq (fun K4 hK4 => ?_)
 refine WC.region ?_
 refine WL.op rfl (opW.moveV (v := v) rfl ?_)
 refine WL.op rfl (opW.lenV rfl ((hx.bel hS.old)) ?_)
 refine WL.op rfl (opW.moveI rfl ?_)
 refine WL.nil ?_
 refine thenQ_n (hK4 _ _ ?_)
 refine WC.block ?_
 refine WC.loop (fun q f w => ∃ (k : Nat) (kvs : List (Key × Int)), Fits [(3, .map (some r)), (7, v), (8, .int .i64 (xs.length : Int)), (9, .int .i64 (k : Int))] f ∧ St w0 [mapE r (Value.int .i64) kvs] w ∧ UseIs kvs (xs.take k) ∧ k ≤ xs.length ∧ q = xs.length - k) (xs.length) ?_ ?_
 ·
  exact ⟨0, [], ⟨rfl, rfl, rfl, rfl, trivial⟩, hS, by simpa using UseIs.nil, Nat.zero_le _, rfl⟩
 ·
  rintro q f w ⟨k, kvs, hfit, hS, hus, hk0, hm⟩
  refine WC.fits _ hfit (fun g => ?_)
  clear hfit
  refine WC.seq (fun K5 hK5 => ?_)
  refine WC.region ?_
  refine WL.op rfl (opW.lss rfl rfl ?_)
  refine WL.nil ?_
  refine thenQ_n (hK5 _ _ ?_)
  refine WC.seq (fun K6 hK6 => ?_)
  refine WC.cond _ rfl (fun hc0 => ?_) (fun hc0 => ?_)
  ·
   have hr0 := hc0
   try simp only [sq1,sq2,sq3,sq4,sq5,sq6,sq7,sq8,sq9,sq0] at hc0
   have hkl : k < xs.length := by omega
   have hle := hx.le
   simp only [maxLen] at hle
   have huc := useV_cases (xs.take k) xs[k].key
   have huk := hus.got xs[k].key
   refine WC.skip ?_
   refine thenQ_n (hK6 _ _ ?_)
   refine WC.seq (fun K7 hK7 => ?_)
   refine WC.block ?_
   refine WC.seq (fun K8 hK8 => ?_)
   refine WC.region ?_
   refine WL.op rfl (opW.idxV rfl ((hx.bel hS.old)) rfl (by omega) ?_)
   refine WL.op rfl (opW.loadV rfl (((hx.bel hS.old).isPt hkl).ldA (Enc.size_eq xs[k])) ?_)
   refine WL.op rfl (opW.allocA hS ?_)
   intro b5 w _ hS
   refine WL.op0 (opW.storeE hS rfl rfl (by repeat constructor) (by first | rfl | exact Enc.size_eq _) ?_)
   intro w hS; replace hS := hS _ (by repeat constructor)
   refine WL.nil ?_
   refine thenQ_n (hK8 _ _ ?_)
   refine WC.mid (fun f w => ∃ kvs1 : List (Key × Int), Fits [(3, .map (some r)), (5, .pointer (some ⟨b5, 0, none⟩)), (7, v), (8, .int .i64 (xs.length : Int)), (9, .int .i64 (k : Int))] f ∧ St w0 [blkE b5 (Enc.enc xs[k]) 96, mapE r (Value.int .i64) kvs1] w ∧ (aget xs[k].key kvs1).getD 0 = (if xs[k].writes = true then (if useV (xs.take k) xs[k].key = 0 then 2 else 3) else useV (xs.take k) xs[k].key) ∧ ∀ x, x ≠ xs[k].key → aget x kvs1 = aget x kvs) ?_ ?_
   ·
    refine WC.seq (fun K9 hK9 => ?_)
    refine WC.region ?_
    refine WL.op rfl (opW.fieldAddrB rfl ?_)
    refine WL.op rfl (opW.loadV rfl (hS.ld1 (by repeat constructor) (Role.at_writes _)) ?_)
    refine WL.nil ?_
    refine thenQ_n (hK9 _ _ ?_)
    refine WC.cond _ rfl (fun hc1 => ?_) (fun hc1 => ?_)
    ·
     have hr1 := hc1
     try simp only [sq1,sq2,sq3,sq4,sq5,sq6,sq7,sq8,sq9,sq0] at hc1
     have hwr : xs[k].writes = true := hr1
     refine WC.drawI 7 (.look 0 (.look 1 (.look 2 (.look 3 (.look 4 (.one 5 (.look 6 (.one 7 .nil)))))))) (by kernel_rfl) (fun _ _ _ h => h) (fun w1 hw1 => ?_)
     replace hS := hS.bel hw1
     have hS1 := hS
     refine ⟨fun w => ∃ kvs2 : List (Key × Int), (aget xs[k].key kvs2).getD 0 = useV (xs.take k) xs[k].key ∧ St w0 [blkE b5 (Enc.enc xs[k]) 96, mapE r (Value.int .i64) kvs2] w, ⟨kvs, huk, hS.sub (by repeat with_reducible first | exact su1 _ | exact su2 _ | refine su3 ?_ | refine su4 ?_)⟩, ?_⟩
     refine ML.look rfl rfl rfl (fun w hw => (by obtain ⟨kvs2, hg2, hS⟩ := hw; exact opW.moveV (v := .map (some r)) rfl ⟨rfl, rfl⟩)) ?_
     refine ML.look rfl rfl rfl (fun w hw => (by obtain ⟨kvs2, hg2, hS⟩ := hw; exact opW.fieldAddrB rfl ⟨rfl, rfl⟩)) ?_
     refine ML.look rfl rfl rfl (fun w hw => (by obtain ⟨kvs2, hg2, hS⟩ := hw; exact opW.loadV rfl (hS.ldF (by repeat constructor) (Role.ex_key _) (by rw [Enc.size_eq]; decide)) ⟨rfl, rfl⟩)) ?_
     refine ML.look rfl rfl rfl (fun w hw => (by obtain ⟨kvs2, hg2, hS⟩ := hw; exact opW.lookupZ (vv := Value.int .i64) (z0 := 0) inferInstance (hS.map (by repeat constructor)) rfl rfl hg2 ⟨rfl, rfl⟩)) ?_
     refine ML.look rfl rfl rfl (fun w hw => (by obtain ⟨kvs2, hg2, hS⟩ := hw; exact opW.or rfl rfl (or2 huc) ⟨rfl, rfl⟩)) ?_
     refine ML.one rfl rfl rfl (opW.mapEntry (vv := Value.int .i64) (z0 := 0) inferInstance hS (by repeat constructor) rfl rfl ?_)
     intro born w hS; replace hS := hS _ (by repeat constructor)
     refine ⟨⟨_, by rw [aget_aput, if_pos rfl]; exact huk, hS.mapDrop (.there .here)⟩, ?_⟩
     refine ML.look rfl rfl rfl (fun w hw => (by obtain ⟨kvs2, hg2, hS⟩ := hw; exact opW.extract rfl rfl ⟨rfl, rfl⟩)) ?_
     refine ML.put0 rfl rfl rfl (opW.entryStore (k := xs[k].key) (vv := Value.int .i64) hS (by repeat constructor) rfl rfl rfl ?_)
     intro w hS; replace hS := hS _ (by repeat constructor)
     refine ML.nil ?_
     rw [aput_aput] at hS
     refine thenQ_n ?_
     first | exact ⟨_, ⟨rfl, rfl, rfl, rfl, rfl, trivial⟩, hS.sub (by repeat with_reducible first | exact su1 _ | exact su2 _ | refine su3 ?_ | refine su4 ?_), (by rw [aget_aput, if_pos rfl, if_pos hwr]; rfl), fun x hx => (by rw [aget_aput, if_neg hx])⟩ | exact ⟨kvs, ⟨rfl, rfl, rfl, rfl, rfl, trivial⟩, hS.sub (by repeat with_reducible first | exact su1 _ | exact su2 _ | refine su3 ?_ | refine su4 ?_), (by rw [hwr]; exact huk), fun _ _ => rfl⟩
    ·
     have hr1 := hc1
     try simp only [sq1,sq2,sq3,sq4,sq5,sq6,sq7,sq8,sq9,sq0] at hc1
     have hwr : xs[k].writes = false := hr1
     refine WC.skip ?_
     refine thenQ_n ?_
     first | exact ⟨_, ⟨rfl, rfl, rfl, rfl, rfl, trivial⟩, hS.sub (by repeat with_reducible first | exact su1 _ | exact su2 _ | refine su3 ?_ | refine su4 ?_), (by rw [aget_aput, if_pos rfl, if_pos hwr]; rfl), fun x hx => (by rw [aget_aput, if_neg hx])⟩ | exact ⟨kvs, ⟨rfl, rfl, rfl, rfl, rfl, trivial⟩, hS.sub (by repeat with_reducible first | exact su1 _ | exact su2 _ | refine su3 ?_ | refine su4 ?_), (by rw [hwr]; exact huk), fun _ _ => rfl⟩
   ·
    rintro f w ⟨kvs1, hfit, hS, hg1, ho1⟩
    refine WC.fits _ hfit (fun g => ?_)
    clear hfit
    refine WC.drawI 7 (.look 0 (.look 1 (.look 2 (.look 3 (.look 4 (.one 5 (.look 6 (.one 7 .nil)))))))) (by kernel_rfl) (fun _ _ _ h => h) (fun w1 hw1 => ?_)
    replace hS := hS.bel hw1
    have hS1 := hS
    refine ⟨fun w => ∃ kvs2 : List (Key × Int), (aget xs[k].key kvs2).getD 0 = (if xs[k].writes = true then (if useV (xs.take k) xs[k].key = 0 then 2 else 3) else useV (xs.take k) xs[k].key) ∧ St w0 [blkE b5 (Enc.enc xs[k]) 96, mapE r (Value.int .i64) kvs2] w, ⟨kvs1, hg1, hS.sub (by repeat with_reducible first | exact su1 _ | exact su2 _ | refine su3 ?_ | refine su4 ?_)⟩, ?_⟩
    refine ML.look rfl rfl rfl (fun w hw => (by obtain ⟨kvs2, hg2, hS⟩ := hw; exact opW.moveV (v := .map (some r)) rfl ⟨rfl, rfl⟩)) ?_
    refine ML.look rfl rfl rfl (fun w hw => (by obtain ⟨kvs2, hg2, hS⟩ := hw; exact opW.fieldAddrB rfl ⟨rfl, rfl⟩)) ?_
    refine ML.look rfl rfl rfl (fun w hw => (by obtain ⟨kvs2, hg2, hS⟩ := hw; exact opW.loadV rfl (hS.ldF (by repeat constructor) (Role.ex_key _) (by rw [Enc.size_eq]; decide)) ⟨rfl, rfl⟩)) ?_
    refine ML.look rfl rfl rfl (fun w hw => (by obtain ⟨kvs2, hg2, hS⟩ := hw; exact opW.lookupZ (vv := Value.int .i64) (z0 := 0) inferInstance (hS.map (by repeat constructor)) rfl rfl hg2 ⟨rfl, rfl⟩)) ?_
    refine ML.look rfl rfl rfl (fun w hw => (by obtain ⟨kvs2, hg2, hS⟩ := hw; exact opW.or rfl rfl (or1 (by rcases huc with h | h | h <;> rw [h] <;> cases xs[k].writes <;> simp)) ⟨rfl, rfl⟩)) ?_
    refine ML.one rfl rfl rfl (opW.mapEntry (vv := Value.int .i64) (z0 := 0) inferInstance hS (by repeat constructor) rfl rfl ?_)
    intro born w hS; replace hS := hS _ (by repeat constructor)
    refine ⟨⟨_, by rw [aget_aput, if_pos rfl]; exact hg1, hS.mapDrop (.there .here)⟩, ?_⟩
    refine ML.look rfl rfl rfl (fun w hw => (by obtain ⟨kvs2, hg2, hS⟩ := hw; exact opW.extract rfl rfl ⟨rfl, rfl⟩)) ?_
    refine ML.put0 rfl rfl rfl (opW.entryStore (k := xs[k].key) (vv := Value.int .i64) hS (by repeat constructor) rfl rfl rfl ?_)
    intro w hS; replace hS := hS _ (by repeat constructor)
    refine ML.nil ?_
    rw [aput_aput] at hS
    refine blockQ_n ?_
    refine thenQ_n (hK7 _ _ ?_)
    refine WC.region ?_
    refine WL.op rfl (opW.add rfl rfl (wrap_i64 (by omega)) ?_)
    refine WL.op rfl (opW.moveI rfl ?_)
    refine WL.nil ?_
    refine thenQ_n ?_
    refine ⟨xs.length - (k + 1), by omega, k + 1, _, ⟨rfl, rfl, rfl, congrArg (Value.int .i64) (by omega), trivial⟩, hS.sub (by repeat with_reducible first | exact su1 _ | exact su2 _ | refine su3 ?_ | refine su4 ?_), ?_, by omega, rfl⟩
    intro x
    rw [useV_step hkl, aget_aput]
    by_cases hxk : xs[k].key = x
    ·subst hxk
     rw [if_pos rfl, if_pos rfl]
     rcases huc with h | h | h <;> rw [h] <;> cases xs[k].writes <;> simp
    ·rw [if_neg (Ne.symm hxk), if_neg hxk, ho1 x (Ne.symm hxk)]
     exact hus x
  ·
   have hr0 := hc0
   try simp only [sq1,sq2,sq3,sq4,sq5,sq6,sq7,sq8,sq9,sq0] at hc0
   have hkk : k = xs.length := by omega
   subst hkk
   rw [List.take_length] at hus
   refine WC.exit ?_
   refine thenQ_e ?_
   refine thenQ_e ?_
   refine blockQ_hit ?_
   refine thenQ_n (hK3 _ _ ?_)
   refine WC.seq (fun K10 hK10 => ?_)
   refine WC.region ?_
   refine WL.op rfl (opW.moveV (v := .map (some r)) rfl ?_)
   refine WL.op rfl (opW.assignV (v := .map (some r)) rfl ?_)
   refine WL.nil ?_
   refine thenQ_n (hK10 _ _ ?_)
   refine WC.ret ?_
   refine bodyQ_ret (.tmpV (v := .map (some r)) rfl .nil) ?_
   exact ⟨kvs, hS.map_new (by repeat constructor), hus, hS.old⟩

/-- two lists of roles conflict -/
def confB (a b : List Role) : Bool := a.any fun r => b.any fun s => decide (r.key = s.key) && (r.writes || s.writes)
theorem useV_pos {l : List Role} {x : Key} : useV l x = 0 ↔ ∀ r ∈ l, r.key ≠ x := by
 unfold useV
 split
 ·rename_i h
  simp only [List.any_eq_true, Bool.and_eq_true, decide_eq_true_eq] at h
  obtain ⟨r, hr, h1, h2⟩ := h
  exact ⟨fun h => by omega, fun h => absurd h1 (h r hr)⟩
 ·split
  ·rename_i h
   simp only [List.any_eq_true, decide_eq_true_eq] at h
   obtain ⟨r, hr, h1⟩ := h
   exact ⟨fun h => by omega, fun h => absurd h1 (h r hr)⟩
  ·rename_i h
   simp only [List.any_eq_true, decide_eq_true_eq, not_exists, not_and] at h
   exact ⟨fun _ => h, fun _ => rfl⟩
theorem useV_three {l : List Role} {x : Key} : useV l x = 3 ↔ ∃ r ∈ l, r.key = x ∧ r.writes = true := by
 unfold useV
 split
 ·rename_i h
  simp only [List.any_eq_true, Bool.and_eq_true, decide_eq_true_eq] at h
  exact ⟨fun _ => h, fun _ => rfl⟩
 ·rename_i h
  simp only [List.any_eq_true, Bool.and_eq_true, decide_eq_true_eq] at h
  split
  ·exact ⟨fun h => by omega, fun h' => absurd h' h⟩
  ·exact ⟨fun h => by omega, fun h' => absurd h' h⟩
/-- a key over which they conflict -/
theorem conf_iff (a b : List Role) : confB a b = true ↔ ∃ x, useV a x ≠ 0 ∧ useV b x ≠ 0 ∧ (useV a x = 3 ∨ useV b x = 3) := by
 simp only [confB, List.any_eq_true, Bool.and_eq_true, Bool.or_eq_true, decide_eq_true_eq]
 constructor
 ·rintro ⟨r, hr, s, hs, hk, hw⟩
  refine ⟨r.key, fun h => useV_pos.1 h r hr rfl, fun h => useV_pos.1 h s hs hk.symm, ?_⟩
  rcases hw with hw | hw
  ·exact .inl (useV_three.2 ⟨r, hr, rfl, hw⟩)
  ·exact .inr (useV_three.2 ⟨s, hs, hk.symm, hw⟩)
 ·rintro ⟨x, ha, hb, hw⟩
  have ga : ∃ r ∈ a, r.key = x := by
   apply Classical.byContradiction
   intro h; exact ha (useV_pos.2 fun r hr e => h ⟨r, hr, e⟩)
  have gb : ∃ r ∈ b, r.key = x := by
   apply Classical.byContradiction
   intro h; exact hb (useV_pos.2 fun r hr e => h ⟨r, hr, e⟩)
  obtain ⟨s, hs, hsx⟩ := gb
  obtain ⟨r, hr, hrx⟩ := ga
  rcases hw with hw | hw
  ·obtain ⟨r2, hr2, h1, h2⟩ := useV_three.1 hw
   exact ⟨r2, hr2, s, hs, by rw [h1, hsx], .inl h2⟩
  ·obtain ⟨s2, hs2, h1, h2⟩ := useV_three.1 hw
   exact ⟨r, hr, s2, hs2, by rw [h1, hrx], .inr h2⟩
theorem conf_comm (a b : List Role) : confB a b = confB b a := by
 rw [Bool.eq_iff_iff, conf_iff, conf_iff]
 constructor <;> rintro ⟨x, h1, h2, h3⟩ <;> exact ⟨x, h2, h1, h3.symm⟩

theorem aget_at {κ ν : Type} [DecidableEq κ] : ∀ {l : List (κ × ν)} {i : Nat} (hi : i < l.length), (l.map Prod.fst).Nodup → aget (l[i]'hi).1 l = some (l[i]'hi).2
 | (x, v) :: r, 0, _, _ => by simp [aget]
 | (x, v) :: r, i + 1, hi, hn => by
  simp only [List.map_cons, List.nodup_cons] at hn
  have hi' : i < r.length := by simpa using hi
  have ih := aget_at hi' hn.2
  have hne : r[i].1 ≠ x := fun e => hn.1 (e ▸ List.mem_map_of_mem (List.getElem_mem hi'))
  simp [aget, hne, ih]
theorem aget_ex {κ ν : Type} [DecidableEq κ] : ∀ {l : List (κ × ν)} {k : κ} {v : ν}, aget k l = some v → ∃ i, ∃ hi : i < l.length, (l[i]'hi).1 = k
 | (x, u) :: r, k, v, h => by
  by_cases hk : k = x
  ·exact ⟨0, by simp, by simp [hk]⟩
  ·simp [aget, hk] at h
   obtain ⟨i, hi, e⟩ := aget_ex h
   exact ⟨i + 1, by simpa using hi, by simpa using e⟩
/-- two uses of one key conflict -/
def confV (o u : Int) : Bool := decide (0 < o) && decide (0 < bitsI .and .i64 (bitsI .or .i64 o u) 2)
theorem confV_iff {o u : Int} (ho : o = 0 ∨ o = 1 ∨ o = 3) (hu : u = 0 ∨ u = 1 ∨ u = 3) (h : u ≠ 0 ∨ o = 0) : confV o u = true ↔ o ≠ 0 ∧ u ≠ 0 ∧ (o = 3 ∨ u = 3) := by
 rcases ho with rfl | rfl | rfl <;> rcases hu with rfl | rfl | rfl <;> first | decide | simp at h

theorem UseIs.at {kvs : List (Key × Int)} {l : List Role} (h : UseIs kvs l) (hn : (kvs.map Prod.fst).Nodup) {i : Nat} (hi : i < kvs.length) : (kvs[i]'hi).2 = useV l (kvs[i]'hi).1 ∧ useV l (kvs[i]'hi).1 ≠ 0 := by
 have h1 := h (kvs[i]'hi).1
 rw [aget_at hi hn] at h1
 split at h1
 ·cases h1
 ·rename_i h2; exact ⟨Option.some.inj h1, h2⟩
theorem UseIs.ex {kvs : List (Key × Int)} {l : List Role} (h : UseIs kvs l) {x : Key} (hx : useV l x ≠ 0) : ∃ i, ∃ hi : i < kvs.length, (kvs[i]'hi).1 = x := by
 have h1 := h x
 rw [if_neg hx] at h1
 exact aget_ex h1
theorem conf_hit {a b : List Role} {kvs : List (Key × Int)} (h : UseIs kvs a) (hn : (kvs.map Prod.fst).Nodup) {i : Nat} (hi : i < kvs.length) : confV (useV b (kvs[i]'hi).1) (kvs[i]'hi).2 = true ↔ (useV a (kvs[i]'hi).1 ≠ 0 ∧ useV b (kvs[i]'hi).1 ≠ 0 ∧ (useV a (kvs[i]'hi).1 = 3 ∨ useV b (kvs[i]'hi).1 = 3)) := by
 obtain ⟨h1, h2⟩ := h.at hn hi
 rw [h1, confV_iff (useV_cases _ _) (useV_cases _ _) (.inl h2)]
 constructor
 ·rintro ⟨x, y, z⟩; exact ⟨y, x, z.symm⟩
 ·rintro ⟨x, y, z⟩; exact ⟨y, x, z.symm⟩
theorem conf_all {a b : List Role} {kvs : List (Key × Int)} (h : UseIs kvs a) (hn : (kvs.map Prod.fst).Nodup) (hall : ∀ i (hi : i < kvs.length), confV (useV b (kvs[i]'hi).1) (kvs[i]'hi).2 = false) : confB a b = false := by
 rw [Bool.eq_false_iff]
 intro hc
 obtain ⟨x, h1, h2, h3⟩ := (conf_iff a b).1 hc
 obtain ⟨i, hi, rfl⟩ := h.ex h1
 have h4 := (conf_hit (b := b) h hn hi).2 ⟨h1, h2, h3⟩
 rw [hall i hi] at h4; cases h4

theorem conflict_ok (w0 : World) (v1 v2 : Value) (a b : List Role) (ha : SlR w0 v1 a) (hb : SlR w0 v2 b) : Ret Tryd.prog 38 #[v1, v2] w0 (fun u w' => u = .bool (confB a b) ∧ Bel w0 w') := by
 refine Ret.enter (args := [v1, v2]) Tryd.func38 rfl Tryd.ntmps38 Tryd.results38 rfl ?_
 have hS := St.start w0
 refine WC.seq (fun K1 hK1 => ?_)
 refine WC.region ?_
 refine WL.op rfl (opW.assignB rfl ?_)
 refine WL.nil ?_
 refine thenQ_n (hK1 _ _ ?_)
 refine WC.seq (fun K2 hK2 => ?_)
 refine WC.region ?_
 refine WL.op rfl (opW.moveV (v := v2) rfl ?_)
 refine WL.op rfl (opW.call (uses_ok _ _ b (hb.bel hS.old)) rfl ?_)
 rintro _ w ⟨kvs1, ⟨r1, rfl, hr1', hM1⟩, hu1, hw⟩
 replace hS := hS.newMap hw hM1 hr1'
 refine WL.op rfl (opW.assignV (v := .map (some r1)) rfl ?_)
 refine WL.nil ?_
 refine thenQ_n (hK2 _ _ ?_)
 refine WC.seq (fun K3 hK3 => ?_)
 refine WC.seq (fun K4 hK4 => ?_)
 refine WC.region ?_
 refine WL.op rfl (opW.moveV (v := v1) rfl ?_)
 refine WL.op rfl (opW.call (uses_ok _ _ a (ha.bel hS.old)) rfl ?_)
 rintro _ w ⟨kvs2, ⟨r2, rfl, hr2', hM2⟩, hu2, hw⟩
 replace hS := hS.newMap hw hM2 hr2'
 refine WL.op rfl (opW.range (κ := Key) (ν := Int) hS (by repeat constructor) rfl ?_)
 intro it w hS; replace hS := hS _ (by repeat constructor)
 refine WL.nil ?_
 refine thenQ_n (hK4 _ _ ?_)
 refine WC.block ?_
 refine WC.loop (fun q f w => ∃ is : List Nat, Fits [(5, .map (some r1)), (13, .pointer (some ⟨it, 0, none⟩))] f ∧ St w0 [rngE it r2 (Value.int .i64) kvs2 is, mapE r1 (Value.int .i64) kvs1] w ∧ (∀ i (hi : i < kvs2.length), i ∈ is → confV (useV b (kvs2[i]).1) (kvs2[i]).2 = false) ∧ q = kvs2.length - is.length) (kvs2.length) ?_ ?_
 ·
  exact ⟨[], ⟨rfl, rfl, trivial⟩, hS.sub (by repeat with_reducible first | exact su1 _ | exact su2 _ | refine su3 ?_ | refine su4 ?_), fun _ _ h => by simp at h, rfl⟩
 ·
  rintro q f w ⟨is, hfit, hS, hno, hm⟩
  refine WC.fits _ hfit (fun g => ?_)
  clear hfit
  refine WC.seq (fun K5 hK5 => ?_)
  refine WC.region ?_
  refine WL.op rfl (opW.nextV (κ := Key) (ν := Int) hS (by repeat constructor) rfl ?_)
  intro bb vs is' w h0 hF hTT hS; replace hS := hS _ (by repeat constructor)
  refine WL.op rfl (opW.extract rfl h0 ?_)
  refine WL.nil ?_
  refine thenQ_n (hK5 _ _ ?_)
  refine WC.seq (fun K6 hK6 => ?_)
  refine WC.cond _ rfl (fun hc0 => ?_) (fun hc0 => ?_)
  ·
   have hr0 := hc0
   try simp only [sq1,sq2,sq3,sq4,sq5,sq6,sq7,sq8,sq9,sq0] at hc0
   obtain ⟨i, hi, hni, hlt, rfl⟩ := hTT hr0
   have hRM := hS.rng (by repeat constructor)
   refine WC.skip ?_
   refine thenQ_n (hK6 _ _ ?_)
   refine WC.block ?_
   refine WC.seq (fun K7 hK7 => ?_)
   refine WC.region ?_
   refine WL.op rfl (opW.entryM hRM hi rfl ?_)
   refine WL.op rfl (opW.extract rfl rfl ?_)
   refine WL.op rfl (opW.extract rfl rfl ?_)
   refine WL.op rfl (opW.allocA hS ?_)
   intro b6 w _ hS
   refine WL.op0 (opW.storeE hS rfl rfl (by repeat constructor) (by first | rfl | exact Enc.size_eq _) ?_)
   intro w hS; replace hS := hS _ (by repeat constructor)
   refine WL.op rfl (opW.assignV (v := .int .i64 (kvs2[i]).2) rfl ?_)
   refine WL.nil ?_
   refine thenQ_n (hK7 _ _ ?_)
   refine WC.seq (fun K8 hK8 => ?_)
   refine WC.region ?_
   refine WL.op rfl (opW.moveV (v := .map (some r1)) rfl ?_)
   refine WL.op rfl (opW.loadV rfl (by first | exact hS.ldA (by repeat constructor) (by first | rfl | exact Enc.size_eq _) | exact hS.ld1 (by repeat constructor) rfl) ?_)
   refine WL.op rfl (opW.lookupZ (k := (kvs2[i]).1) (vv := Value.int .i64) (z0 := 0) inferInstance (hS.map (by repeat constructor)) rfl rfl (hu1.got _) ?_)
   refine WL.op rfl (opW.assignI rfl ?_)
   refine WL.nil ?_
   refine thenQ_n (hK8 _ _ ?_)
   refine WC.seq (fun K9 hK9 => ?_)
   refine WC.region ?_
   refine WL.op rfl (opW.moveI rfl ?_)
   refine WL.op rfl (opW.gtr rfl rfl ?_)
   refine WL.op rfl (opW.moveB rfl ?_)
   refine WL.gd _ 24 _ rfl rfl rfl rfl (fun hg25 => opW.moveI rfl ⟨rfl, Bel.refl _⟩) (fun w hw => ?_)
   replace hS := hS.bel hw
   refine WL.gd _ 24 _ rfl rfl rfl rfl (fun hg26 => opW.moveI rfl ⟨rfl, Bel.refl _⟩) (fun w hw => ?_)
   replace hS := hS.bel hw
   refine WL.gd _ 24 _ rfl rfl rfl rfl (fun hg27 => opW.or (by first | exact gv_of rfl hg27 | rfl) (by first | exact gv_of rfl hg27 | rfl) (rfl) ⟨rfl, Bel.refl _⟩) (fun w hw => ?_)
   replace hS := hS.bel hw
   refine WL.gd _ 24 _ rfl rfl rfl rfl (fun hg28 => opW.and (by first | exact gv_of rfl hg28 | rfl) rfl (rfl) ⟨rfl, Bel.refl _⟩) (fun w hw => ?_)
   replace hS := hS.bel hw
   refine WL.gd _ 24 _ rfl rfl rfl rfl (fun hg29 => opW.gtr (by first | exact gv_of rfl hg29 | rfl) rfl ⟨rfl, Bel.refl _⟩) (fun w hw => ?_)
   replace hS := hS.bel hw
   refine WL.op rfl (opW.pickAnd rfl (by first | rfl) rfl ?_)
   refine WL.nil ?_
   refine thenQ_n (hK9 _ _ ?_)
   refine WC.cond _ rfl (fun hc1 => ?_) (fun hc1 => ?_)
   ·
    have hr1 := hc1
    try simp only [sq1,sq2,sq3,sq4,sq5,sq6,sq7,sq8,sq9,sq0] at hc1
    refine WC.seq (fun K10 hK10 => ?_)
    refine WC.region ?_
    refine WL.op rfl (opW.assignB rfl ?_)
    refine WL.nil ?_
    refine thenQ_n (hK10 _ _ ?_)
    refine WC.ret ?_
    refine blockQ_r ?_
    refine thenQ_r ?_
    refine blockQ_r ?_
    refine thenQ_r ?_
    refine bodyQ_ret (.tmpB rfl .nil) ?_
    obtain ⟨es, c, _, hmi⟩ := hRM.map
    have hc := (conf_hit (b := b) hu2 hmi.2.2 hi).1 hr1
    exact ⟨congrArg Value.bool ((conf_iff a b).2 ⟨_, hc⟩).symm, hS.old⟩
   ·
    have hr1 := hc1
    try simp only [sq1,sq2,sq3,sq4,sq5,sq6,sq7,sq8,sq9,sq0] at hc1
    refine WC.skip ?_
    refine blockQ_n ?_
    refine thenQ_n ?_
    refine ⟨kvs2.length - (is ++ [i]).length, by simp; omega, is ++ [i], ⟨rfl, rfl, trivial⟩, hS.sub (by repeat with_reducible first | exact su1 _ | exact su2 _ | refine su3 ?_ | refine su4 ?_), ?_, rfl⟩
    intro j hj hm2
    rcases List.mem_append.1 hm2 with h | h
    ·exact hno j hj h
    ·simp at h; subst h; exact hr1
  ·
   have hr0 := hc0
   try simp only [sq1,sq2,sq3,sq4,sq5,sq6,sq7,sq8,sq9,sq0] at hc0
   obtain ⟨_, hall⟩ := hF hr0
   refine WC.exit ?_
   refine thenQ_e ?_
   refine thenQ_e ?_
   refine blockQ_hit ?_
   refine thenQ_n (hK3 _ _ ?_)
   refine WC.seq (fun K11 hK11 => ?_)
   refine WC.region ?_
   refine WL.op rfl (opW.assignB rfl ?_)
   refine WL.nil ?_
   refine thenQ_n (hK11 _ _ ?_)
   refine WC.ret ?_
   refine bodyQ_ret (.tmpB rfl .nil) ?_
   have hRM := hS.rng (by repeat constructor)
   obtain ⟨es, c, _, hmi⟩ := hRM.map
   exact ⟨congrArg Value.bool (conf_all hu2 hmi.2.2 fun i hi => hno i hi (hall i hi)).symm, hS.old⟩

theorem ptrAdd_zero (v : Value) (i s : Nat) : ptrAdd (elemP v i s) 0 = elemP v i s := by
 unfold elemP
 split <;> simp [ptrAdd, undef]

/-- none conflicts with one ahead -/
def NoConf (xs : List TX) : Prop := ∀ (i j : Nat) (hi : i < xs.length) (hj : j < i), confB xs[i].r (xs[j]'(Nat.lt_trans hj hi)).r = false
theorem conf_no {a b : List Role} (h : confB a b = false) {ρ σ : Role} (h1 : ρ ∈ a) (h2 : σ ∈ b) (hk : ρ.key = σ.key) : ρ.writes = false ∧ σ.writes = false := by
 have h3 := List.any_eq_false.1 h ρ h1
 rw [Bool.not_eq_true] at h3
 have h4 := List.any_eq_false.1 h3 σ h2
 rw [Bool.not_eq_true, decide_eq_true hk, Bool.true_and] at h4
 exact Bool.or_eq_false_iff.1 h4
theorem conf_wr {a b : List Role} (h : confB a b = false) {σ : Role} (h2 : σ ∈ b) : σ.key ∉ wrL a := by
 intro hm
 unfold wrL at hm
 obtain ⟨ρ, h3, h4⟩ := List.mem_map.1 hm
 obtain ⟨h5, h6⟩ := List.mem_filter.1 h3
 have := (conf_no h h5 h2 h4).1
 rw [h6] at this; cases this
theorem conf_wl {a b : List Role} (h : confB a b = false) {ρ : Role} (h2 : ρ ∈ a) : ρ.key ∉ wrL b := by
 intro hm
 unfold wrL at hm
 obtain ⟨σ, h3, h4⟩ := List.mem_map.1 hm
 obtain ⟨h5, h6⟩ := List.mem_filter.1 h3
 have := (conf_no h h2 h5 h4.symm).2
 rw [h6] at this; cases this
theorem wr_role {r : List Role} {k : Key} (h : k ∈ wrL r) : ∃ ρ ∈ r, ρ.key = k := by
 unfold wrL at h
 obtain ⟨ρ, h3, h4⟩ := List.mem_map.1 h
 exact ⟨ρ, (List.mem_filter.1 h3).1, h4⟩
theorem NoConf.any {xs : List TX} (h : NoConf xs) {i j : Nat} (hi : i < xs.length) (hj : j < xs.length) (hne : i ≠ j) {k : Key} (hk : k ∈ wrL xs[i].r) : k ∉ wrL xs[j].r := by
 obtain ⟨ρ, h1, rfl⟩ := wr_role hk
 rcases Nat.lt_or_gt_of_ne hne with hlt | hlt
 ·exact fun hm => conf_wl (h j i hj hlt) (wr_role hm).choose_spec.1 ((wr_role hm).choose_spec.2.symm ▸ hk)
 ·exact conf_wl (h i j hi hlt) h1
theorem dAt_get {d : StD} {xs : List TX} (hok : StOk d) (hw : okS d) {k : Key} : ∀ {i : Nat}, (∀ j (hj : j < xs.length), j < i → k ∉ wrL xs[j].r) → (dAt d xs i).get k = d.get k
 | 0, _ => by rw [dAt_0]
 | i + 1, h => by
  have ih := dAt_get (xs := xs) hok hw (i := i) (k := k) (fun j hj hlt => h j hj (by omega))
  by_cases hi : i < xs.length
  ·rw [dAt_step hi, nextF_get (dAt_ok hok hw i).1 (h i hi (Nat.lt_succ_self i)), ih]
  ·have : dAt d xs (i + 1) = dAt d xs i := by
    unfold dAt; rw [List.take_of_length_le (by omega), List.take_of_length_le (by omega)]
   rw [this, ih]
/-- what a transaction reads is as if those ahead were not -/
theorem load_apart {d : StD} {xs : List TX} (hok : StOk d) (hw : okS d) (h : NoConf xs) {j : Nat} (hj : j < xs.length) : loadA (dAt d xs j) xs[j].r = loadA d xs[j].r := by
 unfold loadA
 refine List.map_congr_left fun ρ hρ => dAt_get hok hw fun i hi hlt hm => ?_
 exact conf_wl (h j i hj hlt) hρ hm
theorem errF_load {d d' : StD} {x : TX} (h : loadA d x.r = loadA d' x.r) : errF d x = errF d' x := by unfold errF TX.l; rw [h]
theorem chF_load {d d' : StD} {x : TX} (h : loadA d x.r = loadA d' x.r) : chF d x = chF d' x := by unfold chF TX.l; rw [h]
theorem OcIs_load {d d' : StD} {x : TX} {o : Outcome} {ch : List Holding} (h : loadA d x.r = loadA d' x.r) (ho : OcIs d x o ch) : OcIs d' x o ch := by
 unfold OcIs TX.l at *; rw [errF_load h, chF_load h, h] at ho; exact ho
theorem errF_pay {d : StD} {x : TX} (h : payB x.R.fee x.r (loadA d x.r) = true) : errF d x = 0 ∨ errF d x = 1 := by
 unfold errF
 rw [if_neg (by rw [h]; decide)]
 split
 ·exact .inr rfl
 ·exact .inl rfl
theorem errF_zero {d : StD} {x : TX} (h : errF d x = 0) : payB x.R.fee x.r (loadA d x.r) = true ∧ badArg x.r (x.l d) x.ins = false := by
 unfold errF at h
 split at h
 ·cases h
 ·next h1 =>
  split at h
  ·cases h
  ·next h2 => exact ⟨by simpa using h1, by simpa using h2⟩
def keysC (ch : List Holding) : List Key := ch.map Holding.key
theorem putsF_hit {k : Key} : ∀ {ch : List Holding} {d d' : StD}, StOk d → StOk d' → k ∈ keysC ch → (putsF d ch).get k = (putsF d' ch).get k
 | h :: ch, d, d', hd, hd', hk => by
  have e1 : putsF d (h :: ch) = putsF (d.put h.key h.account) ch := rfl
  have e2 : putsF d' (h :: ch) = putsF (d'.put h.key h.account) ch := rfl
  rw [e1, e2]
  by_cases hm : k ∈ keysC ch
  ·exact putsF_hit (hd.put _ _) (hd'.put _ _) hm
  ·have hx : k = h.key := by
    rcases List.mem_cons.1 hk with h | h
    ·exact h
    ·exact absurd h hm
   have hn : ∀ y ∈ ch, y.key ≠ k := fun y hy e => hm (List.mem_map.2 ⟨y, hy, e⟩)
   rw [putsF_get (hd.put _ _) hn, putsF_get (hd'.put _ _) hn, StD.get_put hd, StD.get_put hd', if_pos hx, if_pos hx]
theorem keysC_wr {d : StD} {x : TX} {k : Key} (h : k ∈ keysC (chF d x)) : k ∈ wrL x.r := by
 obtain ⟨y, hy, rfl⟩ := List.mem_map.1 h
 exact chF_key hy
/-- behind all, a key that one of them changes has what that one gave it -/
theorem dAt_hit {d : StD} {xs : List TX} (hok : StOk d) (hw : okS d) (h : NoConf xs) (hz : ∀ j (hj : j < xs.length), errF (dAt d xs j) xs[j] = 0) {j : Nat} (hj : j < xs.length) {k : Key} (hk : k ∈ keysC (chF d xs[j])) : ∀ {i : Nat}, j < i → (dAt d xs i).get k = (putsF d (chF d xs[j])).get k
 | 0, hlt => absurd hlt (Nat.not_lt_zero _)
 | i + 1, hlt => by
  by_cases hi : i < xs.length
  ·rw [dAt_step hi]
   by_cases he : i = j
   ·subst he
    have hl := load_apart hok hw h hi
    rw [show nextF (dAt d xs i) xs[i] = putsF (dAt d xs i) (chF (dAt d xs i) xs[i]) from if_pos (hz i hi), chF_load hl]
    exact putsF_hit (dAt_ok hok hw i).1 hok hk
   ·rw [nextF_get (dAt_ok hok hw i).1 (h.any hj hi (fun e => he e.symm) (keysC_wr hk))]
    exact dAt_hit hok hw h hz hj hk (by omega)
  ·have : dAt d xs (i + 1) = dAt d xs i := by
    unfold dAt; rw [List.take_of_length_le (by omega), List.take_of_length_le (by omega)]
   rw [this]
   exact dAt_hit hok hw h hz hj hk (by omega)
theorem dAt_miss {d : StD} {xs : List TX} (hok : StOk d) (hw : okS d) (h : NoConf xs) {k : Key} (hk : ∀ j (hj : j < xs.length), k ∉ keysC (chF d xs[j])) : ∀ {i : Nat}, (dAt d xs i).get k = d.get k
 | 0 => by rw [dAt_0]
 | i + 1 => by
  by_cases hi : i < xs.length
  ·rw [dAt_step hi]
   have ih := dAt_miss hok hw h hk (i := i)
   unfold nextF
   split
   ·rw [chF_load (load_apart hok hw h hi), putsF_get (dAt_ok hok hw i).1 (fun y hy e => hk i hi (List.mem_map.2 ⟨y, hy, e⟩))]
    exact ih
   ·exact ih
  ·have : dAt d xs (i + 1) = dAt d xs i := by
    unfold dAt; rw [List.take_of_length_le (by omega), List.take_of_length_le (by omega)]
   rw [this]; exact dAt_miss hok hw h hk
/-- what some of them, committed in any order, leave -/
structure ComIs (d : StD) (xs : List TX) (e : StD) (J : Nat → Prop) : Prop where
 ok : StOk e
 hit : ∀ k j (hj : j < xs.length), J j → k ∈ keysC (chF d xs[j]) → e.get k = (dAt d xs xs.length).get k
 miss : ∀ k, (∀ j (hj : j < xs.length), J j → k ∉ keysC (chF d xs[j])) → e.get k = d.get k
theorem ComIs.start {d e : StD} {xs : List TX} (hok : StOk e) (h : ∀ k, e.get k = d.get k) : ComIs d xs e (fun _ => False) :=
 ⟨hok, fun _ _ _ h => h.elim, fun k _ => h k⟩
theorem ComIs.step {d e : StD} {xs : List TX} {J J' : Nat → Prop} (hc : ComIs d xs e J) (hok : StOk d) (hw : okS d) (h : NoConf xs) (hz : ∀ j (hj : j < xs.length), errF (dAt d xs j) xs[j] = 0) {j : Nat} (hj : j < xs.length) (hJ : ∀ i, J' i ↔ J i ∨ i = j) : ComIs d xs (putsF e (chF d xs[j])) J' := by
 refine ⟨putsF_ok hc.ok _, fun k i hi hji hk => ?_, fun k hk => ?_⟩
 ·by_cases hm : k ∈ keysC (chF d xs[j])
  ·rw [putsF_hit hc.ok hok hm, dAt_hit hok hw h hz hj hm (by omega)]
  ·rw [putsF_get hc.ok (fun y hy e => hm (List.mem_map.2 ⟨y, hy, e⟩))]
   rcases (hJ i).1 hji with h1 | rfl
   ·exact hc.hit k i hi h1 hk
   ·exact absurd hk hm
 ·rw [putsF_get hc.ok (fun y hy e => hk j hj ((hJ j).2 (.inr rfl)) (List.mem_map.2 ⟨y, hy, e⟩))]
  exact hc.miss k fun i hi h1 => hk i hi ((hJ i).2 (.inl h1))
theorem ComIs.all {d e : StD} {xs : List TX} {J : Nat → Prop} (hc : ComIs d xs e J) (hok : StOk d) (hw : okS d) (h : NoConf xs) (hJ : ∀ j, j < xs.length → J j) (k : Key) : (dAt d xs xs.length).get k = e.get k := by
 by_cases hx : ∃ j, ∃ hj : j < xs.length, k ∈ keysC (chF d xs[j])
 ·obtain ⟨j, hj, hk⟩ := hx
  exact (hc.hit k j hj (hJ j hj) hk).symm
 ·have hx2 : ∀ j (hj : j < xs.length), k ∉ keysC (chF d xs[j]) := fun j hj hk => hx ⟨j, hj, hk⟩
  rw [dAt_miss hok hw h hx2, hc.miss k fun j hj _ => hx2 j hj]
/-- the first i places of a turned order -/
def RotJ (n a i : Nat) (j : Nat) : Prop := ∃ i', i' < i ∧ (i' + a) % n = j
theorem RotJ.step {n a i : Nat} (j : Nat) : RotJ n a (i + 1) j ↔ RotJ n a i j ∨ j = (i + a) % n := by
 constructor
 ·rintro ⟨i', h1, h2⟩
  rcases Nat.lt_or_ge i' i with h | h
  ·exact .inl ⟨i', h, h2⟩
  ·obtain rfl : i' = i := by omega
   exact .inr h2.symm
 ·rintro (⟨i', h1, h2⟩ | rfl)
  ·exact ⟨i', by omega, h2⟩
  ·exact ⟨i, by omega, rfl⟩
theorem RotJ.all {n a j : Nat} (hj : j < n) : RotJ n a n j := by
 refine ⟨(j + (n - a % n)) % n, Nat.mod_lt _ (by omega), ?_⟩
 have h1 := Nat.mod_lt a (show 0 < n by omega)
 rw [Nat.add_mod, Nat.mod_mod, ← Nat.add_mod, Nat.add_assoc, show j + (n - a % n + a) = j + n * (a / n + 1) by
  have := Nat.div_add_mod a n
  rw [Nat.mul_add, Nat.mul_one]; omega, Nat.add_mul_mod_self_left, Nat.mod_eq_of_lt hj]
/-- the same from the end -/
def RevJ (n a i : Nat) (j : Nat) : Prop := ∃ i', i' < i ∧ (n - 1 - i' + a) % n = j
theorem RevJ.step {n a i : Nat} (j : Nat) : RevJ n a (i + 1) j ↔ RevJ n a i j ∨ j = (n - 1 - i + a) % n := by
 constructor
 ·rintro ⟨i', h1, h2⟩
  rcases Nat.lt_or_ge i' i with h | h
  ·exact .inl ⟨i', h, h2⟩
  ·obtain rfl : i' = i := by omega
   exact .inr h2.symm
 ·rintro (⟨i', h1, h2⟩ | rfl)
  ·exact ⟨i', by omega, h2⟩
  ·exact ⟨i, by omega, rfl⟩
theorem RevJ.all {n a j : Nat} (hj : j < n) : RevJ n a n j := by
 obtain ⟨i', h1, h2⟩ := RotJ.all (a := a) hj
 exact ⟨n - 1 - i', by omega, by rw [show n - 1 - (n - 1 - i') = i' by omega]; exact h2⟩
/-- one of many entries, another one in its place -/
theorem St.setE {w0 w : World} {L S : List Ent} {e : Ent} {k : Nat} (h : St w0 (starE L :: e :: S) w) : St w0 (starE (L.set k e) :: S) w := by
 have h2 := h.opened
 refine St.closed ?_
 by_cases hk : k < L.length
 ·have h3 : St w0 (e :: (L ++ S)) w := h2.perm List.perm_middle
  have h4 : St w0 (e :: ((L.take k ++ L.drop (k + 1)) ++ S)) w := h3.sub (List.Sublist.cons₂ e (List.Sublist.append_right (by
   conv => rhs; rw [← List.take_append_drop k L]
   exact List.Sublist.append_left (by rw [← List.drop_drop]; exact List.drop_sublist _ _) _) S))
  refine h4.perm ?_
  rw [List.set_eq_take_append_cons_drop, if_pos hk]
  simp only [List.append_assoc, List.cons_append]
  exact List.perm_middle.symm
 ·rw [List.set_eq_of_length_le (by omega)]
  exact h2.sub (List.Sublist.append_left (List.sublist_cons_self _ _) _)
theorem St.repE {w0 w : World} {S : List Ent} {e : Ent} (he : ∀ {S : List Ent}, St w0 S w → St w0 (e :: S) w) : ∀ (n : Nat), St w0 S w → St w0 (starE (List.replicate n e) :: S) w := by
 intro n h
 refine St.closed ?_
 induction n with
 | zero => exact h
 | succ n ih => rw [List.replicate_succ]; exact he ih
theorem St.ochSet {w0 w : World} {S : List Ent} {ps : List (Outcome × List Holding)} {o : Outcome} {ch : List Holding} {k : Nat} (h : St w0 (ochE ps :: ownE o.changed.v 66 ch :: S) w) : St w0 (ochE (ps.set k (o, ch)) :: S) w := by
 unfold ochE at h ⊢
 rw [List.map_set]
 exact h.setE
theorem St.ochRep {w0 w : World} {S : List Ent} (n : Nat) (h : St w0 S w) : St w0 (ochE (List.replicate n (oz, [])) :: S) w := by
 unfold ochE
 rw [List.map_replicate]
 exact St.repE (fun h => h.nilOwn (α := Holding) 66) n h
/-- lists of accounts, each with its own memory -/
@[irreducible] def accE (qs : List (SlV × List Account)) : Ent := starE (qs.map fun x => ownE x.1.v 64 x.2)
theorem St.accSet {w0 w : World} {S : List Ent} {qs : List (SlV × List Account)} {s : SlV} {l : List Account} {k : Nat} (h : St w0 (accE qs :: ownE s.v 64 l :: S) w) : St w0 (accE (qs.set k (s, l)) :: S) w := by
 unfold accE at h ⊢
 rw [List.map_set]
 exact h.setE
theorem St.accRep {w0 w : World} {S : List Ent} (n : Nat) (h : St w0 S w) : St w0 (accE (List.replicate n (⟨none, 0, 0⟩, [])) :: S) w := by
 unfold accE
 rw [List.map_replicate]
 exact St.repE (fun h => h.nilOwn (α := Account) 64) n h
theorem St.acc {w0 w : World} {S : List Ent} {qs : List (SlV × List Account)} (h : St w0 S w) (he : Has (accE qs) S) {j : Nat} (hj : j < qs.length) : SlR w qs[j].1.v qs[j].2 := by
 have h1 := h.get he
 unfold accE at h1
 rw [starE_A] at h1
 have h2 := h1.2 (ownE qs[j].1.v 64 qs[j].2) (List.mem_map.2 ⟨qs[j], List.getElem_mem hj, rfl⟩)
 rw [ownE_A] at h2
 exact OwnB.sl h2
/-- who is free: none conflicts, each can pay -/
structure FrOk (w : World) (d : StD) (fs : List TX) : Prop where
 no : NoConf fs
 pay : ∀ x ∈ fs, payB x.R.fee x.r (loadA d x.r) = true
 ok : ∀ x ∈ fs, TXOk w x
theorem FrOk.nil (w : World) (d : StD) : FrOk w d [] := ⟨fun i j hi _ => absurd hi (Nat.not_lt_zero _), fun x h => (by cases h), fun x h => (by cases h)⟩
theorem FrOk.add {w : World} {d : StD} {fs : List TX} {x : TX} (h : FrOk w d fs) (hn : NoConf (fs ++ [x])) (hp : payB x.R.fee x.r (loadA d x.r) = true) (ho : TXOk w x) : FrOk w d (fs ++ [x]) := by
 refine ⟨hn, fun y hy => ?_, fun y hy => ?_⟩
 ·rcases List.mem_append.1 hy with hy | hy
  ·exact h.pay y hy
  ·rw [List.mem_singleton.1 hy]; exact hp
 ·rcases List.mem_append.1 hy with hy | hy
  ·exact h.ok y hy
  ·rw [List.mem_singleton.1 hy]; exact ho
theorem FrOk.stop {w : World} {d : StD} {fs : List TX} (h : FrOk w d fs) (hok : StOk d) (hw : okS d) {k : Nat} {ps : List (Outcome × List Holding)} {e : Int} (hF : FoldIs d fs k ps e) (he : e ≠ 0) : e = 1 := by
 obtain ⟨hk, h1, _⟩ := hF.fin.resolve_left (fun h => he h.2)
 rw [errF_load (load_apart hok hw h.no hk)] at h1
 rcases errF_pay (h.pay _ (List.getElem_mem hk)) with h2 | h2
 ·exact absurd (h1.trans h2) he
 ·exact h1.trans h2
theorem FoldIs.whole {d : StD} {fs : List TX} {k : Nat} {ps : List (Outcome × List Holding)} (hF : FoldIs d fs k ps 0) : k = fs.length := by
 rcases hF.fin with ⟨h, _⟩ | ⟨_, _, h⟩
 ·exact h
 ·exact absurd rfl h
theorem FoldIs.zero {d : StD} {fs : List TX} {ps : List (Outcome × List Holding)} {e : Int} (hF : FoldIs d fs fs.length ps e) (j : Nat) (hj : j < fs.length) : errF (dAt d fs j) fs[j] = 0 := (hF.out j (by rw [hF.len]; exact hj) hj).2

theorem load_tx (wb w0 : World) (S : List Ent) (p : Nat) (d : StD) (x : TX) (hok : StOk d) (hsok : okS d) (hx : ∀ w, St wb S w → TXOk w x) (hS0 : St wb (stE p d :: S) w0) :
  Ret Tryd.prog 16 #[.pointer (some ⟨p, 0, none⟩), .agg (Enc.enc x.R)] w0 (fun u w' => ∃ (sl : SlV) (e1 : Int) (ll : List Account), u = .tuple #[sl.v, .int .i64 e1] ∧ ((payB x.R.fee x.r (loadA d x.r) = false ∧ e1 = 22) ∨ (payB x.R.fee x.r (loadA d x.r) = true ∧ e1 = 0 ∧ ll = x.l d)) ∧ St wb (ownE sl.v 64 ll :: stE p d :: S) w') := by
 refine (load15 wb w0 S p d x.R x.r hok hsok (fun w hS => (hx w hS).ro) (hx _ (hS0.sub (List.sublist_cons_self _ _))).rb hS0).mono ?_
 rintro u w ⟨d2, hdd, hok2, hL⟩
 rw [hdd] at hok2 hL
 clear hdd
 rcases hL with ⟨h1, rfl, hS⟩ | ⟨h1, sv, rfl, hS⟩
 ·exact ⟨⟨none, 0, 0⟩, 22, [], rfl, .inl ⟨h1, rfl⟩, hS.nilOwn 64⟩
 ·exact ⟨sv, 0, _, rfl, .inr ⟨h1, rfl, rfl⟩, hS⟩

theorem apart17 (w0 : World) (v : Value) (xs : List TX) (hv : SlR w0 v (xs.map TX.R)) (hxl : xs.length ≤ 1000) (hro : ∀ x ∈ xs, SlR w0 x.R.roles.v x.r ∧ x.r.length ≤ 1000) : Ret Tryd.prog 17 #[v] w0 (fun u w' => ∃ b, u = .bool b ∧ (b = true → NoConf xs) ∧ Bel w0 w') := by
 refine Ret.enter (args := [v]) Tryd.func17 rfl Tryd.ntmps17 Tryd.results17 rfl ?_
 have hS := St.start w0
 have hml : (xs.map TX.R).length = xs.length := List.length_map _
 refine WC.seq (fun K1 hK1 => ?_)
 refine WC.region ?_
 refine WL.op rfl (opW.assignB rfl ?_)
 refine WL.nil ?_
 refine thenQ_n (hK1 _ _ ?_)
 refine WC.seq (fun K2 hK2 => ?_)
 refine WC.seq (fun K3 hK3 => ?_)
 refine WC.region ?_
 refine WL.op rfl (opW.assignI rfl ?_)
 refine WL.nil ?_
 refine thenQ_n (hK3 _ _ ?_)
 refine WC.block ?_
 refine WC.loop (fun m f w => ∃ (i : Nat), Fits [(0, v), (3, .int .i64 (i : Int))] f ∧ St w0 [] w ∧ (∀ (a b : Nat) (ha : a < xs.length) (hb : b < a), a < i → confB xs[a].r (xs[b]'(Nat.lt_trans hb ha)).r = false) ∧ i ≤ xs.length ∧ m = xs.length - i) (xs.length) ?_ ?_
 ·
  exact ⟨0, ⟨rfl, rfl, trivial⟩, hS, fun a b ha hb h => absurd h (Nat.not_lt_zero _), Nat.zero_le _, rfl⟩
 ·
  rintro m f w ⟨i, hfit, hS, hall, hi0, hm⟩
  refine WC.fits _ hfit (fun g => ?_)
  clear hfit
  refine WC.seq (fun K4 hK4 => ?_)
  refine WC.seq (fun K5 hK5 => ?_)
  refine WC.region ?_
  refine WL.op rfl (opW.moveI rfl ?_)
  refine WL.op rfl (opW.moveV (v := v) rfl ?_)
  refine WL.op rfl (opW.lenV rfl ((hv.bel hS.old)) ?_)
  refine WL.op rfl (opW.lss rfl rfl ?_)
  refine WL.nil ?_
  refine thenQ_n (hK5 _ _ ?_)
  refine WC.cond _ rfl (fun hc0 => ?_) (fun hc0 => ?_)
  ·
   have hr0 := hc0
   try simp only [sq1,sq2,sq3,sq4,sq5,sq6,sq7,sq8,sq9,sq0] at hc0
   have hix : i < xs.length := by omega
   have him : i < (xs.map TX.R).length := by omega
   refine WC.skip ?_
   refine thenQ_n (hK4 _ _ ?_)
   refine WC.seq (fun K6 hK6 => ?_)
   refine WC.block ?_
   refine WC.seq (fun K7 hK7 => ?_)
   refine WC.seq (fun K8 hK8 => ?_)
   refine WC.region ?_
   refine WL.op rfl (opW.assignI rfl ?_)
   refine WL.nil ?_
   refine thenQ_n (hK8 _ _ ?_)
   refine WC.block ?_
   refine WC.loop (fun q f w => ∃ (k : Nat), Fits [(0, v), (3, .int .i64 (i : Int)), (4, .int .i64 (k : Int))] f ∧ St w0 [] w ∧ (∀ (b : Nat) (hb : b < i), b < k → confB xs[i].r (xs[b]'(Nat.lt_trans hb hix)).r = false) ∧ k ≤ i ∧ q = i - k) (i) ?_ ?_
   ·
    exact ⟨0, ⟨rfl, rfl, rfl, trivial⟩, hS, fun b hb h => absurd h (Nat.not_lt_zero _), Nat.zero_le _, rfl⟩
   ·
    rintro q f w ⟨k, hfit, hS, hin, hk0, hm2⟩
    refine WC.fits _ hfit (fun g => ?_)
    clear hfit
    refine WC.seq (fun K9 hK9 => ?_)
    refine WC.seq (fun K10 hK10 => ?_)
    refine WC.region ?_
    refine WL.op rfl (opW.moveI rfl ?_)
    refine WL.op rfl (opW.moveI rfl ?_)
    refine WL.op rfl (opW.lss rfl rfl ?_)
    refine WL.nil ?_
    refine thenQ_n (hK10 _ _ ?_)
    refine WC.cond _ rfl (fun hc1 => ?_) (fun hc1 => ?_)
    ·
     have hr1 := hc1
     try simp only [sq1,sq2,sq3,sq4,sq5,sq6,sq7,sq8,sq9,sq0] at hc1
     have hki : k < i := by omega
     have hkx : k < xs.length := by omega
     have hkm : k < (xs.map TX.R).length := by omega
     refine WC.skip ?_
     refine thenQ_n (hK9 _ _ ?_)
     refine WC.seq (fun K11 hK11 => ?_)
     refine WC.block ?_
     refine WC.seq (fun K12 hK12 => ?_)
     refine WC.draw 11 (.look 0 (.look 1 (.look 2 (.look 3 (.look 4 (.look 5 (.look 6 (.look 7 (.look 8 (.look 9 (.one 10 .nil))))))))))) (by kernel_rfl) (fun _ _ _ h => h) (fun w1 hw1 => ?_)
     replace hS := hS.bel hw1
     have hS1 := hS
     have hT := St.start w1
     refine ML.look rfl rfl rfl (fun w hw => (by have hS := hS1.bel hw; exact opW.moveV (v := v) rfl ⟨rfl, rfl⟩)) ?_
     refine ML.look rfl rfl rfl (fun w hw => (by have hS := hS1.bel hw; exact opW.moveI rfl ⟨rfl, rfl⟩)) ?_
     refine ML.look rfl rfl rfl (fun w hw => (by have hS := hS1.bel hw; exact opW.idxV rfl ((hv.bel hS.old)) rfl (by omega) ⟨rfl, rfl⟩)) ?_
     refine ML.look rfl rfl rfl (fun w hw => (by have hS := hS1.bel hw; exact opW.fieldAddr rfl ((hv.bel hS.old).isP him) ⟨rfl, rfl⟩)) ?_
     refine ML.look rfl rfl rfl (fun w hw => (by have hS := hS1.bel hw; exact opW.loadV rfl ((Ld.pt1 ((hv.bel hS.old).isPt him) 41 (Ready.at_roles _)).val (by rw [List.getElem_map])) ⟨rfl, rfl⟩)) ?_
     refine ML.look rfl rfl rfl (fun w hw => (by have hS := hS1.bel hw; exact opW.moveV (v := v) rfl ⟨rfl, rfl⟩)) ?_
     refine ML.look rfl rfl rfl (fun w hw => (by have hS := hS1.bel hw; exact opW.moveI rfl ⟨rfl, rfl⟩)) ?_
     refine ML.look rfl rfl rfl (fun w hw => (by have hS := hS1.bel hw; exact opW.idxV rfl ((hv.bel hS.old)) rfl (by omega) ⟨rfl, rfl⟩)) ?_
     refine ML.look rfl rfl rfl (fun w hw => (by have hS := hS1.bel hw; exact opW.fieldAddr rfl ((hv.bel hS.old).isP hkm) ⟨rfl, rfl⟩)) ?_
     refine ML.look rfl rfl rfl (fun w hw => (by have hS := hS1.bel hw; exact opW.loadV rfl ((Ld.pt1 ((hv.bel hS.old).isPt hkm) 41 (Ready.at_roles _)).val (by rw [List.getElem_map])) ⟨rfl, rfl⟩)) ?_
     refine ML.one rfl rfl rfl (opW.call (conflict_ok _ _ _ xs[i].r xs[k].r ((hro xs[i] (List.getElem_mem hix)).1.bel hS.old) ((hro xs[k] (List.getElem_mem hkx)).1.bel hS.old)) rfl ?_)
     rintro _ w ⟨rfl, hw⟩; replace hT := hT.bel hw
     refine ⟨hT.old, ?_⟩
     have hS := hS1.merge hT
     try simp only [List.cons_append, List.nil_append] at hS
     refine ML.nil ?_
     refine thenQ_n (hK12 _ _ ?_)
     refine WC.cond _ rfl (fun hc2 => ?_) (fun hc2 => ?_)
     ·
      have hr2 := hc2
      try simp only [sq1,sq2,sq3,sq4,sq5,sq6,sq7,sq8,sq9,sq0] at hc2
      refine WC.seq (fun K13 hK13 => ?_)
      refine WC.region ?_
      refine WL.op rfl (opW.assignB rfl ?_)
      refine WL.nil ?_
      refine thenQ_n (hK13 _ _ ?_)
      refine WC.ret ?_
      refine blockQ_r ?_
      refine thenQ_r ?_
      refine thenQ_r ?_
      refine blockQ_r ?_
      refine thenQ_r ?_
      refine blockQ_r ?_
      refine thenQ_r ?_
      refine thenQ_r ?_
      refine blockQ_r ?_
      refine thenQ_r ?_
      refine bodyQ_ret (.tmpB rfl .nil) ?_
      exact ⟨false, rfl, (fun h => by cases h), hS.old⟩
     ·
      have hr2 := hc2
      try simp only [sq1,sq2,sq3,sq4,sq5,sq6,sq7,sq8,sq9,sq0] at hc2
      have hcf : confB xs[i].r xs[k].r = false := by simpa using hr2
      refine WC.skip ?_
      refine blockQ_n ?_
      refine thenQ_n (hK11 _ _ ?_)
      refine WC.region ?_
      refine WL.op rfl (opW.moveI rfl ?_)
      refine WL.op rfl (opW.add rfl rfl (wrap_i64 (by omega)) ?_)
      refine WL.op rfl (opW.assignI rfl ?_)
      refine WL.nil ?_
      refine thenQ_n ?_
      exact ⟨i - (k + 1), by omega, k + 1, ⟨rfl, rfl, congrArg (Value.int .i64) (by omega), trivial⟩, hS.sub (by repeat with_reducible first | exact su1 _ | exact su2 _ | refine su3 ?_ | refine su4 ?_), (fun b hb h => by
       rcases Nat.lt_or_ge b k with h1 | h1
       ·exact hin b hb h1
       ·obtain rfl : b = k := by omega
        exact hcf), by omega, rfl⟩
    ·
     have hr1 := hc1
     try simp only [sq1,sq2,sq3,sq4,sq5,sq6,sq7,sq8,sq9,sq0] at hc1
     have hkie : k = i := by omega
     refine WC.exit ?_
     refine thenQ_e ?_
     refine thenQ_e ?_
     refine blockQ_hit ?_
     refine thenQ_n (hK7 _ _ ?_)
     refine WC.seq (fun K14 hK14 => ?_)
     refine WC.region ?_
     refine WL.op rfl (opW.assignI rfl ?_)
     refine WL.nil ?_
     refine thenQ_n (hK14 _ _ ?_)
     refine WC.block ?_
     refine WC.loop (fun q f w => ∃ (a : Nat), Fits [(0, v), (3, .int .i64 (i : Int)), (5, .int .i64 (a : Int))] f ∧ St w0 [] w ∧ a ≤ xs[i].r.length ∧ q = xs[i].r.length - a) (xs[i].r.length) ?_ ?_
     ·
      exact ⟨0, ⟨rfl, rfl, rfl, trivial⟩, hS, Nat.zero_le _, rfl⟩
     ·
      rintro q f w ⟨a, hfit, hS, ha0, hm3⟩
      refine WC.fits _ hfit (fun g => ?_)
      clear hfit
      refine WC.seq (fun K15 hK15 => ?_)
      refine WC.seq (fun K16 hK16 => ?_)
      refine WC.region ?_
      refine WL.op rfl (opW.moveI rfl ?_)
      refine WL.op rfl (opW.moveV (v := v) rfl ?_)
      refine WL.op rfl (opW.moveI rfl ?_)
      refine WL.op rfl (opW.idxV rfl ((hv.bel hS.old)) rfl (by omega) ?_)
      refine WL.op rfl (opW.fieldAddr rfl ((hv.bel hS.old).isP him) ?_)
      refine WL.op rfl (opW.loadV rfl ((Ld.pt1 ((hv.bel hS.old).isPt him) 41 (Ready.at_roles _)).val (by rw [List.getElem_map])) ?_)
      refine WL.op rfl (opW.lenV rfl (((hro xs[i] (List.getElem_mem hix)).1.bel hS.old)) ?_)
      refine WL.op rfl (opW.lss rfl rfl ?_)
      refine WL.nil ?_
      refine thenQ_n (hK16 _ _ ?_)
      refine WC.cond _ rfl (fun hc3 => ?_) (fun hc3 => ?_)
      ·
       have hr3 := hc3
       try simp only [sq1,sq2,sq3,sq4,sq5,sq6,sq7,sq8,sq9,sq0] at hc3
       have hai : a < xs[i].r.length := by omega
       have hrl := (hro xs[i] (List.getElem_mem hix)).2
       refine WC.skip ?_
       refine thenQ_n (hK15 _ _ ?_)
       refine WC.seq (fun K17 hK17 => ?_)
       refine WC.block ?_
       refine WC.seq (fun K18 hK18 => ?_)
       refine WC.region ?_
       refine WL.op rfl (opW.assignI rfl ?_)
       refine WL.nil ?_
       refine thenQ_n (hK18 _ _ ?_)
       refine WC.block ?_
       refine WC.loop (fun s f w => ∃ (b : Nat), Fits [(0, v), (3, .int .i64 (i : Int)), (5, .int .i64 (a : Int)), (6, .int .i64 (b : Int))] f ∧ St w0 [] w ∧ b ≤ a ∧ s = a - b) (a) ?_ ?_
       ·
        exact ⟨0, ⟨rfl, rfl, rfl, rfl, trivial⟩, hS, Nat.zero_le _, rfl⟩
       ·
        rintro s f w ⟨b, hfit, hS, hb0, hm4⟩
        refine WC.fits _ hfit (fun g => ?_)
        clear hfit
        refine WC.seq (fun K19 hK19 => ?_)
        refine WC.seq (fun K20 hK20 => ?_)
        refine WC.region ?_
        refine WL.op rfl (opW.moveI rfl ?_)
        refine WL.op rfl (opW.moveI rfl ?_)
        refine WL.op rfl (opW.lss rfl rfl ?_)
        refine WL.nil ?_
        refine thenQ_n (hK20 _ _ ?_)
        refine WC.cond _ rfl (fun hc4 => ?_) (fun hc4 => ?_)
        ·
         have hr4 := hc4
         try simp only [sq1,sq2,sq3,sq4,sq5,sq6,sq7,sq8,sq9,sq0] at hc4
         have hba : b < a := by omega
         have hbi : b < xs[i].r.length := by omega
         refine WC.skip ?_
         refine thenQ_n (hK19 _ _ ?_)
         refine WC.seq (fun K21 hK21 => ?_)
         refine WC.block ?_
         refine WC.seq (fun K22 hK22 => ?_)
         refine WC.draw 19 (.look 0 (.look 1 (.look 2 (.look 3 (.look 4 (.look 5 (.look 6 (.look 7 (.look 8 (.look 9 (.look 10 (.look 11 (.look 12 (.look 13 (.look 14 (.look 15 (.look 16 (.look 17 (.look 18 .nil))))))))))))))))))) (by kernel_rfl) (fun _ _ _ h => h) (fun w1 hw1 => ?_)
         replace hS := hS.bel hw1
         have hS1 := hS
         have hT := St.start w1
         refine ML.look rfl rfl rfl (fun w hw => (by have hS := hS1.bel hw; exact opW.moveV (v := v) rfl ⟨rfl, rfl⟩)) ?_
         refine ML.look rfl rfl rfl (fun w hw => (by have hS := hS1.bel hw; exact opW.moveI rfl ⟨rfl, rfl⟩)) ?_
         refine ML.look rfl rfl rfl (fun w hw => (by have hS := hS1.bel hw; exact opW.idxV rfl ((hv.bel hS.old)) rfl (by omega) ⟨rfl, rfl⟩)) ?_
         refine ML.look rfl rfl rfl (fun w hw => (by have hS := hS1.bel hw; exact opW.fieldAddr rfl ((hv.bel hS.old).isP him) ⟨rfl, rfl⟩)) ?_
         refine ML.look rfl rfl rfl (fun w hw => (by have hS := hS1.bel hw; exact opW.loadV rfl ((Ld.pt1 ((hv.bel hS.old).isPt him) 41 (Ready.at_roles _)).val (by rw [List.getElem_map])) ⟨rfl, rfl⟩)) ?_
         refine ML.look rfl rfl rfl (fun w hw => (by have hS := hS1.bel hw; exact opW.moveI rfl ⟨rfl, rfl⟩)) ?_
         refine ML.look rfl rfl rfl (fun w hw => (by have hS := hS1.bel hw; exact opW.idxV rfl (((hro xs[i] (List.getElem_mem hix)).1.bel hS.old)) rfl (by omega) ⟨rfl, rfl⟩)) ?_
         refine ML.look rfl rfl rfl (fun w hw => (by have hS := hS1.bel hw; exact opW.fieldAddr rfl (((hro xs[i] (List.getElem_mem hix)).1.bel hS.old).isP hai) ⟨rfl, rfl⟩)) ?_
         refine ML.look rfl rfl rfl (fun w hw => (by have hS := hS1.bel hw; exact opW.loadV rfl (Ld.ptA (((hro xs[i] (List.getElem_mem hix)).1.bel hS.old).isPt hai) 0 (Role.ex_key _) (by rw [Enc.size_eq]; decide)) ⟨rfl, rfl⟩)) ?_
         refine ML.look rfl rfl rfl (fun w hw => (by have hS := hS1.bel hw; exact opW.moveV (v := v) rfl ⟨rfl, rfl⟩)) ?_
         refine ML.look rfl rfl rfl (fun w hw => (by have hS := hS1.bel hw; exact opW.moveI rfl ⟨rfl, rfl⟩)) ?_
         refine ML.look rfl rfl rfl (fun w hw => (by have hS := hS1.bel hw; exact opW.idxV rfl ((hv.bel hS.old)) rfl (by omega) ⟨rfl, rfl⟩)) ?_
         refine ML.look rfl rfl rfl (fun w hw => (by have hS := hS1.bel hw; exact opW.fieldAddr rfl ((hv.bel hS.old).isP him) ⟨rfl, rfl⟩)) ?_
         refine ML.look rfl rfl rfl (fun w hw => (by have hS := hS1.bel hw; exact opW.loadV rfl ((Ld.pt1 ((hv.bel hS.old).isPt him) 41 (Ready.at_roles _)).val (by rw [List.getElem_map])) ⟨rfl, rfl⟩)) ?_
         refine ML.look rfl rfl rfl (fun w hw => (by have hS := hS1.bel hw; exact opW.moveI rfl ⟨rfl, rfl⟩)) ?_
         refine ML.look rfl rfl rfl (fun w hw => (by have hS := hS1.bel hw; exact opW.idxV rfl (((hro xs[i] (List.getElem_mem hix)).1.bel hS.old)) rfl (by omega) ⟨rfl, rfl⟩)) ?_
         refine ML.look rfl rfl rfl (fun w hw => (by have hS := hS1.bel hw; exact opW.fieldAddr rfl (((hro xs[i] (List.getElem_mem hix)).1.bel hS.old).isP hbi) ⟨rfl, rfl⟩)) ?_
         refine ML.look rfl rfl rfl (fun w hw => (by have hS := hS1.bel hw; exact opW.loadV rfl (Ld.ptA (((hro xs[i] (List.getElem_mem hix)).1.bel hS.old).isPt hbi) 0 (Role.ex_key _) (by rw [Enc.size_eq]; decide)) ⟨rfl, rfl⟩)) ?_
         refine ML.look rfl rfl rfl (fun w hw => (by have hS := hS1.bel hw; exact opW.eqlE rfl rfl ⟨rfl, rfl⟩)) ?_
         refine ML.nil ?_
         refine thenQ_n (hK22 _ _ ?_)
         refine WC.cond _ rfl (fun hc5 => ?_) (fun hc5 => ?_)
         ·
          have hr5 := hc5
          try simp only [sq1,sq2,sq3,sq4,sq5,sq6,sq7,sq8,sq9,sq0] at hc5
          refine WC.seq (fun K23 hK23 => ?_)
          refine WC.region ?_
          refine WL.op rfl (opW.assignB rfl ?_)
          refine WL.nil ?_
          refine thenQ_n (hK23 _ _ ?_)
          refine WC.ret ?_
          refine blockQ_r ?_
          refine thenQ_r ?_
          refine thenQ_r ?_
          refine blockQ_r ?_
          refine blockQ_r ?_
          refine thenQ_r ?_
          refine thenQ_r ?_
          refine blockQ_r ?_
          refine blockQ_r ?_
          refine thenQ_r ?_
          refine thenQ_r ?_
          refine blockQ_r ?_
          refine thenQ_r ?_
          refine bodyQ_ret (.tmpB rfl .nil) ?_
          exact ⟨false, rfl, (fun h => by cases h), hS.old⟩
         ·
          have hr5 := hc5
          try simp only [sq1,sq2,sq3,sq4,sq5,sq6,sq7,sq8,sq9,sq0] at hc5
          refine WC.skip ?_
          refine blockQ_n ?_
          refine thenQ_n (hK21 _ _ ?_)
          refine WC.region ?_
          refine WL.op rfl (opW.moveI rfl ?_)
          refine WL.op rfl (opW.add rfl rfl (wrap_i64 (by omega)) ?_)
          refine WL.op rfl (opW.assignI rfl ?_)
          refine WL.nil ?_
          refine thenQ_n ?_
          exact ⟨a - (b + 1), by omega, b + 1, ⟨rfl, rfl, rfl, congrArg (Value.int .i64) (by omega), trivial⟩, hS.sub (by repeat with_reducible first | exact su1 _ | exact su2 _ | refine su3 ?_ | refine su4 ?_), by omega, rfl⟩
        ·
         have hr4 := hc4
         try simp only [sq1,sq2,sq3,sq4,sq5,sq6,sq7,sq8,sq9,sq0] at hc4
         refine WC.exit ?_
         refine thenQ_e ?_
         refine thenQ_e ?_
         refine blockQ_hit ?_
         refine blockQ_n ?_
         refine thenQ_n (hK17 _ _ ?_)
         refine WC.region ?_
         refine WL.op rfl (opW.moveI rfl ?_)
         refine WL.op rfl (opW.add rfl rfl (wrap_i64 (by omega)) ?_)
         refine WL.op rfl (opW.assignI rfl ?_)
         refine WL.nil ?_
         refine thenQ_n ?_
         exact ⟨xs[i].r.length - (a + 1), by omega, a + 1, ⟨rfl, rfl, congrArg (Value.int .i64) (by omega), trivial⟩, hS.sub (by repeat with_reducible first | exact su1 _ | exact su2 _ | refine su3 ?_ | refine su4 ?_), by omega, rfl⟩
      ·
       have hr3 := hc3
       try simp only [sq1,sq2,sq3,sq4,sq5,sq6,sq7,sq8,sq9,sq0] at hc3
       refine WC.exit ?_
       refine thenQ_e ?_
       refine thenQ_e ?_
       refine blockQ_hit ?_
       refine blockQ_n ?_
       refine thenQ_n (hK6 _ _ ?_)
       refine WC.region ?_
       refine WL.op rfl (opW.moveI rfl ?_)
       refine WL.op rfl (opW.add rfl rfl (wrap_i64 (by omega)) ?_)
       refine WL.op rfl (opW.assignI rfl ?_)
       refine WL.nil ?_
       refine thenQ_n ?_
       exact ⟨xs.length - (i + 1), by omega, i + 1, ⟨rfl, congrArg (Value.int .i64) (by omega), trivial⟩, hS.sub (by repeat with_reducible first | exact su1 _ | exact su2 _ | refine su3 ?_ | refine su4 ?_), (fun a b ha hb h => by
        rcases Nat.lt_or_ge a i with h1 | h1
        ·exact hall a b ha hb h1
        ·obtain rfl : a = i := by omega
         exact hin b hb (by omega)), by omega, rfl⟩
  ·
   have hr0 := hc0
   try simp only [sq1,sq2,sq3,sq4,sq5,sq6,sq7,sq8,sq9,sq0] at hc0
   refine WC.exit ?_
   refine thenQ_e ?_
   refine thenQ_e ?_
   refine blockQ_hit ?_
   refine thenQ_n (hK2 _ _ ?_)
   refine WC.seq (fun K24 hK24 => ?_)
   refine WC.region ?_
   refine WL.op rfl (opW.assignB rfl ?_)
   refine WL.nil ?_
   refine thenQ_n (hK24 _ _ ?_)
   refine WC.ret ?_
   refine bodyQ_ret (.tmpB rfl .nil) ?_
   exact ⟨true, rfl, (fun _ a b ha hb => hall a b ha hb (by omega)), hS.old⟩

end Go.Fer
