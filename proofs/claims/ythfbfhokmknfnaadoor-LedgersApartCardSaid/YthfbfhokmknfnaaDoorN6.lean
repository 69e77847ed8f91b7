/- copies of a store, the same accounts -/
import Derived.Test.YthfbfhokmknfnaaDoorN2
import Derived.Test.YthfbfhokmknfnaaDoorClones
set_option linter.all false
namespace Go.Fer
open Go Go.Proofs Go.RowKit

theorem cloneF16 : CloneF Tryd.prog 45 := ⟨Tryd.f45, Tryd.func45, by kernel_rfl, by kernel_rfl, by kernel_rfl, by kernel_rfl⟩

theorem mclone16 (w0 : World) (r : Nat) (L : List (Key × Account)) (hM : MapB w0 r accV L) : Ret Tryd.prog 26 #[.map (some r)] w0 (fun u w' => NewM w0 w' u accV L ∧ Bel w0 w') := by
 refine Ret.enter (args := [.map (some r)]) Tryd.func26 rfl Tryd.ntmps26 Tryd.results26 rfl ?_
 have hS := St.start w0
 refine WC.seq (fun K1 hK1 => ?_)
 refine WC.region ?_
 refine WL.op rfl (opW.assignV rfl ?_)
 refine WL.nil ?_
 refine thenQ_n (hK1 _ _ ?_)
 refine WC.seq (fun K2 hK2 => ?_)
 refine WC.seq (fun K3 hK3 => ?_)
 refine WC.region ?_
 refine WL.op rfl (opW.moveV (v := .map (some r)) rfl ?_)
 refine WL.op rfl (opW.eqlM rfl rfl ?_)
 refine WL.nil ?_
 refine thenQ_n (hK3 _ _ ?_)
 refine WC.cond _ rfl (fun hc0 => ?_) (fun hc0 => ?_)
 ·
  have hr0 := hc0
  try simp only [sq1,sq2,sq3,sq4,sq5,sq6,sq7,sq8,sq9,sq0] at hc0
  simp at hr0
 ·
  have hr0 := hc0
  try simp only [sq1,sq2,sq3,sq4,sq5,sq6,sq7,sq8,sq9,sq0] at hc0
  refine WC.skip ?_
  refine thenQ_n (hK2 _ _ ?_)
  refine WC.seq (fun K4 hK4 => ?_)
  refine WC.region ?_
  refine WL.op rfl (opW.moveV (v := .map (some r)) rfl ?_)
  refine WL.op rfl (opW.ifaceM rfl ?_)
  refine WL.op rfl (opW.cloneM (κ := Key) (vv := accV) cloneF16 hS (hM.bel hS.old) rfl ?_)
  intro c1 w _ hS
  refine WL.op rfl (opW.assertM rfl ?_)
  refine WL.op rfl (opW.assignV (v := .map (some c1)) rfl ?_)
  refine WL.nil ?_
  refine thenQ_n (hK4 _ _ ?_)
  refine WC.ret ?_
  refine bodyQ_ret (.tmpV (v := .map (some c1)) rfl .nil) ?_
  exact ⟨hS.map_new .here, hS.old⟩

theorem copy13 (w0 : World) (p : Nat) (d : StD) (ha : StAt w0 p d) : Ret Tryd.prog 9 #[.pointer (some ⟨p, 0, none⟩)] w0 (fun u w' => ∃ p2 r2, u = .pointer (some ⟨p2, 0, none⟩) ∧ NewE w0 w' (stE p2 ⟨r2, d.kvs⟩) ∧ Bel w0 w') := by
 refine Ret.enter (args := [.pointer (some ⟨p, 0, none⟩)]) Tryd.func9 rfl Tryd.ntmps9 Tryd.results9 rfl ?_
 have hS := St.start w0
 refine WC.seq (fun K1 hK1 => ?_)
 refine WC.region ?_
 refine WL.op rfl (opW.assignV rfl ?_)
 refine WL.nil ?_
 refine thenQ_n (hK1 _ _ ?_)
 refine WC.seq (fun K2 hK2 => ?_)
 refine WC.seq (fun K3 hK3 => ?_)
 refine WC.region ?_
 refine WL.op rfl (opW.moveV (v := .pointer (some ⟨p, 0, none⟩)) rfl ?_)
 refine WL.op rfl (opW.call (there13 _ p d.r (ha.1.bel hS.old)) rfl ?_)
 rintro _ w ⟨rfl, hw⟩; replace hS := hS.bel hw
 refine WL.op rfl (opW.not rfl ?_)
 refine WL.nil ?_
 refine thenQ_n (hK3 _ _ ?_)
 refine WC.cond _ rfl (fun hc0 => ?_) (fun hc0 => ?_)
 ·
  have hr0 := hc0
  try simp only [sq1,sq2,sq3,sq4,sq5,sq6,sq7,sq8,sq9,sq0] at hc0
  exact absurd hr0 (by decide)
 ·
  have hr0 := hc0
  try simp only [sq1,sq2,sq3,sq4,sq5,sq6,sq7,sq8,sq9,sq0] at hc0
  refine WC.skip ?_
  refine thenQ_n (hK2 _ _ ?_)
  refine WC.seq (fun K4 hK4 => ?_)
  refine WC.region ?_
  refine WL.op rfl (opW.moveV (v := .pointer (some ⟨p, 0, none⟩)) rfl ?_)
  refine WL.op rfl (opW.nilCheckB rfl ?_)
  refine WL.op rfl (opW.fieldAddrB rfl ?_)
  refine WL.op rfl (opW.loadV rfl ((ha.1.bel hS.old).at1 (StS.at_of _)) ?_)
  refine WL.op rfl (opW.call (mclone16 _ d.r d.kvs (ha.2.bel hS.old)) rfl ?_)
  rintro _ w ⟨⟨c1, rfl, hge, hmb⟩, hw⟩; replace hS := hS.newMap hw hmb hge
  refine WL.op rfl (opW.buildE (r := ((StS.mk (some c1)) : StS)) (ps := StS.parts ((StS.mk (some c1)) : StS)) (StS.enc_eq _) (by first | rfl | (simp only [sysK, az, budK, enc_vset, enc_vz, Account.enc_eq, Account.parts, Role.enc_eq, Role.parts, Instr.enc_eq, Instr.parts, Ask.enc_eq, Ask.parts, Cut.enc_eq, Cut.parts, PairS.enc_eq, PairS.parts, Header.enc_eq, Header.parts, Lookup.enc_eq, Lookup.parts, Message.enc_eq, Message.parts, Tx.enc_eq, Tx.parts, Budget.enc_eq, Budget.parts, Ready.enc_eq, Ready.parts, Holding.enc_eq, Holding.parts, Outcome.enc_eq, Outcome.parts, Running.enc_eq, Running.parts, StS.enc_eq, StS.parts, RSt.enc_eq, RSt.parts]; rfl)) (by (repeat' (first | exact trivial | refine And.intro ?_ ?_)) <;> first | rfl | exact Enc.size_eq _ | (simp; done)) ?_)
  refine WL.op rfl (opW.boxA hS rfl ?_)
  intro b12 w _ hS
  refine WL.op rfl (opW.assignV (v := .pointer (some ⟨b12, 0, none⟩)) rfl ?_)
  refine WL.nil ?_
  refine thenQ_n (hK4 _ _ ?_)
  refine WC.ret ?_
  refine bodyQ_ret (.tmpV (v := .pointer (some ⟨b12, 0, none⟩)) rfl .nil) ?_
  exact ⟨b12, c1, rfl, (hS.stClose (S := []) ⟨c1, d.kvs⟩).takeE .here, hS.old⟩

theorem same13c (w0 : World) (a b : Account) : Ret Tryd.prog 33 #[.agg (Enc.enc a), .agg (Enc.enc b)] w0 (fun u w' => u = .bool (decide (a = b)) ∧ Bel w0 w') := by
 refine Ret.enter (args := [.agg (Enc.enc a), .agg (Enc.enc b)]) Tryd.func33 rfl Tryd.ntmps33 Tryd.results33 rfl ?_
 have hS := St.start w0
 refine WC.seq (fun K1 hK1 => ?_)
 refine WC.region ?_
 refine WL.op rfl (opW.boxA hS rfl ?_)
 intro b2 w _ hS
 refine WL.op rfl (opW.boxA hS rfl ?_)
 intro b3 w _ hS
 refine WL.op rfl (opW.assignB rfl ?_)
 refine WL.nil ?_
 refine thenQ_n (hK1 _ _ ?_)
 refine WC.seq (fun K2 hK2 => ?_)
 refine WC.region ?_
 refine WL.op rfl (opW.loadV rfl (hS.ldA (b := b2) (cs := Enc.enc a) (by repeat constructor) (Enc.size_eq a)) ?_)
 refine WL.op rfl (opW.loadV rfl (hS.ldA (b := b3) (cs := Enc.enc b) (by repeat constructor) (Enc.size_eq b)) ?_)
 refine WL.op rfl (opW.eqlE rfl rfl ?_)
 refine WL.op rfl (opW.assignB rfl ?_)
 refine WL.nil ?_
 refine thenQ_n (hK2 _ _ ?_)
 refine WC.ret ?_
 refine bodyQ_ret (.tmpB rfl .nil) ?_
 exact ⟨rfl, hS.old⟩

theorem St.rngDone {κ ν : Type} [DecidableEq κ] [KV κ] {w0 w : World} {S S' : List Ent} {it r : Nat} {vv : ν → Value} {kvs : List (κ × ν)} {is : List Nat} (h : St w0 S w) (ht : Turn (rngE it r vv kvs is) (mapE r vv kvs) S S') : St w0 S' w :=
 St.turn (w := w) (w' := w) (e := rngE it r vv kvs is) (e' := mapE r vv kvs) ⟨rfl, rfl, rfl, Nat.le_refl _, fun _ _ _ => rfl⟩ (by rw [mapE_A]; exact (h.rng ht.has).map) (by rw [mapE_F, rngE_F]; exact fun k hk => .inl (.inl hk)) h ht

theorem equal16 (wb w0 : World) (S : List Ent) (r1 r2 : Nat) (L1 L2 : List (Key × Account)) (hlen : L1.length = L2.length) (hsame : ∀ k a, (k, a) ∈ L1 → aget k L2 = some a) (hS0 : St wb (mapE r1 accV L1 :: mapE r2 accV L2 :: S) w0) : Ret Tryd.prog 32 #[.map (some r1), .map (some r2), .func (.func 33) #[] #[]] w0 (fun u w' => u = .bool true ∧ St wb (mapE r1 accV L1 :: mapE r2 accV L2 :: S) w') := by
 refine Ret.enter (args := [.map (some r1), .map (some r2), .func (.func 33) #[] #[]]) Tryd.func32 rfl Tryd.ntmps32 Tryd.results32 rfl ?_
 have hS := St.start w0
 replace hS := hS0
 refine WC.seq (fun K1 hK1 => ?_)
 refine WC.region ?_
 refine WL.op rfl (opW.assignB rfl ?_)
 refine WL.nil ?_
 refine thenQ_n (hK1 _ _ ?_)
 refine WC.seq (fun K2 hK2 => ?_)
 refine WC.seq (fun K3 hK3 => ?_)
 refine WC.region ?_
 refine WL.op rfl (opW.moveV (v := .map (some r1)) rfl ?_)
 refine WL.op rfl (opW.lenM (κ := Key) (vv := accV) (hS.map (r := r1) (vv := accV) (kvs := L1) (by repeat constructor)) rfl ?_)
 refine WL.op rfl (opW.moveV (v := .map (some r2)) rfl ?_)
 refine WL.op rfl (opW.lenM (κ := Key) (vv := accV) (hS.map (r := r2) (vv := accV) (kvs := L2) (by repeat constructor)) rfl ?_)
 refine WL.op rfl (opW.neq rfl rfl ?_)
 refine WL.nil ?_
 refine thenQ_n (hK3 _ _ ?_)
 refine WC.cond _ rfl (fun hc0 => ?_) (fun hc0 => ?_)
 ·
  have hr0 := hc0
  try simp only [sq1,sq2,sq3,sq4,sq5,sq6,sq7,sq8,sq9,sq0] at hc0
  rw [hlen] at hr0
  simp at hr0
 ·
  have hr0 := hc0
  try simp only [sq1,sq2,sq3,sq4,sq5,sq6,sq7,sq8,sq9,sq0] at hc0
  refine WC.skip ?_
  refine thenQ_n (hK2 _ _ ?_)
  refine WC.seq (fun K4 hK4 => ?_)
  refine WC.seq (fun K5 hK5 => ?_)
  refine WC.region ?_
  refine WL.op rfl (opW.moveV (v := .map (some r1)) rfl ?_)
  refine WL.op rfl (opW.range (κ := Key) (ν := Account) (r := r1) (vv := accV) (kvs := L1) hS (by repeat constructor) rfl ?_)
  intro it w hS; replace hS := hS _ (by repeat constructor)
  refine WL.nil ?_
  refine thenQ_n (hK5 _ _ ?_)
  refine WC.block ?_
  refine WC.loop (fun q f w => ∃ is : List Nat, Fits [(1, .map (some r2)), (2, .func (.func 33) #[] #[]), (17, .pointer (some ⟨it, 0, none⟩))] f ∧ St wb (rngE it r1 accV L1 is :: mapE r2 accV L2 :: S) w ∧ q = L1.length - is.length) (L1.length) ?_ ?_
  ·
   exact ⟨[], ⟨rfl, rfl, rfl, trivial⟩, hS, rfl⟩
  ·
   rintro q f w ⟨is, hfit, hS, hm⟩
   refine WC.fits _ hfit (fun g => ?_)
   clear hfit
   refine WC.seq (fun K6 hK6 => ?_)
   refine WC.region ?_
   refine WL.op rfl (opW.nextV (κ := Key) (ν := Account) (it := it) (r := r1) (vv := accV) (kvs := L1) (is := is) hS (by repeat constructor) rfl ?_)
   intro bb vs is' w h0 hF hTT hS; replace hS := hS _ (by repeat constructor)
   refine WL.op rfl (opW.extract rfl h0 ?_)
   refine WL.nil ?_
   refine thenQ_n (hK6 _ _ ?_)
   refine WC.seq (fun K7 hK7 => ?_)
   refine WC.cond _ rfl (fun hc1 => ?_) (fun hc1 => ?_)
   ·
    have hr1 := hc1
    try simp only [sq1,sq2,sq3,sq4,sq5,sq6,sq7,sq8,sq9,sq0] at hc1
    obtain ⟨i, hi, hni, hlt, rfl⟩ := hTT hr1
    have hRM := hS.rng (it := it) (r := r1) (vv := accV) (kvs := L1) (by repeat constructor)
    have hai := hsame (L1[i]).1 (L1[i]).2 (show ((L1[i]).1, (L1[i]).2) ∈ L1 from List.getElem_mem hi)
    refine WC.skip ?_
    refine thenQ_n (hK7 _ _ ?_)
    refine WC.block ?_
    refine WC.seq (fun K8 hK8 => ?_)
    refine WC.region ?_
    refine WL.op rfl (opW.entryM hRM hi rfl ?_)
    refine WL.op rfl (opW.extract rfl rfl ?_)
    refine WL.op rfl (opW.extract rfl rfl ?_)
    refine WL.op rfl (opW.allocA hS ?_)
    intro b7 w _ hS
    refine WL.op rfl (opW.allocA hS ?_)
    intro b8 w _ hS
    refine WL.op0 (opW.storeE hS rfl rfl (by repeat constructor) (by first | rfl | exact Enc.size_eq _) ?_)
    intro w hS; replace hS := hS _ (by repeat constructor)
    refine WL.op0 (opW.storeE hS rfl rfl (by repeat constructor) (by first | rfl | exact Enc.size_eq _) ?_)
    intro w hS; replace hS := hS _ (by repeat constructor)
    refine WL.nil ?_
    refine thenQ_n (hK8 _ _ ?_)
    refine WC.seq (fun K9 hK9 => ?_)
    refine WC.region ?_
    refine WL.op rfl (opW.moveV (v := .map (some r2)) rfl ?_)
    refine WL.op rfl (opW.loadV rfl (hS.ldA (b := b7) (cs := Enc.enc (L1[i]).1) (by repeat constructor) (Enc.size_eq _)) ?_)
    refine WL.op rfl (opW.lookup2ZB (b := true) (u := (L1[i]).2) (κ := Key) (ν := Account) (k := (L1[i]).1) (vv := accV) (kvs := L2) (z0 := az) zeroA (hS.map (r := r2) (vv := accV) (kvs := L2) (by repeat constructor)) rfl rfl (by rw [hai]; rfl) (by rw [hai]; rfl) ?_)
    refine WL.op rfl (opW.moveV (v := .tuple #[accV (L1[i]).2, .bool true]) rfl ?_)
    refine WL.op rfl (opW.extract rfl rfl ?_)
    refine WL.op rfl (opW.extract rfl rfl ?_)
    refine WL.op rfl (opW.allocA hS ?_)
    intro b9 w _ hS
    refine WL.op0 (opW.storeE hS rfl rfl (by repeat constructor) (by first | rfl | exact Enc.size_eq _) ?_)
    intro w hS; replace hS := hS _ (by repeat constructor)
    refine WL.op rfl (opW.assignB rfl ?_)
    refine WL.nil ?_
    refine thenQ_n (hK9 _ _ ?_)
    refine WC.seq (fun K10 hK10 => ?_)
    refine WC.region ?_
    refine WL.op rfl (opW.moveB rfl ?_)
    refine WL.op rfl (opW.not rfl ?_)
    refine WL.op rfl (opW.moveB rfl ?_)
    refine WL.gT 31 rfl rfl rfl (WL.op rfl (opW.moveV (v := .func (.func 33) #[] #[]) rfl ?_))
    refine WL.gT 31 rfl rfl rfl (WL.op rfl (opW.loadV rfl (hS.ldA (b := b8) (cs := Enc.enc (L1[i]).2) (by repeat constructor) (Enc.size_eq _)) ?_))
    refine WL.gT 31 rfl rfl rfl (WL.op rfl (opW.loadV rfl (hS.ldA (b := b9) (cs := Enc.enc (L1[i]).2) (by repeat constructor) (Enc.size_eq _)) ?_))
    refine WL.gT 31 rfl rfl rfl (WL.op rfl (opW.callFn (cs := []) rfl (same13c _ (L1[i]).2 (L1[i]).2) rfl ?_))
    rintro _ w ⟨rfl, hw⟩; replace hS := hS.bel hw
    rw [decide_eq_true (rfl : (L1[i]).2 = (L1[i]).2)]
    refine WL.gT 31 rfl rfl rfl (WL.op rfl (opW.not rfl ?_))
    refine WL.op rfl (opW.pickT rfl rfl ?_)
    refine WL.nil ?_
    refine thenQ_n (hK10 _ _ ?_)
    refine WC.cond _ rfl (fun hc2 => ?_) (fun hc2 => ?_)
    ·
     have hr2 := hc2
     try simp only [sq1,sq2,sq3,sq4,sq5,sq6,sq7,sq8,sq9,sq0] at hc2
     cases hr2
    ·
     have hr2 := hc2
     try simp only [sq1,sq2,sq3,sq4,sq5,sq6,sq7,sq8,sq9,sq0] at hc2
     refine WC.skip ?_
     refine blockQ_n ?_
     refine thenQ_n ?_
     exact ⟨L1.length - (is ++ [i]).length, by simp; omega, is ++ [i], ⟨rfl, rfl, rfl, trivial⟩, hS.sub (by repeat with_reducible first | exact su1 _ | exact su2 _ | refine su3 ?_ | refine su4 ?_), rfl⟩
   ·
    have hr1 := hc1
    try simp only [sq1,sq2,sq3,sq4,sq5,sq6,sq7,sq8,sq9,sq0] at hc1
    refine WC.exit ?_
    refine thenQ_e ?_
    refine thenQ_e ?_
    refine blockQ_hit ?_
    refine thenQ_n (hK4 _ _ ?_)
    refine WC.seq (fun K11 hK11 => ?_)
    refine WC.region ?_
    refine WL.op rfl (opW.assignB rfl ?_)
    refine WL.nil ?_
    refine thenQ_n (hK11 _ _ ?_)
    refine WC.ret ?_
    refine bodyQ_ret (.tmpB rfl .nil) ?_
    exact ⟨rfl, hS.rngDone (by repeat constructor)⟩

theorem nodup_sub_len {α : Type} [DecidableEq α] : ∀ {l m : List α}, l.Nodup → (∀ x ∈ l, x ∈ m) → l.length ≤ m.length
 | [], _, _, _ => Nat.zero_le _
 | x :: l, m, h, hs => by
  obtain ⟨h1, h2⟩ := List.nodup_cons.1 h
  have h3 := nodup_sub_len (l := l) (m := m.erase x) h2 (fun y hy => (List.mem_erase_of_ne (fun e => h1 (by rw [← e]; exact hy))).2 (hs y (List.mem_cons_of_mem _ hy)))
  have h4 := List.length_erase_of_mem (hs x List.mem_cons_self)
  have h5 : 0 < m.length := List.length_pos_of_mem (hs x List.mem_cons_self)
  rw [List.length_cons]; omega
theorem aget_of_mem {κ ν : Type} [DecidableEq κ] {k : κ} {v : ν} : ∀ {l : List (κ × ν)}, (l.map Prod.fst).Nodup → (k, v) ∈ l → aget k l = some v
 | (y, u) :: l, hn, h => by
  rw [List.map_cons] at hn
  obtain ⟨h1, h2⟩ := List.nodup_cons.1 hn
  rcases List.mem_cons.1 h with hh | hh
  ·cases hh; simp [aget]
  ·by_cases hk : k = y
   ·exact absurd (show y ∈ l.map Prod.fst from List.mem_map.2 ⟨(k, v), hh, hk⟩) h1
   ·simp only [aget, if_neg hk]; exact aget_of_mem h2 hh
theorem sameAt {d d2 : StD} (h : StOk d) (hg : ∀ k, d.get k = d2.get k) {k : Key} {a : Account} (hm : (k, a) ∈ d.kvs) : aget k d2.kvs = some a := by
 have h1 := aget_of_mem h.nd hm
 have h2 := hg k
 unfold StD.get at h2
 rw [h1, Option.getD_some] at h2
 cases hz : aget k d2.kvs with
 | none => rw [hz, Option.getD_none] at h2; exact absurd h2 (h.ne _ hm)
 | some b => rw [hz, Option.getD_some] at h2; rw [h2]
theorem sameLen {d d2 : StD} (h : StOk d) (hg : ∀ k, d.get k = d2.get k) : d.kvs.length ≤ d2.kvs.length := by
 have := nodup_sub_len (l := d.kvs.map Prod.fst) (m := d2.kvs.map Prod.fst) h.nd (fun k hk => by
  obtain ⟨⟨k', a⟩, hm, rfl⟩ := List.mem_map.1 hk
  exact List.mem_map.2 ⟨_, aget_mem (sameAt h hg hm), rfl⟩)
 simpa using this

theorem same13 (wb w0 : World) (S : List Ent) (p p2 : Nat) (d d2 : StD) (hok : StOk d) (hok2 : StOk d2) (hg : ∀ k, d.get k = d2.get k) (hS0 : St wb (stE p d :: stE p2 d2 :: S) w0) : Ret Tryd.prog 12 #[.pointer (some ⟨p, 0, none⟩), .pointer (some ⟨p2, 0, none⟩)] w0 (fun u w' => u = .bool true ∧ St wb (stE p d :: stE p2 d2 :: S) w') := by
 refine Ret.enter (args := [.pointer (some ⟨p, 0, none⟩), .pointer (some ⟨p2, 0, none⟩)]) Tryd.func12 rfl Tryd.ntmps12 Tryd.results12 rfl ?_
 have hS := St.start w0
 replace hS := (hS0.pick (e := stE p2 d2) (by repeat constructor)).stOpen
 replace hS := (hS.pick (e := stE p d) (by repeat constructor)).stOpen
 refine WC.seq (fun K1 hK1 => ?_)
 refine WC.region ?_
 refine WL.op rfl (opW.assignB rfl ?_)
 refine WL.nil ?_
 refine thenQ_n (hK1 _ _ ?_)
 refine WC.seq (fun K2 hK2 => ?_)
 refine WC.seq (fun K3 hK3 => ?_)
 refine WC.region ?_
 refine WL.op rfl (opW.moveV (v := .pointer (some ⟨p, 0, none⟩)) rfl ?_)
 refine WL.op rfl (opW.call (there13 _ p d.r (hS.pt (b := p) (cs := Enc.enc (StS.mk (some d.r))) (by repeat constructor))) rfl ?_)
 rintro _ w ⟨rfl, hw⟩; replace hS := hS.bel hw
 refine WL.op rfl (opW.not rfl ?_)
 refine WL.op rfl (opW.moveB rfl ?_)
 refine WL.gT 8 rfl rfl rfl (WL.op rfl (opW.moveV (v := .pointer (some ⟨p2, 0, none⟩)) rfl ?_))
 refine WL.gT 8 rfl rfl rfl (WL.op rfl (opW.call (there13 _ p2 d2.r (hS.pt (b := p2) (cs := Enc.enc (StS.mk (some d2.r))) (by repeat constructor))) rfl ?_))
 rintro _ w ⟨rfl, hw⟩; replace hS := hS.bel hw
 refine WL.gT 8 rfl rfl rfl (WL.op rfl (opW.not rfl ?_))
 refine WL.op rfl (opW.pickT rfl rfl ?_)
 refine WL.nil ?_
 refine thenQ_n (hK3 _ _ ?_)
 refine WC.cond _ rfl (fun hc0 => ?_) (fun hc0 => ?_)
 ·
  have hr0 := hc0
  try simp only [sq1,sq2,sq3,sq4,sq5,sq6,sq7,sq8,sq9,sq0] at hc0
  cases hr0
 ·
  have hr0 := hc0
  try simp only [sq1,sq2,sq3,sq4,sq5,sq6,sq7,sq8,sq9,sq0] at hc0
  refine WC.skip ?_
  refine thenQ_n (hK2 _ _ ?_)
  refine WC.seq (fun K4 hK4 => ?_)
  refine WC.draw 8 (.look 0 (.look 1 (.look 2 (.look 3 (.look 4 (.look 5 (.look 6 (.look 7 (.one 8 (.one 9 .nil)))))))))) (by kernel_rfl) (fun _ _ _ h => h) (fun w1 hw1 => ?_)
  replace hS := hS.bel hw1
  have hS1 := hS
  have hT := St.start w1
  refine ML.look rfl rfl rfl (fun w hw => (by have hS := hS1.bel hw; exact opW.moveV (v := .pointer (some ⟨p, 0, none⟩)) rfl ⟨rfl, rfl⟩)) ?_
  refine ML.look rfl rfl rfl (fun w hw => (by have hS := hS1.bel hw; exact opW.nilCheckB rfl ⟨rfl, rfl⟩)) ?_
  refine ML.look rfl rfl rfl (fun w hw => (by have hS := hS1.bel hw; exact opW.fieldAddrB rfl ⟨rfl, rfl⟩)) ?_
  refine ML.look rfl rfl rfl (fun w hw => (by have hS := hS1.bel hw; exact opW.loadV rfl (hS.ld1 (b := p) (cs := Enc.enc (StS.mk (some d.r))) (by repeat constructor) (StS.at_of _)) ⟨rfl, rfl⟩)) ?_
  refine ML.look rfl rfl rfl (fun w hw => (by have hS := hS1.bel hw; exact opW.moveV (v := .pointer (some ⟨p2, 0, none⟩)) rfl ⟨rfl, rfl⟩)) ?_
  refine ML.look rfl rfl rfl (fun w hw => (by have hS := hS1.bel hw; exact opW.nilCheckB rfl ⟨rfl, rfl⟩)) ?_
  refine ML.look rfl rfl rfl (fun w hw => (by have hS := hS1.bel hw; exact opW.fieldAddrB rfl ⟨rfl, rfl⟩)) ?_
  refine ML.look rfl rfl rfl (fun w hw => (by have hS := hS1.bel hw; exact opW.loadV rfl (hS.ld1 (b := p2) (cs := Enc.enc (StS.mk (some d2.r))) (by repeat constructor) (StS.at_of _)) ⟨rfl, rfl⟩)) ?_
  refine ML.put1 rfl rfl rfl rfl (opW.call (equal16 wb _ _ d.r d2.r d.kvs d2.kvs (Nat.le_antisymm (sameLen hok hg) (sameLen hok2 (fun k => (hg k).symm))) (fun k a hm => sameAt hok hg hm) ((hS.pick (e := mapE d2.r accV d2.kvs) (by repeat constructor)).pick (e := mapE d.r accV d.kvs) (by repeat constructor))) rfl ?_)
  rintro _ w ⟨rfl, hS⟩
  refine ML.put1 rfl rfl rfl rfl (opW.assignB rfl ?_)
  refine ML.nil ?_
  refine thenQ_n (hK4 _ _ ?_)
  refine WC.ret ?_
  refine bodyQ_ret (.tmpB rfl .nil) ?_
  have h1 := St.stClose d2 ((hS.pick (e := mapE d2.r accV d2.kvs) (by repeat constructor)).pick (e := blkE p2 (Enc.enc (StS.mk (some d2.r))) 85) (by repeat constructor))
  have h2 := St.stClose d ((h1.pick (e := mapE d.r accV d.kvs) (by repeat constructor)).pick (e := blkE p (Enc.enc (StS.mk (some d.r))) 85) (by repeat constructor))
  exact ⟨rfl, h2.sub (by repeat with_reducible first | exact su1 _ | exact su2 _ | refine su3 ?_ | refine su4 ?_)⟩

end Go.Fer
