/- the book, and an outcome in it -/
import Derived.Test.YtmibkfdpgmohfaaGreatDoorY
set_option linter.all false
namespace Go.Fer
open Go Go.Proofs Go.RowKit

structure ShHolding where
 l : SlV
 here : Holding
 far : Holding
def ShHolding.parts (x : ShHolding) : List (Array Value) := [#[x.l.v], Enc.enc x.here, Enc.enc x.far]
theorem ShHolding.sizes (x : ShHolding) : x.parts.map Array.size = [1, 66, 66] := by
 simp only [ShHolding.parts, List.map, Enc.size_eq]; rfl
instance : Enc ShHolding where
 enc x := joinA x.parts
 sz := 133
 pos := by omega
 size_eq x := by rw [joinA_size, ShHolding.sizes]; rfl
 one x := joinA_one (all_cons (Enc.one (α := SlV) _) (all_cons (Enc.one _) (all_cons (Enc.one _) all_nil)))
theorem ShHolding.enc_eq (x : ShHolding) : Enc.enc x = joinA x.parts := rfl
theorem ShHolding.at_l (x : ShHolding) : (Enc.enc x)[0]? = some (x.l.v) := joinA_at [] [Enc.enc x.here, Enc.enc x.far] _ (by rw [joinA_size]; simp only [List.map, Enc.size_eq]; rfl)
theorem ShHolding.ex_here (x : ShHolding) : (Enc.enc x).extract 1 (1 + 66) = Enc.enc x.here := joinA_ex [#[x.l.v]] [Enc.enc x.far] _ (by rw [joinA_size]; simp only [List.map, Enc.size_eq]; rfl) (by rw [Enc.size_eq]; rfl)
theorem ShHolding.ex_far (x : ShHolding) : (Enc.enc x).extract 67 (67 + 66) = Enc.enc x.far := joinA_ex [#[x.l.v], Enc.enc x.here] [] _ (by rw [joinA_size]; simp only [List.map, Enc.size_eq]; rfl) (by rw [Enc.size_eq]; rfl)
theorem ShHolding.set_l (x : ShHolding) (v : SlV) : spl (Enc.enc x) 0 #[v.v] = Enc.enc { x with l := v } := by
 have h := spl_join [] [Enc.enc x.here, Enc.enc x.far] (#[x.l.v]) (#[v.v]) (by first | (rw [Enc.size_eq, Enc.size_eq]; done) | rfl)
 rw [show (joinA []).size = 0 from (by rw [joinA_size]; simp only [List.map, Enc.size_eq]; rfl)] at h
 exact h
theorem ShHolding.set_here (x : ShHolding) (v : Holding) : spl (Enc.enc x) 1 (Enc.enc v) = Enc.enc { x with here := v } := by
 have h := spl_join [#[x.l.v]] [Enc.enc x.far] (Enc.enc x.here) (Enc.enc v) (by first | (rw [Enc.size_eq, Enc.size_eq]; done) | rfl)
 rw [show (joinA [#[x.l.v]]).size = 1 from (by rw [joinA_size]; simp only [List.map, Enc.size_eq]; rfl)] at h
 exact h
theorem ShHolding.set_far (x : ShHolding) (v : Holding) : spl (Enc.enc x) 67 (Enc.enc v) = Enc.enc { x with far := v } := by
 have h := spl_join [#[x.l.v], Enc.enc x.here] [] (Enc.enc x.far) (Enc.enc v) (by first | (rw [Enc.size_eq, Enc.size_eq]; done) | rfl)
 rw [show (joinA [#[x.l.v], Enc.enc x.here]).size = 67 from (by rw [joinA_size]; simp only [List.map, Enc.size_eq]; rfl)] at h
 exact h
def ShHolding.ok (w : World) (x : ShHolding) : Prop := (∃ l : List (Holding), SlR w x.l.v l ∧ ∀ e ∈ l, Holding.ok w e) ∧ (Holding.ok w x.here) ∧ (Holding.ok w x.far)
theorem ShHolding.ok.bel {w w' : World} {x : ShHolding} (hb : Bel w w') (h : ShHolding.ok w x) : ShHolding.ok w' x := by
 unfold ShHolding.ok at h ⊢
 obtain ⟨⟨l0, g0⟩, g1, g2⟩ := h
 exact ⟨(⟨_, g0.1.bel hb, fun e he => (Holding.ok.bel hb (g0.2 e he))⟩), (Holding.ok.bel hb g1), (Holding.ok.bel hb g2)⟩
theorem rdw_ShHolding : RdW Tryz.prog 152 ShHolding ShHolding.ok := by
 intro H enc w fuel cs d ps hr
 obtain ⟨hend, fuel', hf⟩ := rdS Tryz.underlying152 inferInstance hr
 obtain ⟨d0, ps0, h0⟩ := hf 0 _ 47 0 1 rfl rfl rfl inferInstance
 obtain ⟨x0, e0, i0⟩ := rd_slv (α := Holding) inferInstance rdw_Holding inferInstance h0
 obtain ⟨d1, ps1, h1⟩ := hf 1 _ 74 1 66 rfl rfl rfl inferInstance
 obtain ⟨x1, e1, i1⟩ := rd_of rdw_Holding h1
 obtain ⟨d2, ps2, h2⟩ := hf 2 _ 74 67 66 rfl rfl rfl inferInstance
 obtain ⟨x2, e2, i2⟩ := rd_of rdw_Holding h2
 have k2 := cells_cut e2 hend
 have k1 := cells_cut e1 k2
 have k0 := cells_cut e0 k1
 refine ⟨⟨x0, x1, x2⟩, ?_, ⟨i0, i1, i2⟩⟩
 rw [ShHolding.enc_eq]; simp only [ShHolding.parts, joinA_toList_cons, joinA_nil]
 rw [List.drop_zero] at k0; rw [k0]; try simp

theorem signA_Holding (wb w0 : World) (S : List Ent) (s : ShHolding) (xs : List Holding) (hS0 : St wb (ownE s.l.v 74 xs :: S) w0) : Ret Tryz.prog 123 #[.agg (Enc.enc s), .bool false] w0 (fun u w' => St wb (ownE s.l.v 74 (List.replicate xs.length s.here) :: S) w') := by
 refine Ret.enter (args := [.agg (Enc.enc s), .bool false]) Tryz.func123 rfl Tryz.ntmps123 Tryz.results123 rfl ?_
 have hS := St.start w0
 replace hS := hS0
 refine WC.seq (fun K1 hK1 => ?_)
 refine WC.region ?_
 refine WL.op rfl (opW.boxA hS rfl ?_)
 intro b2 w _ hS
 refine WL.nil ?_
 refine thenQ_n (hK1 _ _ ?_)
 refine WC.seq (fun K2 hK2 => ?_)
 refine WC.seq (fun K3 hK3 => ?_)
 refine WC.region ?_
 refine WL.op rfl (opW.moveB rfl ?_)
 refine WL.op rfl (opW.not rfl ?_)
 refine WL.nil ?_
 refine thenQ_n (hK3 _ _ ?_)
 refine WC.cond _ rfl (fun hc0 => ?_) (fun hc0 => ?_)
 ·
  have hr0 := hc0
  try simp only [sq1,sq2,sq3,sq4,sq5,sq6,sq7,sq8,sq9,sq0] at hc0
  refine WC.seq (fun K4 hK4 => ?_)
  refine WC.seq (fun K5 hK5 => ?_)
  refine WC.region ?_
  refine WL.op rfl (opW.assignI rfl ?_)
  refine WL.nil ?_
  refine thenQ_n (hK5 _ _ ?_)
  refine WC.block ?_
  refine WC.loop (fun q f w => ∃ k : Nat, Fits [(2, .pointer (some ⟨b2, 0, none⟩)), (4, .int .i64 (k : Int))] f ∧ St wb (blkE b2 (Enc.enc s) 152 :: ownE s.l.v 74 (List.replicate k s.here ++ xs.drop k) :: S) w ∧ k ≤ xs.length ∧ q = xs.length - k) (xs.length) ?_ ?_
  ·
   exact ⟨0, ⟨rfl, rfl, trivial⟩, hS, Nat.zero_le _, rfl⟩
  ·
   rintro q f w ⟨k, hfit, hS, hk0, hm⟩
   refine WC.fits _ hfit (fun g => ?_)
   clear hfit
   have hll : (List.replicate k s.here ++ xs.drop k).length = xs.length := rep_len hk0
   have hle : xs.length ≤ maxLen := by rw [← hll]; exact (hS.sl (v := s.l.v) (xs := (List.replicate k s.here ++ xs.drop k)) (by repeat constructor)).le
   simp only [maxLen] at hle
   refine WC.seq (fun K6 hK6 => ?_)
   refine WC.seq (fun K7 hK7 => ?_)
   refine WC.region ?_
   refine WL.op rfl (opW.moveI rfl ?_)
   refine WL.op rfl (opW.fieldAddrB rfl ?_)
   refine WL.op rfl (opW.loadV rfl (hS.ld1 (by repeat constructor) (ShHolding.at_l _)) ?_)
   refine WL.op rfl (opW.lenV rfl (hS.sl (v := s.l.v) (xs := (List.replicate k s.here ++ xs.drop k)) (by repeat constructor)) ?_)
   refine WL.op rfl (opW.lss rfl rfl ?_)
   refine WL.nil ?_
   refine thenQ_n (hK7 _ _ ?_)
   refine WC.cond _ rfl (fun hc1 => ?_) (fun hc1 => ?_)
   ·
    have hr1 := hc1
    try simp only [sq1,sq2,sq3,sq4,sq5,sq6,sq7,sq8,sq9,sq0] at hc1
    have hkl : k < xs.length := by omega
    refine WC.skip ?_
    refine thenQ_n (hK6 _ _ ?_)
    refine WC.seq (fun K8 hK8 => ?_)
    refine WC.block ?_
    refine WC.region ?_
    refine WL.op rfl (opW.fieldAddrB rfl ?_)
    refine WL.op rfl (opW.loadV rfl (hS.ld1 (by repeat constructor) (ShHolding.at_l _)) ?_)
    refine WL.op rfl (opW.moveI rfl ?_)
    refine WL.op rfl (opW.fieldAddrB rfl ?_)
    refine WL.op rfl (opW.loadV rfl (hS.ldF (cs := Enc.enc s) (by repeat constructor) (ShHolding.ex_here _) (by rw [Enc.size_eq]; decide)) ?_)
    refine WL.op rfl (opW.idxV rfl (hS.sl (v := s.l.v) (xs := (List.replicate k s.here ++ xs.drop k)) (by repeat constructor)) rfl (by omega) ?_)
    refine WL.op0 (opW.storeOwn (v := s.l.v) (u := .agg (Enc.enc s.here)) (xs := (List.replicate k s.here ++ xs.drop k)) (i := k) (off := 0) (y' := s.here) hS (by repeat constructor) (by omega) (ptrAdd_zero s.l.v k (Enc.sz Holding)).symm rfl (by first | exact Enc.size_eq (α := Holding) s.here | rfl) (by first | exact Nat.le_refl _ | decide) (Enc.one s.here) (spl_all (by rw [Enc.size_eq]; first | exact Enc.size_eq (α := Holding) s.here | rfl)) ?_)
    intro w hS; replace hS := hS _ (by repeat constructor)
    refine WL.nil ?_
    refine blockQ_n ?_
    refine thenQ_n (hK8 _ _ ?_)
    refine WC.region ?_
    refine WL.op rfl (opW.moveI rfl ?_)
    refine WL.op rfl (opW.add rfl rfl (wrap_i64 (by omega)) ?_)
    refine WL.op rfl (opW.assignI rfl ?_)
    refine WL.nil ?_
    refine thenQ_n ?_
    rw [rep_set hkl] at hS
    exact ⟨xs.length - (k + 1), by omega, k + 1, ⟨rfl, congrArg (Value.int .i64) (by omega), trivial⟩, hS, by omega, rfl⟩
   ·
    have hr1 := hc1
    try simp only [sq1,sq2,sq3,sq4,sq5,sq6,sq7,sq8,sq9,sq0] at hc1
    obtain rfl : k = xs.length := by omega
    rw [List.drop_length, List.append_nil] at hS
    refine WC.exit ?_
    refine thenQ_e ?_
    refine thenQ_e ?_
    refine blockQ_hit ?_
    refine thenQ_n (hK4 _ _ ?_)
    refine WC.ret ?_
    refine thenQ_r ?_
    refine bodyQ_ret .nil ?_
    exact hS.drop1
 ·
  have hr0 := hc0
  try simp only [sq1,sq2,sq3,sq4,sq5,sq6,sq7,sq8,sq9,sq0] at hc0
  simp at hr0

theorem signB_Holding (wb w0 : World) (S : List Ent) (s : ShHolding) (xs : List Holding) (hv : OwnS s.l.v xs.length) (hS0 : St wb (ownE s.l.v 74 xs :: S) w0) : Ret Tryz.prog 123 #[.agg (Enc.enc s), .bool true] w0 (fun u w' => St wb (ownE (cutV s.l.v 0 (capV s.l.v) (capV s.l.v) (Enc.sz Holding)) 74 (xs ++ List.replicate ((capV s.l.v) - xs.length) s.far) :: S) w') := by
 refine Ret.enter (args := [.agg (Enc.enc s), .bool true]) Tryz.func123 rfl Tryz.ntmps123 Tryz.results123 rfl ?_
 have hS := St.start w0
 replace hS := hS0
 refine WC.seq (fun K1 hK1 => ?_)
 refine WC.region ?_
 refine WL.op rfl (opW.boxA hS rfl ?_)
 intro b2 w _ hS
 refine WL.nil ?_
 refine thenQ_n (hK1 _ _ ?_)
 refine WC.seq (fun K2 hK2 => ?_)
 refine WC.seq (fun K3 hK3 => ?_)
 refine WC.region ?_
 refine WL.op rfl (opW.moveB rfl ?_)
 refine WL.op rfl (opW.not rfl ?_)
 refine WL.nil ?_
 refine thenQ_n (hK3 _ _ ?_)
 refine WC.cond _ rfl (fun hc0 => ?_) (fun hc0 => ?_)
 ·
  have hr0 := hc0
  try simp only [sq1,sq2,sq3,sq4,sq5,sq6,sq7,sq8,sq9,sq0] at hc0
  simp at hr0
 ·
  have hr0 := hc0
  try simp only [sq1,sq2,sq3,sq4,sq5,sq6,sq7,sq8,sq9,sq0] at hc0
  refine WC.skip ?_
  refine thenQ_n (hK2 _ _ ?_)
  refine WC.seq (fun K4 hK4 => ?_)
  refine WC.region ?_
  refine WL.op rfl (opW.fieldAddrB rfl ?_)
  refine WL.op rfl (opW.loadV rfl (hS.ld1 (by repeat constructor) (ShHolding.at_l _)) ?_)
  refine WL.op rfl (opW.fieldAddrB rfl ?_)
  refine WL.op rfl (opW.loadV rfl (hS.ld1 (by repeat constructor) (ShHolding.at_l _)) ?_)
  refine WL.op rfl (opW.cap (v := s.l.v) rfl (hS.sl (v := s.l.v) (xs := xs) (by repeat constructor)) ?_)
  refine WL.op rfl (opW.cutS (l := 0) (h' := (capV s.l.v)) (m := (capV s.l.v)) (hS.sl (v := s.l.v) (xs := xs) (by repeat constructor)) ⟨rfl, Nat.le_refl _⟩ ⟨⟨_, rfl⟩, Nat.le_refl _⟩ ⟨rfl, Nat.zero_le _⟩ ?_)
  refine WL.op rfl (opW.assignV (v := (cutV s.l.v 0 (capV s.l.v) (capV s.l.v) (Enc.sz Holding))) rfl ?_)
  refine WL.nil ?_
  refine thenQ_n (hK4 _ _ ?_)
  refine WC.seq (fun K5 hK5 => ?_)
  refine WC.region ?_
  refine WL.op rfl (opW.fieldAddrB rfl ?_)
  refine WL.op rfl (opW.loadV rfl (hS.ld1 (by repeat constructor) (ShHolding.at_l _)) ?_)
  refine WL.op rfl (opW.lenV rfl (hS.sl (v := s.l.v) (xs := xs) (by repeat constructor)) ?_)
  refine WL.op rfl (opW.assignI rfl ?_)
  refine WL.nil ?_
  refine thenQ_n (hK5 _ _ ?_)
  refine WC.block ?_
  refine WC.loop (fun q f w => ∃ k : Nat, Fits [(2, .pointer (some ⟨b2, 0, none⟩)), (5, (cutV s.l.v 0 (capV s.l.v) (capV s.l.v) (Enc.sz Holding))), (6, .int .i64 (k : Int))] f ∧ St wb (blkE b2 (Enc.enc s) 152 :: ownE (cutV s.l.v 0 k (capV s.l.v) (Enc.sz Holding)) 74 (xs ++ List.replicate (k - xs.length) s.far) :: S) w ∧ xs.length ≤ k ∧ k ≤ (capV s.l.v) ∧ q = (capV s.l.v) - k) ((capV s.l.v) - xs.length) ?_ ?_
  ·
   refine ⟨xs.length, ⟨rfl, rfl, rfl, trivial⟩, ?_, Nat.le_refl _, hv.le.1, rfl⟩
   have h1 := hS.ownFront (k := xs.length) (m := (capV s.l.v)) (S' := (blkE b2 (Enc.enc s) 152 :: ownE (cutV s.l.v 0 xs.length (capV s.l.v) (Enc.sz Holding)) 74 (xs.take xs.length) :: S)) (Nat.le_refl _) hv.le.1 (Nat.le_refl _) (.there .here)
   rw [List.take_length] at h1
   rw [Nat.sub_self, List.replicate_zero, List.append_nil]; exact h1
  ·
   rintro q f w ⟨k, hfit, hS, hk0, hk1, hm⟩
   refine WC.fits _ hfit (fun g => ?_)
   clear hfit
   have hll : (xs ++ List.replicate (k - xs.length) s.far).length = k := by simp; omega
   have hcc : capV (cutV s.l.v 0 k (capV s.l.v) (Enc.sz Holding)) = (capV s.l.v) := capV_cut0 _ _ _ _ hv.isS
   have hle := hv.le.2
   simp only [maxLen] at hle
   refine WC.seq (fun K6 hK6 => ?_)
   refine WC.seq (fun K7 hK7 => ?_)
   refine WC.region ?_
   refine WL.op rfl (opW.moveI rfl ?_)
   refine WL.op rfl (opW.moveV (v := (cutV s.l.v 0 (capV s.l.v) (capV s.l.v) (Enc.sz Holding))) rfl ?_)
   refine WL.op rfl (opW.lenCut hv rfl ?_)
   refine WL.op rfl (opW.lss rfl rfl ?_)
   refine WL.nil ?_
   refine thenQ_n (hK7 _ _ ?_)
   refine WC.cond _ rfl (fun hc2 => ?_) (fun hc2 => ?_)
   ·
    have hr2 := hc2
    try simp only [sq1,sq2,sq3,sq4,sq5,sq6,sq7,sq8,sq9,sq0] at hc2
    have hkl : k < (capV s.l.v) := by omega
    refine WC.skip ?_
    refine thenQ_n (hK6 _ _ ?_)
    refine WC.seq (fun K8 hK8 => ?_)
    refine WC.block ?_
    refine WC.region ?_
    refine WL.op rfl (opW.moveV (v := (cutV s.l.v 0 (capV s.l.v) (capV s.l.v) (Enc.sz Holding))) rfl ?_)
    refine WL.op rfl (opW.moveI rfl ?_)
    refine WL.op rfl (opW.fieldAddrB rfl ?_)
    refine WL.op rfl (opW.loadV rfl (hS.ldF (cs := Enc.enc s) (by repeat constructor) (ShHolding.ex_far _) (by rw [Enc.size_eq]; decide)) ?_)
    refine WL.op rfl (opW.idxCut (α := Holding) hv rfl rfl (by omega) (Nat.le_refl _) ?_)
    refine WL.op0 (opW.storeRoom (v := (cutV s.l.v 0 k (capV s.l.v) (Enc.sz Holding))) (xs := (xs ++ List.replicate (k - xs.length) s.far)) (y' := s.far) hS (by repeat constructor) (by rw [hcc, hll]; exact hkl) (by rw [elemP_cut0, hll]; rfl) rfl rfl ?_)
    intro w hS; replace hS := hS _ (by repeat constructor)
    refine WL.nil ?_
    refine blockQ_n ?_
    refine thenQ_n (hK8 _ _ ?_)
    refine WC.region ?_
    refine WL.op rfl (opW.moveI rfl ?_)
    refine WL.op rfl (opW.add rfl rfl (wrap_i64 (by omega)) ?_)
    refine WL.op rfl (opW.assignI rfl ?_)
    refine WL.nil ?_
    refine thenQ_n ?_
    rw [hcc, hll, cutV_cut0, rep_room hk0] at hS
    exact ⟨(capV s.l.v) - (k + 1), by omega, k + 1, ⟨rfl, rfl, congrArg (Value.int .i64) (by omega), trivial⟩, hS, by omega, by omega, rfl⟩
   ·
    have hr2 := hc2
    try simp only [sq1,sq2,sq3,sq4,sq5,sq6,sq7,sq8,sq9,sq0] at hc2
    obtain rfl : k = (capV s.l.v) := by omega
    refine WC.exit ?_
    refine thenQ_e ?_
    refine thenQ_e ?_
    refine blockQ_hit ?_
    refine bodyQ_end .nil ?_
    exact hS.drop1

theorem own_Holding (w0 : World) (s : ShHolding) (n m : Nat) (hv : OwnS s.l.v n) (hm : n + m = (capV s.l.v)) (ha : SlR w0 (cutV s.l.v 0 (capV s.l.v) (capV s.l.v) (Enc.sz Holding)) (List.replicate n s.here ++ List.replicate m s.far)) : Ret Tryz.prog 122 #[.agg (Enc.enc s)] w0 (fun u w' => u = .bool true ∧ Bel w0 w') := by
 refine Ret.enter (args := [.agg (Enc.enc s)]) Tryz.func122 rfl Tryz.ntmps122 Tryz.results122 rfl ?_
 have hS := St.start w0
 have hs : SlR w0 s.l.v (List.replicate n s.here) := by
  refine SlR.uncut (ys := List.replicate m s.far) (by simpa using hv) ?_
  have e : (List.replicate n s.here ++ List.replicate m s.far).length = (capV s.l.v) := by simp; exact hm
  rw [e]; exact ha
 have hln : (List.replicate n s.here).length = n := by simp
 have hla : (List.replicate n s.here ++ List.replicate m s.far).length = n + m := by simp
 have hle := ha.le
 simp only [maxLen] at hle
 refine WC.seq (fun K1 hK1 => ?_)
 refine WC.region ?_
 refine WL.op rfl (opW.boxA hS rfl ?_)
 intro b1 w _ hS
 refine WL.op rfl (opW.assignB rfl ?_)
 refine WL.nil ?_
 refine thenQ_n (hK1 _ _ ?_)
 refine WC.seq (fun K2 hK2 => ?_)
 refine WC.seq (fun K3 hK3 => ?_)
 refine WC.region ?_
 refine WL.op rfl (opW.assignI rfl ?_)
 refine WL.nil ?_
 refine thenQ_n (hK3 _ _ ?_)
 refine WC.block ?_
 refine WC.loop (fun q f w => ∃ k : Nat, Fits [(1, .pointer (some ⟨b1, 0, none⟩)), (3, .int .i64 (k : Int))] f ∧ St w0 [blkE b1 (Enc.enc s) 152] w ∧ k ≤ n ∧ q = n - k) (n) ?_ ?_
 ·
  exact ⟨0, ⟨rfl, rfl, trivial⟩, hS, Nat.zero_le _, rfl⟩
 ·
  rintro q f w ⟨k, hfit, hS, hk0, hm1⟩
  refine WC.fits _ hfit (fun g => ?_)
  clear hfit
  refine WC.seq (fun K4 hK4 => ?_)
  refine WC.seq (fun K5 hK5 => ?_)
  refine WC.region ?_
  refine WL.op rfl (opW.moveI rfl ?_)
  refine WL.op rfl (opW.fieldAddrB rfl ?_)
  refine WL.op rfl (opW.loadV rfl (hS.ld1 (by repeat constructor) (ShHolding.at_l _)) ?_)
  refine WL.op rfl (opW.lenV rfl ((hs.bel hS.old)) ?_)
  refine WL.op rfl (opW.lss rfl rfl ?_)
  refine WL.nil ?_
  refine thenQ_n (hK5 _ _ ?_)
  refine WC.cond _ rfl (fun hc0 => ?_) (fun hc0 => ?_)
  ·
   have hr0 := hc0
   try simp only [sq1,sq2,sq3,sq4,sq5,sq6,sq7,sq8,sq9,sq0] at hc0
   have hkl : k < (List.replicate n s.here).length := by rw [hln]; omega
   refine WC.skip ?_
   refine thenQ_n (hK4 _ _ ?_)
   refine WC.seq (fun K6 hK6 => ?_)
   refine WC.block ?_
   refine WC.seq (fun K7 hK7 => ?_)
   refine WC.draw 8 (.look 0 (.look 1 (.look 2 (.look 3 (.look 4 (.look 5 (.look 6 (.look 7 .nil)))))))) (by kernel_rfl) (fun _ _ _ h => h) (fun w1 hw1 => ?_)
   replace hS := hS.bel hw1
   have hS1 := hS
   have hT := St.start w1
   refine ML.look rfl rfl rfl (fun w hw => (by have hS := hS1.bel hw; exact opW.fieldAddrB rfl ⟨rfl, rfl⟩)) ?_
   refine ML.look rfl rfl rfl (fun w hw => (by have hS := hS1.bel hw; exact opW.loadV rfl (hS.ld1 (by repeat constructor) (ShHolding.at_l _)) ⟨rfl, rfl⟩)) ?_
   refine ML.look rfl rfl rfl (fun w hw => (by have hS := hS1.bel hw; exact opW.moveI rfl ⟨rfl, rfl⟩)) ?_
   refine ML.look rfl rfl rfl (fun w hw => (by have hS := hS1.bel hw; exact opW.idxV rfl ((hs.bel hS.old)) rfl (by omega) ⟨rfl, rfl⟩)) ?_
   refine ML.look rfl rfl rfl (fun w hw => (by have hS := hS1.bel hw; exact opW.loadV rfl (((hs.bel hS.old).isPt hkl).ldA (Enc.size_eq _)) ⟨rfl, rfl⟩)) ?_
   refine ML.look rfl rfl rfl (fun w hw => (by have hS := hS1.bel hw; exact opW.fieldAddrB rfl ⟨rfl, rfl⟩)) ?_
   refine ML.look rfl rfl rfl (fun w hw => (by have hS := hS1.bel hw; exact opW.loadV rfl (hS.ldF (cs := Enc.enc s) (by repeat constructor) (ShHolding.ex_here _) (by rw [Enc.size_eq]; decide)) ⟨rfl, rfl⟩)) ?_
   refine ML.look rfl rfl rfl (fun w hw => (by have hS := hS1.bel hw; exact opW.neqE rfl rfl ⟨rfl, rfl⟩)) ?_
   refine ML.nil ?_
   refine thenQ_n (hK7 _ _ ?_)
   refine WC.cond _ rfl (fun hc1 => ?_) (fun hc1 => ?_)
   ·
    have hr1 := hc1
    try simp only [sq1,sq2,sq3,sq4,sq5,sq6,sq7,sq8,sq9,sq0] at hc1
    simp at hr1
   ·
    have hr1 := hc1
    try simp only [sq1,sq2,sq3,sq4,sq5,sq6,sq7,sq8,sq9,sq0] at hc1
    refine WC.skip ?_
    refine blockQ_n ?_
    refine thenQ_n (hK6 _ _ ?_)
    refine WC.region ?_
    refine WL.op rfl (opW.moveI rfl ?_)
    refine WL.op rfl (opW.add rfl rfl (wrap_i64 (by omega)) ?_)
    refine WL.op rfl (opW.assignI rfl ?_)
    refine WL.nil ?_
    refine thenQ_n ?_
    exact ⟨n - (k + 1), by omega, k + 1, ⟨rfl, congrArg (Value.int .i64) (by omega), trivial⟩, hS, by omega, rfl⟩
  ·
   have hr0 := hc0
   try simp only [sq1,sq2,sq3,sq4,sq5,sq6,sq7,sq8,sq9,sq0] at hc0
   refine WC.exit ?_
   refine thenQ_e ?_
   refine thenQ_e ?_
   refine blockQ_hit ?_
   refine thenQ_n (hK2 _ _ ?_)
   refine WC.seq (fun K8 hK8 => ?_)
   refine WC.region ?_
   refine WL.op rfl (opW.fieldAddrB rfl ?_)
   refine WL.op rfl (opW.loadV rfl (hS.ld1 (by repeat constructor) (ShHolding.at_l _)) ?_)
   refine WL.op rfl (opW.fieldAddrB rfl ?_)
   refine WL.op rfl (opW.loadV rfl (hS.ld1 (by repeat constructor) (ShHolding.at_l _)) ?_)
   refine WL.op rfl (opW.cap (v := s.l.v) rfl (hs.bel hS.old) ?_)
   refine WL.op rfl (opW.cutS (l := 0) (h' := (capV s.l.v)) (m := (capV s.l.v)) (hs.bel hS.old) ⟨rfl, Nat.le_refl _⟩ ⟨⟨_, rfl⟩, Nat.le_refl _⟩ ⟨rfl, Nat.zero_le _⟩ ?_)
   refine WL.op rfl (opW.assignV (v := (cutV s.l.v 0 (capV s.l.v) (capV s.l.v) (Enc.sz Holding))) rfl ?_)
   refine WL.nil ?_
   refine thenQ_n (hK8 _ _ ?_)
   refine WC.seq (fun K9 hK9 => ?_)
   refine WC.seq (fun K10 hK10 => ?_)
   refine WC.region ?_
   refine WL.op rfl (opW.fieldAddrB rfl ?_)
   refine WL.op rfl (opW.loadV rfl (hS.ld1 (by repeat constructor) (ShHolding.at_l _)) ?_)
   refine WL.op rfl (opW.lenV rfl ((hs.bel hS.old)) ?_)
   refine WL.op rfl (opW.assignI rfl ?_)
   refine WL.nil ?_
   refine thenQ_n (hK10 _ _ ?_)
   refine WC.block ?_
   refine WC.loop (fun q f w => ∃ k : Nat, Fits [(1, .pointer (some ⟨b1, 0, none⟩)), (4, (cutV s.l.v 0 (capV s.l.v) (capV s.l.v) (Enc.sz Holding))), (5, .int .i64 (k : Int))] f ∧ St w0 [blkE b1 (Enc.enc s) 152] w ∧ n ≤ k ∧ k ≤ n + m ∧ q = n + m - k) (n + m - n) ?_ ?_
   ·
    exact ⟨n, ⟨rfl, rfl, congrArg (fun i : Nat => Value.int .i64 (i : Int)) hln, trivial⟩, hS, Nat.le_refl _, by omega, rfl⟩
   ·
    rintro q f w ⟨k, hfit, hS, hk0, hk1, hm1⟩
    refine WC.fits _ hfit (fun g => ?_)
    clear hfit
    refine WC.seq (fun K11 hK11 => ?_)
    refine WC.seq (fun K12 hK12 => ?_)
    refine WC.region ?_
    refine WL.op rfl (opW.moveI rfl ?_)
    refine WL.op rfl (opW.moveV (v := (cutV s.l.v 0 (capV s.l.v) (capV s.l.v) (Enc.sz Holding))) rfl ?_)
    refine WL.op rfl (opW.lenV rfl ((ha.bel hS.old)) ?_)
    refine WL.op rfl (opW.lss rfl rfl ?_)
    refine WL.nil ?_
    refine thenQ_n (hK12 _ _ ?_)
    refine WC.cond _ rfl (fun hc2 => ?_) (fun hc2 => ?_)
    ·
     have hr2 := hc2
     try simp only [sq1,sq2,sq3,sq4,sq5,sq6,sq7,sq8,sq9,sq0] at hc2
     have hkl : k < (List.replicate n s.here ++ List.replicate m s.far).length := by rw [hla]; omega
     refine WC.skip ?_
     refine thenQ_n (hK11 _ _ ?_)
     refine WC.seq (fun K13 hK13 => ?_)
     refine WC.block ?_
     refine WC.seq (fun K14 hK14 => ?_)
     refine WC.draw 7 (.look 0 (.look 1 (.look 2 (.look 3 (.look 4 (.look 5 (.look 6 .nil))))))) (by kernel_rfl) (fun _ _ _ h => h) (fun w1 hw1 => ?_)
     replace hS := hS.bel hw1
     have hS1 := hS
     have hT := St.start w1
     refine ML.look rfl rfl rfl (fun w hw => (by have hS := hS1.bel hw; exact opW.moveV (v := (cutV s.l.v 0 (capV s.l.v) (capV s.l.v) (Enc.sz Holding))) rfl ⟨rfl, rfl⟩)) ?_
     refine ML.look rfl rfl rfl (fun w hw => (by have hS := hS1.bel hw; exact opW.moveI rfl ⟨rfl, rfl⟩)) ?_
     refine ML.look rfl rfl rfl (fun w hw => (by have hS := hS1.bel hw; exact opW.idxV rfl ((ha.bel hS.old)) rfl (by omega) ⟨rfl, rfl⟩)) ?_
     refine ML.look rfl rfl rfl (fun w hw => (by have hS := hS1.bel hw; exact opW.loadV rfl (((ha.bel hS.old).isPt hkl).ldA (Enc.size_eq _)) ⟨rfl, rfl⟩)) ?_
     refine ML.look rfl rfl rfl (fun w hw => (by have hS := hS1.bel hw; exact opW.fieldAddrB rfl ⟨rfl, rfl⟩)) ?_
     refine ML.look rfl rfl rfl (fun w hw => (by have hS := hS1.bel hw; exact opW.loadV rfl (hS.ldF (cs := Enc.enc s) (by repeat constructor) (ShHolding.ex_far _) (by rw [Enc.size_eq]; decide)) ⟨rfl, rfl⟩)) ?_
     refine ML.look rfl rfl rfl (fun w hw => (by have hS := hS1.bel hw; exact opW.neqE rfl rfl ⟨rfl, rfl⟩)) ?_
     refine ML.nil ?_
     refine thenQ_n (hK14 _ _ ?_)
     refine WC.cond _ rfl (fun hc3 => ?_) (fun hc3 => ?_)
     ·
      have hr3 := hc3
      try simp only [sq1,sq2,sq3,sq4,sq5,sq6,sq7,sq8,sq9,sq0] at hc3
      rw [List.getElem_append_right (by simp; omega)] at hr3
      simp at hr3
     ·
      have hr3 := hc3
      try simp only [sq1,sq2,sq3,sq4,sq5,sq6,sq7,sq8,sq9,sq0] at hc3
      refine WC.skip ?_
      refine blockQ_n ?_
      refine thenQ_n (hK13 _ _ ?_)
      refine WC.region ?_
      refine WL.op rfl (opW.moveI rfl ?_)
      refine WL.op rfl (opW.add rfl rfl (wrap_i64 (by omega)) ?_)
      refine WL.op rfl (opW.assignI rfl ?_)
      refine WL.nil ?_
      refine thenQ_n ?_
      exact ⟨n + m - (k + 1), by omega, k + 1, ⟨rfl, rfl, congrArg (Value.int .i64) (by omega), trivial⟩, hS, by omega, by omega, rfl⟩
    ·
     have hr2 := hc2
     try simp only [sq1,sq2,sq3,sq4,sq5,sq6,sq7,sq8,sq9,sq0] at hc2
     refine WC.exit ?_
     refine thenQ_e ?_
     refine thenQ_e ?_
     refine blockQ_hit ?_
     refine thenQ_n (hK9 _ _ ?_)
     refine WC.seq (fun K15 hK15 => ?_)
     refine WC.region ?_
     refine WL.op rfl (opW.assignB rfl ?_)
     refine WL.nil ?_
     refine thenQ_n (hK15 _ _ ?_)
     refine WC.ret ?_
     refine bodyQ_ret (.tmpB rfl .nil) ?_
     exact ⟨rfl, hS.old⟩

def pg_Holding (s : ShHolding) (xs : List Holding) (hv : OwnS s.l.v xs.length) : Pg Tryz.prog where
 iv := ⟨152, .agg (Enc.enc s)⟩
 e0 := ownE s.l.v 74 xs
 e1 := ownE s.l.v 74 (List.replicate xs.length s.here)
 e2 := ownE (cutV s.l.v 0 (capV s.l.v) (capV s.l.v) (Enc.sz Holding)) 74 (List.replicate xs.length s.here ++ List.replicate ((capV s.l.v) - xs.length) s.far)
 s0 := fun wb S w h => ⟨_, _, _, rfl, inferInstance, inferInstance, inferInstance, signA_Holding wb w S s xs h⟩
 s1 := fun wb S w h => ⟨_, _, _, rfl, inferInstance, inferInstance, inferInstance, by
  have := signB_Holding wb w S s (List.replicate xs.length s.here) (by simpa using hv) h
  simpa using this⟩
 ow := fun wb S w h => ⟨_, _, _, rfl, inferInstance, inferInstance, inferInstance, by
  refine Ret.mono (own_Holding w s xs.length ((capV s.l.v) - xs.length) hv (by have := hv.le.1; omega) (h.sl .here)) fun u w' hu => ⟨hu.1, h.bel hu.2⟩⟩

structure BookS where
 pages : SlV
def BookS.parts (x : BookS) : List (Array Value) := [#[x.pages.v]]
theorem BookS.sizes (x : BookS) : x.parts.map Array.size = [1] := by
 simp only [BookS.parts, List.map, Enc.size_eq]; rfl
instance : Enc BookS where
 enc x := joinA x.parts
 sz := 1
 pos := by omega
 size_eq x := by rw [joinA_size, BookS.sizes]; rfl
 one x := joinA_one (all_cons (Enc.one (α := SlV) _) all_nil)
theorem BookS.enc_eq (x : BookS) : Enc.enc x = joinA x.parts := rfl
theorem BookS.at_pages (x : BookS) : (Enc.enc x)[0]? = some (x.pages.v) := joinA_at [] [] _ (by rw [joinA_size]; simp only [List.map, Enc.size_eq]; rfl)
theorem BookS.set_pages (x : BookS) (v : SlV) : spl (Enc.enc x) 0 #[v.v] = Enc.enc { x with pages := v } := by
 have h := spl_join [] [] (#[x.pages.v]) (#[v.v]) (by first | (rw [Enc.size_eq, Enc.size_eq]; done) | rfl)
 rw [show (joinA []).size = 0 from (by rw [joinA_size]; simp only [List.map, Enc.size_eq]; rfl)] at h
 exact h

@[irreducible] def bkE (p : Nat) (sv : SlV) (pgs : List (Pg Tryz.prog)) : Ent := starE ([blkE p (Enc.enc (BookS.mk sv)) 54, ownE sv.v 105 (pgs.map Pg.iv)] ++ pgs.map Pg.e0)
theorem St.bkOpen {w0 w : World} {S : List Ent} {p : Nat} {sv : SlV} {pgs : List (Pg Tryz.prog)} (h : St w0 (bkE p sv pgs :: S) w) : St w0 (blkE p (Enc.enc (BookS.mk sv)) 54 :: ownE sv.v 105 (pgs.map Pg.iv) :: (pgs.map Pg.e0 ++ S)) w := by
 unfold bkE at h
 exact h.opened
theorem St.bkClose {w0 w : World} {S : List Ent} {p : Nat} {sv : SlV} {pgs : List (Pg Tryz.prog)} (h : St w0 (blkE p (Enc.enc (BookS.mk sv)) 54 :: ownE sv.v 105 (pgs.map Pg.iv) :: (pgs.map Pg.e0 ++ S)) w) : St w0 (bkE p sv pgs :: S) w := by
 unfold bkE
 exact St.closed (l := [blkE p (Enc.enc (BookS.mk sv)) 54, ownE sv.v 105 (pgs.map Pg.iv)] ++ pgs.map Pg.e0) h
theorem St.bkAdd {w0 w : World} {S : List Ent} {p : Nat} {sv : SlV} {pgs : List (Pg Tryz.prog)} (pg : Pg Tryz.prog) (h : St w0 (blkE p (Enc.enc (BookS.mk sv)) 54 :: ownE sv.v 105 (pgs.map Pg.iv ++ [pg.iv]) :: (pgs.map Pg.e0 ++ (pg.e0 :: S))) w) : St w0 (bkE p sv (pgs ++ [pg]) :: S) w := by
 refine St.bkClose ?_
 rw [List.map_append, List.map_append, List.append_assoc]
 exact h
/-- a book without pages -/
theorem St.bkNew {w0 w : World} {S : List Ent} {p : Nat} (h : St w0 (blkE p (Enc.enc (BookS.mk ⟨none, 0, 0⟩)) 54 :: S) w) : St w0 (bkE p ⟨none, 0, 0⟩ [] :: S) w := by
 refine St.bkClose ?_
 exact (h.nilOwn (α := IfV) 105).swap

theorem number_ok (w0 : World) (p : Nat) (sv : SlV) (pgs : List (Pg Tryz.prog)) (hp : Pt w0 (.pointer (some ⟨p, 0, none⟩)) (Enc.enc (BookS.mk sv))) (hs : SlR w0 sv.v (pgs.map Pg.iv)) (hl : pgs.length ≤ 100000) : Ret Tryz.prog 69 #[.pointer (some ⟨p, 0, none⟩)] w0 (fun u w' => u = .int .i64 ((pgs.length + 1 : Nat) : Int) ∧ Bel w0 w') := by
 refine Ret.enter (args := [.pointer (some ⟨p, 0, none⟩)]) Tryz.func69 rfl Tryz.ntmps69 Tryz.results69 rfl ?_
 have hS := St.start w0
 have hll : (pgs.map Pg.iv).length = pgs.length := by simp
 refine WC.seq (fun K1 hK1 => ?_)
 refine WC.region ?_
 refine WL.op rfl (opW.assignI rfl ?_)
 refine WL.nil ?_
 refine thenQ_n (hK1 _ _ ?_)
 refine WC.seq (fun K2 hK2 => ?_)
 refine WC.region ?_
 refine WL.op rfl (opW.moveV (v := .pointer (some ⟨p, 0, none⟩)) rfl ?_)
 refine WL.op rfl (opW.nilCheckB rfl ?_)
 refine WL.op rfl (opW.fieldAddrB rfl ?_)
 refine WL.op rfl (opW.loadV rfl ((hp.bel hS.old).at1 (BookS.at_pages _)) ?_)
 refine WL.op rfl (opW.lenV rfl ((hs.bel hS.old)) ?_)
 refine WL.op rfl (opW.add rfl rfl (wrap_i64 (by omega)) ?_)
 refine WL.op rfl (opW.assignI rfl ?_)
 refine WL.nil ?_
 refine thenQ_n (hK2 _ _ ?_)
 refine WC.ret ?_
 refine bodyQ_ret (.tmpI rfl .nil) ?_
 exact ⟨congrArg (Value.int .i64) (by simp : ((pgs.map Pg.iv).length : Int) + 1 = ((pgs.length + 1 : Nat) : Int)), hS.old⟩

theorem apart_ok (wb w0 : World) (S : List Ent) (p : Nat) (sv : SlV) (pgs : List (Pg Tryz.prog)) (hS0 : St wb (bkE p sv pgs :: S) w0) : Ret Tryz.prog 14 #[.pointer (some ⟨p, 0, none⟩)] w0 (fun u w' => u = .bool true ∧ St wb S w') := by
 refine Ret.enter (args := [.pointer (some ⟨p, 0, none⟩)]) Tryz.func14 rfl Tryz.ntmps14 Tryz.results14 rfl ?_
 have hS := St.start w0
 have hll : (pgs.map Pg.iv).length = pgs.length := by simp
 replace hS := hS0.bkOpen
 have hle := (hS.sl (v := sv.v) (xs := pgs.map Pg.iv) (by repeat constructor)).le
 simp only [maxLen] at hle
 refine WC.seq (fun K1 hK1 => ?_)
 refine WC.region ?_
 refine WL.op rfl (opW.assignB rfl ?_)
 refine WL.nil ?_
 refine thenQ_n (hK1 _ _ ?_)
 refine WC.seq (fun K2 hK2 => ?_)
 refine WC.seq (fun K3 hK3 => ?_)
 refine WC.region ?_
 refine WL.op rfl (opW.moveV (v := .pointer (some ⟨p, 0, none⟩)) rfl ?_)
 refine WL.op rfl (opW.nilCheckB rfl ?_)
 refine WL.op rfl (opW.fieldAddrB rfl ?_)
 refine WL.op rfl (opW.loadV rfl (hS.ld1 (by repeat constructor) (BookS.at_pages _)) ?_)
 refine WL.op rfl (opW.lenV rfl (hS.sl (v := sv.v) (xs := pgs.map Pg.iv) (by repeat constructor)) ?_)
 refine WL.op rfl (opW.gtr rfl rfl ?_)
 refine WL.nil ?_
 refine thenQ_n (hK3 _ _ ?_)
 refine WC.cond _ rfl (fun hc0 => ?_) (fun hc0 => ?_)
 ·
  have hr0 := hc0
  try simp only [sq1,sq2,sq3,sq4,sq5,sq6,sq7,sq8,sq9,sq0] at hc0
  refine WC.seq (fun K4 hK4 => ?_)
  refine WC.region ?_
  refine WL.op rfl (opW.assignB rfl ?_)
  refine WL.nil ?_
  refine thenQ_n (hK4 _ _ ?_)
  refine WC.ret ?_
  refine thenQ_r ?_
  refine bodyQ_ret (.tmpB rfl .nil) ?_
  exact ⟨rfl, hS.drop1.drop1.sub (List.sublist_append_right _ _)⟩
 ·
  have hr0 := hc0
  try simp only [sq1,sq2,sq3,sq4,sq5,sq6,sq7,sq8,sq9,sq0] at hc0
  refine WC.skip ?_
  refine thenQ_n (hK2 _ _ ?_)
  refine WC.seq (fun K5 hK5 => ?_)
  refine WC.seq (fun K6 hK6 => ?_)
  refine WC.region ?_
  refine WL.op rfl (opW.assignI rfl ?_)
  refine WL.nil ?_
  refine thenQ_n (hK6 _ _ ?_)
  refine WC.block ?_
  refine WC.loop (fun q f w => ∃ k : Nat, Fits [(0, .pointer (some ⟨p, 0, none⟩)), (3, .int .i64 (k : Int))] f ∧ St wb (blkE p (Enc.enc (BookS.mk sv)) 54 :: ownE sv.v 105 (pgs.map Pg.iv) :: ((pgs.take k).map Pg.e1 ++ ((pgs.drop k).map Pg.e0 ++ S))) w ∧ k ≤ pgs.length ∧ q = pgs.length - k) (pgs.length) ?_ ?_
  ·
   refine ⟨0, ⟨rfl, rfl, trivial⟩, ?_, Nat.zero_le _, rfl⟩
   rw [List.drop_zero]; exact hS
  ·
   rintro q f w ⟨k, hfit, hS, hk0, hm⟩
   refine WC.fits _ hfit (fun g => ?_)
   clear hfit
   refine WC.seq (fun K7 hK7 => ?_)
   refine WC.seq (fun K8 hK8 => ?_)
   refine WC.region ?_
   refine WL.op rfl (opW.moveI rfl ?_)
   refine WL.op rfl (opW.moveV (v := .pointer (some ⟨p, 0, none⟩)) rfl ?_)
   refine WL.op rfl (opW.nilCheckB rfl ?_)
   refine WL.op rfl (opW.fieldAddrB rfl ?_)
   refine WL.op rfl (opW.loadV rfl (hS.ld1 (by repeat constructor) (BookS.at_pages _)) ?_)
   refine WL.op rfl (opW.lenV rfl (hS.sl (v := sv.v) (xs := pgs.map Pg.iv) (by repeat constructor)) ?_)
   refine WL.op rfl (opW.lss rfl rfl ?_)
   refine WL.nil ?_
   refine thenQ_n (hK8 _ _ ?_)
   refine WC.cond _ rfl (fun hc1 => ?_) (fun hc1 => ?_)
   ·
    have hr1 := hc1
    try simp only [sq1,sq2,sq3,sq4,sq5,sq6,sq7,sq8,sq9,sq0] at hc1
    have hkl : k < pgs.length := by omega
    have hkm : k < (pgs.map Pg.iv).length := by omega
    refine WC.skip ?_
    refine thenQ_n (hK7 _ _ ?_)
    refine WC.seq (fun K9 hK9 => ?_)
    refine WC.block ?_
    refine WC.region ?_
    refine WL.op rfl (opW.moveV (v := .pointer (some ⟨p, 0, none⟩)) rfl ?_)
    refine WL.op rfl (opW.nilCheckB rfl ?_)
    refine WL.op rfl (opW.fieldAddrB rfl ?_)
    refine WL.op rfl (opW.loadV rfl (hS.ld1 (by repeat constructor) (BookS.at_pages _)) ?_)
    refine WL.op rfl (opW.moveI rfl ?_)
    refine WL.op rfl (opW.idxV rfl (hS.sl (v := sv.v) (xs := pgs.map Pg.iv) (by repeat constructor)) rfl (by omega) ?_)
    refine WL.op rfl (opW.loadV rfl (((hS.sl (v := sv.v) (xs := pgs.map Pg.iv) (by repeat constructor)).isPt hkm).ldI (pv := pgs[k].iv.v) (by rw [List.getElem_map])) ?_)
    refine WL.op rfl (opW.invoke rfl (pgs[k].s0 _ _ _ (hS.perm (pg_out [_, _] pgs k hkl Pg.e1 Pg.e0 S))) rfl ?_)
    intro _ w hS
    replace hS := hS.perm (pg_in [_, _] pgs k hkl Pg.e1 Pg.e0 S)
    refine WL.nil ?_
    refine blockQ_n ?_
    refine thenQ_n (hK9 _ _ ?_)
    refine WC.region ?_
    refine WL.op rfl (opW.moveI rfl ?_)
    refine WL.op rfl (opW.add rfl rfl (wrap_i64 (by omega)) ?_)
    refine WL.op rfl (opW.assignI rfl ?_)
    refine WL.nil ?_
    refine thenQ_n ?_
    exact ⟨pgs.length - (k + 1), by omega, k + 1, ⟨rfl, congrArg (Value.int .i64) (by omega), trivial⟩, hS, by omega, rfl⟩
   ·
    have hr1 := hc1
    try simp only [sq1,sq2,sq3,sq4,sq5,sq6,sq7,sq8,sq9,sq0] at hc1
    obtain rfl : k = pgs.length := by omega
    rw [List.take_length, List.drop_length, List.map_nil, List.nil_append] at hS
    refine WC.exit ?_
    refine thenQ_e ?_
    refine thenQ_e ?_
    refine blockQ_hit ?_
    refine thenQ_n (hK5 _ _ ?_)
    refine WC.seq (fun K10 hK10 => ?_)
    refine WC.seq (fun K11 hK11 => ?_)
    refine WC.region ?_
    refine WL.op rfl (opW.assignI rfl ?_)
    refine WL.nil ?_
    refine thenQ_n (hK11 _ _ ?_)
    refine WC.block ?_
    refine WC.loop (fun q f w => ∃ k : Nat, Fits [(0, .pointer (some ⟨p, 0, none⟩)), (4, .int .i64 (k : Int))] f ∧ St wb (blkE p (Enc.enc (BookS.mk sv)) 54 :: ownE sv.v 105 (pgs.map Pg.iv) :: ((pgs.take k).map Pg.e2 ++ ((pgs.drop k).map Pg.e1 ++ S))) w ∧ k ≤ pgs.length ∧ q = pgs.length - k) (pgs.length) ?_ ?_
    ·
     refine ⟨0, ⟨rfl, rfl, trivial⟩, ?_, Nat.zero_le _, rfl⟩
     rw [List.drop_zero]; exact hS
    ·
     rintro q f w ⟨k, hfit, hS, hk0, hm⟩
     refine WC.fits _ hfit (fun g => ?_)
     clear hfit
     refine WC.seq (fun K12 hK12 => ?_)
     refine WC.seq (fun K13 hK13 => ?_)
     refine WC.region ?_
     refine WL.op rfl (opW.moveI rfl ?_)
     refine WL.op rfl (opW.moveV (v := .pointer (some ⟨p, 0, none⟩)) rfl ?_)
     refine WL.op rfl (opW.nilCheckB rfl ?_)
     refine WL.op rfl (opW.fieldAddrB rfl ?_)
     refine WL.op rfl (opW.loadV rfl (hS.ld1 (by repeat constructor) (BookS.at_pages _)) ?_)
     refine WL.op rfl (opW.lenV rfl (hS.sl (v := sv.v) (xs := pgs.map Pg.iv) (by repeat constructor)) ?_)
     refine WL.op rfl (opW.lss rfl rfl ?_)
     refine WL.nil ?_
     refine thenQ_n (hK13 _ _ ?_)
     refine WC.cond _ rfl (fun hc2 => ?_) (fun hc2 => ?_)
     ·
      have hr2 := hc2
      try simp only [sq1,sq2,sq3,sq4,sq5,sq6,sq7,sq8,sq9,sq0] at hc2
      have hkl : k < pgs.length := by omega
      have hkm : k < (pgs.map Pg.iv).length := by omega
      refine WC.skip ?_
      refine thenQ_n (hK12 _ _ ?_)
      refine WC.seq (fun K14 hK14 => ?_)
      refine WC.block ?_
      refine WC.region ?_
      refine WL.op rfl (opW.moveV (v := .pointer (some ⟨p, 0, none⟩)) rfl ?_)
      refine WL.op rfl (opW.nilCheckB rfl ?_)
      refine WL.op rfl (opW.fieldAddrB rfl ?_)
      refine WL.op rfl (opW.loadV rfl (hS.ld1 (by repeat constructor) (BookS.at_pages _)) ?_)
      refine WL.op rfl (opW.moveI rfl ?_)
      refine WL.op rfl (opW.idxV rfl (hS.sl (v := sv.v) (xs := pgs.map Pg.iv) (by repeat constructor)) rfl (by omega) ?_)
      refine WL.op rfl (opW.loadV rfl (((hS.sl (v := sv.v) (xs := pgs.map Pg.iv) (by repeat constructor)).isPt hkm).ldI (pv := pgs[k].iv.v) (by rw [List.getElem_map])) ?_)
      refine WL.op rfl (opW.invoke rfl (pgs[k].s1 _ _ _ (hS.perm (pg_out [_, _] pgs k hkl Pg.e2 Pg.e1 S))) rfl ?_)
      intro _ w hS
      replace hS := hS.perm (pg_in [_, _] pgs k hkl Pg.e2 Pg.e1 S)
      refine WL.nil ?_
      refine blockQ_n ?_
      refine thenQ_n (hK14 _ _ ?_)
      refine WC.region ?_
      refine WL.op rfl (opW.moveI rfl ?_)
      refine WL.op rfl (opW.add rfl rfl (wrap_i64 (by omega)) ?_)
      refine WL.op rfl (opW.assignI rfl ?_)
      refine WL.nil ?_
      refine thenQ_n ?_
      exact ⟨pgs.length - (k + 1), by omega, k + 1, ⟨rfl, congrArg (Value.int .i64) (by omega), trivial⟩, hS, by omega, rfl⟩
     ·
      have hr2 := hc2
      try simp only [sq1,sq2,sq3,sq4,sq5,sq6,sq7,sq8,sq9,sq0] at hc2
      obtain rfl : k = pgs.length := by omega
      rw [List.take_length, List.drop_length, List.map_nil, List.nil_append] at hS
      refine WC.exit ?_
      refine thenQ_e ?_
      refine thenQ_e ?_
      refine blockQ_hit ?_
      refine thenQ_n (hK10 _ _ ?_)
      refine WC.seq (fun K15 hK15 => ?_)
      refine WC.seq (fun K16 hK16 => ?_)
      refine WC.region ?_
      refine WL.op rfl (opW.assignI rfl ?_)
      refine WL.nil ?_
      refine thenQ_n (hK16 _ _ ?_)
      refine WC.block ?_
      refine WC.loop (fun q f w => ∃ k : Nat, Fits [(0, .pointer (some ⟨p, 0, none⟩)), (5, .int .i64 (k : Int))] f ∧ St wb (blkE p (Enc.enc (BookS.mk sv)) 54 :: ownE sv.v 105 (pgs.map Pg.iv) :: ((pgs.take k).map Pg.e2 ++ ((pgs.drop k).map Pg.e2 ++ S))) w ∧ k ≤ pgs.length ∧ q = pgs.length - k) (pgs.length) ?_ ?_
      ·
       refine ⟨0, ⟨rfl, rfl, trivial⟩, ?_, Nat.zero_le _, rfl⟩
       rw [List.drop_zero]; exact hS
      ·
       rintro q f w ⟨k, hfit, hS, hk0, hm⟩
       refine WC.fits _ hfit (fun g => ?_)
       clear hfit
       refine WC.seq (fun K17 hK17 => ?_)
       refine WC.seq (fun K18 hK18 => ?_)
       refine WC.region ?_
       refine WL.op rfl (opW.moveI rfl ?_)
       refine WL.op rfl (opW.moveV (v := .pointer (some ⟨p, 0, none⟩)) rfl ?_)
       refine WL.op rfl (opW.nilCheckB rfl ?_)
       refine WL.op rfl (opW.fieldAddrB rfl ?_)
       refine WL.op rfl (opW.loadV rfl (hS.ld1 (by repeat constructor) (BookS.at_pages _)) ?_)
       refine WL.op rfl (opW.lenV rfl (hS.sl (v := sv.v) (xs := pgs.map Pg.iv) (by repeat constructor)) ?_)
       refine WL.op rfl (opW.lss rfl rfl ?_)
       refine WL.nil ?_
       refine thenQ_n (hK18 _ _ ?_)
       refine WC.cond _ rfl (fun hc3 => ?_) (fun hc3 => ?_)
       ·
        have hr3 := hc3
        try simp only [sq1,sq2,sq3,sq4,sq5,sq6,sq7,sq8,sq9,sq0] at hc3
        have hkl : k < pgs.length := by omega
        have hkm : k < (pgs.map Pg.iv).length := by omega
        refine WC.skip ?_
        refine thenQ_n (hK17 _ _ ?_)
        refine WC.seq (fun K19 hK19 => ?_)
        refine WC.block ?_
        refine WC.seq (fun K20 hK20 => ?_)
        refine WC.region ?_
        refine WL.op rfl (opW.moveV (v := .pointer (some ⟨p, 0, none⟩)) rfl ?_)
        refine WL.op rfl (opW.nilCheckB rfl ?_)
        refine WL.op rfl (opW.fieldAddrB rfl ?_)
        refine WL.op rfl (opW.loadV rfl (hS.ld1 (by repeat constructor) (BookS.at_pages _)) ?_)
        refine WL.op rfl (opW.moveI rfl ?_)
        refine WL.op rfl (opW.idxV rfl (hS.sl (v := sv.v) (xs := pgs.map Pg.iv) (by repeat constructor)) rfl (by omega) ?_)
        refine WL.op rfl (opW.loadV rfl (((hS.sl (v := sv.v) (xs := pgs.map Pg.iv) (by repeat constructor)).isPt hkm).ldI (pv := pgs[k].iv.v) (by rw [List.getElem_map])) ?_)
        refine WL.op rfl (opW.invoke rfl (pgs[k].ow _ _ _ (hS.perm (pg_out [_, _] pgs k hkl Pg.e2 Pg.e2 S))) rfl ?_)
        rintro _ w ⟨rfl, hS⟩
        replace hS := hS.perm (pg_in [_, _] pgs k hkl Pg.e2 Pg.e2 S)
        refine WL.op rfl (opW.not rfl ?_)
        refine WL.nil ?_
        refine thenQ_n (hK20 _ _ ?_)
        refine WC.cond _ rfl (fun hc4 => ?_) (fun hc4 => ?_)
        ·
         have hr4 := hc4
         try simp only [sq1,sq2,sq3,sq4,sq5,sq6,sq7,sq8,sq9,sq0] at hc4
         simp at hr4
        ·
         have hr4 := hc4
         try simp only [sq1,sq2,sq3,sq4,sq5,sq6,sq7,sq8,sq9,sq0] at hc4
         refine WC.skip ?_
         refine blockQ_n ?_
         refine thenQ_n (hK19 _ _ ?_)
         refine WC.region ?_
         refine WL.op rfl (opW.moveI rfl ?_)
         refine WL.op rfl (opW.add rfl rfl (wrap_i64 (by omega)) ?_)
         refine WL.op rfl (opW.assignI rfl ?_)
         refine WL.nil ?_
         refine thenQ_n ?_
         exact ⟨pgs.length - (k + 1), by omega, k + 1, ⟨rfl, congrArg (Value.int .i64) (by omega), trivial⟩, hS, by omega, rfl⟩
       ·
        have hr3 := hc3
        try simp only [sq1,sq2,sq3,sq4,sq5,sq6,sq7,sq8,sq9,sq0] at hc3
        refine WC.exit ?_
        refine thenQ_e ?_
        refine thenQ_e ?_
        refine blockQ_hit ?_
        refine thenQ_n (hK15 _ _ ?_)
        refine WC.seq (fun K21 hK21 => ?_)
        refine WC.region ?_
        refine WL.op rfl (opW.assignB rfl ?_)
        refine WL.nil ?_
        refine thenQ_n (hK21 _ _ ?_)
        refine WC.ret ?_
        refine bodyQ_ret (.tmpB rfl .nil) ?_
        exact ⟨rfl, hS.drop1.drop1.sub ((List.sublist_append_right _ _).trans (List.sublist_append_right _ _))⟩

theorem bkKey_ok (w0 : World) (n : Nat) (c : UInt8) (hn : n ≤ 1000000) : Ret Tryz.prog 70 #[.int .i64 (n : Int), .int .u8 (c.toNat : Int)] w0 (fun u w' => ∃ k : Key, u = .agg (Enc.enc k) ∧ Bel w0 w') := by
 refine Ret.enter (args := [.int .i64 (n : Int), .int .u8 (c.toNat : Int)]) Tryz.func70 rfl Tryz.ntmps70 Tryz.results70 rfl ?_
 have hS := St.start w0
 refine WC.seq (fun K1 hK1 => ?_)
 refine WC.region ?_
 refine WL.op rfl (opW.allocA hS ?_)
 intro b4 w _ hS
 refine WL.nil ?_
 refine thenQ_n (hK1 _ _ ?_)
 refine WC.seq (fun K2 hK2 => ?_)
 refine WC.region ?_
 refine WL.op rfl (opW.moveI rfl ?_)
 refine WL.op rfl (opW.conv rfl (wrap_u8of _) ?_)
 refine WL.op rfl (opW.moveI rfl ?_)
 refine WL.op rfl (opW.quo rfl rfl (by omega) (show IntKind.i64.wrap _ = ((n / 256 : Nat) : Int) from by rw [show ((n : Int)).tdiv 256 = ((n / 256 : Nat) : Int) from by rw [Int.tdiv_eq_ediv_of_nonneg (by omega)]; omega]; exact wrap_i64 (by omega)) ?_)
 refine WL.op rfl (opW.conv rfl (wrap_u8of _) ?_)
 refine WL.op rfl (opW.moveI rfl ?_)
 refine WL.op rfl (opW.buildVec (k := ((((vz 32).set 0 (u8of n)).set 1 (u8of (n / 256 : Nat))).set 2 77).set 31 c) (by first | rfl | (simp only [sysK, az, enc_vset, enc_vz]; rfl)) (by intro p hp; first | (exfalso; simp at hp; done) | (simp only [List.map_cons, List.map_nil, List.mem_cons, List.not_mem_nil, or_false] at hp; rcases hp with rfl | rfl | rfl | rfl <;> exact ⟨by simp, rfl⟩)) ?_)
 refine WL.op0 (opW.storeE hS rfl rfl (by repeat constructor) (by first | rfl | exact Enc.size_eq _) ?_)
 intro w hS; replace hS := hS _ (by repeat constructor)
 refine WL.nil ?_
 refine thenQ_n (hK2 _ _ ?_)
 refine WC.ret ?_
 refine bodyQ_ret (.cell (by first | exact hS.ldA (by repeat constructor) (by first | rfl | exact Enc.size_eq _) | exact hS.ld1 (by repeat constructor) rfl) .nil) ?_
 exact ⟨_, rfl, hS.old⟩

theorem azJoin : joinA [#[.int .u64 0], Array.replicate 32 (.int .u8 0), #[.int .u64 0]] = Enc.enc az := by
 rw [Account.enc_eq]; simp only [Account.parts, az, enc_vz]; rfl
theorem keyHold (k : Key) : setParts [Array.replicate 32 (.int .u8 0), joinA [#[.int .u64 0], Array.replicate 32 (.int .u8 0), #[.int .u64 0]]] [(0, .agg (Enc.enc k))] = Holding.parts ⟨k, az⟩ := by
 rw [azJoin]; rfl

theorem bkHoldings_ok (wb w0 : World) (S : List Ent) (p : Nat) (sv : SlV) (pgs : List (Pg Tryz.prog)) (lv : Value) (xs : List Holding) (hl : pgs.length ≤ 100000) (hS0 : St wb (bkE p sv pgs :: ownE lv 74 xs :: S) w0) : Ret Tryz.prog 40 #[.pointer (some ⟨p, 0, none⟩), lv] w0 (fun u w' => ∃ sv' pg, St wb (bkE p sv' (pgs ++ [pg]) :: S) w') := by
 refine Ret.enter (args := [.pointer (some ⟨p, 0, none⟩), lv]) Tryz.func40 rfl Tryz.ntmps40 Tryz.results40 rfl ?_
 have hS := St.start w0
 replace hS := hS0.bkOpen
 have hov : OwnS lv xs.length := (hS0.own (v := lv) (e := 74) (xs := xs) (.there .here)).shape
 obtain ⟨sl, rfl⟩ := (hS0.sl (v := lv) (e := 74) (xs := xs) (.there .here)).asV
 refine WC.seq (fun K1 hK1 => ?_)
 refine WC.region ?_
 refine WL.op rfl (opW.moveV (v := .pointer (some ⟨p, 0, none⟩)) rfl ?_)
 refine WL.op rfl (opW.call (number_ok _ p sv pgs (hS.pt (by repeat constructor)) (hS.sl (v := sv.v) (by repeat constructor)) hl) rfl ?_)
 rintro _ w ⟨rfl, hw⟩; replace hS := hS.bel hw
 refine WL.op rfl (opW.assignI rfl ?_)
 refine WL.nil ?_
 refine thenQ_n (hK1 _ _ ?_)
 refine WC.draw 15 (.look 0 (.look 1 (.look 2 (.look 3 (.look 4 (.look 5 (.look 6 (.look 9 (.one 7 (.look 8 (.one 10 (.look 11 (.look 12 (.look 13 (.one 14 (.one 15 (.one 16 (.one 17 (.one 18 .nil))))))))))))))))))) (by kernel_rfl) (fun _ _ _ h => h) (fun w1 hw1 => ?_)
 replace hS := hS.bel hw1
 have hS1 := hS
 have hT := St.start w1
 refine ML.look rfl rfl rfl (fun w hw => (by have hS := hS1.bel hw; exact opW.moveV (v := .pointer (some ⟨p, 0, none⟩)) rfl ⟨rfl, rfl⟩)) ?_
 refine ML.look rfl rfl rfl (fun w hw => (by have hS := hS1.bel hw; exact opW.moveV (v := .pointer (some ⟨p, 0, none⟩)) rfl ⟨rfl, rfl⟩)) ?_
 refine ML.look rfl rfl rfl (fun w hw => (by have hS := hS1.bel hw; exact opW.nilCheckB rfl ⟨rfl, rfl⟩)) ?_
 refine ML.look rfl rfl rfl (fun w hw => (by have hS := hS1.bel hw; exact opW.fieldAddrB rfl ⟨rfl, rfl⟩)) ?_
 refine ML.look rfl rfl rfl (fun w hw => (by have hS := hS1.bel hw; exact opW.loadV rfl (hS.ld1 (by repeat constructor) (BookS.at_pages _)) ⟨rfl, rfl⟩)) ?_
 refine ML.look rfl rfl rfl (fun w hw => (by have hS := hS1.bel hw; exact opW.moveV (v := sl.v) rfl ⟨rfl, rfl⟩)) ?_
 refine ML.look rfl rfl rfl (fun w hw => (by have hS := hS1.bel hw; exact opW.moveI rfl ⟨rfl, rfl⟩)) ?_
 refine ML.look rfl rfl rfl (fun w hw => (by have hS := hS1.bel hw; exact opW.moveI rfl ⟨rfl, rfl⟩)) ?_
 refine ML.one rfl rfl rfl (opW.call (bkKey_ok _ (pgs.length + 1) 1 (by omega)) rfl ?_)
 rintro _ w ⟨k1, rfl, hw⟩; replace hT := hT.bel hw
 refine ⟨hT.old, ?_⟩
 have hS := hS1.merge hT
 try simp only [List.cons_append, List.nil_append] at hS
 refine ML.look rfl rfl rfl (fun w hw => (by have hS := hS1.bel hw; exact opW.buildE (r := (⟨k1, az⟩ : Holding)) (ps := Holding.parts ⟨k1, az⟩) (Holding.enc_eq _) (by exact keyHold k1) (by exact fitO ⟨by decide, Enc.size_eq k1, trivial⟩) ⟨rfl, rfl⟩)) ?_
 refine ML.one rfl rfl rfl (opW.call (bkKey_ok _ (pgs.length + 1) 2 (by omega)) rfl ?_)
 rintro _ w ⟨k2, rfl, hw⟩; replace hT := hT.bel hw
 refine ⟨hT.old, ?_⟩
 have hS := hS1.merge hT
 try simp only [List.cons_append, List.nil_append] at hS
 refine ML.look rfl rfl rfl (fun w hw => (by have hS := hS1.bel hw; exact opW.buildE (r := (⟨k2, az⟩ : Holding)) (ps := Holding.parts ⟨k2, az⟩) (Holding.enc_eq _) (by exact keyHold k2) (by exact fitO ⟨by decide, Enc.size_eq k2, trivial⟩) ⟨rfl, rfl⟩)) ?_
 refine ML.look rfl rfl rfl (fun w hw => (by have hS := hS1.bel hw; exact opW.buildE (r := (⟨sl, ⟨k1, az⟩, ⟨k2, az⟩⟩ : ShHolding)) (ps := ShHolding.parts (⟨sl, ⟨k1, az⟩, ⟨k2, az⟩⟩ : ShHolding)) (ShHolding.enc_eq _) rfl ⟨(by simp), rfl, (by simp), (Enc.size_eq (α := Holding) _), (by simp), (Enc.size_eq (α := Holding) _), trivial⟩ ⟨rfl, rfl⟩)) ?_
 refine ML.look rfl rfl rfl (fun w hw => (by have hS := hS1.bel hw; exact opW.iface rfl ⟨rfl, rfl⟩)) ?_
 refine ML.one rfl rfl rfl (opW.buildSl hT (([(⟨152, .agg (Enc.enc (⟨sl, ⟨k1, az⟩, ⟨k2, az⟩⟩ : ShHolding))⟩ : IfV)] : List IfV)) [.iface 152 (.agg (Enc.enc (⟨sl, ⟨k1, az⟩, ⟨k2, az⟩⟩ : ShHolding)))] rfl rfl rfl rfl (by decide) ?_)
 intro b21 w hw hT
 refine ⟨hT.old, ?_⟩
 have hS := hS1.merge hT
 try simp only [List.cons_append, List.nil_append] at hS
 refine ML.put1 rfl rfl rfl rfl (opW.appendOwn (α := IfV) rfl hS rfl (by repeat constructor) (hS.sl (xs := ([(⟨152, .agg (Enc.enc (⟨sl, ⟨k1, az⟩, ⟨k2, az⟩⟩ : ShHolding))⟩ : IfV)] : List IfV)) (by repeat constructor)) (by simp only [List.length_map, List.length_cons, List.length_nil]; omega) (by simp only [maxLen, List.length_map, List.length_cons, List.length_nil]; omega) ?_)
 intro v22 w hS; replace hS := hS _ (by repeat constructor)
 obtain ⟨sn, rfl⟩ := (hS.sl (v := v22) (xs := pgs.map Pg.iv ++ [(⟨152, .agg (Enc.enc (⟨sl, ⟨k1, az⟩, ⟨k2, az⟩⟩ : ShHolding))⟩ : IfV)]) (by repeat constructor)).asV
 refine ML.put1 rfl rfl rfl rfl (opW.nilCheckB rfl ?_)
 refine ML.put1 rfl rfl rfl rfl (opW.fieldAddrB rfl ?_)
 refine ML.put0 rfl rfl rfl (opW.storeF (v := sn.v) (sz := 1) (cs' := Enc.enc (BookS.mk sn)) hS rfl rfl (by repeat constructor) rfl (by rw [Enc.size_eq]; decide) (Enc.one (α := SlV) sn) (BookS.set_pages (BookS.mk sv) sn) ?_)
 intro w hS; replace hS := hS _ (by repeat constructor)
 refine ML.nil ?_
 refine bodyQ_end .nil ?_
 exact ⟨sn, pg_Holding ⟨sl, ⟨k1, az⟩, ⟨k2, az⟩⟩ xs hov, St.bkAdd (pg_Holding ⟨sl, ⟨k1, az⟩, ⟨k2, az⟩⟩ xs hov) hS.drop1⟩

theorem bkOutcome_ok (wb w0 : World) (S : List Ent) (p : Nat) (sv : SlV) (pgs : List (Pg Tryz.prog)) (o : Outcome) (xs : List Holding) (hl : pgs.length ≤ 100000) (hS0 : St wb (bkE p sv pgs :: ownE o.changed.v 74 xs :: S) w0) : Ret Tryz.prog 13 #[.pointer (some ⟨p, 0, none⟩), .agg (Enc.enc o)] w0 (fun u w' => ∃ sv' pg, St wb (bkE p sv' (pgs ++ [pg]) :: S) w') := by
 refine Ret.enter (args := [.pointer (some ⟨p, 0, none⟩), .agg (Enc.enc o)]) Tryz.func13 rfl Tryz.ntmps13 Tryz.results13 rfl ?_
 have hS := St.start w0
 replace hS := hS0
 refine WC.seq (fun K1 hK1 => ?_)
 refine WC.region ?_
 refine WL.op rfl (opW.boxA hS rfl ?_)
 intro b3 w _ hS
 refine WL.nil ?_
 refine thenQ_n (hK1 _ _ ?_)
 refine WC.region ?_
 refine WL.op rfl (opW.moveV (v := .pointer (some ⟨p, 0, none⟩)) rfl ?_)
 refine WL.op rfl (opW.fieldAddrB rfl ?_)
 refine WL.op rfl (opW.loadV rfl (hS.ld1 (b := b3) (cs := Enc.enc o) (by repeat constructor) (Outcome.at_changed o)) ?_)
 refine WL.op rfl (opW.call (bkHoldings_ok _ _ _ p sv pgs o.changed.v xs hl ((hS.pick (e := ownE o.changed.v 74 xs) (by repeat constructor)).pick (e := bkE p sv pgs) (by repeat constructor))) rfl ?_)
 rintro v7 w ⟨sv1, g1, hS⟩
 refine WL.nil ?_
 refine bodyQ_end .nil ?_
 exact ⟨sv1, g1, hS.sub (by repeat with_reducible first | exact su1 _ | exact su2 _ | refine su3 ?_ | refine su4 ?_)⟩

end Go.Fer
