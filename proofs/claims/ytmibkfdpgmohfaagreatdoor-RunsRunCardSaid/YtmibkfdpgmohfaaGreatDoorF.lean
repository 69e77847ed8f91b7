/- Do -/
import Derived.Test.YtmibkfdpgmohfaaGreatDoorC
set_option linter.all false
namespace Go.Fer
open Go Go.Proofs Go.RowKit

def fz : Value := .nilFunc
def doesK : List (U64 × Value) := [(⟨0⟩, .func (.func 94) #[] #[]), (⟨1⟩, .func (.func 95) #[] #[]), (⟨2⟩, .func (.func 96) #[] #[]), (⟨8⟩, .func (.func 97) #[] #[])]
def idV (v : Value) : Value := v
theorem doesK_eq : aput (⟨8⟩ : U64) (Value.func (.func 97) #[] #[]) (aput ⟨2⟩ (.func (.func 96) #[] #[]) (aput ⟨1⟩ (.func (.func 95) #[] #[]) (aput ⟨0⟩ (.func (.func 94) #[] #[]) []))) = doesK := rfl
def actE (x : Ask) (A B : Account) (same : Bool) : Int := if x.tag = 0 then mkE x A B else if x.tag = 1 then asE A else if x.tag = 2 then mvE x A B same else alE x A
def actL (x : Ask) (l : List Account) (a b : Nat) (A B : Account) : List Account := if x.tag = 0 then mkL x l a b A else if x.tag = 1 then l.set a { A with owner := x.owner } else if x.tag = 2 then mvL x l a b A B else l.set a { A with space := x.space }
theorem does_call (wb w : World) (S : List Ent) (x : Ask) (pr : PairS) (ov : Value) (out : List Account) (a b : Nat) (ha : a < out.length) (hb : b < out.length) (h1 : Value.pointer pr.first = elemP ov a (Enc.sz Account)) (h2 : Value.pointer pr.second = elemP ov b (Enc.sz Account)) (hxw : x.coins < 18446744073709551616 ∧ x.space < 18446744073709551616) (hAw : okW out[a]) (hBw : okW out[b]) (hS : St wb (ownE ov 69 out :: S) w)
  (ht : x.tag = 0 ∨ x.tag = 1 ∨ x.tag = 2 ∨ x.tag = 8) {u : Value} (hu : (aget (⟨x.tag⟩ : U64) doesK).getD fz = u) :
  FnV Tryz.prog u [.agg (Enc.enc x), .agg (Enc.enc pr)] w (fun r w' => ∃ out' : List Account, r = .int .i64 (actE x out[a] out[b] (decide (a = b))) ∧ (actE x out[a] out[b] (decide (a = b)) = 0 → out' = actL x out a b out[a] out[b]) ∧ St wb (ownE ov 69 out' :: S) w') := by
 subst hu
 rcases ht with h | h | h | h
 ·rw [show actE x out[a] out[b] (decide (a = b)) = mkE x out[a] out[b] from if_pos h, show actL x out a b out[a] out[b] = mkL x out a b out[a] from if_pos h, h]
  exact ⟨_, [], [], rfl, inferInstance, make_ok wb w S x pr ov out a b ha hb h1 h2 hxw hAw hBw hS⟩
 ·rw [show actE x out[a] out[b] (decide (a = b)) = asE out[a] from by unfold actE; rw [if_neg (by omega), if_pos h], show actL x out a b out[a] out[b] = out.set a { out[a] with owner := x.owner } from by unfold actL; rw [if_neg (by omega), if_pos h], h]
  exact ⟨_, [], [], rfl, inferInstance, assign_ok wb w S x pr ov out a b ha hb h1 h2 hxw hAw hBw hS⟩
 ·rw [show actE x out[a] out[b] (decide (a = b)) = mvE x out[a] out[b] (decide (a = b)) from by unfold actE; rw [if_neg (by omega), if_neg (by omega), if_pos h], show actL x out a b out[a] out[b] = mvL x out a b out[a] out[b] from by unfold actL; rw [if_neg (by omega), if_neg (by omega), if_pos h], h]
  exact ⟨_, [], [], rfl, inferInstance, move_ok wb w S x pr ov out a b ha hb h1 h2 hxw hAw hBw hS⟩
 ·rw [show actE x out[a] out[b] (decide (a = b)) = alE x out[a] from by unfold actE; rw [if_neg (by omega), if_neg (by omega), if_neg (by omega)], show actL x out a b out[a] out[b] = out.set a { out[a] with space := x.space } from by unfold actL; rw [if_neg (by omega), if_neg (by omega), if_neg (by omega)], h]
  exact ⟨_, [], [], rfl, inferInstance, allocate_ok wb w S x pr ov out a b ha hb h1 h2 hxw hAw hBw hS⟩
def doF (l : List Account) (r : List Role) (ats dt : List UInt8) : Int × Nat × List Account :=
 if l.length ≠ r.length then (1, 0, []) else
 match askF dt with
 | none => (13, 0, [])
 | some x =>
  if takF x.tag r ats ≠ 0 then (takF x.tag r ats, 0, []) else
  let a := (ats.getD 0 0).toNat
  let b := (ats.getD (need x.tag - 1) 0).toNat
  if actE x (l.getD a az) (l.getD b az) (decide (a = b)) ≠ 0 then (actE x (l.getD a az) (l.getD b az) (decide (a = b)), 0, []) else (0, x.space, actL x l a b (l.getD a az) (l.getD b az))
theorem doF_len {l : List Account} {r : List Role} {ats dt : List UInt8} (h : l.length ≠ r.length) : doF l r ats dt = (1, 0, []) := by unfold doF; rw [if_pos h]
theorem doF_none {l : List Account} {r : List Role} {ats dt : List UInt8} (h : l.length = r.length) (hn : askF dt = none) : doF l r ats dt = (13, 0, []) := by unfold doF; rw [if_neg (fun e => e h), hn]
theorem doF_tak {l : List Account} {r : List Role} {ats dt : List UInt8} {x : Ask} (h : l.length = r.length) (hx : askF dt = some x) (ht : takF x.tag r ats ≠ 0) : doF l r ats dt = (takF x.tag r ats, 0, []) := by unfold doF; rw [if_neg (fun e => e h), hx]; simp only; rw [if_pos ht]
theorem getD_of {α : Type} {l : List α} {i : Nat} (h : i < l.length) (d : α) : l.getD i d = l[i] := by simp [List.getD_eq_getElem?_getD, h]
theorem doF_act {l : List Account} {r : List Role} {ats dt : List UInt8} {x : Ask} {j : Nat} (h : l.length = r.length) (hx : askF dt = some x) (ht : takF x.tag r ats = 0) (h0 : 0 < ats.length) (hj : j < ats.length) (hje : need x.tag - 1 = j) (ha : ats[0].toNat < l.length) (hb : ats[j].toNat < l.length) :
  doF l r ats dt = if actE x l[ats[0].toNat] l[ats[j].toNat] (decide (ats[0].toNat = ats[j].toNat)) ≠ 0 then (actE x l[ats[0].toNat] l[ats[j].toNat] (decide (ats[0].toNat = ats[j].toNat)), 0, []) else (0, x.space, actL x l ats[0].toNat ats[j].toNat l[ats[0].toNat] l[ats[j].toNat]) := by
 unfold doF; rw [if_neg (fun e => e h), hx]; simp only; rw [if_neg (fun e => e ht), hje, getD_of h0, getD_of hj, getD_of ha, getD_of hb]
theorem askF_ok {b : List UInt8} {x : Ask} (h : askF b = some x) : (x.tag = 0 ∨ x.tag = 1 ∨ x.tag = 2 ∨ x.tag = 8) ∧ x.coins < 18446744073709551616 ∧ x.space < 18446744073709551616 := by
 unfold askF at h
 split at h
 ·cases h
 ·simp only at h
  have g1 := leN_lt64 (b.drop 4) (m := 8) (Nat.le_refl _)
  have g2 := leN_lt64 ((b.drop 4).drop 8) (m := 8) (Nat.le_refl _)
  split at h
  ·cases h; exact ⟨.inl rfl, g1, g2⟩
  split at h
  ·cases h; exact ⟨.inr (.inl rfl), (by omega : (0 : Nat) < 18446744073709551616), (by omega : (0 : Nat) < 18446744073709551616)⟩
  split at h
  ·cases h; exact ⟨.inr (.inr (.inl rfl)), g1, (by omega : (0 : Nat) < 18446744073709551616)⟩
  split at h
  ·cases h; exact ⟨.inr (.inr (.inr rfl)), (by omega : (0 : Nat) < 18446744073709551616), g1⟩
  ·cases h
theorem takF_ok {t : Nat} {r : List Role} {ats : List UInt8} (h : takF t r ats = 0) : need t ≤ ats.length ∧ lacks r.length ats = false := by
 unfold takF at h
 split at h
 ·cases h
 ·rename_i hn
  rw [Bool.not_eq_true, Bool.or_eq_false_iff] at hn
  simp only [decide_eq_false_iff_not] at hn
  exact ⟨by omega, hn.2⟩
theorem St.cutOwn {α : Type} [Enc α] {w0 w : World} {S S' : List Ent} {v : Value} {T : TypeId} {xs : List α} (hS : St w0 S w) (hT : Turn (ownE v T xs) (ownE (cutV v 0 xs.length xs.length (Enc.sz α)) T xs) S S') : St w0 S' w := by
 have h0 : New w0 w v T xs := hS.own_new hT.has
 have h1 := New.cut (w := w0) (w' := w) (v := v) (e := T) (xs := xs) h0
 refine St.turn ⟨rfl, rfl, rfl, Nat.le_refl _, fun _ _ _ => rfl⟩ (by rw [ownE_A]; exact h1.1) ?_ hS hT
 rw [ownE_F, ownE_F]
 intro k hk
 refine .inl ?_
 rcases h0.1 with ⟨rfl, rfl⟩ | ⟨g, cap, cur, rfl, _⟩
 ·simp [cutV, Value.ownBlock] at hk
 ·by_cases hl : xs.length = 0 <;> simp [cutV, Value.ownBlock, hl] at hk ⊢ <;> exact hk

theorem does_ok (w0 : World) : Ret Tryz.prog 88 #[] w0 (fun u w' => NewM w0 w' u idV doesK ∧ Bel w0 w') := by
 refine Ret.enter (args := []) Tryz.func88 rfl Tryz.ntmps88 Tryz.results88 rfl ?_
 have hS := St.start w0
 refine WC.seq (fun K1 hK1 => ?_)
 refine WC.region ?_
 refine WL.op rfl (opW.assignV rfl ?_)
 refine WL.nil ?_
 refine thenQ_n (hK1 _ _ ?_)
 refine WC.seq (fun K2 hK2 => ?_)
 refine WC.region ?_
 refine WL.op rfl (opW.makeMap U64 (idV : Value → Value) hS ?_)
 intro r1 w _ hS
 refine WL.op0 (opW.insert (κ := U64) (ν := Value) (k := ⟨0⟩) (v := .func (.func 94) #[] #[]) (vv := idV) (kvs := []) hS (by repeat constructor) rfl rfl rfl ?_)
 intro w hS; replace hS := hS _ (by repeat constructor)
 refine WL.op0 (opW.insert (κ := U64) (ν := Value) (k := ⟨1⟩) (v := .func (.func 95) #[] #[]) (vv := idV) (kvs := aput (⟨0⟩ : U64) (.func (.func 94) #[] #[]) []) hS (by repeat constructor) rfl rfl rfl ?_)
 intro w hS; replace hS := hS _ (by repeat constructor)
 refine WL.op0 (opW.insert (κ := U64) (ν := Value) (k := ⟨2⟩) (v := .func (.func 96) #[] #[]) (vv := idV) (kvs := aput (⟨1⟩ : U64) (.func (.func 95) #[] #[]) (aput (⟨0⟩ : U64) (.func (.func 94) #[] #[]) [])) hS (by repeat constructor) rfl rfl rfl ?_)
 intro w hS; replace hS := hS _ (by repeat constructor)
 refine WL.op0 (opW.insert (κ := U64) (ν := Value) (k := ⟨8⟩) (v := .func (.func 97) #[] #[]) (vv := idV) (kvs := aput (⟨2⟩ : U64) (.func (.func 96) #[] #[]) (aput (⟨1⟩ : U64) (.func (.func 95) #[] #[]) (aput (⟨0⟩ : U64) (.func (.func 94) #[] #[]) []))) hS (by repeat constructor) rfl rfl rfl ?_)
 intro w hS; replace hS := hS _ (by repeat constructor)
 rw [doesK_eq] at hS
 refine WL.op rfl (opW.moveV (v := .map (some r1)) rfl ?_)
 refine WL.op rfl (opW.assignV (v := .map (some r1)) rfl ?_)
 refine WL.nil ?_
 refine thenQ_n (hK2 _ _ ?_)
 refine WC.ret ?_
 refine bodyQ_ret (.tmpV (v := .map (some r1)) rfl .nil) ?_
 exact ⟨hS.map_new .here, hS.old⟩

theorem clone_a (w0 : World) (v : Value) (xs : List Account) (hx : SlR w0 v xs) (hl : xs.length ≤ 100000) : Ret Tryz.prog 26 #[v] w0 (fun u w' => New w0 w' u 69 xs ∧ Bel w0 w') := by
 refine Ret.enter (args := [v]) Tryz.func26 rfl Tryz.ntmps26 Tryz.results26 rfl ?_
 have hS := St.start w0
 obtain ⟨a, c, rfl⟩ := hx.eq
 refine WC.seq (fun K1 hK1 => ?_)
 refine WC.region ?_
 refine WL.op rfl (opW.assignV (v := .slice none 0 0) rfl ?_)
 refine WL.nil ?_
 refine thenQ_n (hK1 _ _ ?_)
 refine WC.seq (fun K2 hK2 => ?_)
 refine WC.seq (fun K3 hK3 => ?_)
 refine WC.region ?_
 refine WL.op rfl (opW.moveV (v := .slice a xs.length c) rfl ?_)
 refine WL.op rfl (opW.eqlNil rfl rfl ?_)
 refine WL.nil ?_
 refine thenQ_n (hK3 _ _ ?_)
 refine WC.cond _ rfl (fun hc0 => ?_) (fun hc0 => ?_)
 ·
  have hr0 := hc0
  try simp only [sq1,sq2,sq3,sq4,sq5,sq6,sq7,sq8,sq9,sq0] at hc0
  refine WC.seq (fun K4 hK4 => ?_)
  refine WC.region ?_
  refine WL.op rfl (opW.assignV (v := .slice none 0 0) rfl ?_)
  refine WL.nil ?_
  refine thenQ_n (hK4 _ _ ?_)
  refine WC.ret ?_
  refine thenQ_r ?_
  refine bodyQ_ret (.tmpV (v := .slice none 0 0) rfl .nil) ?_
  cases a with
  | none =>
   obtain ⟨rfl, _, _⟩ := hx.none_nil
   exact ⟨New.nil _ _ _, hS.old⟩
  | some a => cases hc0
 ·
  have hr0 := hc0
  try simp only [sq1,sq2,sq3,sq4,sq5,sq6,sq7,sq8,sq9,sq0] at hc0
  refine WC.skip ?_
  refine thenQ_n (hK2 _ _ ?_)
  refine WC.seq (fun K5 hK5 => ?_)
  refine WC.region ?_
  refine WL.op rfl (opW.buildSl hS ([] : List Account) [] rfl rfl rfl rfl (by simp) ?_)
  intro b5 w _ hS
  refine WL.op rfl (opW.moveV (v := .slice a xs.length c) rfl ?_)
  refine WL.op rfl (opW.appendOwn (α := Account) rfl hS rfl (by repeat constructor) ((hx.bel hS.old)) (by (try simp only [List.length_append, List.length_cons, List.length_nil, List.length_map]); omega) (by simp only [maxLen]; (try simp only [List.length_append, List.length_cons, List.length_nil, List.length_map]); omega) ?_)
  intro v7 w hS; replace hS := hS _ (by repeat constructor)
  refine WL.op rfl (opW.assignV (v := v7) rfl ?_)
  refine WL.nil ?_
  refine thenQ_n (hK5 _ _ ?_)
  refine WC.ret ?_
  refine bodyQ_ret (.tmpV (v := v7) rfl .nil) ?_
  have h1 := hS.own_new (by repeat constructor); simp only [List.nil_append] at h1; exact ⟨h1, hS.old⟩

theorem clip_a (w0 : World) (v : Value) (xs : List Account) (hx : SlR w0 v xs) : Ret Tryz.prog 45 #[v] w0 (fun u w' => u = cutV v 0 xs.length xs.length (Enc.sz (Account)) ∧ Bel w0 w') := by
 refine Ret.enter (args := [v]) Tryz.func45 rfl Tryz.ntmps45 Tryz.results45 rfl ?_
 have hS := St.start w0
 refine WC.seq (fun K1 hK1 => ?_)
 refine WC.region ?_
 refine WL.op rfl (opW.assignV (v := .slice none 0 0) rfl ?_)
 refine WL.nil ?_
 refine thenQ_n (hK1 _ _ ?_)
 refine WC.seq (fun K2 hK2 => ?_)
 refine WC.region ?_
 refine WL.op rfl (opW.moveV (v := v) rfl ?_)
 refine WL.op rfl (opW.moveV (v := v) rfl ?_)
 refine WL.op rfl (opW.lenV rfl ((hx.bel hS.old)) ?_)
 refine WL.op rfl (opW.moveV (v := v) rfl ?_)
 refine WL.op rfl (opW.lenV rfl ((hx.bel hS.old)) ?_)
 refine WL.op rfl (opW.cutS (hx.bel hS.old) ⟨⟨_, rfl⟩, hx.cap⟩ ⟨⟨_, rfl⟩, Nat.le_refl _⟩ ⟨rfl, Nat.zero_le _⟩ ?_)
 refine WL.op rfl (opW.assignV rfl ?_)
 refine WL.nil ?_
 refine thenQ_n (hK2 _ _ ?_)
 refine WC.ret ?_
 refine bodyQ_ret (.tmp .nil) ?_
 exact ⟨rfl, hS.old⟩

theorem do_ok (w0 : World) (vl vr : Value) (ins : Instr) (l : List Account) (r : List Role) (ats dt : List UInt8) (hl : SlR w0 vl l) (hr : SlR w0 vr r) (ha : SlR w0 ins.accounts.v ats) (hd : SlR w0 ins.data.v dt) (hlb : l.length ≤ 100000) (hlw : ∀ y ∈ l, okW y) : Ret Tryz.prog 76 #[vl, vr, .agg (Enc.enc ins)] w0 (fun u w' => ∃ v, u = .tuple #[v, .int .u64 ((doF l r ats dt).2.1 : Int), .int .i64 (doF l r ats dt).1] ∧ New w0 w' v 69 (doF l r ats dt).2.2 ∧ Bel w0 w') := by
 refine Ret.enter (args := [vl, vr, .agg (Enc.enc ins)]) Tryz.func76 rfl Tryz.ntmps76 Tryz.results76 rfl ?_
 have hS := St.start w0
 refine WC.seq (fun K1 hK1 => ?_)
 refine WC.region ?_
 refine WL.op rfl (opW.boxA hS rfl ?_)
 intro b5 w _ hS
 refine WL.op rfl (opW.assignV (v := .slice none 0 0) rfl ?_)
 refine WL.op rfl (opW.assignI rfl ?_)
 refine WL.op rfl (opW.assignI rfl ?_)
 refine WL.nil ?_
 refine thenQ_n (hK1 _ _ ?_)
 refine WC.seq (fun K2 hK2 => ?_)
 refine WC.seq (fun K3 hK3 => ?_)
 refine WC.region ?_
 refine WL.op rfl (opW.moveV (v := vl) rfl ?_)
 refine WL.op rfl (opW.lenV rfl ((hl.bel hS.old)) ?_)
 refine WL.op rfl (opW.moveV (v := vr) rfl ?_)
 refine WL.op rfl (opW.lenV rfl ((hr.bel hS.old)) ?_)
 refine WL.op rfl (opW.neq rfl rfl ?_)
 refine WL.nil ?_
 refine thenQ_n (hK3 _ _ ?_)
 refine WC.cond _ rfl (fun hc0 => ?_) (fun hc0 => ?_)
 ·
  have hr0 := hc0
  try simp only [sq1,sq2,sq3,sq4,sq5,sq6,sq7,sq8,sq9,sq0] at hc0
  refine WC.seq (fun K4 hK4 => ?_)
  refine WC.region ?_
  refine WL.op rfl (opW.assignV (v := .slice none 0 0) rfl ?_)
  refine WL.op rfl (opW.assignI rfl ?_)
  refine WL.op rfl (opW.assignI rfl ?_)
  refine WL.nil ?_
  refine thenQ_n (hK4 _ _ ?_)
  refine WC.ret ?_
  refine thenQ_r ?_
  refine bodyQ_ret (.tmpV (v := .slice none 0 0) rfl (.tmpI rfl (.tmpI rfl .nil))) ?_
  rw [doF_len (by omega)]
  exact ⟨_, rfl, New.nil _ _ _, hS.old⟩
 ·
  have hr0 := hc0
  try simp only [sq1,sq2,sq3,sq4,sq5,sq6,sq7,sq8,sq9,sq0] at hc0
  have hlen : l.length = r.length := by omega
  refine WC.skip ?_
  refine thenQ_n (hK2 _ _ ?_)
  refine WC.seq (fun K5 hK5 => ?_)
  refine WC.region ?_
  refine WL.op rfl (opW.fieldAddrB rfl ?_)
  refine WL.op rfl (opW.loadV rfl (hS.ld1 (by repeat constructor) (Instr.at_data _)) ?_)
  refine WL.op rfl (opW.call (data_ok _ ins.data.v dt (hd.bel hS.old)) rfl ?_)
  rintro _ w ⟨x, bb, rfl, hbb, hask, hw⟩; replace hS := hS.bel hw
  refine WL.op rfl (opW.moveV (v := .tuple #[.agg (Enc.enc x), .bool bb]) rfl ?_)
  refine WL.op rfl (opW.extract rfl rfl ?_)
  refine WL.op rfl (opW.extract rfl rfl ?_)
  refine WL.op rfl (opW.allocA hS ?_)
  intro b9 w _ hS
  refine WL.op0 (opW.storeE hS rfl rfl (by repeat constructor) (by first | rfl | exact Enc.size_eq _) ?_)
  intro w hS; replace hS := hS _ (by repeat constructor)
  refine WL.op rfl (opW.assignB rfl ?_)
  refine WL.nil ?_
  refine thenQ_n (hK5 _ _ ?_)
  refine WC.seq (fun K6 hK6 => ?_)
  refine WC.seq (fun K7 hK7 => ?_)
  refine WC.region ?_
  refine WL.op rfl (opW.moveB rfl ?_)
  refine WL.op rfl (opW.not rfl ?_)
  refine WL.nil ?_
  refine thenQ_n (hK7 _ _ ?_)
  refine WC.cond _ rfl (fun hc1 => ?_) (fun hc1 => ?_)
  ·
   have hr1 := hc1
   try simp only [sq1,sq2,sq3,sq4,sq5,sq6,sq7,sq8,sq9,sq0] at hc1
   refine WC.seq (fun K8 hK8 => ?_)
   refine WC.region ?_
   refine WL.op rfl (opW.assignV (v := .slice none 0 0) rfl ?_)
   refine WL.op rfl (opW.assignI rfl ?_)
   refine WL.op rfl (opW.assignI rfl ?_)
   refine WL.nil ?_
   refine thenQ_n (hK8 _ _ ?_)
   refine WC.ret ?_
   refine thenQ_r ?_
   refine bodyQ_ret (.tmpV (v := .slice none 0 0) rfl (.tmpI rfl (.tmpI rfl .nil))) ?_
   have hbf : bb = false := by simpa using hr1
   rw [doF_none hlen (by rw [hbf] at hbb; cases h : askF dt with | none => rfl | some y => rw [h] at hbb; cases hbb)]
   exact ⟨_, rfl, New.nil _ _ _, hS.old⟩
  ·
   have hr1 := hc1
   try simp only [sq1,sq2,sq3,sq4,sq5,sq6,sq7,sq8,sq9,sq0] at hc1
   have hx := hask (by simpa using hr1)
   obtain ⟨htag, hxc, hxs⟩ := askF_ok hx
   refine WC.skip ?_
   refine thenQ_n (hK6 _ _ ?_)
   refine WC.seq (fun K9 hK9 => ?_)
   refine WC.seq (fun K10 hK10 => ?_)
   refine WC.region ?_
   refine WL.op rfl (opW.loadV rfl (hS.ldA (cs := Enc.enc x) (by repeat constructor) (Enc.size_eq _)) ?_)
   refine WL.op rfl (opW.moveV (v := vr) rfl ?_)
   refine WL.op rfl (opW.fieldAddrB rfl ?_)
   refine WL.op rfl (opW.loadV rfl (hS.ld1 (by repeat constructor) (Instr.at_accounts _)) ?_)
   refine WL.op rfl (opW.call (taken_ok _ x _ _ r ats (hr.bel hS.old) (ha.bel hS.old)) rfl ?_)
   rintro _ w ⟨rfl, hw⟩; replace hS := hS.bel hw
   refine WL.op rfl (opW.assignI rfl ?_)
   refine WL.nil ?_
   refine thenQ_n (hK10 _ _ ?_)
   refine WC.seq (fun K11 hK11 => ?_)
   refine WC.region ?_
   refine WL.op rfl (opW.moveI rfl ?_)
   refine WL.op rfl (opW.neq rfl rfl ?_)
   refine WL.nil ?_
   refine thenQ_n (hK11 _ _ ?_)
   refine WC.cond _ rfl (fun hc2 => ?_) (fun hc2 => ?_)
   ·
    have hr2 := hc2
    try simp only [sq1,sq2,sq3,sq4,sq5,sq6,sq7,sq8,sq9,sq0] at hc2
    refine WC.seq (fun K12 hK12 => ?_)
    refine WC.region ?_
    refine WL.op rfl (opW.moveI rfl ?_)
    refine WL.op rfl (opW.assignV (v := .slice none 0 0) rfl ?_)
    refine WL.op rfl (opW.assignI rfl ?_)
    refine WL.op rfl (opW.assignI rfl ?_)
    refine WL.nil ?_
    refine thenQ_n (hK12 _ _ ?_)
    refine WC.ret ?_
    refine thenQ_r ?_
    refine bodyQ_ret (.tmpV (v := .slice none 0 0) rfl (.tmpI rfl (.tmpI rfl .nil))) ?_
    rw [doF_tak hlen hx (by simpa using hr2)]
    exact ⟨_, rfl, New.nil _ _ _, hS.old⟩
   ·
    have hr2 := hc2
    try simp only [sq1,sq2,sq3,sq4,sq5,sq6,sq7,sq8,sq9,sq0] at hc2
    have htk : takF x.tag r ats = 0 := by simpa using hr2
    obtain ⟨hnl, hlk⟩ := takF_ok htk
    have hn12 := need_12 x.tag
    obtain ⟨j, hj⟩ : ∃ j, need x.tag - 1 = j := ⟨_, rfl⟩
    have hjl : j < ats.length := by omega
    have h0l : 0 < ats.length := by omega
    have ha0 : ats[0].toNat < l.length := by rw [hlen]; exact lacks_no hlk (List.getElem_mem _)
    have haj : ats[j].toNat < l.length := by rw [hlen]; exact lacks_no hlk (List.getElem_mem _)
    have hact := doF_act hlen hx htk h0l hjl hj ha0 haj
    refine WC.skip ?_
    refine thenQ_n (hK9 _ _ ?_)
    refine WC.seq (fun K13 hK13 => ?_)
    refine WC.region ?_
    refine WL.op rfl (opW.moveV (v := vl) rfl ?_)
    refine WL.op rfl (opW.call (clone_a _ _ l (hl.bel hS.old) hlb) rfl ?_)
    rintro v37 w ⟨hn37, hw⟩; replace hS := hS.newOwn hw hn37.1 hn37.2
    refine WL.op rfl (opW.call (clip_a _ _ l (hS.sl (v := v37) (xs := l) (by repeat constructor))) rfl ?_)
    rintro v38 w ⟨hv38, hw⟩; replace hS := hS.bel hw
    refine WL.op rfl (opW.assignV (v := v38) rfl ?_)
    replace hS := hS.cutOwn (v := v37) (T := 69) (xs := l) (by repeat constructor)
    rw [← hv38] at hS
    obtain ⟨pa, hpa⟩ : ∃ p, (elemP v38 ats[0].toNat (Enc.sz Account)) = .pointer p := by obtain ⟨b, o, h⟩ := (hS.sl (v := v38) (xs := l) (by repeat constructor)).isP (sz := Enc.sz Account) ha0; exact ⟨_, h⟩
    obtain ⟨pb, hpb⟩ : ∃ p, (elemP v38 ats[j].toNat (Enc.sz Account)) = .pointer p := by obtain ⟨b, o, h⟩ := (hS.sl (v := v38) (xs := l) (by repeat constructor)).isP (sz := Enc.sz Account) haj; exact ⟨_, h⟩
    have hA := hlw _ (List.getElem_mem ha0)
    have hB := hlw _ (List.getElem_mem haj)
    refine WL.nil ?_
    refine thenQ_n (hK13 _ _ ?_)
    refine WC.seq (fun K14 hK14 => ?_)
    refine WC.draw 17 (.look 0 (.look 1 (.look 2 (.look 3 (.look 4 (.look 5 (.look 6 (.look 7 (.look 8 (.look 9 (.fork 10 16 (.look 11 (.look 12 (.look 13 (.look 14 (.look 15 (.one 16 (.one 17 .nil))))))) (.one 10 (.look 11 (.look 12 (.look 13 (.look 14 (.look 15 (.one 17 .nil)))))))))))))))))) (by kernel_rfl) (fun _ _ _ h => h) (fun w1 hw1 => ?_)
    replace hS := hS.bel hw1
    have hS1 := hS
    have hT := St.start w1
    refine ML.look rfl rfl rfl (fun w hw => (by have hS := hS1.bel hw; exact opW.moveV (v := v38) rfl ⟨rfl, rfl⟩)) ?_
    refine ML.look rfl rfl rfl (fun w hw => (by have hS := hS1.bel hw; exact opW.fieldAddrB rfl ⟨rfl, rfl⟩)) ?_
    refine ML.look rfl rfl rfl (fun w hw => (by have hS := hS1.bel hw; exact opW.loadV rfl (hS.ld1 (by repeat constructor) (Instr.at_accounts _)) ⟨rfl, rfl⟩)) ?_
    refine ML.look rfl rfl rfl (fun w hw => (by have hS := hS1.bel hw; exact opW.idxV rfl ((ha.bel hS.old)) rfl (by omega) ⟨rfl, rfl⟩)) ?_
    refine ML.look rfl rfl rfl (fun w hw => (by have hS := hS1.bel hw; exact opW.loadV rfl (((ha.bel hS.old).isPt h0l).ld rfl) ⟨rfl, rfl⟩)) ?_
    refine ML.look rfl rfl rfl (fun w hw => (by have hS := hS1.bel hw; exact opW.idxV rfl (hS.sl (v := v38) (xs := l) (by repeat constructor)) rfl (by omega) ⟨rfl, rfl⟩)) ?_
    refine ML.look rfl rfl rfl (fun w hw => (by have hS := hS1.bel hw; exact opW.moveV (v := v38) rfl ⟨rfl, rfl⟩)) ?_
    refine ML.look rfl rfl rfl (fun w hw => (by have hS := hS1.bel hw; exact opW.fieldAddrB rfl ⟨rfl, rfl⟩)) ?_
    refine ML.look rfl rfl rfl (fun w hw => (by have hS := hS1.bel hw; exact opW.loadV rfl (hS.ld1 (by repeat constructor) (Instr.at_accounts _)) ⟨rfl, rfl⟩)) ?_
    refine ML.look rfl rfl rfl (fun w hw => (by have hS := hS1.bel hw; exact opW.loadV rfl (hS.ldA (cs := Enc.enc x) (by repeat constructor) (Enc.size_eq _)) ⟨rfl, rfl⟩)) ?_
    refine ML.fork rfl rfl rfl rfl ?_ ?_ 
    ·refine opW.call (need_ok _ x) rfl ?_
     rintro _ w ⟨rfl, hw⟩; replace hT := hT.bel hw
     refine ⟨hT.old, ?_⟩
     have hS := hS1.merge hT
     try simp only [List.cons_append, List.nil_append] at hS
     refine ML.look rfl rfl rfl (fun w hw => (by have hS := hS1.bel hw; exact opW.sub rfl rfl ((wrap_i64 (by omega)).trans (by omega : _ = (j : Int))) ⟨rfl, rfl⟩)) ?_
     refine ML.look rfl rfl rfl (fun w hw => (by have hS := hS1.bel hw; exact opW.idxV rfl ((ha.bel hS.old)) rfl (by omega) ⟨rfl, rfl⟩)) ?_
     refine ML.look rfl rfl rfl (fun w hw => (by have hS := hS1.bel hw; exact opW.loadV rfl (((ha.bel hS.old).isPt hjl).ld rfl) ⟨rfl, rfl⟩)) ?_
     refine ML.look rfl rfl rfl (fun w hw => (by have hS := hS1.bel hw; exact opW.idxV rfl (hS.sl (v := v38) (xs := l) (by repeat constructor)) rfl (by omega) ⟨rfl, rfl⟩)) ?_
     refine ML.look rfl rfl rfl (fun w hw => (by have hS := hS1.bel hw; exact opW.buildE (r := (⟨pa, pb⟩ : PairS)) (ps := PairS.parts (⟨pa, pb⟩ : PairS)) (PairS.enc_eq _) (by show setParts _ [(0, (elemP v38 ats[0].toNat (Enc.sz Account))), (1, (elemP v38 ats[j].toNat (Enc.sz Account)))] = _; rw [hpa, hpb]; rfl) (by show partsFit _ [(0, (elemP v38 ats[0].toNat (Enc.sz Account))), (1, (elemP v38 ats[j].toNat (Enc.sz Account)))]; rw [hpa, hpb]; (repeat' (first | exact trivial | refine And.intro ?_ ?_)) <;> first | rfl | exact Enc.size_eq _ | (simp; done)) ⟨rfl, rfl⟩)) ?_
     refine ML.one rfl rfl rfl (opW.allocA hT ?_)
     intro b13 w hw hT
     refine ⟨hT.old, ?_⟩
     have hS := hS1.merge hT
     try simp only [List.cons_append, List.nil_append] at hS
     refine ML.put0 rfl rfl rfl (opW.storeE hS rfl rfl (by repeat constructor) (by first | rfl | exact Enc.size_eq _) ?_)
     intro w hS; replace hS := hS _ (by repeat constructor)
     refine ML.nil ?_
     refine thenQ_n (hK14 _ _ ?_)
     refine WC.seq (fun K15 hK15 => ?_)
     refine WC.seq (fun K16 hK16 => ?_)
     refine WC.draw 6 (.look 1 (.look 2 (.look 4 (.look 5 (.one 0 (.one 3 (.one 6 (.one 7 .nil)))))))) (by kernel_rfl) (fun _ _ _ h => h) (fun w1 hw1 => ?_)
     replace hS := hS.bel hw1
     have hS1 := hS
     have hT := St.start w1
     obtain ⟨fvx, hfv⟩ : ∃ u, (aget (⟨x.tag⟩ : U64) doesK).getD fz = u := ⟨_, rfl⟩
     refine ML.look rfl rfl rfl (fun w hw => (by have hS := hS1.bel hw; exact opW.fieldAddrB rfl ⟨rfl, rfl⟩)) ?_
     refine ML.look rfl rfl rfl (fun w hw => (by have hS := hS1.bel hw; exact opW.loadV rfl (hS.ld1 (by repeat constructor) (Ask.at_tag _)) ⟨rfl, rfl⟩)) ?_
     refine ML.look rfl rfl rfl (fun w hw => (by have hS := hS1.bel hw; exact opW.loadV rfl (hS.ldA (cs := Enc.enc x) (by repeat constructor) (Enc.size_eq _)) ⟨rfl, rfl⟩)) ?_
     refine ML.look rfl rfl rfl (fun w hw => (by have hS := hS1.bel hw; exact opW.loadV rfl (hS.ldA (cs := Enc.enc (⟨pa, pb⟩ : PairS)) (by repeat constructor) (Enc.size_eq _)) ⟨rfl, rfl⟩)) ?_
     refine ML.one rfl rfl rfl (opW.call (does_ok _) rfl ?_)
     rintro _ w ⟨⟨r55, rfl, hge, hmb⟩, hw⟩; replace hT := hT.newMap hw hmb hge
     refine ⟨hT.old, ?_⟩
     have hS := hS1.merge hT
     try simp only [List.cons_append, List.nil_append] at hS
     refine ML.one rfl rfl rfl (opW.lookupZ (κ := U64) (ν := Value) (k := ⟨x.tag⟩) (vv := idV) (kvs := doesK) (z0 := fz) (inferInstanceAs (ZeroT Tryz.prog _ .nilFunc)) (hS.map (by repeat constructor)) rfl rfl hfv ?_)
     refine ⟨hT.old, ?_⟩
     have hS := hS1.merge hT
     try simp only [List.cons_append, List.nil_append] at hS
     refine ML.put1 rfl rfl rfl rfl (opW.callV rfl (does_call w0 _ _ x (⟨pa, pb⟩ : PairS) v38 l _ _ ha0 haj hpa.symm hpb.symm ⟨hxc, hxs⟩ hA hB (hS.pick (e := ownE v38 69 l) (by repeat constructor)) htag hfv) rfl ?_)
     rintro _ w ⟨out2, rfl, hout, hS⟩
     refine ML.put1 rfl rfl rfl rfl (opW.assignI rfl ?_)
     refine ML.nil ?_
     refine thenQ_n (hK16 _ _ ?_)
     refine WC.seq (fun K17 hK17 => ?_)
     refine WC.region ?_
     refine WL.op rfl (opW.moveI rfl ?_)
     refine WL.op rfl (opW.neq rfl rfl ?_)
     refine WL.nil ?_
     refine thenQ_n (hK17 _ _ ?_)
     refine WC.cond _ rfl (fun hc3 => ?_) (fun hc3 => ?_)
     ·
      have hr3 := hc3
      try simp only [sq1,sq2,sq3,sq4,sq5,sq6,sq7,sq8,sq9,sq0] at hc3
      refine WC.seq (fun K18 hK18 => ?_)
      refine WC.region ?_
      refine WL.op rfl (opW.moveI rfl ?_)
      refine WL.op rfl (opW.assignV (v := .slice none 0 0) rfl ?_)
      refine WL.op rfl (opW.assignI rfl ?_)
      refine WL.op rfl (opW.assignI rfl ?_)
      refine WL.nil ?_
      refine thenQ_n (hK18 _ _ ?_)
      refine WC.ret ?_
      refine thenQ_r ?_
      refine bodyQ_ret (.tmpV (v := .slice none 0 0) rfl (.tmpI rfl (.tmpI rfl .nil))) ?_
      have hne : actE x l[ats[0].toNat] l[ats[j].toNat] (decide (ats[0].toNat = ats[j].toNat)) ≠ 0 := by simpa using hr3
      rw [hact, if_pos hne]
      exact ⟨_, rfl, New.nil _ _ _, hS.old⟩
     ·
      have hr3 := hc3
      try simp only [sq1,sq2,sq3,sq4,sq5,sq6,sq7,sq8,sq9,sq0] at hc3
      refine WC.skip ?_
      refine thenQ_n (hK15 _ _ ?_)
      refine WC.seq (fun K19 hK19 => ?_)
      refine WC.draw 6 (.look 0 (.look 1 (.look 2 (.look 3 (.look 4 (.look 5 .nil)))))) (by kernel_rfl) (fun _ _ _ h => h) (fun w1 hw1 => ?_)
      replace hS := hS.bel hw1
      have hS1 := hS
      have hT := St.start w1
      refine ML.look rfl rfl rfl (fun w hw => (by have hS := hS1.bel hw; exact opW.moveV (v := v38) rfl ⟨rfl, rfl⟩)) ?_
      refine ML.look rfl rfl rfl (fun w hw => (by have hS := hS1.bel hw; exact opW.fieldAddrB rfl ⟨rfl, rfl⟩)) ?_
      refine ML.look rfl rfl rfl (fun w hw => (by have hS := hS1.bel hw; exact opW.loadV rfl (hS.ld1 (by repeat constructor) (Ask.at_space _)) ⟨rfl, rfl⟩)) ?_
      refine ML.look rfl rfl rfl (fun w hw => (by have hS := hS1.bel hw; exact opW.assignV (v := v38) rfl ⟨rfl, rfl⟩)) ?_
      refine ML.look rfl rfl rfl (fun w hw => (by have hS := hS1.bel hw; exact opW.assignI rfl ⟨rfl, rfl⟩)) ?_
      refine ML.look rfl rfl rfl (fun w hw => (by have hS := hS1.bel hw; exact opW.assignI rfl ⟨rfl, rfl⟩)) ?_
      refine ML.nil ?_
      refine thenQ_n (hK19 _ _ ?_)
      refine WC.ret ?_
      refine bodyQ_ret (.tmpV (v := v38) rfl (.tmpI rfl (.tmpI rfl .nil))) ?_
      have hz : actE x l[ats[0].toNat] l[ats[j].toNat] (decide (ats[0].toNat = ats[j].toNat)) = 0 := by simpa using hr3
      rw [hact, if_neg (fun e => e hz), ← hout hz]
      exact ⟨_, rfl, hS.own_new (by repeat constructor), hS.old⟩
    ·refine opW.allocA hT ?_
     intro b13 w hw hT
     refine ⟨hT.old, ?_⟩
     have hS := hS1.merge hT
     try simp only [List.cons_append, List.nil_append] at hS
     refine ML.one rfl rfl rfl (opW.call (need_ok _ x) rfl ?_)
     rintro _ w ⟨rfl, hw⟩; replace hT := hT.bel hw
     refine ⟨hT.old, ?_⟩
     have hS := hS1.merge hT
     try simp only [List.cons_append, List.nil_append] at hS
     refine ML.look rfl rfl rfl (fun w hw => (by have hS := hS1.bel hw; exact opW.sub rfl rfl ((wrap_i64 (by omega)).trans (by omega : _ = (j : Int))) ⟨rfl, rfl⟩)) ?_
     refine ML.look rfl rfl rfl (fun w hw => (by have hS := hS1.bel hw; exact opW.idxV rfl ((ha.bel hS.old)) rfl (by omega) ⟨rfl, rfl⟩)) ?_
     refine ML.look rfl rfl rfl (fun w hw => (by have hS := hS1.bel hw; exact opW.loadV rfl (((ha.bel hS.old).isPt hjl).ld rfl) ⟨rfl, rfl⟩)) ?_
     refine ML.look rfl rfl rfl (fun w hw => (by have hS := hS1.bel hw; exact opW.idxV rfl (hS.sl (v := v38) (xs := l) (by repeat constructor)) rfl (by omega) ⟨rfl, rfl⟩)) ?_
     refine ML.look rfl rfl rfl (fun w hw => (by have hS := hS1.bel hw; exact opW.buildE (r := (⟨pa, pb⟩ : PairS)) (ps := PairS.parts (⟨pa, pb⟩ : PairS)) (PairS.enc_eq _) (by show setParts _ [(0, (elemP v38 ats[0].toNat (Enc.sz Account))), (1, (elemP v38 ats[j].toNat (Enc.sz Account)))] = _; rw [hpa, hpb]; rfl) (by show partsFit _ [(0, (elemP v38 ats[0].toNat (Enc.sz Account))), (1, (elemP v38 ats[j].toNat (Enc.sz Account)))]; rw [hpa, hpb]; (repeat' (first | exact trivial | refine And.intro ?_ ?_)) <;> first | rfl | exact Enc.size_eq _ | (simp; done)) ⟨rfl, rfl⟩)) ?_
     refine ML.put0 rfl rfl rfl (opW.storeE hS rfl rfl (by repeat constructor) (by first | rfl | exact Enc.size_eq _) ?_)
     intro w hS; replace hS := hS _ (by repeat constructor)
     refine ML.nil ?_
     refine thenQ_n (hK14 _ _ ?_)
     refine WC.seq (fun K20 hK20 => ?_)
     refine WC.seq (fun K21 hK21 => ?_)
     refine WC.draw 6 (.look 1 (.look 2 (.look 4 (.look 5 (.one 0 (.one 3 (.one 6 (.one 7 .nil)))))))) (by kernel_rfl) (fun _ _ _ h => h) (fun w1 hw1 => ?_)
     replace hS := hS.bel hw1
     have hS1 := hS
     have hT := St.start w1
     obtain ⟨fvx, hfv⟩ : ∃ u, (aget (⟨x.tag⟩ : U64) doesK).getD fz = u := ⟨_, rfl⟩
     refine ML.look rfl rfl rfl (fun w hw => (by have hS := hS1.bel hw; exact opW.fieldAddrB rfl ⟨rfl, rfl⟩)) ?_
     refine ML.look rfl rfl rfl (fun w hw => (by have hS := hS1.bel hw; exact opW.loadV rfl (hS.ld1 (by repeat constructor) (Ask.at_tag _)) ⟨rfl, rfl⟩)) ?_
     refine ML.look rfl rfl rfl (fun w hw => (by have hS := hS1.bel hw; exact opW.loadV rfl (hS.ldA (cs := Enc.enc x) (by repeat constructor) (Enc.size_eq _)) ⟨rfl, rfl⟩)) ?_
     refine ML.look rfl rfl rfl (fun w hw => (by have hS := hS1.bel hw; exact opW.loadV rfl (hS.ldA (cs := Enc.enc (⟨pa, pb⟩ : PairS)) (by repeat constructor) (Enc.size_eq _)) ⟨rfl, rfl⟩)) ?_
     refine ML.one rfl rfl rfl (opW.call (does_ok _) rfl ?_)
     rintro _ w ⟨⟨r55, rfl, hge, hmb⟩, hw⟩; replace hT := hT.newMap hw hmb hge
     refine ⟨hT.old, ?_⟩
     have hS := hS1.merge hT
     try simp only [List.cons_append, List.nil_append] at hS
     refine ML.one rfl rfl rfl (opW.lookupZ (κ := U64) (ν := Value) (k := ⟨x.tag⟩) (vv := idV) (kvs := doesK) (z0 := fz) (inferInstanceAs (ZeroT Tryz.prog _ .nilFunc)) (hS.map (by repeat constructor)) rfl rfl hfv ?_)
     refine ⟨hT.old, ?_⟩
     have hS := hS1.merge hT
     try simp only [List.cons_append, List.nil_append] at hS
     refine ML.put1 rfl rfl rfl rfl (opW.callV rfl (does_call w0 _ _ x (⟨pa, pb⟩ : PairS) v38 l _ _ ha0 haj hpa.symm hpb.symm ⟨hxc, hxs⟩ hA hB (hS.pick (e := ownE v38 69 l) (by repeat constructor)) htag hfv) rfl ?_)
     rintro _ w ⟨out2, rfl, hout, hS⟩
     refine ML.put1 rfl rfl rfl rfl (opW.assignI rfl ?_)
     refine ML.nil ?_
     refine thenQ_n (hK21 _ _ ?_)
     refine WC.seq (fun K22 hK22 => ?_)
     refine WC.region ?_
     refine WL.op rfl (opW.moveI rfl ?_)
     refine WL.op rfl (opW.neq rfl rfl ?_)
     refine WL.nil ?_
     refine thenQ_n (hK22 _ _ ?_)
     refine WC.cond _ rfl (fun hc3 => ?_) (fun hc3 => ?_)
     ·
      have hr3 := hc3
      try simp only [sq1,sq2,sq3,sq4,sq5,sq6,sq7,sq8,sq9,sq0] at hc3
      refine WC.seq (fun K23 hK23 => ?_)
      refine WC.region ?_
      refine WL.op rfl (opW.moveI rfl ?_)
      refine WL.op rfl (opW.assignV (v := .slice none 0 0) rfl ?_)
      refine WL.op rfl (opW.assignI rfl ?_)
      refine WL.op rfl (opW.assignI rfl ?_)
      refine WL.nil ?_
      refine thenQ_n (hK23 _ _ ?_)
      refine WC.ret ?_
      refine thenQ_r ?_
      refine bodyQ_ret (.tmpV (v := .slice none 0 0) rfl (.tmpI rfl (.tmpI rfl .nil))) ?_
      have hne : actE x l[ats[0].toNat] l[ats[j].toNat] (decide (ats[0].toNat = ats[j].toNat)) ≠ 0 := by simpa using hr3
      rw [hact, if_pos hne]
      exact ⟨_, rfl, New.nil _ _ _, hS.old⟩
     ·
      have hr3 := hc3
      try simp only [sq1,sq2,sq3,sq4,sq5,sq6,sq7,sq8,sq9,sq0] at hc3
      refine WC.skip ?_
      refine thenQ_n (hK20 _ _ ?_)
      refine WC.seq (fun K24 hK24 => ?_)
      refine WC.draw 6 (.look 0 (.look 1 (.look 2 (.look 3 (.look 4 (.look 5 .nil)))))) (by kernel_rfl) (fun _ _ _ h => h) (fun w1 hw1 => ?_)
      replace hS := hS.bel hw1
      have hS1 := hS
      have hT := St.start w1
      refine ML.look rfl rfl rfl (fun w hw => (by have hS := hS1.bel hw; exact opW.moveV (v := v38) rfl ⟨rfl, rfl⟩)) ?_
      refine ML.look rfl rfl rfl (fun w hw => (by have hS := hS1.bel hw; exact opW.fieldAddrB rfl ⟨rfl, rfl⟩)) ?_
      refine ML.look rfl rfl rfl (fun w hw => (by have hS := hS1.bel hw; exact opW.loadV rfl (hS.ld1 (by repeat constructor) (Ask.at_space _)) ⟨rfl, rfl⟩)) ?_
      refine ML.look rfl rfl rfl (fun w hw => (by have hS := hS1.bel hw; exact opW.assignV (v := v38) rfl ⟨rfl, rfl⟩)) ?_
      refine ML.look rfl rfl rfl (fun w hw => (by have hS := hS1.bel hw; exact opW.assignI rfl ⟨rfl, rfl⟩)) ?_
      refine ML.look rfl rfl rfl (fun w hw => (by have hS := hS1.bel hw; exact opW.assignI rfl ⟨rfl, rfl⟩)) ?_
      refine ML.nil ?_
      refine thenQ_n (hK24 _ _ ?_)
      refine WC.ret ?_
      refine bodyQ_ret (.tmpV (v := v38) rfl (.tmpI rfl (.tmpI rfl .nil))) ?_
      have hz : actE x l[ats[0].toNat] l[ats[j].toNat] (decide (ats[0].toNat = ats[j].toNat)) = 0 := by simpa using hr3
      rw [hact, if_neg (fun e => e hz), ← hout hz]
      exact ⟨_, rfl, hS.own_new (by repeat constructor), hS.old⟩

theorem lacks_yes {n : Nat} {ats : List UInt8} {c : UInt8} (hc : c ∈ ats) (h : (n : Int) ≤ (c.toNat : Int)) : lacks n ats = true := List.any_eq_true.2 ⟨c, hc, decide_eq_true h⟩
theorem lacks_of {n : Nat} {ats : List UInt8} (h : ∀ i (hi : i < ats.length), ats[i].toNat < n) : lacks n ats = false := by
 refine List.any_eq_false.2 fun c hc => ?_
 obtain ⟨i, hi, rfl⟩ := List.getElem_of_mem hc
 have := h i hi
 simp only [decide_eq_true_eq]; omega
theorem actE0 {x : Ask} {A B : Account} {s : Bool} (h : x.tag = 0) : actE x A B s = mkE x A B := if_pos h
theorem actE1 {x : Ask} {A B : Account} {s : Bool} (h : x.tag = 1) : actE x A B s = asE A := by unfold actE; rw [if_neg (by omega), if_pos h]
theorem actE2 {x : Ask} {A B : Account} {s : Bool} (h : x.tag = 2) : actE x A B s = mvE x A B s := by unfold actE; rw [if_neg (by omega), if_neg (by omega), if_pos h]
theorem actE8 {x : Ask} {A B : Account} {s : Bool} (h : x.tag = 8) : actE x A B s = alE x A := by unfold actE; rw [if_neg (by omega), if_neg (by omega), if_neg (by omega)]
theorem actL0 {x : Ask} {l : List Account} {a b : Nat} {A B : Account} (h : x.tag = 0) : actL x l a b A B = mkL x l a b A := if_pos h
theorem actL1 {x : Ask} {l : List Account} {a b : Nat} {A B : Account} (h : x.tag = 1) : actL x l a b A B = l.set a { A with owner := x.owner } := by unfold actL; rw [if_neg (by omega), if_pos h]
theorem actL2 {x : Ask} {l : List Account} {a b : Nat} {A B : Account} (h : x.tag = 2) : actL x l a b A B = mvL x l a b A B := by unfold actL; rw [if_neg (by omega), if_neg (by omega), if_pos h]
theorem actL8 {x : Ask} {l : List Account} {a b : Nat} {A B : Account} (h : x.tag = 8) : actL x l a b A B = l.set a { A with space := x.space } := by unfold actL; rw [if_neg (by omega), if_neg (by omega), if_neg (by omega)]
theorem roleErr_ok {t : Nat} {r : List Role} {i : Nat} {c : UInt8} (h : c.toNat < r.length) (h0 : roleErr t r i c = 0) : r[c.toNat].writes = true ∧ (¬ (t = 2 ∧ 0 < i) → r[c.toNat].signs = true) := by
 rw [roleErr_of h] at h0
 split at h0
 ·cases h0
 ·rename_i h1
  split at h0
  ·cases h0
  ·rename_i h2
   refine ⟨by simpa using h2, fun h3 => ?_⟩
   rw [Bool.not_eq_true, Bool.and_eq_false_iff] at h1
   rcases h1 with h1 | h1
   ·simpa using h1
   ·exfalso; apply h3
    simp only [Bool.not_eq_false', Bool.and_eq_true, decide_eq_true_eq] at h1
    omega
theorem roleErrs_ok {t : Nat} {r : List Role} : ∀ {l : List UInt8} {i : Nat}, roleErrs t r l i = 0 → ∀ k (hk : k < l.length), roleErr t r (i + k) l[k] = 0
 | c :: l, i, h, k, hk => by
  simp only [roleErrs] at h
  split at h
  ·rename_i h1; exact absurd h h1
  ·rename_i h1
   cases k with
   | zero => simpa using h1
   | succ k =>
    have := roleErrs_ok h k (by simpa using hk)
    simpa [Nat.add_assoc, Nat.add_comm 1 k] using this
theorem takF_roles {t : Nat} {r : List Role} {ats : List UInt8} (h : takF t r ats = 0) : roleErrs t r (ats.take (need t)) 0 = 0 := by
 obtain ⟨h1, h2⟩ := takF_ok h
 unfold takF at h
 rw [if_neg (by rw [h2, decide_eq_false (by omega)]; decide)] at h
 exact h
theorem askF_space {b : List UInt8} {x : Ask} (h : askF b = some x) : (x.tag = 1 → x.space = 0) ∧ (x.tag = 2 → x.space = 0) := by
 unfold askF at h
 split at h
 ·cases h
 ·simp only at h
  split at h
  ·cases h; exact ⟨fun e => (by cases e), fun e => (by cases e)⟩
  split at h
  ·cases h; exact ⟨fun _ => rfl, fun e => (by cases e)⟩
  split at h
  ·cases h; exact ⟨fun e => (by cases e), fun _ => rfl⟩
  split at h
  ·cases h; exact ⟨fun e => (by cases e), fun e => (by cases e)⟩
  ·cases h
/-- what is so where an instruction is carried out -/
structure DoOk (l : List Account) (r : List Role) (ats dt : List UInt8) (x : Ask) (a b : Nat) : Prop where
 len : l.length = r.length
 ask : askF dt = some x
 tak : takF x.tag r ats = 0
 h0 : 0 < ats.length
 ha : a < l.length
 hb : b < l.length
 ea : a = (ats.getD 0 0).toNat
 eb : b = (ats.getD (need x.tag - 1) 0).toNat
 one : ¬ (x.tag = 0 ∨ x.tag = 2) → b = a
 act : actE x (l[a]'ha) (l[b]'hb) (decide (a = b)) = 0
 res : doF l r ats dt = (0, x.space, actL x l a b (l[a]'ha) (l[b]'hb))
 sa : (r[a]'(len ▸ ha)).signs = true
 wa : (r[a]'(len ▸ ha)).writes = true
 sb : x.tag ≠ 2 → (r[b]'(len ▸ hb)).signs = true
 wb : (r[b]'(len ▸ hb)).writes = true
theorem doF_ok {l : List Account} {r : List Role} {ats dt : List UInt8} (h : (doF l r ats dt).1 = 0) : ∃ x a b, DoOk l r ats dt x a b := by
 have hlen : l.length = r.length := by
  apply Classical.byContradiction; intro hn
  rw [doF_len hn] at h; cases h
 cases hx : askF dt with
 | none => rw [doF_none hlen hx] at h; cases h
 | some x =>
  have htk : takF x.tag r ats = 0 := by
   apply Classical.byContradiction; intro hn
   rw [doF_tak hlen hx hn] at h; exact hn h
  obtain ⟨hnl, hlk⟩ := takF_ok htk
  have hn12 := need_12 x.tag
  obtain ⟨j, hj⟩ : ∃ j, need x.tag - 1 = j := ⟨_, rfl⟩
  have hjl : j < ats.length := by omega
  have h0l : 0 < ats.length := by omega
  have ha0 : ats[0].toNat < l.length := by rw [hlen]; exact lacks_no hlk (List.getElem_mem _)
  have haj : ats[j].toNat < l.length := by rw [hlen]; exact lacks_no hlk (List.getElem_mem _)
  have hact := doF_act hlen hx htk h0l hjl hj ha0 haj
  have hrs := takF_roles htk
  have htl : (ats.take (need x.tag)).length = need x.tag := by simp; omega
  have e0 := roleErrs_ok hrs 0 (by omega)
  have ej := roleErrs_ok hrs j (by omega)
  rw [List.getElem_take] at e0 ej
  rw [Nat.zero_add] at e0 ej
  have r0 := roleErr_ok (lacks_no hlk (List.getElem_mem h0l)) e0
  have rj := roleErr_ok (lacks_no hlk (List.getElem_mem hjl)) ej
  have hz : actE x l[ats[0].toNat] l[ats[j].toNat] (decide (ats[0].toNat = ats[j].toNat)) = 0 := by
   apply Classical.byContradiction; intro hn
   rw [hact, if_pos hn] at h; exact hn h
  have hj0 : ¬ (x.tag = 0 ∨ x.tag = 2) → j = 0 := fun hn => by
   have : need x.tag = 1 := if_neg hn
   omega
  refine ⟨x, ats[0].toNat, ats[j].toNat, hlen, hx, htk, h0l, ha0, haj, by rw [getD_of h0l], by rw [hj, getD_of hjl], fun hn => ?_, hz, by rw [hact, if_neg (fun e => e hz)], r0.2 (by omega), r0.1, fun hn => rj.2 (by omega), rj.1⟩
  have := hj0 hn
  subst this
  rfl
theorem doF_err {l : List Account} {r : List Role} {ats dt : List UInt8} (h : (doF l r ats dt).1 ≠ 0) : (doF l r ats dt).2 = (0, []) := by
 unfold doF at h ⊢
 split
 ·rfl
 ·rename_i h1
  rw [if_neg h1] at h
  cases hx : askF dt with
  | none => rfl
  | some x =>
   rw [hx] at h
   simp only at h ⊢
   split
   ·rfl
   ·rename_i h2
    rw [if_neg h2] at h
    split
    ·rfl
    ·rename_i h3
     rw [if_neg h3] at h
     exact absurd rfl h
/-! coins -/
def sumC (l : List Account) : Nat := (l.map Account.coins).sum
theorem sumC_set : ∀ {l : List Account} {i : Nat} (hi : i < l.length) (y : Account), sumC (l.set i y) + l[i].coins = sumC l + y.coins
 | x :: l, 0, _, y => by simp [sumC]; omega
 | x :: l, i + 1, hi, y => by
  have := sumC_set (l := l) (i := i) (by simpa using hi) y
  simp [sumC] at this ⊢; omega
theorem mkE_ok {x : Ask} {A B : Account} (h : mkE x A B = 0) : B = az ∧ A.owner = sysK ∧ A.space = 0 ∧ x.space ≤ 1048576 ∧ x.coins ≤ A.coins := by
 unfold mkE at h
 split at h
 ·cases h
 rename_i h1
 split at h
 ·cases h
 rename_i h2
 split at h
 ·cases h
 rename_i h3
 split at h
 ·cases h
 rename_i h4
 have h2' : plainB A = true := by simpa using h2
 unfold plainB at h2'
 simp only [Bool.and_eq_true, decide_eq_true_eq] at h2'
 exact ⟨by simpa using h1, h2'.1, by omega, by omega, by omega⟩
theorem asE_ok {A : Account} (h : asE A = 0) : A.owner = sysK := by
 unfold asE at h
 split at h
 ·cases h
 rename_i h1
 simpa using h1
theorem mvE_ok {x : Ask} {A B : Account} {s : Bool} (h : mvE x A B s = 0) : A.owner = sysK ∧ A.space = 0 ∧ x.coins ≤ A.coins ∧ (s = false → B.coins ≤ 18446744073709551615 - x.coins) := by
 unfold mvE at h
 split at h
 ·cases h
 rename_i h1
 split at h
 ·cases h
 rename_i h2
 have h1' : plainB A = true := by simpa using h1
 unfold plainB at h1'
 simp only [Bool.and_eq_true, decide_eq_true_eq] at h1'
 refine ⟨h1'.1, by omega, by omega, fun hs => ?_⟩
 rw [if_neg (by rw [hs]; decide)] at h
 split at h
 ·cases h
 ·omega
theorem alE_ok {x : Ask} {A : Account} (h : alE x A = 0) : A.owner = sysK ∧ A.space = 0 ∧ x.space ≤ 1048576 := by
 unfold alE at h
 split at h
 ·cases h
 rename_i h1
 split at h
 ·cases h
 rename_i h2
 have h1' : plainB A = true := by simpa using h1
 unfold plainB at h1'
 simp only [Bool.and_eq_true, decide_eq_true_eq] at h1'
 exact ⟨h1'.1, by omega, by omega⟩
/-- what may become of an account -/
def ChgOk (n : Nat) (ro : Role) (was now : Account) : Prop :=
 now ≠ was → ro.writes = true ∧ (was.owner ≠ sysK → was.coins ≤ now.coins ∧ now.owner = was.owner) ∧ ((now.coins < was.coins ∨ now.owner ≠ was.owner ∨ now.space ≠ was.space) → ro.signs = true) ∧ (now.space ≠ was.space → was.space = 0 ∧ now.space = n)
structure CoinsOk (l : List Account) (r : List Role) (n : Nat) (out : List Account) (a b : Nat) : Prop where
 len : out.length = l.length
 sum : sumC out = sumC l
 n_le : n ≤ 1048576
 rest : ∀ k (h1 : k < out.length) (h2 : k < l.length), out[k] ≠ l[k] → k = a ∨ k = b
 chg : ∀ k (h1 : k < out.length) (h2 : k < l.length) (h3 : k < r.length), ChgOk n r[k] l[k] out[k]
theorem set2_get {l : List Account} {a b : Nat} {X Y : Account} {k : Nat} (h1 : k < ((l.set a X).set b Y).length) (h2 : k < l.length) : ((l.set a X).set b Y)[k] = if k = b then Y else if k = a then X else l[k] := by
 rw [List.getElem_set]
 by_cases hb : k = b
 ·rw [if_pos hb.symm, if_pos hb]
 ·rw [if_neg (fun e => hb e.symm), if_neg hb, List.getElem_set]
  by_cases ha : k = a
  ·rw [if_pos ha.symm, if_pos ha]
  ·rw [if_neg (fun e => ha e.symm), if_neg ha]
theorem set1_get {l : List Account} {a : Nat} {X : Account} {k : Nat} (h1 : k < (l.set a X).length) (h2 : k < l.length) : (l.set a X)[k] = if k = a then X else l[k] := by
 rw [List.getElem_set]
 by_cases ha : k = a
 ·rw [if_pos ha.symm, if_pos ha]
 ·rw [if_neg (fun e => ha e.symm), if_neg ha]
theorem coins_ok {l : List Account} {r : List Role} {ats dt : List UInt8} {x : Ask} {a b : Nat} (h : DoOk l r ats dt x a b) : CoinsOk l r x.space (actL x l a b (l[a]'h.ha) (l[b]'h.hb)) a b := by
 have htag := (askF_ok h.ask).1
 have hsp := askF_space h.ask
 have hact := h.act
 have hA := h.ha
 have hB := h.hb
 rcases htag with ht | ht | ht | ht
 ·rw [actE0 ht] at hact
  rw [actL0 ht]
  obtain ⟨h1, h2, h3, h4, h5⟩ := mkE_ok hact
  have hsb := h.sb (by omega)
  have hc : l[b].coins = 0 := by rw [h1]; rfl
  have hs : l[b].space = 0 := by rw [h1]; rfl
  have ho : l[b].owner = sysK := by rw [h1]; rfl
  unfold mkL
  refine ⟨by simp, ?_, h4, fun k k1 k2 hne => ?_, fun k k1 k2 k3 hne => ?_⟩
  ·have s1 := sumC_set hA { l[a] with coins := l[a].coins - x.coins }
   have s2 := sumC_set (l := l.set a { l[a] with coins := l[a].coins - x.coins }) (i := b) (by simpa using hB) ⟨x.coins, x.owner, x.space⟩
   rw [set1_get (by simpa using hB) hB] at s2
   by_cases hab : b = a
   ·subst hab
    rw [if_pos rfl] at s2
    simp only at s1 s2
    omega
   ·rw [if_neg hab] at s2
    simp only at s1 s2
    omega
  ·rw [set2_get k1 k2] at hne
   by_cases e1 : k = b
   ·exact .inr e1
   by_cases e2 : k = a
   ·exact .inl e2
   rw [if_neg e1, if_neg e2] at hne
   exact absurd rfl hne
  ·rw [set2_get k1 k2] at hne ⊢
   by_cases e1 : k = b
   ·subst e1
    rw [if_pos rfl] at hne ⊢
    exact ⟨h.wb, fun hn => absurd ho hn, fun _ => hsb, fun _ => ⟨hs, rfl⟩⟩
   by_cases e2 : k = a
   ·subst e2
    rw [if_neg e1, if_pos rfl] at hne ⊢
    exact ⟨h.wa, fun hn => absurd h2 hn, fun _ => h.sa, fun hn => absurd rfl hn⟩
   rw [if_neg e1, if_neg e2] at hne
   exact absurd rfl hne
 ·rw [actE1 ht] at hact
  rw [actL1 ht]
  have h1 := asE_ok hact
  refine ⟨by simp, ?_, by rw [hsp.1 ht]; decide, fun k k1 k2 hne => ?_, fun k k1 k2 k3 hne => ?_⟩
  ·have s1 := sumC_set hA { l[a] with owner := x.owner }
   simp only at s1
   omega
  ·rw [set1_get k1 k2] at hne
   by_cases e2 : k = a
   ·exact .inl e2
   rw [if_neg e2] at hne
   exact absurd rfl hne
  ·rw [set1_get k1 k2] at hne ⊢
   by_cases e2 : k = a
   ·subst e2
    rw [if_pos rfl] at hne ⊢
    exact ⟨h.wa, fun hn => absurd h1 hn, fun _ => h.sa, fun hn => absurd rfl hn⟩
   rw [if_neg e2] at hne
   exact absurd rfl hne
 ·rw [actE2 ht] at hact
  rw [actL2 ht]
  obtain ⟨h1, h2, h3, h4⟩ := mvE_ok hact
  unfold mvL
  by_cases hab : a = b
  ·rw [if_pos hab]
   exact ⟨rfl, rfl, by rw [hsp.2 ht]; decide, fun k _ _ hne => absurd rfl hne, fun k _ _ _ hne => absurd rfl hne⟩
  ·rw [if_neg hab]
   refine ⟨by simp, ?_, by rw [hsp.2 ht]; decide, fun k k1 k2 hne => ?_, fun k k1 k2 k3 hne => ?_⟩
   ·have s1 := sumC_set hA { l[a] with coins := l[a].coins - x.coins }
    have s2 := sumC_set (l := l.set a { l[a] with coins := l[a].coins - x.coins }) (i := b) (by simpa using hB) { l[b] with coins := l[b].coins + x.coins }
    rw [set1_get (by simpa using hB) hB, if_neg (fun e => hab e.symm)] at s2
    simp only at s1 s2
    omega
   ·rw [set2_get k1 k2] at hne
    by_cases e1 : k = b
    ·exact .inr e1
    by_cases e2 : k = a
    ·exact .inl e2
    rw [if_neg e1, if_neg e2] at hne
    exact absurd rfl hne
   ·rw [set2_get k1 k2] at hne ⊢
    by_cases e1 : k = b
    ·subst e1
     rw [if_pos rfl] at hne ⊢
     refine ⟨h.wb, fun hn => ⟨by simp only; omega, rfl⟩, fun hn => ?_, fun hn => absurd rfl hn⟩
     simp only [ne_eq, not_true_eq_false, or_false] at hn
     omega
    by_cases e2 : k = a
    ·subst e2
     rw [if_neg e1, if_pos rfl] at hne ⊢
     exact ⟨h.wa, fun hn => absurd h1 hn, fun _ => h.sa, fun hn => absurd rfl hn⟩
    rw [if_neg e1, if_neg e2] at hne
    exact absurd rfl hne
 ·rw [actE8 ht] at hact
  rw [actL8 ht]
  obtain ⟨h1, h2, h3⟩ := alE_ok hact
  refine ⟨by simp, ?_, h3, fun k k1 k2 hne => ?_, fun k k1 k2 k3 hne => ?_⟩
  ·have s1 := sumC_set hA { l[a] with space := x.space }
   simp only at s1
   omega
  ·rw [set1_get k1 k2] at hne
   by_cases e2 : k = a
   ·exact .inl e2
   rw [if_neg e2] at hne
   exact absurd rfl hne
  ·rw [set1_get k1 k2] at hne ⊢
   by_cases e2 : k = a
   ·subst e2
    rw [if_pos rfl] at hne ⊢
    exact ⟨h.wa, fun hn => absurd h1 hn, fun _ => h.sa, fun _ => ⟨h2, rfl⟩⟩
   rw [if_neg e2] at hne
   exact absurd rfl hne
theorem okW_of {w : World} {a : Account} (h : a.ok w) : okW a := by
 unfold Account.ok at h
 obtain ⟨h1, h2⟩ := h
 exact ⟨by omega, by omega⟩
theorem count_two {p : Nat → Bool} {a b : Nat} (h : ∀ k, p k = true → k = a ∨ k = b) : ∀ n, (List.range n).countP p ≤ (if a < n then 1 else 0) + (if b < n then 1 else 0)
 | 0 => by simp
 | n + 1 => by
  have ih := count_two h n
  rw [List.range_succ, List.countP_append, List.countP_singleton]
  have m1 : (if a < n then 1 else 0) ≤ (if a < n + 1 then 1 else (0 : Nat)) := by split <;> split <;> omega
  have m2 : (if b < n then 1 else 0) ≤ (if b < n + 1 then 1 else (0 : Nat)) := by split <;> split <;> omega
  by_cases hp : p n = true
  ·rw [if_pos hp]
   rcases h n hp with rfl | rfl
   ·rw [if_neg (Nat.lt_irrefl _)] at ih
    rw [if_pos (Nat.lt_succ_self _)]
    omega
   ·rw [if_neg (Nat.lt_irrefl _)] at ih
    rw [if_pos (Nat.lt_succ_self _)]
    omega
  ·rw [if_neg hp]; omega

end Go.Fer
