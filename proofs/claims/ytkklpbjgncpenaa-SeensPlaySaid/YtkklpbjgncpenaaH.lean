/- Copy -/
import Derived.Test.YtkklpbjgncpenaaG
import Derived.Test.YtkklpbjgncpenaaClones
set_option linter.all false
namespace Go.Fer
open Go Go.Proofs Go.RowKit

theorem clone_s (w0 : World) (v : Value) (xs : List Sig) (hx : SlR w0 v xs) (hl : xs.length ≤ 100000) : Ret Try.prog 22 #[v] w0 (fun u w' => New w0 w' u 31 xs ∧ Bel w0 w') := by
  refine Ret.enter (args := [v]) Try.func22 rfl Try.ntmps22 Try.results22 rfl ?_
  have hS := St.start w0
  obtain ⟨a, c, rfl⟩ := hx.eq
  refine WC.seq (fun K1 hK1 => ?_)
  refine WC.region ?_
  refine WL.op rfl (opW.assignV (v := .slice none 0 0) rfl ?_)
  refine WL.nil ?_
  refine thenQ_n (hK1 _ _ ?_)
  refine WC.seq (fun K2 hK2 => ?_)
  refine WC.seq (fun K3 hK3 => ?_)
  refine WC.region ?_
  refine WL.op rfl (opW.moveV (v := .slice a xs.length c) rfl ?_)
  refine WL.op rfl (opW.eqlNil rfl rfl ?_)
  refine WL.nil ?_
  refine thenQ_n (hK3 _ _ ?_)
  refine WC.cond _ rfl (fun hc0 => ?_) (fun hc0 => ?_)
  ·
    have hr0 := hc0
    try simp only [decide_eq_true_eq, decide_eq_false_iff_not, Bool.and_eq_true, Bool.or_eq_true, Bool.and_eq_false_iff, Bool.or_eq_false_iff, Bool.not_eq_true', Bool.not_eq_false', Int.not_lt, Int.not_le] at hc0
    refine WC.seq (fun K4 hK4 => ?_)
    refine WC.region ?_
    refine WL.op rfl (opW.assignV (v := .slice none 0 0) rfl ?_)
    refine WL.nil ?_
    refine thenQ_n (hK4 _ _ ?_)
    refine WC.ret ?_
    refine thenQ_r ?_
    refine bodyQ_ret (.tmpV (v := .slice none 0 0) rfl .nil) ?_
    cases a with
    | none =>
      obtain ⟨rfl, _, _⟩ := hx.none_nil
      exact ⟨New.nil _ _ _, hS.old⟩
    | some a => cases hc0
  ·
    have hr0 := hc0
    try simp only [decide_eq_true_eq, decide_eq_false_iff_not, Bool.and_eq_true, Bool.or_eq_true, Bool.and_eq_false_iff, Bool.or_eq_false_iff, Bool.not_eq_true', Bool.not_eq_false', Int.not_lt, Int.not_le] at hc0
    refine WC.skip ?_
    refine thenQ_n (hK2 _ _ ?_)
    refine WC.seq (fun K5 hK5 => ?_)
    refine WC.region ?_
    refine WL.op rfl (opW.buildSl hS ([] : List Sig) [] rfl rfl rfl rfl (by simp) ?_)
    intro b5 w _ hS
    refine WL.op rfl (opW.moveV (v := .slice a xs.length c) rfl ?_)
    refine WL.op rfl (opW.appendOwn (α := Vector UInt8 64) rfl hS rfl (by first | exact .here | exact .there (.here) | exact .there (.there (.here)) | exact .there (.there (.there (.here))) | exact .there (.there (.there (.there (.here)))) | exact .there (.there (.there (.there (.there (.here))))) | exact .there (.there (.there (.there (.there (.there (.here)))))) | exact .there (.there (.there (.there (.there (.there (.there (.here))))))) | exact .there (.there (.there (.there (.there (.there (.there (.there (.here)))))))) | exact .there (.there (.there (.there (.there (.there (.there (.there (.there (.here))))))))) | exact .there (.there (.there (.there (.there (.there (.there (.there (.there (.there (.here)))))))))) | exact .there (.there (.there (.there (.there (.there (.there (.there (.there (.there (.there (.here))))))))))) | exact .there (.there (.there (.there (.there (.there (.there (.there (.there (.there (.there (.there (.here))))))))))))) ((hx.bel hS.old)) (by (try simp only [List.length_append, List.length_cons, List.length_nil, List.length_map]); omega) (by simp only [maxLen]; (try simp only [List.length_append, List.length_cons, List.length_nil, List.length_map]); omega) ?_)
    intro v7 w hS; replace hS := hS _ (by first | exact .here | exact .there (.here) | exact .there (.there (.here)) | exact .there (.there (.there (.here))) | exact .there (.there (.there (.there (.here)))) | exact .there (.there (.there (.there (.there (.here))))) | exact .there (.there (.there (.there (.there (.there (.here)))))) | exact .there (.there (.there (.there (.there (.there (.there (.here))))))) | exact .there (.there (.there (.there (.there (.there (.there (.there (.here)))))))) | exact .there (.there (.there (.there (.there (.there (.there (.there (.there (.here))))))))) | exact .there (.there (.there (.there (.there (.there (.there (.there (.there (.there (.here)))))))))) | exact .there (.there (.there (.there (.there (.there (.there (.there (.there (.there (.there (.here))))))))))) | exact .there (.there (.there (.there (.there (.there (.there (.there (.there (.there (.there (.there (.here)))))))))))))
    refine WL.op rfl (opW.assignV (v := v7) rfl ?_)
    refine WL.nil ?_
    refine thenQ_n (hK5 _ _ ?_)
    refine WC.ret ?_
    refine bodyQ_ret (.tmpV (v := v7) rfl .nil) ?_
    have h1 := hS.own_new (by first | exact .here | exact .there (.here) | exact .there (.there (.here)) | exact .there (.there (.there (.here))) | exact .there (.there (.there (.there (.here)))) | exact .there (.there (.there (.there (.there (.here))))) | exact .there (.there (.there (.there (.there (.there (.here)))))) | exact .there (.there (.there (.there (.there (.there (.there (.here))))))) | exact .there (.there (.there (.there (.there (.there (.there (.there (.here)))))))) | exact .there (.there (.there (.there (.there (.there (.there (.there (.there (.here))))))))) | exact .there (.there (.there (.there (.there (.there (.there (.there (.there (.there (.here)))))))))) | exact .there (.there (.there (.there (.there (.there (.there (.there (.there (.there (.there (.here))))))))))) | exact .there (.there (.there (.there (.there (.there (.there (.there (.there (.there (.there (.there (.here))))))))))))); simp only [List.nil_append] at h1; exact ⟨h1, hS.old⟩

theorem clip_s (w0 : World) (v : Value) (xs : List Sig) (hx : SlR w0 v xs) : Ret Try.prog 21 #[v] w0 (fun u w' => u = cutV v 0 xs.length xs.length (Enc.sz (Sig)) ∧ Bel w0 w') := by
  refine Ret.enter (args := [v]) Try.func21 rfl Try.ntmps21 Try.results21 rfl ?_
  have hS := St.start w0
  refine WC.seq (fun K1 hK1 => ?_)
  refine WC.region ?_
  refine WL.op rfl (opW.assignV (v := .slice none 0 0) rfl ?_)
  refine WL.nil ?_
  refine thenQ_n (hK1 _ _ ?_)
  refine WC.seq (fun K2 hK2 => ?_)
  refine WC.region ?_
  refine WL.op rfl (opW.moveV (v := v) rfl ?_)
  refine WL.op rfl (opW.moveV (v := v) rfl ?_)
  refine WL.op rfl (opW.lenV rfl ((hx.bel hS.old)) ?_)
  refine WL.op rfl (opW.moveV (v := v) rfl ?_)
  refine WL.op rfl (opW.lenV rfl ((hx.bel hS.old)) ?_)
  refine WL.op rfl (opW.cutS (hx.bel hS.old) ⟨⟨_, rfl⟩, hx.cap⟩ ⟨⟨_, rfl⟩, Nat.le_refl _⟩ ⟨rfl, Nat.zero_le _⟩ ?_)
  refine WL.op rfl (opW.assignV rfl ?_)
  refine WL.nil ?_
  refine thenQ_n (hK2 _ _ ?_)
  refine WC.ret ?_
  refine bodyQ_ret (.tmp .nil) ?_
  exact ⟨rfl, hS.old⟩

theorem aget_get {κ ν : Type} [DecidableEq κ] : ∀ {l : List (κ × ν)}, (l.map Prod.fst).Nodup → ∀ {i : Nat} (hi : i < l.length), aget (l[i]'hi).1 l = some (l[i]'hi).2
  | [], _, i, hi => absurd hi (Nat.not_lt_zero _)
  | (x, u) :: r, hn, 0, _ => by simp [aget]
  | (x, u) :: r, hn, i + 1, hi => by
    simp only [List.map_cons, List.nodup_cons] at hn
    have hi' : i < r.length := by simpa using hi
    have ne : (r[i]'hi').1 ≠ x := fun e => hn.1 (e ▸ List.mem_map_of_mem (List.getElem_mem hi'))
    simp only [List.getElem_cons_succ, aget, ne, if_false]
    exact aget_get hn.2 hi'
theorem keys_inj {κ ν : Type} {l : List (κ × ν)} (hn : (l.map Prod.fst).Nodup) {i j : Nat} (hi : i < l.length) (hj : j < l.length) (e : (l[i]'hi).1 = (l[j]'hj).1) : i = j := by
  rcases Nat.lt_trichotomy i j with h | h | h
  · have := List.pairwise_iff_getElem.1 hn i j (by simpa using hi) (by simpa using hj) h
    simp at this; exact absurd e this
  · exact h
  · have := List.pairwise_iff_getElem.1 hn j i (by simpa using hj) (by simpa using hi) h
    simp at this; exact absurd e.symm this
/-- a copy of a map of lists, as far as it is made -/
def CpIs (all : List (Hash × (Value × List Sig))) (is : List Nat) (nk : List (Hash × (Value × List Sig))) : Prop :=
  (∀ i (hi : i < all.length), i ∈ is → ((aget (all[i]'hi).1 nk).getD nilS).2 = (all[i]'hi).2.2) ∧ (∀ h, (∀ i (hi : i < all.length), i ∈ is → (all[i]'hi).1 ≠ h) → aget h nk = none)
theorem CpIs.step {all nk : List (Hash × (Value × List Sig))} {is : List Nat} {i : Nat} (h : CpIs all is nk) (hn : (all.map Prod.fst).Nodup) (hi : i < all.length) (hni : i ∉ is) (v : Value) :
    aget (all[i]'hi).1 nk = none ∧ CpIs all (is ++ [i]) (aput (all[i]'hi).1 (v, (all[i]'hi).2.2) nk) := by
  have hne : ∀ j (hj : j < all.length), j ∈ is → (all[j]'hj).1 ≠ (all[i]'hi).1 := fun j hj hm e => hni (keys_inj hn hj hi e ▸ hm)
  refine ⟨h.2 _ hne, fun j hj hm => ?_, fun h' hh => ?_⟩
  · rw [aget_aput]
    by_cases e : (all[j]'hj).1 = (all[i]'hi).1
    · rw [if_pos e]
      have := keys_inj hn hj hi e
      subst this; rfl
    · rw [if_neg e]
      rcases List.mem_append.1 hm with hm | hm
      · exact h.1 j hj hm
      · simp at hm; subst hm; exact absurd rfl e
  · have h1 : (all[i]'hi).1 ≠ h' := hh i hi (by simp)
    rw [aget_aput, if_neg (Ne.symm h1)]
    exact h.2 h' fun j hj hm => hh j hj (List.mem_append_left _ hm)
theorem CpIs.done {all nk : List (Hash × (Value × List Sig))} {is : List Nat} (h : CpIs all is nk) (hn : (all.map Prod.fst).Nodup) (hall : ∀ i, i < all.length → i ∈ is) (h' : Hash) : ((aget h' nk).getD nilS).2 = ((aget h' all).getD nilS).2 := by
  by_cases hk : h' ∈ all.map Prod.fst
  · obtain ⟨q, hq, e⟩ := List.mem_map.1 hk
    obtain ⟨i, hi, rfl⟩ := List.getElem_of_mem hq
    subst e
    rw [h.1 i hi (hall i hi), aget_get hn hi]; rfl
  · rw [aget_none.2 hk, h.2 h' fun i hi _ e => hk (e ▸ List.mem_map_of_mem (List.getElem_mem hi))]
theorem St.unrng {κ ν : Type} [DecidableEq κ] [KV κ] {w0 w : World} {S S' : List Ent} {it r : Nat} {vv : ν → Value} {kvs : List (κ × ν)} {is : List Nat} (hS : St w0 S w) (hT : Turn (rngE it r vv kvs is) (mapE r vv kvs) S S') : St w0 S' w := by
  refine St.turn ⟨rfl, rfl, rfl, Nat.le_refl _, fun _ _ _ => rfl⟩ ?_ ?_ hS hT
  · have := hS.rng hT.has
    rw [mapE_A]; exact this.map
  · rw [mapE_F, rngE_F]; exact fun k hk => .inl (.inl hk)
theorem cloneF : CloneF Try.prog 23 := ⟨Try.f23, Try.func23, by kernel_rfl, by kernel_rfl, by kernel_rfl, by kernel_rfl⟩

theorem mclone_ok (w0 : World) (r : Nat) (L : List (Sig × Hash)) (hM : MapB w0 r hv L) : Ret Try.prog 20 #[.map (some r)] w0 (fun u w' => NewM w0 w' u hv L ∧ Bel w0 w') := by
  refine Ret.enter (args := [.map (some r)]) Try.func20 rfl Try.ntmps20 Try.results20 rfl ?_
  have hS := St.start w0
  refine WC.seq (fun K1 hK1 => ?_)
  refine WC.region ?_
  refine WL.op rfl (opW.assignV rfl ?_)
  refine WL.nil ?_
  refine thenQ_n (hK1 _ _ ?_)
  refine WC.seq (fun K2 hK2 => ?_)
  refine WC.seq (fun K3 hK3 => ?_)
  refine WC.region ?_
  refine WL.op rfl (opW.moveV (v := .map (some r)) rfl ?_)
  refine WL.op rfl (opW.eqlM rfl rfl ?_)
  refine WL.nil ?_
  refine thenQ_n (hK3 _ _ ?_)
  refine WC.cond _ rfl (fun hc0 => ?_) (fun hc0 => ?_)
  ·
    have hr0 := hc0
    try simp only [decide_eq_true_eq, decide_eq_false_iff_not, Bool.and_eq_true, Bool.or_eq_true, Bool.and_eq_false_iff, Bool.or_eq_false_iff, Bool.not_eq_true', Bool.not_eq_false', Int.not_lt, Int.not_le] at hc0
    simp at hr0
  ·
    have hr0 := hc0
    try simp only [decide_eq_true_eq, decide_eq_false_iff_not, Bool.and_eq_true, Bool.or_eq_true, Bool.and_eq_false_iff, Bool.or_eq_false_iff, Bool.not_eq_true', Bool.not_eq_false', Int.not_lt, Int.not_le] at hc0
    refine WC.skip ?_
    refine thenQ_n (hK2 _ _ ?_)
    refine WC.seq (fun K4 hK4 => ?_)
    refine WC.region ?_
    refine WL.op rfl (opW.moveV (v := .map (some r)) rfl ?_)
    refine WL.op rfl (opW.ifaceM rfl ?_)
    refine WL.op rfl (opW.cloneM (κ := Sig) (vv := hv) cloneF hS (hM.bel hS.old) rfl ?_)
    intro c1 w _ hS
    refine WL.op rfl (opW.assertM rfl ?_)
    refine WL.op rfl (opW.assignV (v := .map (some c1)) rfl ?_)
    refine WL.nil ?_
    refine thenQ_n (hK4 _ _ ?_)
    refine WC.ret ?_
    refine bodyQ_ret (.tmpV (v := .map (some c1)) rfl .nil) ?_
    exact ⟨hS.map_new .here, hS.old⟩

theorem copy_ok (wb w0 : World) (S : List Ent) (p : Nat) (d : SeD) (L : List (Sig × Hash)) (hS0 : St wb (seE p d L :: S) w0) (hd : SeIs L d) (hl : L.length ≤ 100000) : Ret Try.prog 15 #[.pointer (some ⟨p, 0, none⟩)] w0 (fun u w' => ∃ p' d', u = .pointer (some ⟨p', 0, none⟩) ∧ SeIs L d' ∧ St wb (seE p d L :: seE p' d' L :: S) w') := by
  refine Ret.enter (args := [.pointer (some ⟨p, 0, none⟩)]) Try.func15 rfl Try.ntmps15 Try.results15 rfl ?_
  have hS := St.start w0
  replace hS := hS0.seOpen
  refine WC.seq (fun K1 hK1 => ?_)
  refine WC.region ?_
  refine WL.op rfl (opW.assignV rfl ?_)
  refine WL.nil ?_
  refine thenQ_n (hK1 _ _ ?_)
  refine WC.seq (fun K2 hK2 => ?_)
  refine WC.seq (fun K3 hK3 => ?_)
  refine WC.region ?_
  refine WL.op rfl (opW.moveV (v := .pointer (some ⟨p, 0, none⟩)) rfl ?_)
  refine WL.op rfl (opW.call (there_ok _ p d.r1 d.r2 (hS.pt (by first | exact .here | exact .there (.here) | exact .there (.there (.here)) | exact .there (.there (.there (.here))) | exact .there (.there (.there (.there (.here)))) | exact .there (.there (.there (.there (.there (.here))))) | exact .there (.there (.there (.there (.there (.there (.here)))))) | exact .there (.there (.there (.there (.there (.there (.there (.here))))))) | exact .there (.there (.there (.there (.there (.there (.there (.there (.here)))))))) | exact .there (.there (.there (.there (.there (.there (.there (.there (.there (.here))))))))) | exact .there (.there (.there (.there (.there (.there (.there (.there (.there (.there (.here)))))))))) | exact .there (.there (.there (.there (.there (.there (.there (.there (.there (.there (.there (.here))))))))))) | exact .there (.there (.there (.there (.there (.there (.there (.there (.there (.there (.there (.there (.here))))))))))))))) rfl ?_)
  rintro _ w ⟨rfl, hw⟩; replace hS := hS.bel hw
  refine WL.op rfl (opW.not rfl ?_)
  refine WL.nil ?_
  refine thenQ_n (hK3 _ _ ?_)
  refine WC.cond _ rfl (fun hc0 => ?_) (fun hc0 => ?_)
  ·
    have hr0 := hc0
    try simp only [decide_eq_true_eq, decide_eq_false_iff_not, Bool.and_eq_true, Bool.or_eq_true, Bool.and_eq_false_iff, Bool.or_eq_false_iff, Bool.not_eq_true', Bool.not_eq_false', Int.not_lt, Int.not_le] at hc0
    exact absurd hr0 (by decide)
  ·
    have hr0 := hc0
    try simp only [decide_eq_true_eq, decide_eq_false_iff_not, Bool.and_eq_true, Bool.or_eq_true, Bool.and_eq_false_iff, Bool.or_eq_false_iff, Bool.not_eq_true', Bool.not_eq_false', Int.not_lt, Int.not_le] at hc0
    refine WC.skip ?_
    refine thenQ_n (hK2 _ _ ?_)
    refine WC.seq (fun K4 hK4 => ?_)
    refine WC.region ?_
    refine WL.op rfl (opW.moveV (v := .pointer (some ⟨p, 0, none⟩)) rfl ?_)
    refine WL.op rfl (opW.nilCheckB rfl ?_)
    refine WL.op rfl (opW.fieldAddrB rfl ?_)
    refine WL.op rfl (opW.loadV rfl (hS.ld1 (by first | exact .here | exact .there (.here) | exact .there (.there (.here)) | exact .there (.there (.there (.here))) | exact .there (.there (.there (.there (.here)))) | exact .there (.there (.there (.there (.there (.here))))) | exact .there (.there (.there (.there (.there (.there (.here)))))) | exact .there (.there (.there (.there (.there (.there (.there (.here))))))) | exact .there (.there (.there (.there (.there (.there (.there (.there (.here)))))))) | exact .there (.there (.there (.there (.there (.there (.there (.there (.there (.here))))))))) | exact .there (.there (.there (.there (.there (.there (.there (.there (.there (.there (.here)))))))))) | exact .there (.there (.there (.there (.there (.there (.there (.there (.there (.there (.there (.here))))))))))) | exact .there (.there (.there (.there (.there (.there (.there (.there (.there (.there (.there (.there (.here))))))))))))) (SeS.at_of _)) ?_)
    refine WL.op rfl (opW.call (mclone_ok _ d.r1 L (hS.map (by first | exact .here | exact .there (.here) | exact .there (.there (.here)) | exact .there (.there (.there (.here))) | exact .there (.there (.there (.there (.here)))) | exact .there (.there (.there (.there (.there (.here))))) | exact .there (.there (.there (.there (.there (.there (.here)))))) | exact .there (.there (.there (.there (.there (.there (.there (.here))))))) | exact .there (.there (.there (.there (.there (.there (.there (.there (.here)))))))) | exact .there (.there (.there (.there (.there (.there (.there (.there (.there (.here))))))))) | exact .there (.there (.there (.there (.there (.there (.there (.there (.there (.there (.here)))))))))) | exact .there (.there (.there (.there (.there (.there (.there (.there (.there (.there (.there (.here))))))))))) | exact .there (.there (.there (.there (.there (.there (.there (.there (.there (.there (.there (.there (.here))))))))))))))) rfl ?_)
    rintro _ w ⟨⟨c1, rfl, hge, hmb⟩, hw⟩; replace hS := hS.newMap hw hmb hge
    refine WL.op rfl (opW.makeMap Hash (Prod.fst : Value × List Sig → Value) hS ?_)
    intro c2 w _ hS
    refine WL.op rfl (opW.buildE (r := ((SeS.mk (some c1) (some c2)) : SeS)) (ps := SeS.parts ((SeS.mk (some c1) (some c2)) : SeS)) (SeS.enc_eq _) (by first | rfl | (simp only [gS, hH, enc_vset, enc_vz, Act.enc_eq, Act.parts, SeS.enc_eq, SeS.parts, Seen.enc_eq, Seen.parts, RSe.enc_eq, RSe.parts]; rfl)) (by (repeat' (first | exact trivial | refine And.intro ?_ ?_)) <;> first | rfl | exact Enc.size_eq _ | (simp; done)) ?_)
    refine WL.op rfl (opW.boxA hS rfl ?_)
    intro b16 w _ hS
    refine WL.op rfl (opW.assignV (v := .pointer (some ⟨b16, 0, none⟩)) rfl ?_)
    refine WL.nil ?_
    refine thenQ_n (hK4 _ _ ?_)
    refine WC.seq (fun K5 hK5 => ?_)
    refine WC.seq (fun K6 hK6 => ?_)
    refine WC.region ?_
    refine WL.op rfl (opW.moveV (v := .pointer (some ⟨p, 0, none⟩)) rfl ?_)
    refine WL.op rfl (opW.nilCheckB rfl ?_)
    refine WL.op rfl (opW.fieldAddrB rfl ?_)
    refine WL.op rfl (opW.loadV rfl (hS.ld1 (by first | exact .here | exact .there (.here) | exact .there (.there (.here)) | exact .there (.there (.there (.here))) | exact .there (.there (.there (.there (.here)))) | exact .there (.there (.there (.there (.there (.here))))) | exact .there (.there (.there (.there (.there (.there (.here)))))) | exact .there (.there (.there (.there (.there (.there (.there (.here))))))) | exact .there (.there (.there (.there (.there (.there (.there (.there (.here)))))))) | exact .there (.there (.there (.there (.there (.there (.there (.there (.there (.here))))))))) | exact .there (.there (.there (.there (.there (.there (.there (.there (.there (.there (.here)))))))))) | exact .there (.there (.there (.there (.there (.there (.there (.there (.there (.there (.there (.here))))))))))) | exact .there (.there (.there (.there (.there (.there (.there (.there (.there (.there (.there (.there (.here))))))))))))) (SeS.at_all _)) ?_)
    refine WL.op rfl (opW.range (κ := Hash) (ν := Value × List Sig) (vv := Prod.fst) (kvs := d.all) hS (by first | exact .here | exact .there (.here) | exact .there (.there (.here)) | exact .there (.there (.there (.here))) | exact .there (.there (.there (.there (.here)))) | exact .there (.there (.there (.there (.there (.here))))) | exact .there (.there (.there (.there (.there (.there (.here)))))) | exact .there (.there (.there (.there (.there (.there (.there (.here))))))) | exact .there (.there (.there (.there (.there (.there (.there (.there (.here)))))))) | exact .there (.there (.there (.there (.there (.there (.there (.there (.there (.here))))))))) | exact .there (.there (.there (.there (.there (.there (.there (.there (.there (.there (.here)))))))))) | exact .there (.there (.there (.there (.there (.there (.there (.there (.there (.there (.there (.here))))))))))) | exact .there (.there (.there (.there (.there (.there (.there (.there (.there (.there (.there (.there (.here))))))))))))) rfl ?_)
    intro it w hS; replace hS := hS _ (by first | exact .here | exact .there (.here) | exact .there (.there (.here)) | exact .there (.there (.there (.here))) | exact .there (.there (.there (.there (.here)))) | exact .there (.there (.there (.there (.there (.here))))) | exact .there (.there (.there (.there (.there (.there (.here)))))) | exact .there (.there (.there (.there (.there (.there (.there (.here))))))) | exact .there (.there (.there (.there (.there (.there (.there (.there (.here)))))))) | exact .there (.there (.there (.there (.there (.there (.there (.there (.there (.here))))))))) | exact .there (.there (.there (.there (.there (.there (.there (.there (.there (.there (.here)))))))))) | exact .there (.there (.there (.there (.there (.there (.there (.there (.there (.there (.there (.here))))))))))) | exact .there (.there (.there (.there (.there (.there (.there (.there (.there (.there (.there (.there (.here)))))))))))))
    refine WL.nil ?_
    refine thenQ_n (hK6 _ _ ?_)
    refine WC.block ?_
    refine WC.loop (fun q f w => ∃ (is : List Nat) (nk : List (Hash × (Value × List Sig))), Fits [(3, .pointer (some ⟨b16, 0, none⟩)), (21, .pointer (some ⟨it, 0, none⟩))] f ∧ St wb (blkE b16 (Enc.enc (SeS.mk (some c1) (some c2))) 45 :: mapE c2 Prod.fst nk :: mapE c1 hv L :: blkE p (Enc.enc (SeS.mk (some d.r1) (some d.r2))) 45 :: mapE d.r1 hv L :: rngE it d.r2 Prod.fst d.all is :: (ownsL 31 nk ++ (ownsL 31 d.all ++ S))) w ∧ CpIs d.all is nk ∧ q = d.all.length - is.length) (d.all.length) ?_ ?_
    ·
      exact ⟨[], [], ⟨rfl, rfl, trivial⟩, hS, ⟨fun _ _ h => by simp at h, fun _ _ => rfl⟩, rfl⟩
    ·
      rintro q f w ⟨is, nk, hfit, hS, hcp, hm⟩
      refine WC.fits _ hfit (fun g => ?_)
      clear hfit
      refine WC.seq (fun K7 hK7 => ?_)
      refine WC.region ?_
      refine WL.op rfl (opW.nextV (κ := Hash) (ν := Value × List Sig) (vv := Prod.fst) (kvs := d.all) hS (by first | exact .here | exact .there (.here) | exact .there (.there (.here)) | exact .there (.there (.there (.here))) | exact .there (.there (.there (.there (.here)))) | exact .there (.there (.there (.there (.there (.here))))) | exact .there (.there (.there (.there (.there (.there (.here)))))) | exact .there (.there (.there (.there (.there (.there (.there (.here))))))) | exact .there (.there (.there (.there (.there (.there (.there (.there (.here)))))))) | exact .there (.there (.there (.there (.there (.there (.there (.there (.there (.here))))))))) | exact .there (.there (.there (.there (.there (.there (.there (.there (.there (.there (.here)))))))))) | exact .there (.there (.there (.there (.there (.there (.there (.there (.there (.there (.there (.here))))))))))) | exact .there (.there (.there (.there (.there (.there (.there (.there (.there (.there (.there (.there (.here))))))))))))) rfl ?_)
      intro bb vs is' w h0 hF hTT hS; replace hS := hS _ (by first | exact .here | exact .there (.here) | exact .there (.there (.here)) | exact .there (.there (.there (.here))) | exact .there (.there (.there (.there (.here)))) | exact .there (.there (.there (.there (.there (.here))))) | exact .there (.there (.there (.there (.there (.there (.here)))))) | exact .there (.there (.there (.there (.there (.there (.there (.here))))))) | exact .there (.there (.there (.there (.there (.there (.there (.there (.here)))))))) | exact .there (.there (.there (.there (.there (.there (.there (.there (.there (.here))))))))) | exact .there (.there (.there (.there (.there (.there (.there (.there (.there (.there (.here)))))))))) | exact .there (.there (.there (.there (.there (.there (.there (.there (.there (.there (.there (.here))))))))))) | exact .there (.there (.there (.there (.there (.there (.there (.there (.there (.there (.there (.there (.here)))))))))))))
      refine WL.op rfl (opW.extract rfl h0 ?_)
      refine WL.nil ?_
      refine thenQ_n (hK7 _ _ ?_)
      refine WC.seq (fun K8 hK8 => ?_)
      refine WC.cond _ rfl (fun hc1 => ?_) (fun hc1 => ?_)
      ·
        have hr1 := hc1
        try simp only [decide_eq_true_eq, decide_eq_false_iff_not, Bool.and_eq_true, Bool.or_eq_true, Bool.and_eq_false_iff, Bool.or_eq_false_iff, Bool.not_eq_true', Bool.not_eq_false', Int.not_lt, Int.not_le] at hc1
        obtain ⟨i, hi, hni, hlt, rfl⟩ := hTT hr1
        have hRM := hS.rng (r := d.r2) (vv := Prod.fst) (kvs := d.all) (by first | exact .here | exact .there (.here) | exact .there (.there (.here)) | exact .there (.there (.there (.here))) | exact .there (.there (.there (.there (.here)))) | exact .there (.there (.there (.there (.there (.here))))) | exact .there (.there (.there (.there (.there (.there (.here)))))) | exact .there (.there (.there (.there (.there (.there (.there (.here))))))) | exact .there (.there (.there (.there (.there (.there (.there (.there (.here)))))))) | exact .there (.there (.there (.there (.there (.there (.there (.there (.there (.here))))))))) | exact .there (.there (.there (.there (.there (.there (.there (.there (.there (.there (.here)))))))))) | exact .there (.there (.there (.there (.there (.there (.there (.there (.there (.there (.there (.here))))))))))) | exact .there (.there (.there (.there (.there (.there (.there (.there (.there (.there (.there (.there (.here)))))))))))))
        obtain ⟨_, _, _, hmi⟩ := hRM.map
        have hnd := hmi.2.2
        obtain ⟨_, _, _, hmk⟩ := hS.map (r := c2) (vv := Prod.fst) (kvs := nk) (by first | exact .here | exact .there (.here) | exact .there (.there (.here)) | exact .there (.there (.there (.here))) | exact .there (.there (.there (.there (.here)))) | exact .there (.there (.there (.there (.there (.here))))) | exact .there (.there (.there (.there (.there (.there (.here)))))) | exact .there (.there (.there (.there (.there (.there (.there (.here))))))) | exact .there (.there (.there (.there (.there (.there (.there (.there (.here)))))))) | exact .there (.there (.there (.there (.there (.there (.there (.there (.there (.here))))))))) | exact .there (.there (.there (.there (.there (.there (.there (.there (.there (.there (.here)))))))))) | exact .there (.there (.there (.there (.there (.there (.there (.there (.there (.there (.there (.here))))))))))) | exact .there (.there (.there (.there (.there (.there (.there (.there (.there (.there (.there (.there (.here)))))))))))))
        have hnk := hmk.2.2
        have hnone := (hcp.step hnd hi hni (.bool true)).1
        have hXe : (d.all[i]).2.2 = ofH L (d.all[i]).1 := by
          have := hd.2 (d.all[i]).1
          rw [aget_get hnd hi] at this
          exact this
        have hXl : (d.all[i]).2.2.length ≤ 100000 := by
          rw [hXe]; have := List.length_filter_le (fun q : Sig × Hash => decide (q.2 = (d.all[i]).1)) L; unfold ofH; rw [List.length_map]; omega
        refine WC.skip ?_
        refine thenQ_n (hK8 _ _ ?_)
        refine WC.block ?_
        refine WC.seq (fun K9 hK9 => ?_)
        refine WC.region ?_
        refine WL.op rfl (opW.entryM hRM hi rfl ?_)
        refine WL.op rfl (opW.extract rfl rfl ?_)
        refine WL.op rfl (opW.extract rfl rfl ?_)
        refine WL.op rfl (opW.allocA hS ?_)
        intro b4 w _ hS
        refine WL.op0 (opW.storeE hS rfl rfl (by first | exact .here | exact .there (.here) | exact .there (.there (.here)) | exact .there (.there (.there (.here))) | exact .there (.there (.there (.there (.here)))) | exact .there (.there (.there (.there (.there (.here))))) | exact .there (.there (.there (.there (.there (.there (.here)))))) | exact .there (.there (.there (.there (.there (.there (.there (.here))))))) | exact .there (.there (.there (.there (.there (.there (.there (.there (.here)))))))) | exact .there (.there (.there (.there (.there (.there (.there (.there (.there (.here))))))))) | exact .there (.there (.there (.there (.there (.there (.there (.there (.there (.there (.here)))))))))) | exact .there (.there (.there (.there (.there (.there (.there (.there (.there (.there (.there (.here))))))))))) | exact .there (.there (.there (.there (.there (.there (.there (.there (.there (.there (.there (.there (.here))))))))))))) (by first | rfl | exact Enc.size_eq _) ?_)
        intro w hS; replace hS := hS _ (by first | exact .here | exact .there (.here) | exact .there (.there (.here)) | exact .there (.there (.there (.here))) | exact .there (.there (.there (.there (.here)))) | exact .there (.there (.there (.there (.there (.here))))) | exact .there (.there (.there (.there (.there (.there (.here)))))) | exact .there (.there (.there (.there (.there (.there (.there (.here))))))) | exact .there (.there (.there (.there (.there (.there (.there (.there (.here)))))))) | exact .there (.there (.there (.there (.there (.there (.there (.there (.there (.here))))))))) | exact .there (.there (.there (.there (.there (.there (.there (.there (.there (.there (.here)))))))))) | exact .there (.there (.there (.there (.there (.there (.there (.there (.there (.there (.there (.here))))))))))) | exact .there (.there (.there (.there (.there (.there (.there (.there (.there (.there (.there (.there (.here)))))))))))))
        refine WL.op rfl (opW.assignV (v := (d.all[i]).2.1) rfl ?_)
        refine WL.nil ?_
        refine thenQ_n (hK9 _ _ ?_)
        refine WC.draw 8 (.look 0 (.look 1 (.look 2 (.look 3 (.look 4 (.look 5 (.one 6 (.one 7 (.one 8 .nil))))))))) (by kernel_rfl) (fun _ _ _ h => h) (fun w1 hw1 => ?_)
        replace hS := hS.bel hw1
        have hS1 := hS
        have hT := St.start w1
        have hsl : SlR w1 (d.all[i]).2.1 (d.all[i]).2.2 := (hS1.ownAt (T := 31) (kvs := d.all) (by intro e he; simp [he]) (aget_get hnd hi)).sl
        refine ML.look rfl rfl rfl (fun w hw => (by have hS := hS1.bel hw; exact opW.moveV (v := .pointer (some ⟨b16, 0, none⟩)) rfl ⟨rfl, rfl⟩)) ?_
        refine ML.look rfl rfl rfl (fun w hw => (by have hS := hS1.bel hw; exact opW.nilCheckB rfl ⟨rfl, rfl⟩)) ?_
        refine ML.look rfl rfl rfl (fun w hw => (by have hS := hS1.bel hw; exact opW.fieldAddrB rfl ⟨rfl, rfl⟩)) ?_
        refine ML.look rfl rfl rfl (fun w hw => (by have hS := hS1.bel hw; exact opW.loadV rfl (hS.ld1 (by first | exact .here | exact .there (.here) | exact .there (.there (.here)) | exact .there (.there (.there (.here))) | exact .there (.there (.there (.there (.here)))) | exact .there (.there (.there (.there (.there (.here))))) | exact .there (.there (.there (.there (.there (.there (.here)))))) | exact .there (.there (.there (.there (.there (.there (.there (.here))))))) | exact .there (.there (.there (.there (.there (.there (.there (.there (.here)))))))) | exact .there (.there (.there (.there (.there (.there (.there (.there (.there (.here))))))))) | exact .there (.there (.there (.there (.there (.there (.there (.there (.there (.there (.here)))))))))) | exact .there (.there (.there (.there (.there (.there (.there (.there (.there (.there (.there (.here))))))))))) | exact .there (.there (.there (.there (.there (.there (.there (.there (.there (.there (.there (.there (.here))))))))))))) (SeS.at_all _)) ⟨rfl, rfl⟩)) ?_
        refine ML.look rfl rfl rfl (fun w hw => (by have hS := hS1.bel hw; exact opW.loadV rfl (hS.ldA (cs := Enc.enc (d.all[i]).1) (by first | exact .here | exact .there (.here) | exact .there (.there (.here)) | exact .there (.there (.there (.here))) | exact .there (.there (.there (.there (.here)))) | exact .there (.there (.there (.there (.there (.here))))) | exact .there (.there (.there (.there (.there (.there (.here)))))) | exact .there (.there (.there (.there (.there (.there (.there (.here))))))) | exact .there (.there (.there (.there (.there (.there (.there (.there (.here)))))))) | exact .there (.there (.there (.there (.there (.there (.there (.there (.there (.here))))))))) | exact .there (.there (.there (.there (.there (.there (.there (.there (.there (.there (.here)))))))))) | exact .there (.there (.there (.there (.there (.there (.there (.there (.there (.there (.there (.here))))))))))) | exact .there (.there (.there (.there (.there (.there (.there (.there (.there (.there (.there (.there (.here))))))))))))) (Enc.size_eq _)) ⟨rfl, rfl⟩)) ?_
        refine ML.look rfl rfl rfl (fun w hw => (by have hS := hS1.bel hw; exact opW.moveV (v := (d.all[i]).2.1) rfl ⟨rfl, rfl⟩)) ?_
        refine ML.one rfl rfl rfl (opW.call (clone_s _ _ (d.all[i]).2.2 (hsl.bel hT.old) hXl) rfl ?_)
        rintro v33 w ⟨hn33, hw⟩; replace hT := hT.newOwn hw hn33.1 hn33.2
        refine ⟨hT.old, ?_⟩
        have hS := hS1.merge hT
        try simp only [List.cons_append, List.nil_append] at hS
        refine ML.one rfl rfl rfl (opW.call (clip_s _ _ (d.all[i]).2.2 (hS.sl (v := v33) (xs := (d.all[i]).2.2) (by first | exact .here | exact .there (.here) | exact .there (.there (.here)) | exact .there (.there (.there (.here))) | exact .there (.there (.there (.there (.here)))) | exact .there (.there (.there (.there (.there (.here))))) | exact .there (.there (.there (.there (.there (.there (.here)))))) | exact .there (.there (.there (.there (.there (.there (.there (.here))))))) | exact .there (.there (.there (.there (.there (.there (.there (.there (.here)))))))) | exact .there (.there (.there (.there (.there (.there (.there (.there (.there (.here))))))))) | exact .there (.there (.there (.there (.there (.there (.there (.there (.there (.there (.here)))))))))) | exact .there (.there (.there (.there (.there (.there (.there (.there (.there (.there (.there (.here))))))))))) | exact .there (.there (.there (.there (.there (.there (.there (.there (.there (.there (.there (.there (.here))))))))))))))) rfl ?_)
        rintro v34 w ⟨hv34, hw⟩; replace hT := hT.bel hw
        refine ⟨hT.old, ?_⟩
        have hS := hS1.merge hT
        try simp only [List.cons_append, List.nil_append] at hS
        refine ML.put0 rfl rfl rfl (opW.mapUpdate (κ := Hash) (ν := Value × List Sig) (k := (d.all[i]).1) (v := (v34, (d.all[i]).2.2)) (vv := Prod.fst) hS (by first | exact .here | exact .there (.here) | exact .there (.there (.here)) | exact .there (.there (.there (.here))) | exact .there (.there (.there (.there (.here)))) | exact .there (.there (.there (.there (.there (.here))))) | exact .there (.there (.there (.there (.there (.there (.here)))))) | exact .there (.there (.there (.there (.there (.there (.there (.here))))))) | exact .there (.there (.there (.there (.there (.there (.there (.there (.here)))))))) | exact .there (.there (.there (.there (.there (.there (.there (.there (.there (.here))))))))) | exact .there (.there (.there (.there (.there (.there (.there (.there (.there (.there (.here)))))))))) | exact .there (.there (.there (.there (.there (.there (.there (.there (.there (.there (.there (.here))))))))))) | exact .there (.there (.there (.there (.there (.there (.there (.there (.there (.there (.there (.there (.here))))))))))))) rfl rfl rfl ?_)
        intro w hS; replace hS := hS _ (by first | exact .here | exact .there (.here) | exact .there (.there (.here)) | exact .there (.there (.there (.here))) | exact .there (.there (.there (.there (.here)))) | exact .there (.there (.there (.there (.there (.here))))) | exact .there (.there (.there (.there (.there (.there (.here)))))) | exact .there (.there (.there (.there (.there (.there (.there (.here))))))) | exact .there (.there (.there (.there (.there (.there (.there (.there (.here)))))))) | exact .there (.there (.there (.there (.there (.there (.there (.there (.there (.here))))))))) | exact .there (.there (.there (.there (.there (.there (.there (.there (.there (.there (.here)))))))))) | exact .there (.there (.there (.there (.there (.there (.there (.there (.there (.there (.there (.here))))))))))) | exact .there (.there (.there (.there (.there (.there (.there (.there (.there (.there (.there (.there (.here)))))))))))))
        refine ML.nil ?_
        refine blockQ_n ?_
        refine thenQ_n ?_
        have hcap : (d.all[i]).2.2.length ≤ capV v33 := (hS.sl (v := v33) (xs := (d.all[i]).2.2) (by first | exact .here | exact .there (.here) | exact .there (.there (.here)) | exact .there (.there (.there (.here))) | exact .there (.there (.there (.there (.here)))) | exact .there (.there (.there (.there (.there (.here))))) | exact .there (.there (.there (.there (.there (.there (.here)))))) | exact .there (.there (.there (.there (.there (.there (.there (.here))))))) | exact .there (.there (.there (.there (.there (.there (.there (.there (.here)))))))) | exact .there (.there (.there (.there (.there (.there (.there (.there (.there (.here))))))))) | exact .there (.there (.there (.there (.there (.there (.there (.there (.there (.there (.here)))))))))) | exact .there (.there (.there (.there (.there (.there (.there (.there (.there (.there (.there (.here))))))))))) | exact .there (.there (.there (.there (.there (.there (.there (.there (.there (.there (.there (.there (.here)))))))))))))).cap
        replace hS := hS.ownFront (v := v33) (E := 31) (xs := (d.all[i]).2.2) (k := (d.all[i]).2.2.length) (m := (d.all[i]).2.2.length) (Nat.le_refl _) (Nat.le_refl _) hcap (by first | exact .here | exact .there (.here) | exact .there (.there (.here)) | exact .there (.there (.there (.here))) | exact .there (.there (.there (.there (.here)))) | exact .there (.there (.there (.there (.there (.here))))) | exact .there (.there (.there (.there (.there (.there (.here)))))) | exact .there (.there (.there (.there (.there (.there (.there (.here))))))) | exact .there (.there (.there (.there (.there (.there (.there (.there (.here)))))))) | exact .there (.there (.there (.there (.there (.there (.there (.there (.there (.here))))))))) | exact .there (.there (.there (.there (.there (.there (.there (.there (.there (.there (.here)))))))))) | exact .there (.there (.there (.there (.there (.there (.there (.there (.there (.there (.there (.here))))))))))) | exact .there (.there (.there (.there (.there (.there (.there (.there (.there (.there (.there (.there (.here)))))))))))))
        rw [List.take_length, ← hv34] at hS
        rw [← adel_none (k := (d.all[i]).1) (l := nk) hnone] at hS
        simp only [adel_none hnone] at hS
        have hS' : St wb (ownE v34 31 (d.all[i]).2.2 :: ([blkE b4 (Enc.enc (d.all[i]).1) 24, blkE b16 (Enc.enc (SeS.mk (some c1) (some c2))) 45, mapE c2 Prod.fst (aput (d.all[i]).1 (v34, (d.all[i]).2.2) nk), mapE c1 hv L, blkE p (Enc.enc (SeS.mk (some d.r1) (some d.r2))) 45, mapE d.r1 hv L, rngE it d.r2 Prod.fst d.all (is ++ [i])] ++ (ownsL 31 (adel (d.all[i]).1 nk) ++ (ownsL 31 d.all ++ S)))) w := by
          rw [adel_none hnone]; exact hS
        replace hS := St.ownIn [_, _, _, _, _, _, _] hnk hS'
        simp only [List.cons_append, List.nil_append] at hS
        exact ⟨d.all.length - (is ++ [i]).length, by simp; omega, is ++ [i], aput (d.all[i]).1 (v34, (d.all[i]).2.2) nk, ⟨rfl, rfl, trivial⟩, hS.drop1, (hcp.step hnd hi hni v34).2, rfl⟩
      ·
        have hr1 := hc1
        try simp only [decide_eq_true_eq, decide_eq_false_iff_not, Bool.and_eq_true, Bool.or_eq_true, Bool.and_eq_false_iff, Bool.or_eq_false_iff, Bool.not_eq_true', Bool.not_eq_false', Int.not_lt, Int.not_le] at hc1
        obtain ⟨hie, hall⟩ := hF hr1
        rw [hie] at hS
        refine WC.exit ?_
        refine thenQ_e ?_
        refine thenQ_e ?_
        refine blockQ_hit ?_
        refine thenQ_n (hK5 _ _ ?_)
        refine WC.seq (fun K10 hK10 => ?_)
        refine WC.region ?_
        refine WL.op rfl (opW.moveV (v := .pointer (some ⟨b16, 0, none⟩)) rfl ?_)
        refine WL.op rfl (opW.assignV (v := .pointer (some ⟨b16, 0, none⟩)) rfl ?_)
        refine WL.nil ?_
        refine thenQ_n (hK10 _ _ ?_)
        refine WC.ret ?_
        refine bodyQ_ret (.tmpV (v := .pointer (some ⟨b16, 0, none⟩)) rfl .nil) ?_
        have hRM := hS.rng (r := d.r2) (vv := Prod.fst) (kvs := d.all) (by first | exact .here | exact .there (.here) | exact .there (.there (.here)) | exact .there (.there (.there (.here))) | exact .there (.there (.there (.there (.here)))) | exact .there (.there (.there (.there (.there (.here))))) | exact .there (.there (.there (.there (.there (.there (.here)))))) | exact .there (.there (.there (.there (.there (.there (.there (.here))))))) | exact .there (.there (.there (.there (.there (.there (.there (.there (.here)))))))) | exact .there (.there (.there (.there (.there (.there (.there (.there (.there (.here))))))))) | exact .there (.there (.there (.there (.there (.there (.there (.there (.there (.there (.here)))))))))) | exact .there (.there (.there (.there (.there (.there (.there (.there (.there (.there (.there (.here))))))))))) | exact .there (.there (.there (.there (.there (.there (.there (.there (.there (.there (.there (.there (.here)))))))))))))
        obtain ⟨_, _, _, hmi⟩ := hRM.map
        have hdn := hcp.done hmi.2.2 hall
        replace hS := hS.unrng (r := d.r2) (vv := Prod.fst) (kvs := d.all) (by first | exact .here | exact .there (.here) | exact .there (.there (.here)) | exact .there (.there (.there (.here))) | exact .there (.there (.there (.there (.here)))) | exact .there (.there (.there (.there (.there (.here))))) | exact .there (.there (.there (.there (.there (.there (.here)))))) | exact .there (.there (.there (.there (.there (.there (.there (.here))))))) | exact .there (.there (.there (.there (.there (.there (.there (.there (.here)))))))) | exact .there (.there (.there (.there (.there (.there (.there (.there (.there (.here))))))))) | exact .there (.there (.there (.there (.there (.there (.there (.there (.there (.there (.here)))))))))) | exact .there (.there (.there (.there (.there (.there (.there (.there (.there (.there (.there (.here))))))))))) | exact .there (.there (.there (.there (.there (.there (.there (.there (.there (.there (.there (.there (.here)))))))))))))
        have h2 : St wb (blkE b16 (Enc.enc (SeS.mk (some c1) (some c2))) 45 :: mapE c1 hv L :: mapE c2 Prod.fst nk :: (ownsL 31 nk ++ (blkE p (Enc.enc (SeS.mk (some d.r1) (some d.r2))) 45 :: mapE d.r1 hv L :: mapE d.r2 Prod.fst d.all :: (ownsL 31 d.all ++ S)))) _ :=
          hS.perm (.cons _ ((List.Perm.swap _ _ _).trans (.cons _ (.cons _ (List.perm_append_comm_assoc [blkE p (Enc.enc (SeS.mk (some d.r1) (some d.r2))) 45, mapE d.r1 hv L, mapE d.r2 Prod.fst d.all] (ownsL 31 nk) (ownsL 31 d.all ++ S))))))
        have h3 := h2.seClose ⟨c1, c2, nk⟩
        have h4 : St wb (blkE p (Enc.enc (SeS.mk (some d.r1) (some d.r2))) 45 :: mapE d.r1 hv L :: mapE d.r2 Prod.fst d.all :: (ownsL 31 d.all ++ (seE b16 ⟨c1, c2, nk⟩ L :: S))) _ :=
          h3.perm (List.perm_middle (l₁ := [blkE p (Enc.enc (SeS.mk (some d.r1) (some d.r2))) 45, mapE d.r1 hv L, mapE d.r2 Prod.fst d.all] ++ ownsL 31 d.all)).symm
        exact ⟨b16, ⟨c1, c2, nk⟩, rfl, ⟨hd.1, fun h => (hdn h).trans (hd.2 h)⟩, h4.seClose d⟩

end Go.Fer
