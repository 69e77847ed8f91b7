/- seens -/
import Derived.Test.YtkklpbjgncpenaaR
set_option linter.all false
namespace Go.Fer
open Go Go.Proofs Go.RowKit

abbrev Sig := Vector UInt8 64
abbrev Hash := Vector UInt8 32
def hv (h : Hash) : Value := .agg (Enc.enc h)
/-- what signatures that were recorded are made of -/
structure SeD where
  r1 : Nat
  r2 : Nat
  all : List (Hash × (Value × List Sig))
def seL (p : Nat) (d : SeD) (L : List (Sig × Hash)) : List Ent :=
  [blkE p (Enc.enc (SeS.mk (some d.r1) (some d.r2))) 45, mapE d.r1 hv L, mapE d.r2 Prod.fst d.all] ++ ownsL 31 d.all
@[irreducible] def seE (p : Nat) (d : SeD) (L : List (Sig × Hash)) : Ent := starE (seL p d L)
/-- those of a hash, in their order -/
def ofH (L : List (Sig × Hash)) (h : Hash) : List Sig := (L.filter fun q => decide (q.2 = h)).map Prod.fst
def nilS : Value × List Sig := (.slice none 0 0, [])
def SeIs (L : List (Sig × Hash)) (d : SeD) : Prop := (L.map Prod.fst).Nodup ∧ ∀ h : Hash, ((aget h d.all).getD nilS).2 = ofH L h
theorem St.seOpen {w0 w : World} {S : List Ent} {p : Nat} {d : SeD} {L : List (Sig × Hash)} (h : St w0 (seE p d L :: S) w) :
    St w0 (blkE p (Enc.enc (SeS.mk (some d.r1) (some d.r2))) 45 :: mapE d.r1 hv L :: mapE d.r2 Prod.fst d.all :: (ownsL 31 d.all ++ S)) w := by
  unfold seE at h
  exact h.opened
theorem St.seClose {w0 w : World} {S : List Ent} {p : Nat} (d : SeD) {L : List (Sig × Hash)}
    (h : St w0 (blkE p (Enc.enc (SeS.mk (some d.r1) (some d.r2))) 45 :: mapE d.r1 hv L :: mapE d.r2 Prod.fst d.all :: (ownsL 31 d.all ++ S)) w) : St w0 (seE p d L :: S) w := by
  unfold seE
  exact St.closed (l := seL p d L) h
def SeAt (w : World) (p : Nat) (d : SeD) (L : List (Sig × Hash)) : Prop := Pt w (.pointer (some ⟨p, 0, none⟩)) (Enc.enc (SeS.mk (some d.r1) (some d.r2))) ∧ MapB w d.r1 hv L
theorem SeAt.bel {w w' : World} {p : Nat} {d : SeD} {L : List (Sig × Hash)} (h : SeAt w p d L) (hb : Bel w w') : SeAt w' p d L := ⟨h.1.bel hb, h.2.bel hb⟩
theorem St.seAt {w0 w : World} {S : List Ent} {p : Nat} {d : SeD} {L : List (Sig × Hash)} (h : St w0 S w) (he : Has (seE p d L) S) : SeAt w p d L := by
  have h1 := h.get he
  unfold seE at h1
  rw [starE_A] at h1
  refine ⟨?_, ?_⟩
  · have := h1.2 (blkE p (Enc.enc (SeS.mk (some d.r1) (some d.r2))) 45) (by simp [seL])
    unfold blkE at this
    exact Pt.blk this
  · have := h1.2 (mapE d.r1 hv L) (by simp [seL])
    rw [mapE_A] at this; exact this
/-- recorded, if it was not -/
def markL (L : List (Sig × Hash)) (g : Sig) (h : Hash) : List (Sig × Hash) := if (aget g L).isSome = true then L else L ++ [(g, h)]
def forgetL (L : List (Sig × Hash)) (h : Hash) : List (Sig × Hash) := L.filter fun q => decide (q.2 ≠ h)
theorem seIs_mark {L : List (Sig × Hash)} {d : SeD} {g : Sig} {h : Hash} (hd : SeIs L d) (hg : (aget g L).isSome = false) (v : Value) :
    SeIs (markL L g h) { d with all := aput h (v, ((aget h d.all).getD nilS).2 ++ [g]) d.all } := by
  unfold markL
  rw [if_neg (by rw [hg]; decide)]
  have hnone : aget g L = none := by simpa using hg
  refine ⟨?_, fun h' => ?_⟩
  · rw [List.map_append]
    refine List.nodup_append.2 ⟨hd.1, by simp, fun a ha b hb => ?_⟩
    simp at hb; subst hb
    exact fun e => aget_none.1 hnone (e ▸ ha)
  · show ((aget h' (aput h _ d.all)).getD nilS).2 = _
    rw [aget_aput]
    by_cases e : h' = h
    · subst e
      rw [if_pos rfl]
      show ((aget h' d.all).getD nilS).2 ++ [g] = _
      rw [hd.2 h']
      simp [ofH, List.filter_append]
    · rw [if_neg e, hd.2 h']
      simp [ofH, List.filter_append, Ne.symm e]
theorem seIs_forget {L : List (Sig × Hash)} {d : SeD} {h : Hash} (hd : SeIs L d) (hn : (d.all.map Prod.fst).Nodup) : SeIs (forgetL L h) { d with all := adel h d.all } := by
  refine ⟨(List.Sublist.map _ List.filter_sublist).nodup hd.1, fun h' => ?_⟩
  show ((aget h' (adel h d.all)).getD nilS).2 = _
  rw [aget_adel h h' hn]
  by_cases e : h' = h
  · subst e
    rw [if_pos rfl]
    have : (L.filter fun q => decide (q.2 ≠ h')).filter (fun q => decide (q.2 = h')) = [] := by
      rw [List.filter_eq_nil_iff]; intro q hq; simp at hq; simp [hq.2]
    simp only [ofH, forgetL, this]; rfl
  · rw [if_neg e, hd.2 h']
    simp only [ofH, forgetL, List.filter_filter]
    congr 1
    refine List.filter_congr fun q _ => ?_
    by_cases hq : q.2 = h' <;> simp [hq, e]
/-- without the first k of some keys -/
def lessL (L : List (Sig × Hash)) (gs : List Sig) : List (Sig × Hash) := L.filter fun q => decide (q.1 ∉ gs)
theorem lessL_nil (L : List (Sig × Hash)) : lessL L [] = L := by simp [lessL]
theorem lessL_step {L : List (Sig × Hash)} (hn : (L.map Prod.fst).Nodup) {gs : List Sig} {k : Nat} (hk : k < gs.length) : adel gs[k] (lessL L (gs.take k)) = lessL L (gs.take (k + 1)) := by
  rw [adel_filter (by exact (List.Sublist.map _ List.filter_sublist).nodup hn)]
  unfold lessL
  rw [List.filter_filter, List.take_succ_eq_append_getElem hk]
  refine List.filter_congr fun q _ => ?_
  simp only [List.mem_append, List.mem_singleton, not_or, decide_not]
  rw [Bool.and_comm, ← decide_not, ← decide_not, Bool.eq_iff_iff]; simp
theorem nodup_snd {L : List (Sig × Hash)} (hn : (L.map Prod.fst).Nodup) {q r : Sig × Hash} (hq : q ∈ L) (hr : r ∈ L) (e : q.1 = r.1) : q = r := by
  induction L with
  | nil => cases hq
  | cons x L ih =>
    simp only [List.map_cons, List.nodup_cons] at hn
    rcases List.mem_cons.1 hq with h1 | h1
    · rcases List.mem_cons.1 hr with h2 | h2
      · rw [h1, h2]
      · exact absurd (List.mem_map_of_mem (f := Prod.fst) h2) (by rw [← e, h1]; exact hn.1)
    · rcases List.mem_cons.1 hr with h2 | h2
      · exact absurd (List.mem_map_of_mem (f := Prod.fst) h1) (by rw [e, h2]; exact hn.1)
      · exact ih hn.2 h1 h2
theorem lessL_all {L : List (Sig × Hash)} (hn : (L.map Prod.fst).Nodup) (h : Hash) : lessL L (ofH L h) = forgetL L h := by
  refine List.filter_congr fun q hq => ?_
  rw [Bool.eq_iff_iff, decide_eq_true_eq, decide_eq_true_eq]
  constructor
  · intro h1 h2
    exact h1 (List.mem_map_of_mem (List.mem_filter.2 ⟨hq, by simpa using h2⟩))
  · intro h1 h2
    obtain ⟨r, hr, e⟩ := List.mem_map.1 h2
    obtain ⟨hr1, hr2⟩ := List.mem_filter.1 hr
    have := nodup_snd hn hq hr1 e.symm
    subst this
    exact h1 (by simpa using hr2)

theorem zeroHash : ZeroT Try.prog 24 (hv (vz 32)) := by
  have h : ZeroT Try.prog 24 _ := inferInstance
  unfold hv
  rw [enc_vz]
  exact h

theorem there_ok (w0 : World) (p r1 r2 : Nat) (hp : Pt w0 (.pointer (some ⟨p, 0, none⟩)) (Enc.enc (SeS.mk (some r1) (some r2)))) : Ret Try.prog 18 #[.pointer (some ⟨p, 0, none⟩)] w0 (fun u w' => u = .bool true ∧ Bel w0 w') := by
  refine Ret.enter (args := [.pointer (some ⟨p, 0, none⟩)]) Try.func18 rfl Try.ntmps18 Try.results18 rfl ?_
  have hS := St.start w0
  refine WC.seq (fun K1 hK1 => ?_)
  refine WC.region ?_
  refine WL.op rfl (opW.assignB rfl ?_)
  refine WL.nil ?_
  refine thenQ_n (hK1 _ _ ?_)
  refine WC.seq (fun K2 hK2 => ?_)
  refine WC.region ?_
  refine WL.op rfl (opW.moveV (v := .pointer (some ⟨p, 0, none⟩)) rfl ?_)
  refine WL.op rfl (opW.neqP rfl rfl ?_)
  refine WL.op rfl (opW.moveB rfl ?_)
  refine WL.gT 5 rfl rfl rfl (WL.op rfl (opW.moveV (v := .pointer (some ⟨p, 0, none⟩)) rfl ?_))
  refine WL.gT 5 rfl rfl rfl (WL.op rfl (opW.nilCheckB rfl ?_))
  refine WL.gT 5 rfl rfl rfl (WL.op rfl (opW.fieldAddrB rfl ?_))
  refine WL.gT 5 rfl rfl rfl (WL.op rfl (opW.loadV rfl ((hp.bel hS.old).at1 (SeS.at_of _)) ?_))
  refine WL.gT 5 rfl rfl rfl (WL.op rfl (opW.neqM rfl rfl ?_))
  refine WL.op rfl (opW.pickT rfl rfl ?_)
  refine WL.op rfl (opW.assignB rfl ?_)
  refine WL.nil ?_
  refine thenQ_n (hK2 _ _ ?_)
  refine WC.ret ?_
  refine bodyQ_ret (.tmpB rfl .nil) ?_
  exact ⟨rfl, hS.old⟩

theorem has_ok (w0 : World) (p : Nat) (d : SeD) (L : List (Sig × Hash)) (g : Sig) (ha : SeAt w0 p d L) : Ret Try.prog 9 #[.pointer (some ⟨p, 0, none⟩), .agg (Enc.enc g)] w0 (fun u w' => u = .bool (aget g L).isSome ∧ Bel w0 w') := by
  refine Ret.enter (args := [.pointer (some ⟨p, 0, none⟩), .agg (Enc.enc g)]) Try.func9 rfl Try.ntmps9 Try.results9 rfl ?_
  have hS := St.start w0
  refine WC.seq (fun K1 hK1 => ?_)
  refine WC.region ?_
  refine WL.op rfl (opW.boxA hS rfl ?_)
  intro b3 w _ hS
  refine WL.op rfl (opW.assignB rfl ?_)
  refine WL.nil ?_
  refine thenQ_n (hK1 _ _ ?_)
  refine WC.seq (fun K2 hK2 => ?_)
  refine WC.seq (fun K3 hK3 => ?_)
  refine WC.region ?_
  refine WL.op rfl (opW.moveV (v := .pointer (some ⟨p, 0, none⟩)) rfl ?_)
  refine WL.op rfl (opW.call (there_ok _ p d.r1 d.r2 (ha.1.bel hS.old)) rfl ?_)
  rintro _ w ⟨rfl, hw⟩; replace hS := hS.bel hw
  refine WL.op rfl (opW.not rfl ?_)
  refine WL.nil ?_
  refine thenQ_n (hK3 _ _ ?_)
  refine WC.cond _ rfl (fun hc0 => ?_) (fun hc0 => ?_)
  ·
    have hr0 := hc0
    try simp only [decide_eq_true_eq, decide_eq_false_iff_not, Bool.and_eq_true, Bool.or_eq_true, Bool.and_eq_false_iff, Bool.or_eq_false_iff, Bool.not_eq_true', Bool.not_eq_false', Int.not_lt, Int.not_le] at hc0
    exact absurd hr0 (by decide)
  ·
    have hr0 := hc0
    try simp only [decide_eq_true_eq, decide_eq_false_iff_not, Bool.and_eq_true, Bool.or_eq_true, Bool.and_eq_false_iff, Bool.or_eq_false_iff, Bool.not_eq_true', Bool.not_eq_false', Int.not_lt, Int.not_le] at hc0
    refine WC.skip ?_
    refine thenQ_n (hK2 _ _ ?_)
    refine WC.seq (fun K4 hK4 => ?_)
    refine WC.draw 12 (.look 0 (.look 1 (.look 2 (.look 3 (.look 4 (.look 5 (.look 6 (.look 7 (.look 8 (.one 9 (.one 10 (.look 11 .nil)))))))))))) (by kernel_rfl) (fun _ _ _ h => h) (fun w1 hw1 => ?_)
    replace hS := hS.bel hw1
    have hS1 := hS
    have hT := St.start w1
    refine ML.look rfl rfl rfl (fun w hw => (by have hS := hS1.bel hw; exact opW.moveV (v := .pointer (some ⟨p, 0, none⟩)) rfl ⟨rfl, rfl⟩)) ?_
    refine ML.look rfl rfl rfl (fun w hw => (by have hS := hS1.bel hw; exact opW.nilCheckB rfl ⟨rfl, rfl⟩)) ?_
    refine ML.look rfl rfl rfl (fun w hw => (by have hS := hS1.bel hw; exact opW.fieldAddrB rfl ⟨rfl, rfl⟩)) ?_
    refine ML.look rfl rfl rfl (fun w hw => (by have hS := hS1.bel hw; exact opW.loadV rfl ((ha.1.bel hS.old).at1 (SeS.at_of _)) ⟨rfl, rfl⟩)) ?_
    refine ML.look rfl rfl rfl (fun w hw => (by have hS := hS1.bel hw; exact opW.loadV rfl (by first | exact hS.ldA (by first | exact .here | exact .there (.here) | exact .there (.there (.here)) | exact .there (.there (.there (.here))) | exact .there (.there (.there (.there (.here)))) | exact .there (.there (.there (.there (.there (.here))))) | exact .there (.there (.there (.there (.there (.there (.here)))))) | exact .there (.there (.there (.there (.there (.there (.there (.here))))))) | exact .there (.there (.there (.there (.there (.there (.there (.there (.here)))))))) | exact .there (.there (.there (.there (.there (.there (.there (.there (.there (.here))))))))) | exact .there (.there (.there (.there (.there (.there (.there (.there (.there (.there (.here)))))))))) | exact .there (.there (.there (.there (.there (.there (.there (.there (.there (.there (.there (.here))))))))))) | exact .there (.there (.there (.there (.there (.there (.there (.there (.there (.there (.there (.there (.here))))))))))))) (by first | rfl | exact Enc.size_eq _) | exact hS.ld1 (by first | exact .here | exact .there (.here) | exact .there (.there (.here)) | exact .there (.there (.there (.here))) | exact .there (.there (.there (.there (.here)))) | exact .there (.there (.there (.there (.there (.here))))) | exact .there (.there (.there (.there (.there (.there (.here)))))) | exact .there (.there (.there (.there (.there (.there (.there (.here))))))) | exact .there (.there (.there (.there (.there (.there (.there (.there (.here)))))))) | exact .there (.there (.there (.there (.there (.there (.there (.there (.there (.here))))))))) | exact .there (.there (.there (.there (.there (.there (.there (.there (.there (.there (.here)))))))))) | exact .there (.there (.there (.there (.there (.there (.there (.there (.there (.there (.there (.here))))))))))) | exact .there (.there (.there (.there (.there (.there (.there (.there (.there (.there (.there (.there (.here))))))))))))) rfl) ⟨rfl, rfl⟩)) ?_
    refine ML.look rfl rfl rfl (fun w hw => (by have hS := hS1.bel hw; exact opW.lookup2Z (κ := Sig) (vv := hv) (z0 := vz 32) (u := (aget g L).getD (vz 32)) zeroHash (ha.2.bel hS.old) rfl rfl rfl ⟨rfl, rfl⟩)) ?_
    refine ML.look rfl rfl rfl (fun w hw => (by have hS := hS1.bel hw; exact opW.moveV (v := .tuple #[hv ((aget g L).getD (vz 32)), .bool (aget g L).isSome]) rfl ⟨rfl, rfl⟩)) ?_
    refine ML.look rfl rfl rfl (fun w hw => (by have hS := hS1.bel hw; exact opW.extract rfl rfl ⟨rfl, rfl⟩)) ?_
    refine ML.look rfl rfl rfl (fun w hw => (by have hS := hS1.bel hw; exact opW.extract rfl rfl ⟨rfl, rfl⟩)) ?_
    refine ML.one rfl rfl rfl (opW.allocA hT ?_)
    intro b5 w hw hT
    refine ⟨hT.old, ?_⟩
    have hS := hS1.merge hT
    try simp only [List.cons_append, List.nil_append] at hS
    refine ML.one0 rfl rfl (opW.storeE hT rfl rfl (by first | exact .here | exact .there (.here) | exact .there (.there (.here)) | exact .there (.there (.there (.here))) | exact .there (.there (.there (.there (.here)))) | exact .there (.there (.there (.there (.there (.here))))) | exact .there (.there (.there (.there (.there (.there (.here)))))) | exact .there (.there (.there (.there (.there (.there (.there (.here))))))) | exact .there (.there (.there (.there (.there (.there (.there (.there (.here)))))))) | exact .there (.there (.there (.there (.there (.there (.there (.there (.there (.here))))))))) | exact .there (.there (.there (.there (.there (.there (.there (.there (.there (.there (.here)))))))))) | exact .there (.there (.there (.there (.there (.there (.there (.there (.there (.there (.there (.here))))))))))) | exact .there (.there (.there (.there (.there (.there (.there (.there (.there (.there (.there (.there (.here))))))))))))) (by first | rfl | exact Enc.size_eq _) ?_)
    intro w hT; replace hT := hT _ (by first | exact .here | exact .there (.here) | exact .there (.there (.here)) | exact .there (.there (.there (.here))) | exact .there (.there (.there (.there (.here)))) | exact .there (.there (.there (.there (.there (.here))))) | exact .there (.there (.there (.there (.there (.there (.here)))))) | exact .there (.there (.there (.there (.there (.there (.there (.here))))))) | exact .there (.there (.there (.there (.there (.there (.there (.there (.here)))))))) | exact .there (.there (.there (.there (.there (.there (.there (.there (.there (.here))))))))) | exact .there (.there (.there (.there (.there (.there (.there (.there (.there (.there (.here)))))))))) | exact .there (.there (.there (.there (.there (.there (.there (.there (.there (.there (.there (.here))))))))))) | exact .there (.there (.there (.there (.there (.there (.there (.there (.there (.there (.there (.there (.here)))))))))))))
    refine ⟨hT.old, ?_⟩
    have hS := hS1.merge hT
    try simp only [List.cons_append, List.nil_append] at hS
    refine ML.look rfl rfl rfl (fun w hw => (by have hS := hS1.bel hw; exact opW.assignB rfl ⟨rfl, rfl⟩)) ?_
    refine ML.nil ?_
    refine thenQ_n (hK4 _ _ ?_)
    refine WC.seq (fun K5 hK5 => ?_)
    refine WC.region ?_
    refine WL.op rfl (opW.moveB rfl ?_)
    refine WL.op rfl (opW.assignB rfl ?_)
    refine WL.nil ?_
    refine thenQ_n (hK5 _ _ ?_)
    refine WC.ret ?_
    refine bodyQ_ret (.tmpB rfl .nil) ?_
    exact ⟨rfl, hS.old⟩

theorem len_ok (w0 : World) (p : Nat) (d : SeD) (L : List (Sig × Hash)) (ha : SeAt w0 p d L) : Ret Try.prog 10 #[.pointer (some ⟨p, 0, none⟩)] w0 (fun u w' => u = .int .i64 L.length ∧ Bel w0 w') := by
  refine Ret.enter (args := [.pointer (some ⟨p, 0, none⟩)]) Try.func10 rfl Try.ntmps10 Try.results10 rfl ?_
  have hS := St.start w0
  refine WC.seq (fun K1 hK1 => ?_)
  refine WC.region ?_
  refine WL.op rfl (opW.assignI rfl ?_)
  refine WL.nil ?_
  refine thenQ_n (hK1 _ _ ?_)
  refine WC.seq (fun K2 hK2 => ?_)
  refine WC.seq (fun K3 hK3 => ?_)
  refine WC.region ?_
  refine WL.op rfl (opW.moveV (v := .pointer (some ⟨p, 0, none⟩)) rfl ?_)
  refine WL.op rfl (opW.call (there_ok _ p d.r1 d.r2 (ha.1.bel hS.old)) rfl ?_)
  rintro _ w ⟨rfl, hw⟩; replace hS := hS.bel hw
  refine WL.op rfl (opW.not rfl ?_)
  refine WL.nil ?_
  refine thenQ_n (hK3 _ _ ?_)
  refine WC.cond _ rfl (fun hc0 => ?_) (fun hc0 => ?_)
  ·
    have hr0 := hc0
    try simp only [decide_eq_true_eq, decide_eq_false_iff_not, Bool.and_eq_true, Bool.or_eq_true, Bool.and_eq_false_iff, Bool.or_eq_false_iff, Bool.not_eq_true', Bool.not_eq_false', Int.not_lt, Int.not_le] at hc0
    exact absurd hr0 (by decide)
  ·
    have hr0 := hc0
    try simp only [decide_eq_true_eq, decide_eq_false_iff_not, Bool.and_eq_true, Bool.or_eq_true, Bool.and_eq_false_iff, Bool.or_eq_false_iff, Bool.not_eq_true', Bool.not_eq_false', Int.not_lt, Int.not_le] at hc0
    refine WC.skip ?_
    refine thenQ_n (hK2 _ _ ?_)
    refine WC.seq (fun K4 hK4 => ?_)
    refine WC.region ?_
    refine WL.op rfl (opW.moveV (v := .pointer (some ⟨p, 0, none⟩)) rfl ?_)
    refine WL.op rfl (opW.nilCheckB rfl ?_)
    refine WL.op rfl (opW.fieldAddrB rfl ?_)
    refine WL.op rfl (opW.loadV rfl ((ha.1.bel hS.old).at1 (SeS.at_of _)) ?_)
    refine WL.op rfl (opW.lenM (κ := Sig) (vv := hv) (ha.2.bel hS.old) rfl ?_)
    refine WL.op rfl (opW.assignI rfl ?_)
    refine WL.nil ?_
    refine thenQ_n (hK4 _ _ ?_)
    refine WC.ret ?_
    refine bodyQ_ret (.tmpI rfl .nil) ?_
    exact ⟨rfl, hS.old⟩

end Go.Fer
