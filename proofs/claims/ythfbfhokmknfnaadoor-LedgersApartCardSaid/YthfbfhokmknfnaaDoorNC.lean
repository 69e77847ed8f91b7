/- what is asked of transactions, plainly -/
import Derived.Test.YthfbfhokmknfnaaDoorL1
import Derived.Test.YthfbfhokmknfnaaDoorN8
import Derived.Test.YthfbfhokmknfnaaDoorM1
import Derived.Test.YthfbfhokmknfnaaDoorN6
import Derived.Test.YthfbfhokmknfnaaDoorN4
set_option linter.all false
namespace Go.Fer
open Go Go.Proofs Go.RowKit

theorem GoneT.r {w w0 : World} {R : Ready} {r : List Role} (h : GoneT w R) (hr : SlR w0 R.roles.v r) : r.length ≤ 300 := by
 obtain ⟨bs, sg, ks, ins, lks, r', hR, hs⟩ := h
 obtain ⟨a, c, e⟩ := hr.eq
 obtain ⟨a', c', e'⟩ := hR.fr.eq
 rw [e] at e'
 injection e' with e1 e2 e3
 rw [e2]
 exact hs.r
theorem tx_of {w : World} {R : Ready} (h : R.okz w) : ∃ x : TX, x.R = R ∧ SlR w x.R.roles.v x.r ∧ (x.r.length ≤ 100000 → TXOk w x) := by
 obtain ⟨bs, sg, ks, ins, lks, r, hR⟩ := h.is
 obtain ⟨qs, hql, hin⟩ := qs_of hR.oi
 exact ⟨⟨R, r, ins, qs⟩, rfl, hR.fr, fun hb => ⟨hR.fr, hR.fi, hql, hin, (by have := hR.bu; show R.budget.units < _; omega), hb, (by have := hR.fee; show R.fee < _; omega)⟩⟩
theorem putsF_get {k : Key} : ∀ {ch : List Holding} {d : StD}, StOk d → (∀ h ∈ ch, h.key ≠ k) → (putsF d ch).get k = d.get k
 | [], _, _, _ => rfl
 | h :: ch, d, hok, hk => by
  have h1 := putsF_get (ch := ch) (hok.put h.key h.account) (fun x hx => hk x (List.mem_cons_of_mem _ hx))
  have h2 : putsF d (h :: ch) = putsF (d.put h.key h.account) ch := rfl
  rw [h2, h1, StD.get_put hok, if_neg (fun e => hk h List.mem_cons_self e.symm)]
theorem chF_key {d : StD} {x : TX} {h : Holding} (hh : h ∈ chF d x) : h.key ∈ wrL x.r := by
 obtain ⟨_, ρ, hρ, hk, hw⟩ := chgF_mem hh
 unfold wrL
 exact List.mem_map.2 ⟨ρ, List.mem_filter.2 ⟨hρ, hw⟩, hk⟩
theorem nextF_get {d : StD} {x : TX} {k : Key} (hok : StOk d) (hk : k ∉ wrL x.r) : (nextF d x).get k = d.get k := by
 unfold nextF
 split
 ·exact putsF_get hok (fun h hh e => hk (e ▸ chF_key hh))
 ·rfl
theorem nextF_no {d : StD} {x : TX} (h : errF d x ≠ 0) : nextF d x = d := if_neg h
theorem wrL_len (r : List Role) : (wrL r).length ≤ r.length := by
 unfold wrL; rw [List.length_map]; exact List.length_filter_le _ _
/-- sought so far and not found -/
def notIn (b : Bool) (k : Key) (W : List Key) (i : Nat) : Prop := b = false → k ∉ W.take i
theorem notIn_0 (b : Bool) (k : Key) (W : List Key) : notIn b k W 0 := fun _ h => by simp at h
theorem notIn_step {b : Bool} {k : Key} {W : List Key} {i : Nat} (h : notIn b k W i) (hi : i < W.length) : notIn (b || decide (W[i] = k)) k W (i + 1) := by
 intro hb
 obtain ⟨h1, h2⟩ := Bool.or_eq_false_iff.1 hb
 rw [List.take_succ_eq_append_getElem hi]
 intro hm
 rcases List.mem_append.1 hm with hm | hm
 ·exact h h1 hm
 ·exact of_decide_eq_false h2 (List.mem_singleton.1 hm).symm
theorem notIn_all {k : Key} {W : List Key} {i : Nat} (h : notIn false k W i) (hi : W.length ≤ i) : k ∉ W := by
 have := h rfl
 rwa [List.take_of_length_le hi] at this
theorem opW.pickOrK {P : Program} {f : Fr} {w : World} {R : Value → World → Prop} {d : Option Tmp} {T : TypeId} {pos : String} {af : Array Edge} {gd : Option (Nat × Bool)} {c a b : Operand} {t u : Bool} (v : Bool) (hc : ev f c = .bool t) (ha : ev f a = .bool true) (hb : ev f b = gv (t == false) (.bool u)) (hu : (t || u) = v) (h : R (.bool v) w) : opW P f ⟨d, .pick c a b, T, pos, af, gd⟩ w R := by
 subst hu
 exact opW.pickOr hc ha hb h
theorem noKey {d : StD} {x : TX} {k : Key} {b : Bool} {i : Nat} (hok : StOk d) (h : notIn b k (wrL x.r) i) (hi : (wrL x.r).length ≤ i) : (b || decide ((nextF d x).get k = d.get k)) = true := by
 cases b with
 | true => rfl
 | false => rw [nextF_get hok (notIn_all h hi)]; simp

end Go.Fer
