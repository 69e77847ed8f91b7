/- Library, part 15 (ranging over an own map that stays as it is). No condition: rules alone. -/
import Derived.Test.YthfbfhokmknfnaaDoorPuts
import Derived.Maps.RangeRun
set_option linter.all false
namespace Go.Fer
open Go Go.RowKit

section
variable {κ ν : Type} [DecidableEq κ] [KV κ]
/-- a map, and an iterator over it that has given 'is' (places in kvs) -/
def RngB (w : World) (it r : Nat) (vv : ν → Value) (kvs : List (κ × ν)) (is : List Nat) : Prop :=
  it ≠ r ∧ ∃ es clock, w.heap[r]? = some (.map es clock) ∧ MapIs vv es clock kvs ∧ is.Nodup ∧ (∀ i ∈ is, i < kvs.length) ∧
    w.heap[it]? = some (.mapIter (some r) clock ((is.map fun i => (es[i]?.map (·.born)).getD 0).toArray) clock)
@[irreducible] def rngE (it r : Nat) (vv : ν → Value) (kvs : List (κ × ν)) (is : List Nat) : Ent :=
  ⟨fun k => k = r ∨ k = it, fun w => RngB w it r vv kvs is, fun w w' h ⟨h0, es, c, h1, h2, h3, h4, h5⟩ => ⟨h0, es, c, by rw [h r (.inl rfl)]; exact h1, h2, h3, h4, by rw [h it (.inr rfl)]; exact h5⟩⟩
theorem rngE_F (it r : Nat) (vv : ν → Value) (kvs : List (κ × ν)) (is : List Nat) : (rngE it r vv kvs is).F = fun k => k = r ∨ k = it := by unfold rngE; rfl
theorem rngE_A (it r : Nat) (vv : ν → Value) (kvs : List (κ × ν)) (is : List Nat) : (rngE it r vv kvs is).A = fun w => RngB w it r vv kvs is := by unfold rngE; rfl
theorem RngB.map {w : World} {it r : Nat} {vv : ν → Value} {kvs : List (κ × ν)} {is : List Nat} (h : RngB w it r vv kvs is) : MapB w r vv kvs := by
  obtain ⟨_, es, c, h1, h2, _⟩ := h; exact ⟨es, c, h1, h2⟩
theorem nodup_length : ∀ (n : Nat) (is : List Nat), is.Nodup → (∀ i ∈ is, i < n) → is.length ≤ n
  | 0, is, _, hl => by
    cases is with
    | nil => simp
    | cons x r => have := hl x List.mem_cons_self; omega
  | n + 1, is, h, hl => by
    have h1 := nodup_length n (is.erase n) (h.erase n) (fun i hi => by
      have h2 := (h.mem_erase_iff).1 hi
      have := hl i h2.2
      omega)
    rw [List.length_erase] at h1
    split at h1 <;> omega
section
variable {P : Program} {f : Fr} {w w0 : World} {S : List Ent} {R : Value → World → Prop} {d : Option Tmp} {T : TypeId} {pos : String} {af : Array Edge} {gd : Option (Nat × Bool)}
theorem St.rng {it r : Nat} {vv : ν → Value} {kvs : List (κ × ν)} {is : List Nat} (hS : St w0 S w) (he : Has (rngE it r vv kvs is) S) : RngB w it r vv kvs is := by have := hS.get he; rw [rngE_A] at this; exact this
theorem opW.range {t K E r : Nat} {x : Operand} {vv : ν → Value} {kvs : List (κ × ν)} [hm : MapT P t K E] (hS : St w0 S w) (he : Has (mapE r vv kvs) S) (hx : ev f x = .map (some r))
    (h : ∀ (it : Nat) w', (∀ S', Turn (mapE r vv kvs) (rngE it r vv kvs []) S S' → St w0 S' w') → R (.pointer (some ⟨it, 0, none⟩)) w') : opW P f ⟨d, .range t x, T, pos, af, gd⟩ w R := by
  obtain ⟨es, c, hb, hmi⟩ := hS.map he
  have hlt := (Array.getElem?_eq_some_iff.1 hb).1
  refine opW.of_run (v := .pointer (some ⟨w.heap.size, 0, none⟩)) (w' := w.alloc (.mapIter (some r) c #[] c)) ?_ (h w.heap.size _ fun S' hT => St.turn ?_ ?_ ?_ hS hT)
  · simp [execOp, Instr.range, hx, run_underlying hm.out, MapKept.run_getObj_map hb]
  · exact ⟨rfl, rfl, rfl, by simp, fun k hk _ => heap_alloc_old w _ hk⟩
  · rw [rngE_A]
    refine ⟨by omega, es, c, ?_, hmi, List.nodup_nil, by simp, ?_⟩
    · rw [heap_alloc_old w _ hlt]; exact hb
    · simpa using heap_alloc_new w (.mapIter (some r) c #[] c)
  · rw [mapE_F, rngE_F]
    intro k hk
    rcases hk with rfl | rfl
    · exact .inl rfl
    · exact .inr ⟨Nat.le_refl _, by simp⟩
/-- a step: nothing is left, or some entry that was not given yet -/
theorem opW.nextM {it r : Nat} {x : Operand} {vv : ν → Value} {kvs : List (κ × ν)} {is : List Nat} (hS : St w0 S w) (he : Has (rngE it r vv kvs is) S) (hx : ev f x = .pointer (some ⟨it, 0, none⟩))
    (hend : (∀ i, i < kvs.length → i ∈ is) → R (.tuple #[.bool false]) w)
    (hstep : ∀ i w' (hi : i < kvs.length), i ∉ is → is.length < kvs.length → (∀ S', Turn (rngE it r vv kvs is) (rngE it r vv kvs (is ++ [i])) S S' → St w0 S' w') → R (.tuple #[.bool true, KV.kv (kvs[i]'hi).1, vv (kvs[i]'hi).2]) w') :
    opW P f ⟨d, .next x false, T, pos, af, gd⟩ w R := by
  obtain ⟨hne, es, c, hb, hmi, hnd, hlt, hit⟩ := hS.rng he
  have hsz := mapIs_keys hmi
  have hborn : ∀ i j (hi : i < es.size) (hj : j < es.size), (es[i]'hi).born = (es[j]'hj).born → i = j := by
    intro i j hi hj e
    have h3 := hmi.2.1.2
    rcases Nat.lt_trichotomy i j with hij | hij | hij
    · have := List.pairwise_iff_getElem.1 h3 i j (by simpa using hi) (by simpa using hj) hij
      simp at this; exact absurd e this
    · exact hij
    · have := List.pairwise_iff_getElem.1 h3 j i (by simpa using hj) (by simpa using hi) hij
      simp at this; exact absurd e.symm this
  rcases run_next_at (P := P) w T it r c c _ es c hit hb hmi.2.1.1 (Nat.le_refl _) with ⟨h0, hr⟩ | ⟨e, hel, w1, hw1, hr⟩
  · refine opW.of_run (v := .tuple #[.bool false]) (w' := w) (by simp [execOp, hx, hr]) (hend fun i hi => ?_)
    have hie : i < es.size := by omega
    have h1 : ¬ (es[i] ∈ leftOf es ((is.map fun i => (es[i]?.map (·.born)).getD 0).toArray)) := by
      rw [Array.eq_empty_of_size_eq_zero h0]; simp
    simp only [leftOf, Array.mem_filter, Array.getElem_mem, true_and] at h1
    simp at h1
    obtain ⟨j, hj, hbj⟩ := h1
    have hje : j < es.size := by have := hlt j hj; omega
    simp [hje] at hbj
    have := hborn j i hje hie hbj
    subst this; exact hj
  · simp only [leftOf] at hel
    have hel2 : e ∈ es.toList ∧ ¬ (e.born ∈ is.map fun i => (es[i]?.map (·.born)).getD 0) := by
      simpa [Array.mem_filter] using hel
    obtain ⟨i, hi⟩ := List.getElem?_of_mem hel2.1
    have hie : i < es.size := by have := (List.getElem?_eq_some_iff.1 hi).1; simpa using this
    have hee : es[i] = e := by have := (List.getElem?_eq_some_iff.1 hi).2; simpa using this
    have hik : i < kvs.length := by omega
    have hkv : e.key = KV.kv (kvs[i]).1 ∧ e.val = vv (kvs[i]).2 := by
      have := congrArg (fun l => l[i]?) hmi.1
      simp [hie, hik, hee] at this
      exact this
    have hni : i ∉ is := fun hm => hel2.2 (List.mem_map.2 ⟨i, hm, by simp [hie, hee]⟩)
    have hnd2 : (is ++ [i]).Nodup := List.nodup_append.2 ⟨hnd, by simp, fun a ha b hb => by simp at hb; subst hb; intro e; subst e; exact hni ha⟩
    have hlt2 : ∀ j ∈ is ++ [i], j < kvs.length := by
      intro j hj
      rcases List.mem_append.1 hj with hj | hj
      · exact hlt j hj
      · simp at hj; subst hj; exact hik
    have hlen := nodup_length _ _ hnd2 hlt2
    simp at hlen
    rw [hkv.1, hkv.2] at hr
    have hw1h : w1.heap = w.heap := by rcases hw1 with rfl | rfl <;> rfl
    have hitl := (Array.getElem?_eq_some_iff.1 hit).1
    refine opW.of_run (v := .tuple #[.bool true, KV.kv (kvs[i]).1, vv (kvs[i]).2]) (by simp only [execOp, hx, Sem.run_bind, hr, Result.andThen_ok, Sem.run_pure]; rfl) (hstep i _ hik hni (by omega) fun S' hT => St.turn ?_ ?_ ?_ hS hT)
    · rw [rngE_F]
      have ho : w1.os = w.os ∧ w1.tape = w.tape ∧ w1.output = w.output := by rcases hw1 with rfl | rfl <;> exact ⟨rfl, rfl, rfl⟩
      refine ⟨ho.1, ho.2.1, ho.2.2, by simp [ChangeMaps.setBlock, hw1h], fun k _ hk => ?_⟩
      have : it ≠ k := fun e => hk (.inr e.symm)
      simp [ChangeMaps.setBlock, hw1h, this]
    · rw [rngE_A]
      refine ⟨hne, es, c, ?_, hmi, hnd2, hlt2, ?_⟩
      · simp [ChangeMaps.setBlock, hw1h, hne, hb]
      · simp [ChangeMaps.setBlock, hw1h, hitl, hie, hee]
    · rw [rngE_F, rngE_F]; exact fun k hk => .inl hk
theorem opW.nextV {it r : Nat} {x : Operand} {vv : ν → Value} {kvs : List (κ × ν)} {is : List Nat} (hS : St w0 S w) (he : Has (rngE it r vv kvs is) S) (hx : ev f x = .pointer (some ⟨it, 0, none⟩))
    (h : ∀ (b : Bool) (vs : Array Value) (is' : List Nat) w', vs[0]? = some (.bool b) → (b = false → is' = is ∧ ∀ i, i < kvs.length → i ∈ is) → (b = true → ∃ i, i < kvs.length ∧ i ∉ is ∧ is.length < kvs.length ∧ is' = is ++ [i]) →
      (∀ S', Turn (rngE it r vv kvs is) (rngE it r vv kvs is') S S' → St w0 S' w') → R (.tuple vs) w') : opW P f ⟨d, .next x false, T, pos, af, gd⟩ w R := by
  refine opW.nextM hS he hx (fun hall => h false _ is w rfl (fun _ => ⟨rfl, hall⟩) (fun h => by cases h) fun S' hT => ?_) (fun i w' hi hni hl hT => h true _ (is ++ [i]) w' rfl (fun h => by cases h) (fun _ => ⟨i, hi, hni, hl, rfl⟩) hT)
  exact St.turn ⟨rfl, rfl, rfl, Nat.le_refl _, fun _ _ _ => rfl⟩ (hS.get he) (fun k hk => .inl hk) hS hT
theorem opW.entryM {it r i : Nat} {x : Operand} {vv : ν → Value} {kvs : List (κ × ν)} {is : List Nat} (hM : RngB w it r vv kvs (is ++ [i])) (hi : i < kvs.length) (hx : ev f x = .pointer (some ⟨it, 0, none⟩))
    (h : R (.tuple #[KV.kv (kvs[i]'hi).1, vv (kvs[i]'hi).2]) w) : opW P f ⟨d, .entry x, T, pos, af, gd⟩ w R := by
  obtain ⟨hne, es, c, hb, hmi, hnd, hlt, hit⟩ := hM
  have hie : i < es.size := by rw [mapIs_keys hmi]; exact hi
  have hkv : (es[i]).key = KV.kv (kvs[i]).1 ∧ (es[i]).val = vv (kvs[i]).2 := by
    have := congrArg (fun l => l[i]?) hmi.1
    simp [hie, hi] at this
    exact this
  have hit2 : w.heap[it]? = some (.mapIter (some r) c (((is.map fun i => (es[i]?.map (·.born)).getD 0).toArray).push (es[i]).born) c) := by
    rw [hit]; simp [hie]
  have hr := run_entry_at (P := P) w it r c _ es c (es[i]) hit2 hb (by simp) hmi.2.1.2
  rw [hkv.1, hkv.2] at hr
  exact opW.of_run (v := .tuple #[KV.kv (kvs[i]).1, vv (kvs[i]).2]) (w' := w) (by simp [execOp, hx, hr]) h
end
end
end Go.Fer
