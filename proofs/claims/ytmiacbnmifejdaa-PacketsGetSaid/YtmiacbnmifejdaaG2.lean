/- a message that was got -/
import Derived.Test.YtmiacbnmifejdaaX
import Derived.Test.YtmiacbnmifejdaaG
import Derived.Test.YtmiacbnmifejdaaC
set_option linter.all false
namespace Go.Fer
open Go Go.Proofs Go.RowKit

theorem b2_read {l : List ((SlV × List UInt8) × (SlV × List UInt8))} {w : World} (h : (b2E l).A w) {p : (SlV × List UInt8) × (SlV × List UInt8)} (hp : p ∈ l) : SlR w p.1.1.v p.1.2 ∧ SlR w p.2.1.v p.2.2 := by
  rw [b2E_eq, starE_A] at h
  have h1 := h.2 (ownE p.1.1.v 5 p.1.2) (List.mem_flatMap.2 ⟨p, hp, by simp⟩)
  have h2 := h.2 (ownE p.2.1.v 5 p.2.2) (List.mem_flatMap.2 ⟨p, hp, by simp⟩)
  rw [ownE_A] at h1 h2
  exact ⟨h1.sl, h2.sl⟩
theorem map_get {α β γ : Type} {f : α → γ} {g : β → γ} {xs : List α} {ys : List β} (h : xs.map f = ys.map g) {i : Nat} (h1 : i < xs.length) (h2 : i < ys.length) : f xs[i] = g ys[i] := by
  have := congrArg (fun l => l[i]?) h
  simpa [h1, h2] using this
theorem GotM.isM {wb w : World} {m : Message} {is : List Instr} {ls : List Lookup} {c : MC} (h : GotM m is ls c) (hS : St wb (gotL m is ls c) w) : IsM w m c is ls := by
  obtain ⟨h1, h2, h3, h4, h5, h6, h7, _, _, _⟩ := h
  have rI := (hS.all (b2E (zipI is c.ins)) (by simp [gotL])).1
  have rL := (hS.all (b2E (zipL ls c.lks)) (by simp [gotL])).1
  refine ⟨h1, h2, h3, hS.sl .h0, hS.sl .h1, ⟨h4, fun i g1 g2 => ?_⟩, hS.sl .h3, ⟨h6, fun i g1 g2 => ?_⟩⟩
  · have hk : i < (zipI is c.ins).length := by unfold zipI; rw [List.length_zipWith]; omega
    have e : (zipI is c.ins)[i] = ((is[i].accounts, c.ins[i].2.1), (is[i].data, c.ins[i].2.2)) := List.getElem_zipWith (h := hk)
    have := b2_read rI (p := ((is[i].accounts, c.ins[i].2.1), (is[i].data, c.ins[i].2.2))) (by rw [← e]; exact List.getElem_mem hk)
    exact ⟨map_get h5 g1 g2, this.1, this.2⟩
  · have hk : i < (zipL ls c.lks).length := by unfold zipL; rw [List.length_zipWith]; omega
    have e : (zipL ls c.lks)[i] = ((ls[i].writes, c.lks[i].2.1), (ls[i].reads, c.lks[i].2.2)) := List.getElem_zipWith (h := hk)
    have := b2_read rL (p := ((ls[i].writes, c.lks[i].2.1), (ls[i].reads, c.lks[i].2.2))) (by rw [← e]; exact List.getElem_mem hk)
    exact ⟨map_get h7 g1 g2, this.1, this.2⟩
theorem zIsM (w : World) : IsM w (⟨false, ⟨0, 0, 0⟩, ⟨none, 0, 0⟩, vz 32, ⟨none, 0, 0⟩, ⟨none, 0, 0⟩⟩ : Message) zMC [] [] :=
  ⟨rfl, rfl, rfl, SlR.nil _, SlR.nil _, ⟨rfl, fun i h => by cases h⟩, SlR.nil _, ⟨rfl, fun i h => by cases h⟩⟩
theorem get_ok2 (w0 : World) (sx : SlV) (xs : List UInt8) {c : MC} {t : Nat} {e : Int} (hx : SlR w0 sx.v xs) (hxl : xs.length ≤ 1000000000) (hG : getF xs = (c, t, e)) :
    Ret Try.prog 44 #[sx.v] w0 (fun u w' => ∃ (m : Message) (is : List Instr) (ls : List Lookup), u = .tuple #[.agg (Enc.enc m), .int .i64 (t : Int), .int .i64 e] ∧ GotM m is ls c ∧ St w0 (gotL m is ls c) w') := by
  refine Ret.mono (get_ok w0 sx xs hx hxl) ?_
  rintro u w' ⟨m, is, ls, h1, h2, h3⟩
  rw [hG] at h1 h2 h3
  exact ⟨m, is, ls, h1, h2, h3⟩
theorem getF_size (xs : List UInt8) : (getF xs).1.size ≤ xs.length := by
  cases h : getF xs with
  | mk c r =>
    obtain ⟨t, e⟩ := r
    by_cases he : e = 0
    · subst he
      obtain ⟨h1, h2, h3, _⟩ := getF_only h
      have := size_le_put h1
      rw [h2, List.length_take] at this
      show c.size ≤ _
      omega
    · obtain ⟨rfl, _, _⟩ := getF_err h he
      show zMC.size ≤ _
      exact Nat.zero_le _

end Go.Fer
