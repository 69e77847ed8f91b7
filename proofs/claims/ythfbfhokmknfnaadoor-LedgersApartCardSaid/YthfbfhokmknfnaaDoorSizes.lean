/- Library, part 19 (arguments whose lists are no longer than memory has room for). No condition: rules alone. -/
import Derived.Test.YthfbfhokmknfnaaDoorMakes
import Derived.SizedLaws
set_option linter.all false
namespace Go.Fer
open Go Go.RowKit Go.ChangeShapes Go.WideShapes Go.ChangeAt
/-- no list in it is greater than the reach -/
def Wt {H : Type} (P : Program) (t : TypeId) (d : DataW H) : Prop := ∀ n ∈ d.weights P t, n ≤ reachBytes
def RdZ (P : Program) (t : TypeId) (α : Type) [Enc α] (I : World → α → Prop) : Prop :=
  ∀ (H : Type) (enc : TypeId × Value → H) (w : World) (fuel : Nat) (cs : List Value) (d : DataW H) (ps : List MemPlace), trodF enc P w fuel t cs = some (d, ps) → Wt P t d → ∃ x : α, cs = (Enc.enc x).toList ∧ I w x
theorem RdW.z {P : Program} {t : TypeId} {α : Type} [Enc α] {I : World → α → Prop} (h : RdW P t α I) : RdZ P t α I := fun H enc w fuel cs d ps hr _ => h H enc w fuel cs d ps hr
theorem mapM_at {α β : Type} {g : α → Option β} : ∀ {l : List α} {r : List β}, l.mapM g = some r → r.length = l.length ∧ ∀ (i : Nat) (x : α), l[i]? = some x → ∃ y, r[i]? = some y ∧ g x = some y
  | [], r, h => by simp at h; subst h; simp
  | x :: l, r, h => by
    simp only [List.mapM_cons] at h
    cases h1 : g x with
    | none => simp [h1] at h
    | some y =>
      cases h2 : l.mapM g with
      | none => simp [h1, h2] at h
      | some r' =>
        simp [h1, h2] at h
        subst h
        obtain ⟨ih1, ih2⟩ := mapM_at h2
        refine ⟨by simp [ih1], fun i z hz => ?_⟩
        cases i with
        | zero => simp at hz; subst hz; exact ⟨y, rfl, h1⟩
        | succ i => simpa using ih2 i z (by simpa using hz)
theorem wt_all {H : Type} {P : Program} {e : TypeId} : ∀ {els : List (DataW H)} {i : Nat} {d : DataW H}, els[i]? = some d → ∀ n ∈ d.weights P e, n ∈ DataW.weightsAll P e els
  | [], i, d, h => by simp at h
  | x :: r, 0, d, h => by simp at h; subst h; intro n hn; rw [DataW.weightsAll]; exact List.mem_append_left _ hn
  | x :: r, i + 1, d, h => by intro n hn; rw [DataW.weightsAll]; exact List.mem_append_right _ (wt_all (els := r) (i := i) (by simpa using h) n hn)
theorem wt_each {H : Type} {P : Program} : ∀ {ts : List TypeId} {els : List (DataW H)} {i : Nat} {d : DataW H} {t : TypeId}, ts[i]? = some t → els[i]? = some d → ∀ n ∈ d.weights P t, n ∈ DataW.weightsEach P ts els
  | [], _, i, _, _, h, _ => by simp at h
  | _ :: _, [], i, _, _, _, h => by simp at h
  | t :: ts, x :: r, 0, d, t', h, h' => by simp at h h'; subst h; subst h'; intro n hn; rw [DataW.weightsEach]; exact List.mem_append_left _ hn
  | t :: ts, x :: r, i + 1, d, t', h, h' => by intro n hn; rw [DataW.weightsEach]; exact List.mem_append_right _ (wt_each (ts := ts) (els := r) (i := i) (by simpa using h) (by simpa using h') n hn)
section
variable {H : Type} {enc : TypeId × Value → H} {P : Program} {w : World}
theorem rdSZ {t : TypeId} {fs : Array Field} {n : Nat} (hu : P.underlying t = some (.struct fs)) (hs : SizeT P t n) {fuel : Nat} {cs : List Value} {d : DataW H} {ps : List MemPlace} (h : trodF enc P w fuel t cs = some (d, ps)) (hw : Wt P t d) :
    cs.drop n = [] ∧ ∃ fuel', ∀ (i : Nat) (f : Field) (T o m : Nat), fs[i]? = some f → f.type = T → f.offset = o → SizeT P T m → ∃ d ps, trodF enc P w fuel' T ((cs.drop o).take m) = some (d, ps) ∧ Wt P T d := by
  cases fuel with
  | zero => simp [trodF, DataW.trod] at h
  | succ fuel =>
    unfold trodF DataW.trod at h
    rw [hu] at h
    simp only at h
    split at h
    · rename_i hl
      refine ⟨List.drop_of_length_le (by rw [hl, cells_of hs]; exact Nat.le_refl _), fuel, fun i f T o m hi hT ho hm => ?_⟩
      subst hT; subst ho
      rw [Option.map_eq_some_iff] at h
      obtain ⟨xs, hx, he⟩ := h
      obtain ⟨hx1, hx2⟩ := mapM_at hx
      have hi2 : fs.toList[i]? = some f := by simpa using hi
      obtain ⟨y, hy, hg⟩ := hx2 i f hi2
      rw [cells_of hm] at hg
      refine ⟨y.1, y.2, hg, fun n hn => ?_⟩
      injection he with he1 he2
      subst he1
      refine hw n ?_
      unfold DataW.weights
      simp only [hu]
      exact wt_each (i := i) (t := f.type) (by simp [hi2]) (by simp [hy]) n hn
    · cases h
theorem rd_sliceZ {t e : TypeId} (hu : P.underlying t = some (.slice e)) {fuel : Nat} {cs : List Value} {d : DataW H} {ps : List MemPlace} (h : trodF enc P w fuel t cs = some (d, ps)) (hw : Wt P t d) :
    cs = [.slice none 0 0] ∨ ∃ a len cap fuel', cs = [.slice (some a) len cap] ∧ len * P.bytesOf e ≤ reachBytes ∧ ∀ i, i < len → ∃ ecs d' ps', w.cells? 0 (a.add (i * P.cellsOf e)) (P.cellsOf e) = some ecs ∧ trodF enc P w fuel' e ecs = some (d', ps') ∧ Wt P e d' := by
  cases fuel with
  | zero => simp [trodF, DataW.trod] at h
  | succ fuel =>
    unfold trodF DataW.trod at h
    rw [hu] at h
    simp only at h
    split at h
    case h_7 => exact .inl rfl
    case h_8 e' a len cap he =>
      cases he
      refine .inr ?_
      split at h
      · rename_i hb
        simp only [if_true, Option.bind_eq_some_iff] at h
        obtain ⟨els, h1, h2⟩ := h
        rw [Option.map_eq_some_iff] at h2
        obtain ⟨rest, h2, he⟩ := h2
        obtain ⟨hx1, hx2⟩ := mapM_at h1
        injection he with he1 he2
        subst he1
        refine ⟨_, _, _, fuel, rfl, ?_, fun i hi => ?_⟩
        · have h3 := hw ((els.length + rest.length) * P.bytesOf e) (by unfold DataW.weights; simp [hu])
          have h4 : len * P.bytesOf e ≤ (els.length + rest.length) * P.bytesOf e := Nat.mul_le_mul_right _ (by simp at hx1; omega)
          omega
        · obtain ⟨y, hy, hg⟩ := hx2 i i (by simp [hi])
          rw [Option.bind_eq_some_iff] at hg
          obtain ⟨ecs, h3, h4⟩ := hg
          refine ⟨ecs, y.1, y.2, h3, h4, fun n hn => hw n ?_⟩
          unfold DataW.weights
          simp only [hu]
          exact List.mem_cons_of_mem _ (List.mem_append_left _ (wt_all (i := i) (by simp [hy]) n hn))
      · cases h
    all_goals simp_all
theorem rd_slZ {α : Type} [Enc α] {I : World → α → Prop} {t e by_ : Nat} (ht : SliceT P t e) (hf : RdZ P e α I) (hsz : SizeT P e (Enc.sz α)) (hby : BytesT P e by_) {fuel : Nat} {v : Value} {d : DataW H} {ps : List MemPlace} (h : trodF enc P w fuel t [v] = some (d, ps)) (hw : Wt P t d) :
    ∃ xs : List α, SlR w v xs ∧ xs.length * by_ ≤ 140737488351232 ∧ ∀ x ∈ xs, I w x := by
  have hc : P.cellsOf e = Enc.sz α := by
    have := hsz.out
    unfold Program.cellsOf
    rw [this]; rfl
  have hbo : P.bytesOf e = by_ := by
    have := hby.out
    unfold Program.bytesOf
    rw [this]; rfl
  have hpos := Enc.pos (α := α)
  rcases rd_sliceZ ht.out h hw with h0 | ⟨a, len, cap, fuel', h0, hbd, hel⟩
  · simp at h0; subst h0; exact ⟨[], SlR.nil w, by simp, by simp⟩
  · simp at h0; subst h0
    rcases rd_slice ht.out h with h1 | ⟨a2, len2, cap2, fuel2, h1, hl, hm, hel2⟩
    · simp at h1
    · simp at h1
      obtain ⟨rfl, rfl, rfl⟩ := h1
      rw [hc] at hel hel2
      rw [hbo] at hbd
      have hel' : ∀ i, i < len → ∃ x : α, (∀ j, j < Enc.sz α → w.cell? ((a.add (i * Enc.sz α)).add j) = (Enc.enc x)[j]?) ∧ I w x := by
        intro i hi
        obtain ⟨ecs, d', ps', h1, h2, h3⟩ := hel i hi
        obtain ⟨x, hx, hI⟩ := hf H enc w fuel' ecs d' ps' h2 h3
        obtain ⟨_, h4⟩ := cells?_get h1
        exact ⟨x, fun j hj => by rw [h4 j hj, hx]; simp, hI⟩
      obtain ⟨xs, hxl, hxs⟩ := choose_list hel'
      refine ⟨xs, ⟨some a, cap, by rw [hxl], by omega, hm, by simp, fun ad had hcp => ?_⟩, by rw [hxl]; exact hbd, fun x hx => ?_⟩
      · cases had
        have hsp : a.spot = none := by
          obtain ⟨ecs, y, h1, _⟩ := hel2 0 (by omega)
          obtain ⟨h3, h4⟩ := cells?_get h1
          have h5 := h4 0 hpos
          have h6 : ecs[0]? ≠ none := by rw [List.getElem?_eq_getElem (by omega)]; simp
          rw [← h5] at h6
          simp only [Nat.zero_mul] at h6
          have e0 : (a.add 0).add 0 = a := by simp [Addr.add]
          rw [e0] at h6
          unfold World.cell? at h6
          cases hs : a.spot with
          | none => rfl
          | some s => simp [hs] at h6; split at h6 <;> simp at h6
        refine ⟨hsp, fun j u hu => ?_⟩
        obtain ⟨x, hx1, hx2⟩ := flat_get_inv xs j u hu
        have h7 := (hxs _ _ hx1).1 (j % Enc.sz α) (Nat.mod_lt _ hpos)
        rw [hx2] at h7
        rw [← h7]
        obtain ⟨b, o, s⟩ := a
        simp only at hsp
        subst hsp
        rw [add_spot, add_spot]
        congr 2
        rw [Nat.add_assoc, Nat.div_add_mod' j (Enc.sz α)]
      · obtain ⟨i, hi⟩ := List.getElem?_of_mem hx
        exact (hxs i x hi).2
theorem rd_slvZ {α : Type} [Enc α] {I : World → α → Prop} {t e by_ : Nat} (ht : SliceT P t e) (hf : RdZ P e α I) (hsz : SizeT P e (Enc.sz α)) (hby : BytesT P e by_) {fuel : Nat} {cs : List Value} {d : DataW H} {ps : List MemPlace} (h : trodF enc P w fuel t cs = some (d, ps)) (hw : Wt P t d) :
    ∃ s : SlV, cs = [s.v] ∧ ∃ xs : List α, SlR w s.v xs ∧ xs.length * by_ ≤ 140737488351232 ∧ ∀ x ∈ xs, I w x := by
  rcases rd_slice ht.out h with rfl | ⟨a, len, cap, _, rfl, _⟩
  · exact ⟨⟨none, 0, 0⟩, rfl, [], SlR.nil w, by simp, by simp⟩
  · exact ⟨⟨some a, len, cap⟩, rfl, rd_slZ ht hf hsz hby h hw⟩
theorem rd_ofZ {α : Type} [Enc α] {I : World → α → Prop} {t : TypeId} (hf : RdZ P t α I) {fuel : Nat} {cs : List Value} {d : DataW H} {ps : List MemPlace} (h : trodF enc P w fuel t cs = some (d, ps)) (hw : Wt P t d) : ∃ x : α, cs = (Enc.enc x).toList ∧ I w x := hf H enc w fuel cs d ps h hw
/-- a struct, a slice, that is handed in -/
theorem open_SZ {α : Type} [Enc α] {I : World → α → Prop} {base : Nat} {v : Value} {d : DataW H} {ps : List MemPlace} {t : TypeId} (hf : RdZ P t α I) (ha : AggT P t) (hok : Value.okWide P w .any base t v) (hr : DataW.Trod enc P w 0 (fun _ => true) true t v d ps) (hw : Wt P t d) : ∃ x : α, v = .agg (Enc.enc x) ∧ I w x := by
  have ha := ha.out
  unfold aggB at ha
  unfold Value.okWide at hok
  obtain ⟨fuel, hr⟩ := hr
  have hcs : ∃ cs, v = .agg cs := by
    cases hu : P.underlying t with
    | none => simp [hu] at ha
    | some x =>
      rw [hu] at hok ha
      cases x <;> simp at ha <;> (obtain ⟨cs, h, _⟩ := hok; exact ⟨cs, h⟩)
  obtain ⟨cs, rfl⟩ := hcs
  obtain ⟨x, hx, hI⟩ := hf H enc w fuel _ d ps hr hw
  refine ⟨x, ?_, hI⟩
  simp only [Value.cells] at hx
  congr 1
  exact Array.toList_inj.1 hx
theorem open_slZ {α : Type} [Enc α] {I : World → α → Prop} {base : Nat} {v : Value} {d : DataW H} {ps : List MemPlace} {t e by_ : Nat} (ht : SliceT P t e) (hf : RdZ P e α I) (hsz : SizeT P e (Enc.sz α)) (hby : BytesT P e by_) (hok : Value.okWide P w .any base t v) (hr : DataW.Trod enc P w 0 (fun _ => true) true t v d ps) (hw : Wt P t d) :
    ∃ xs : List α, SlR w v xs ∧ xs.length * by_ ≤ 140737488351232 ∧ ∀ x ∈ xs, I w x := by
  obtain ⟨a, len, cap, rfl⟩ := okWide_slice ht.out hok
  obtain ⟨fuel, hr⟩ := hr
  exact rd_slZ ht hf hsz hby hr hw
theorem wt_args {H : Type} {P : Program} {ts : List TypeId} {ds : List (DataW H)} (h : (DataW.weightsEach P ts ds).all (· ≤ reachBytes) = true) {i : Nat} {d : DataW H} {t : TypeId} (ht : ts[i]? = some t) (hd : ds[i]? = some d) : Wt P t d := by
  intro n hn
  have := List.all_eq_true.1 h n (wt_each ht hd n hn)
  simpa using this
end
end Go.Fer
