/- Library, part 9 (the claim's frame): arguments that read as data, as lists and numbers; from the walk to the statement. No condition: rules alone. -/
import Derived.Test.YthfbfhokmknfnaaDoorNums
import Derived.JoinedCond
set_option linter.all false
namespace Go.Fer
open Go Go.RowKit Go.ChangeShapes Go.WideShapes Go.ChangeAt

section
variable {H : Type} {enc : TypeId × Value → H} {P : Program} {w : World}
abbrev trodF (enc : TypeId × Value → H) (P : Program) (w : World) (fuel : Nat) (t : TypeId) (cs : List Value) : Option (DataW H × List MemPlace) := DataW.trod enc P w 0 (fun _ => true) true fuel t cs

/-- what reads at type t are just the cells of an α, with what I says of it -/
def RdW (P : Program) (t : TypeId) (α : Type) [Enc α] (I : World → α → Prop) : Prop :=
  ∀ (H : Type) (enc : TypeId × Value → H) (w : World) (fuel : Nat) (cs : List Value) (d : DataW H) (ps : List MemPlace), trodF enc P w fuel t cs = some (d, ps) → ∃ x : α, cs = (Enc.enc x).toList ∧ I w x

theorem rd_int {t : TypeId} {k : IntKind} (hu : P.underlying t = some (.int k)) {fuel : Nat} {cs : List Value} {d : DataW H} {ps : List MemPlace} (h : trodF enc P w fuel t cs = some (d, ps)) : ∃ n, cs = [.int k n] ∧ (Lit.int k n).wf = true := by
  cases fuel with
  | zero => simp [trodF, DataW.trod] at h
  | succ fuel =>
    unfold trodF DataW.trod at h
    rw [hu] at h
    split at h <;> simp_all
theorem rd_bool {t : TypeId} (hu : P.underlying t = some .bool) {fuel : Nat} {cs : List Value} {d : DataW H} {ps : List MemPlace} (h : trodF enc P w fuel t cs = some (d, ps)) : ∃ b, cs = [.bool b] := by
  cases fuel with
  | zero => simp [trodF, DataW.trod] at h
  | succ fuel =>
    unfold trodF DataW.trod at h
    rw [hu] at h
    split at h <;> simp_all
theorem mapM_some {α β : Type} {g : α → Option β} : ∀ {l : List α} {r : List β}, l.mapM g = some r → ∀ x ∈ l, ∃ y, g x = some y
  | [], _, _ => by simp
  | a :: l, r, h => by
    simp only [List.mapM_cons] at h
    cases ha : g a with
    | none => simp [ha] at h
    | some y =>
      cases hl : l.mapM g with
      | none => simp [ha, hl] at h
      | some r' =>
        intro x hx
        rcases List.mem_cons.1 hx with rfl | hx
        · exact ⟨y, ha⟩
        · exact mapM_some hl x hx
theorem rd_struct {t : TypeId} {fs : Array Field} (hu : P.underlying t = some (.struct fs)) {fuel : Nat} {cs : List Value} {d : DataW H} {ps : List MemPlace} (h : trodF enc P w fuel t cs = some (d, ps)) :
    cs.length = P.cellsOf t ∧ ∃ fuel', ∀ f ∈ fs.toList, ∃ y, trodF enc P w fuel' f.type ((cs.drop f.offset).take (P.cellsOf f.type)) = some y := by
  cases fuel with
  | zero => simp [trodF, DataW.trod] at h
  | succ fuel =>
    unfold trodF DataW.trod at h
    rw [hu] at h
    simp only at h
    split at h
    · rename_i hl
      refine ⟨hl, fuel, ?_⟩
      rw [Option.map_eq_some_iff] at h
      obtain ⟨xs, hx, _⟩ := h
      exact mapM_some hx
    · cases h
theorem rd_array {t e : TypeId} {n : Nat} (hu : P.underlying t = some (.array n e)) {fuel : Nat} {cs : List Value} {d : DataW H} {ps : List MemPlace} (h : trodF enc P w fuel t cs = some (d, ps)) :
    cs.length = P.cellsOf t ∧ ∃ fuel', ∀ i, i < n → ∃ y, trodF enc P w fuel' e ((cs.drop (i * P.cellsOf e)).take (P.cellsOf e)) = some y := by
  cases fuel with
  | zero => simp [trodF, DataW.trod] at h
  | succ fuel =>
    unfold trodF DataW.trod at h
    rw [hu] at h
    simp only at h
    split at h
    · rename_i hl
      refine ⟨hl, fuel, fun i hi => ?_⟩
      rw [Option.map_eq_some_iff] at h
      obtain ⟨xs, hx, _⟩ := h
      exact mapM_some hx i (List.mem_range.2 hi)
    · cases h
theorem rd_slice {t e : TypeId} (hu : P.underlying t = some (.slice e)) {fuel : Nat} {cs : List Value} {d : DataW H} {ps : List MemPlace} (h : trodF enc P w fuel t cs = some (d, ps)) :
    cs = [.slice none 0 0] ∨ ∃ a len cap fuel', cs = [.slice (some a) len cap] ∧ len ≤ cap ∧ cap ≤ maxLen ∧ ∀ i, i < cap → ∃ ecs y, w.cells? 0 (a.add (i * P.cellsOf e)) (P.cellsOf e) = some ecs ∧ trodF enc P w fuel' e ecs = some y := by
  cases fuel with
  | zero => simp [trodF, DataW.trod] at h
  | succ fuel =>
    unfold trodF DataW.trod at h
    rw [hu] at h
    simp only at h
    split at h
    case h_7 => exact .inl rfl
    case h_8 e' a len cap he =>
      cases he
      refine .inr ?_
      split at h
      · rename_i hb
        refine ⟨_, _, _, fuel, rfl, hb.2.1, hb.2.2, fun i hi => ?_⟩
        simp only [if_true, Option.bind_eq_some_iff] at h
        obtain ⟨els, h1, h2⟩ := h
        rw [Option.map_eq_some_iff] at h2
        obtain ⟨rest, h2, _⟩ := h2
        have key : ∃ y, (w.cells? 0 (a.add (i * P.cellsOf e)) (P.cellsOf e)).bind (DataW.trod enc P w 0 (fun _ => true) true fuel e) = some y := by
          by_cases hl : i < len
          · exact mapM_some h1 i (List.mem_range.2 hl)
          · obtain ⟨y, hy⟩ := mapM_some h2 (i - len) (List.mem_range.2 (by omega))
            rw [show len + (i - len) = i by omega] at hy
            exact ⟨y, hy⟩
        obtain ⟨y, hy⟩ := key
        rw [Option.bind_eq_some_iff] at hy
        obtain ⟨ecs, h3, h4⟩ := hy
        exact ⟨ecs, y, h3, h4⟩
      · cases h
    all_goals simp_all

theorem cells?_get {a : Addr} {n : Nat} {l : List Value} (h : w.cells? 0 a n = some l) : l.length = n ∧ ∀ j, j < n → w.cell? (a.add j) = l[j]? := by
  simp only [World.cells?, Nat.zero_le, if_true] at h
  have key : ∀ (l1 : List Nat) (r : List Value), l1.mapM (fun i => w.cell? (a.add i)) = some r → r.length = l1.length ∧ ∀ (j x : Nat), l1[j]? = some x → w.cell? (a.add x) = r[j]? := by
    intro l1
    induction l1 with
    | nil => intro r hr; simp at hr; subst hr; simp
    | cons x l1 ih =>
      intro r hr
      simp only [List.mapM_cons] at hr
      cases h1 : w.cell? (a.add x) with
      | none => simp [h1] at hr
      | some v =>
        cases h2 : l1.mapM (fun i => w.cell? (a.add i)) with
        | none => simp [h1, h2] at hr
        | some r' =>
          simp [h1, h2] at hr
          subst hr
          obtain ⟨i1, i2⟩ := ih r' h2
          refine ⟨by simp [i1], fun j y hy => ?_⟩
          cases j with
          | zero => simp at hy; subst hy; simpa using h1
          | succ j => simpa using i2 j y (by simpa using hy)
  obtain ⟨k1, k2⟩ := key _ _ h
  exact ⟨by simpa using k1, fun j hj => k2 j j (by simp [hj])⟩

theorem choose_list {α : Type} {n : Nat} {p : Nat → α → Prop} (h : ∀ i, i < n → ∃ x, p i x) : ∃ xs : List α, xs.length = n ∧ ∀ i x, xs[i]? = some x → p i x := by
  induction n with
  | zero => exact ⟨[], rfl, by simp⟩
  | succ n ih =>
    obtain ⟨xs, hl, hx⟩ := ih fun i hi => h i (by omega)
    obtain ⟨y, hy⟩ := h n (by omega)
    refine ⟨xs ++ [y], by simp [hl], fun i x hi => ?_⟩
    rw [List.getElem?_append] at hi
    split at hi
    · exact hx i x hi
    · rename_i hlt
      have : i = n := by
        have := (List.getElem?_eq_some_iff.1 hi).1
        simp at this
        omega
      subst this
      simp [hl] at hi
      subst hi; exact hy

theorem flat_get_inv {α : Type} [Enc α] : ∀ (xs : List α) (j : Nat) (u : Value), (flat xs)[j]? = some u → ∃ x, xs[j / Enc.sz α]? = some x ∧ (Enc.enc x)[j % Enc.sz α]? = some u := by
  intro xs j u h
  have hpos := Enc.pos (α := α)
  have hlt := (List.getElem?_eq_some_iff.1 h).1
  rw [flat_length] at hlt
  have hi : j / Enc.sz α < xs.length := Nat.div_lt_of_lt_mul (by rw [Nat.mul_comm]; exact hlt)
  refine ⟨xs[j / Enc.sz α], List.getElem?_eq_getElem hi, ?_⟩
  have hm : j % Enc.sz α < (Enc.enc xs[j / Enc.sz α]).size := by rw [Enc.size_eq]; exact Nat.mod_lt _ hpos
  have := flat_get xs _ _ (List.getElem?_eq_getElem hi) (j % Enc.sz α) _ (Array.getElem?_eq_getElem hm)
  rw [Nat.div_add_mod' j (Enc.sz α)] at this
  rw [this] at h
  rw [Array.getElem?_eq_getElem hm]; exact h

theorem rd_sl {α : Type} [Enc α] {I : World → α → Prop} {t e : TypeId} (ht : SliceT P t e) (hf : RdW P e α I) (hsz : SizeT P e (Enc.sz α)) {fuel : Nat} {v : Value} {d : DataW H} {ps : List MemPlace} (h : trodF enc P w fuel t [v] = some (d, ps)) :
    ∃ xs : List α, SlR w v xs ∧ ∀ x ∈ xs, I w x := by
  have hc : P.cellsOf e = Enc.sz α := by
    have := hsz.out
    unfold Program.cellsOf
    rw [this]; rfl
  have hpos := Enc.pos (α := α)
  rcases rd_slice ht.out h with h0 | ⟨a, len, cap, fuel', h0, hl, hm, hel⟩
  · simp at h0; subst h0; exact ⟨[], SlR.nil w, by simp⟩
  · simp at h0; subst h0
    rw [hc] at hel
    have hel' : ∀ i, i < len → ∃ x : α, (∀ j, j < Enc.sz α → w.cell? ((a.add (i * Enc.sz α)).add j) = (Enc.enc x)[j]?) ∧ I w x := by
      intro i hi
      obtain ⟨ecs, y, h1, h2⟩ := hel i (by omega)
      obtain ⟨x, hx, hI⟩ := hf H enc w fuel' ecs y.1 y.2 h2
      obtain ⟨_, h4⟩ := cells?_get h1
      exact ⟨x, fun j hj => by rw [h4 j hj, hx]; simp, hI⟩
    obtain ⟨xs, hxl, hxs⟩ := choose_list hel'
    refine ⟨xs, ⟨some a, cap, by rw [hxl], by omega, hm, by simp, fun ad had hcp => ?_⟩, fun x hx => ?_⟩
    · cases had
      have hsp : a.spot = none := by
        obtain ⟨ecs, y, h1, _⟩ := hel 0 (by omega)
        obtain ⟨h3, h4⟩ := cells?_get h1
        have h5 := h4 0 hpos
        have h6 : ecs[0]? ≠ none := by rw [List.getElem?_eq_getElem (by omega)]; simp
        rw [← h5] at h6
        simp only [Nat.zero_mul] at h6
        have e0 : (a.add 0).add 0 = a := by simp [Addr.add]
        rw [e0] at h6
        unfold World.cell? at h6
        cases hs : a.spot with
        | none => rfl
        | some s => simp [hs] at h6; split at h6 <;> simp at h6
      refine ⟨hsp, fun j u hu => ?_⟩
      obtain ⟨x, hx1, hx2⟩ := flat_get_inv xs j u hu
      have h7 := (hxs _ _ hx1).1 (j % Enc.sz α) (Nat.mod_lt _ hpos)
      rw [hx2] at h7
      rw [← h7]
      obtain ⟨b, o, s⟩ := a
      simp only at hsp
      subst hsp
      rw [add_spot, add_spot]
      congr 2
      rw [Nat.add_assoc, Nat.div_add_mod' j (Enc.sz α)]
    · obtain ⟨i, hi⟩ := List.getElem?_of_mem hx
      exact (hxs i x hi).2
end

theorem rdw_u8 {P : Program} {t : TypeId} [h : IntT P t .u8] : RdW P t UInt8 (fun _ _ => True) := by
  intro H enc w fuel cs d ps hr
  obtain ⟨n, rfl, hw⟩ := rd_int h.out hr
  have hb : 0 ≤ n ∧ n ≤ 255 := by simpa [Lit.wf, IntKind.min, IntKind.max, IntKind.signed, IntKind.bits] using hw
  refine ⟨UInt8.ofNat n.toNat, ?_, trivial⟩
  simp [enc_u8]; omega

section
variable {H : Type} {enc : TypeId × Value → H} {P : Program} {W : World} {base : Nat} {v : Value} {d : DataW H} {ps : List MemPlace} {t : TypeId}
theorem open_agg' {α : Type} [Enc α] {I : World → α → Prop} (ha : AggT P t) (hf : RdW P t α I) (hok : Value.okWide P W .any base t v) (hr : DataW.Trod enc P W 0 (fun _ => true) true t v d ps) : ∃ x : α, v = .agg (Enc.enc x) ∧ I W x := by
  have ha := ha.out
  unfold aggB at ha
  unfold Value.okWide at hok
  obtain ⟨fuel, hr⟩ := hr
  have hcs : ∃ cs, v = .agg cs := by
    cases hu : P.underlying t with
    | none => simp [hu] at ha
    | some x =>
      rw [hu] at hok ha
      cases x <;> simp at ha <;> (obtain ⟨cs, h, _⟩ := hok; exact ⟨cs, h⟩)
  obtain ⟨cs, rfl⟩ := hcs
  obtain ⟨x, hx, hI⟩ := hf H enc W fuel _ d ps hr
  refine ⟨x, ?_, hI⟩
  simp only [Value.cells] at hx
  congr 1
  exact Array.toList_inj.1 hx
theorem open_sl' {α : Type} [Enc α] {I : World → α → Prop} {e : TypeId} (ht : SliceT P t e) (hf : RdW P e α I) (hsz : SizeT P e (Enc.sz α)) (hok : Value.okWide P W .any base t v) (hr : DataW.Trod enc P W 0 (fun _ => true) true t v d ps) :
    ∃ xs : List α, SlR W v xs ∧ ∀ x ∈ xs, I W x := by
  obtain ⟨a, len, cap, rfl⟩ := okWide_slice ht.out hok
  obtain ⟨fuel, hr⟩ := hr
  exact rd_sl ht hf hsz hr
theorem open_i64' (ht : IntT P t .i64) (hok : Value.okWide P W .any base t v) (hr : DataW.Trod enc P W 0 (fun _ => true) true t v d ps) : ∃ n : Int, v = .int .i64 n ∧ -9223372036854775808 ≤ n ∧ n ≤ 9223372036854775807 := by
  obtain ⟨n, rfl, _, _, hw⟩ := open_int ht.out hok hr
  refine ⟨n, rfl, ?_⟩
  simpa [Lit.wf, IntKind.min, IntKind.max, IntKind.signed, IntKind.bits] using hw
theorem open_u8' (ht : IntT P t .u8) (hok : Value.okWide P W .any base t v) (hr : DataW.Trod enc P W 0 (fun _ => true) true t v d ps) : ∃ n : Nat, v = .int .u8 (n : Int) ∧ n ≤ 255 := by
  obtain ⟨n, rfl, _, _, hw⟩ := open_int ht.out hok hr
  have hw' : 0 ≤ n ∧ n ≤ 255 := by simpa [Lit.wf, IntKind.min, IntKind.max, IntKind.signed, IntKind.bits] using hw
  exact ⟨n.toNat, by congr 1; omega, by omega⟩
theorem open_u16' (ht : IntT P t .u16) (hok : Value.okWide P W .any base t v) (hr : DataW.Trod enc P W 0 (fun _ => true) true t v d ps) : ∃ n : Nat, v = .int .u16 (n : Int) ∧ n ≤ 65535 := by
  obtain ⟨n, rfl, _, _, hw⟩ := open_int ht.out hok hr
  have hw' : 0 ≤ n ∧ n ≤ 65535 := by simpa [Lit.wf, IntKind.min, IntKind.max, IntKind.signed, IntKind.bits] using hw
  exact ⟨n.toNat, by congr 1; omega, by omega⟩
theorem open_u32' (ht : IntT P t .u32) (hok : Value.okWide P W .any base t v) (hr : DataW.Trod enc P W 0 (fun _ => true) true t v d ps) : ∃ n : Nat, v = .int .u32 (n : Int) ∧ n ≤ 4294967295 := by
  obtain ⟨n, rfl, _, _, hw⟩ := open_int ht.out hok hr
  have hw' : 0 ≤ n ∧ n ≤ 4294967295 := by simpa [Lit.wf, IntKind.min, IntKind.max, IntKind.signed, IntKind.bits] using hw
  exact ⟨n.toNat, by congr 1; omega, by omega⟩
theorem open_u64' (ht : IntT P t .u64) (hok : Value.okWide P W .any base t v) (hr : DataW.Trod enc P W 0 (fun _ => true) true t v d ps) : ∃ n : Nat, v = .int .u64 (n : Int) ∧ n ≤ 18446744073709551615 := by
  obtain ⟨n, rfl, _, _, hw⟩ := open_int ht.out hok hr
  have hw' : 0 ≤ n ∧ n ≤ 18446744073709551615 := by simpa [Lit.wf, IntKind.min, IntKind.max, IntKind.signed, IntKind.bits] using hw
  exact ⟨n.toNat, by congr 1; omega, by omega⟩
theorem open_bool' (ht : BoolT P t) (hok : Value.okWide P W .any base t v) (hr : DataW.Trod enc P W 0 (fun _ => true) true t v d ps) : ∃ b : Bool, v = .bool b := by
  obtain ⟨b, rfl, _, _⟩ := open_bool ht.out hok hr
  exact ⟨b, rfl⟩
end

/-! from the walk to the statement -/
theorem trodAll_stays {H : Type} {enc : TypeId × Value → H} {P : Program} (hl : laidOutB P = true) {W W' : World} (hb : Bel W W') :
    ∀ (ts : List TypeId) (vs : List Value) (ds : List (DataW H)) (ps : List MemPlace), (∀ t ∈ ts, P.readableRec t = true ∧ t < P.types.size) →
      DataW.TrodAll enc P W 0 (fun _ => true) true ts vs ds ps → (∀ x ∈ ps, x.block < W.heap.size) → DataW.TrodAll enc P W' 0 (fun b => decide (b < W.heap.size)) true ts vs ds ps
  | [], [], [], ps, _, h, _ => h
  | t :: ts, v :: vs, d :: ds, ps, ht, h, hlt => by
    obtain ⟨p, q, h1, h2, rfl⟩ := h
    have h3 := ht t List.mem_cons_self
    exact ⟨p, q, Below.trod hl h3.1 h3.2 h1 hb (fun x hx => hlt x (List.mem_append_left _ hx)), trodAll_stays hl hb ts vs ds q (fun t h => ht t (List.mem_cons_of_mem _ h)) h2 (fun x hx => hlt x (List.mem_append_right _ hx)), rfl⟩
  | [], _ :: _, _, _, _, h, _ => by simp [DataW.TrodAll] at h
  | [], [], _ :: _, _, _, h, _ => by simp [DataW.TrodAll] at h
  | _ :: _, [], _, _, _, h, _ => by simp [DataW.TrodAll] at h
  | _ :: _, _ :: _, [], _, _, h, _ => by simp [DataW.TrodAll] at h

theorem law_post {H : Type} {enc : TypeId × Value → H} {P : Program} {f : Func} {s : ChangeSpec} (hl : laidOutB P = true) (hts : ∀ t ∈ f.params.toList, P.readableRec t = true ∧ t < P.types.size)
    {W W' : World} {args : Array Value} {ds : List (DataW H)} {before : List MemPlace} (hv : s.vars = []) (hW : DataW.Whole enc P f.params.toList s.vars false W args.toList ds [] before)
    (hres : (s.fn H (ds ++ [])).results = [.lit (.bool true)]) (hargs : (s.fn H (ds ++ [])).args = ds) (hgs : (s.fn H (ds ++ [])).vars = []) {B : TypeId} (hr : f.resultTypes = #[B]) (hB : P.underlying B = some .bool) (hb : Bel W W') :
    s.post enc P f false true false false W args (.bool true) W' := by
  have hW' := hW
  obtain ⟨p, q, hA, hV, rfl, hfz, hnd⟩ := hW
  rw [hv] at hV
  obtain ⟨_, rfl⟩ := trodVars_none hV
  refine ⟨ds, [], p ++ [], [], p, [], hW', ?_, ?_, ?_, hb.frame _, fun h => by cases h⟩
  · rw [hres, hr]
    exact trodAll_mk1 (shut_bool hB true)
  · rw [hargs]
    exact trodAll_stays hl hb _ _ _ _ hts hA (fun x hx => hW'.lt x (by simpa using hx))
  · rw [hgs, hv]; rfl
theorem calls_law {H : Type} {enc : TypeId × Value → H} {P : Program} {F : FuncId} {f : Func} {s : ChangeSpec} {W : World} {args : Array Value}
    (hwalk : Ret P F args W (fun r w' => r = .bool true ∧ Bel W w')) (hp : ∀ W', Bel W W' → s.post enc P f false true false false W args (.bool true) W') :
    Calls P F args W fun e W' => ∃ v, e = .returned v ∧ s.post enc P f false true false false W args v W' := by
  unfold Ret at hwalk
  exact hwalk.mono fun e W' ⟨v, he, hv, hb⟩ => ⟨.bool true, by rw [he, hv], hp W' hb⟩
end Go.Fer
