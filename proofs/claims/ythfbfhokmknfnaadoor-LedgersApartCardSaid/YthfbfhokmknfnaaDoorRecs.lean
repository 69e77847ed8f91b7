/- Library, part 11 (records): structs as joined parts; reading them. No condition: rules alone. -/
import Derived.Test.YthfbfhokmknfnaaDoorVecs
set_option linter.all false
namespace Go.Fer
open Go Go.RowKit Go.ChangeShapes Go.WideShapes Go.ChangeAt

/-- a slice value, as a part of a struct -/
structure SlV where
  a : Option Addr
  n : Nat
  c : Nat
def SlV.v (s : SlV) : Value := .slice s.a s.n s.c
instance : Enc SlV where
  enc s := #[s.v]
  sz := 1
  pos := by omega
  size_eq _ := rfl
  one s u hu := by simp at hu; subst hu; rfl
theorem enc_slv (s : SlV) : Enc.enc s = #[s.v] := rfl
instance : Enc Bool where
  enc s := #[.bool s]
  sz := 1
  pos := by omega
  size_eq _ := rfl
  one s u hu := by simp at hu; subst hu; rfl
theorem enc_bool (s : Bool) : Enc.enc s = #[.bool s] := rfl
theorem joinA_at (a b : List (Array Value)) (v : Value) {o : Nat} (ho : (joinA a).size = o) : (joinA (a ++ #[v] :: b))[o]? = some v := by
  subst ho
  rw [joinA_append, joinA_cons, Array.getElem?_append_right (Nat.le_refl _), Nat.sub_self, Array.getElem?_append_left (by simp)]
  rfl
theorem joinA_ex (a b : List (Array Value)) (p : Array Value) {o e : Nat} (ho : (joinA a).size = o) (he : o + p.size = e) : (joinA (a ++ p :: b)).extract o e = p := by
  subst ho; subst he
  rw [joinA_append, joinA_cons]
  simp
theorem at_of_ex {xs p : Array Value} {o e i : Nat} {v : Value} (h : xs.extract o e = p) (hp : p[i]? = some v) (hi : o + i < e) : xs[o + i]? = some v := by
  subst h
  rw [Array.getElem?_extract] at hp
  split at hp
  · exact hp
  · cases hp
theorem joinA_one {ps : List (Array Value)} (h : ∀ p ∈ ps, ∀ u ∈ p.toList, u.oneCell' = true) : ∀ u ∈ (joinA ps).toList, u.oneCell' = true := by
  induction ps with
  | nil => intro u hu; simp [joinA_nil] at hu
  | cons p ps ih =>
    intro u hu
    rw [joinA_cons, Array.toList_append, List.mem_append] at hu
    rcases hu with hu | hu
    · exact h p List.mem_cons_self u hu
    · exact ih (fun q hq => h q (List.mem_cons_of_mem _ hq)) u hu
theorem one_map (r : Option Nat) : ∀ u ∈ (#[Value.map r] : Array Value).toList, u.oneCell' = true := by intro u hu; simp at hu; subst hu; rfl
theorem one_int (k : IntKind) (n : Int) : ∀ u ∈ (#[Value.int k n] : Array Value).toList, u.oneCell' = true := by intro u hu; simp at hu; subst hu; rfl
theorem all_nil {p : Array Value → Prop} : ∀ q ∈ ([] : List (Array Value)), p q := by intro q hq; cases hq
theorem all_cons {p : Array Value → Prop} {x : Array Value} {l : List (Array Value)} (hx : p x) (hl : ∀ q ∈ l, p q) : ∀ q ∈ x :: l, p q := by
  intro q hq
  rcases List.mem_cons.1 hq with rfl | hq
  · exact hx
  · exact hl q hq
theorem joinA_toList_cons (p : Array Value) (ps : List (Array Value)) : (joinA (p :: ps)).toList = p.toList ++ (joinA ps).toList := by rw [joinA_cons, Array.toList_append]
/-- cells cut at a place -/
theorem cells_cut {cs e r : List Value} {o s : Nat} (h : (cs.drop o).take s = e) (hr : cs.drop (o + s) = r) : cs.drop o = e ++ r := by
  subst h; subst hr
  rw [← List.drop_drop, List.take_append_drop]
theorem cells_of {P : Program} {T n : Nat} (h : SizeT P T n) : P.cellsOf T = n := by unfold Program.cellsOf; rw [h.out]; rfl
section
variable {H : Type} {enc : TypeId × Value → H} {P : Program} {w : World}
theorem rdS {t : TypeId} {fs : Array Field} {n : Nat} (hu : P.underlying t = some (.struct fs)) (hs : SizeT P t n) {fuel : Nat} {cs : List Value} {d : DataW H} {ps : List MemPlace} (h : trodF enc P w fuel t cs = some (d, ps)) :
    cs.drop n = [] ∧ ∃ fuel', ∀ (i : Nat) (f : Field) (T o m : Nat), fs[i]? = some f → f.type = T → f.offset = o → SizeT P T m → ∃ d ps, trodF enc P w fuel' T ((cs.drop o).take m) = some (d, ps) := by
  obtain ⟨hl, fuel', hf⟩ := rd_struct hu h
  refine ⟨List.drop_of_length_le (by rw [hl, cells_of hs]; exact Nat.le_refl _), fuel', fun i f T o m hi hT ho hm => ?_⟩
  subst hT; subst ho
  obtain ⟨y, hy⟩ := hf f (Array.mem_toList_iff.2 (Array.mem_of_getElem? hi))
  rw [cells_of hm] at hy
  exact ⟨y.1, y.2, hy⟩
theorem rd_u8' {t : TypeId} (ht : IntT P t .u8) {fuel : Nat} {cs : List Value} {d : DataW H} {ps : List MemPlace} (h : trodF enc P w fuel t cs = some (d, ps)) : ∃ c : UInt8, cs = [.int .u8 c.toNat] := by
  obtain ⟨n, rfl, hw⟩ := rd_int ht.out h
  have hb : 0 ≤ n ∧ n ≤ 255 := by simpa [Lit.wf, IntKind.min, IntKind.max, IntKind.signed, IntKind.bits] using hw
  refine ⟨UInt8.ofNat n.toNat, ?_⟩
  simp; omega
theorem rd_i64' {t : TypeId} (ht : IntT P t .i64) {fuel : Nat} {cs : List Value} {d : DataW H} {ps : List MemPlace} (h : trodF enc P w fuel t cs = some (d, ps)) : ∃ c : Int, cs = [.int .i64 c] ∧ -9223372036854775808 ≤ c ∧ c ≤ 9223372036854775807 := by
  obtain ⟨n, rfl, hw⟩ := rd_int ht.out h
  exact ⟨n, rfl, by simpa [Lit.wf, IntKind.min, IntKind.max, IntKind.signed, IntKind.bits] using hw⟩
theorem rd_nat' {t : TypeId} {k : IntKind} (ht : IntT P t k) (hk : k.signed = false) {fuel : Nat} {cs : List Value} {d : DataW H} {ps : List MemPlace} (h : trodF enc P w fuel t cs = some (d, ps)) : ∃ c : Nat, cs = [.int k c] ∧ (c : Int) ≤ k.max := by
  obtain ⟨n, rfl, hw⟩ := rd_int ht.out h
  have hb : k.min ≤ n ∧ n ≤ k.max := by simpa [Lit.wf] using hw
  have h0 : k.min = 0 := by simp [IntKind.min, hk]
  refine ⟨n.toNat, ?_, ?_⟩
  · simp; omega
  · omega
theorem rd_u16' {t : TypeId} (ht : IntT P t .u16) {fuel : Nat} {cs : List Value} {d : DataW H} {ps : List MemPlace} (h : trodF enc P w fuel t cs = some (d, ps)) : ∃ c : Nat, cs = [.int .u16 c] ∧ c ≤ 65535 := by
  obtain ⟨n, rfl, hw⟩ := rd_int ht.out h
  have hw' : 0 ≤ n ∧ n ≤ 65535 := by simpa [Lit.wf, IntKind.min, IntKind.max, IntKind.signed, IntKind.bits] using hw
  exact ⟨n.toNat, by simp; omega, by omega⟩
theorem rd_u32' {t : TypeId} (ht : IntT P t .u32) {fuel : Nat} {cs : List Value} {d : DataW H} {ps : List MemPlace} (h : trodF enc P w fuel t cs = some (d, ps)) : ∃ c : Nat, cs = [.int .u32 c] ∧ c ≤ 4294967295 := by
  obtain ⟨n, rfl, hw⟩ := rd_int ht.out h
  have hw' : 0 ≤ n ∧ n ≤ 4294967295 := by simpa [Lit.wf, IntKind.min, IntKind.max, IntKind.signed, IntKind.bits] using hw
  exact ⟨n.toNat, by simp; omega, by omega⟩
theorem rd_u64' {t : TypeId} (ht : IntT P t .u64) {fuel : Nat} {cs : List Value} {d : DataW H} {ps : List MemPlace} (h : trodF enc P w fuel t cs = some (d, ps)) : ∃ c : Nat, cs = [.int .u64 c] ∧ c ≤ 18446744073709551615 := by
  obtain ⟨n, rfl, hw⟩ := rd_int ht.out h
  have hw' : 0 ≤ n ∧ n ≤ 18446744073709551615 := by simpa [Lit.wf, IntKind.min, IntKind.max, IntKind.signed, IntKind.bits] using hw
  exact ⟨n.toNat, by simp; omega, by omega⟩
theorem rd_bool' {t : TypeId} (ht : BoolT P t) {fuel : Nat} {cs : List Value} {d : DataW H} {ps : List MemPlace} (h : trodF enc P w fuel t cs = some (d, ps)) : ∃ b, cs = [.bool b] := rd_bool ht.out h
theorem rd_slv {α : Type} [Enc α] {I : World → α → Prop} {t e : TypeId} (ht : SliceT P t e) (hf : RdW P e α I) (hsz : SizeT P e (Enc.sz α)) {fuel : Nat} {cs : List Value} {d : DataW H} {ps : List MemPlace} (h : trodF enc P w fuel t cs = some (d, ps)) :
    ∃ s : SlV, cs = [s.v] ∧ ∃ xs : List α, SlR w s.v xs ∧ ∀ x ∈ xs, I w x := by
  rcases rd_slice ht.out h with rfl | ⟨a, len, cap, _, rfl, _⟩
  · exact ⟨⟨none, 0, 0⟩, rfl, [], SlR.nil w, by simp⟩
  · exact ⟨⟨some a, len, cap⟩, rfl, rd_sl ht hf hsz h⟩
theorem rd_of {α : Type} [Enc α] {I : World → α → Prop} {t : TypeId} (hf : RdW P t α I) {fuel : Nat} {cs : List Value} {d : DataW H} {ps : List MemPlace} (h : trodF enc P w fuel t cs = some (d, ps)) : ∃ x : α, cs = (Enc.enc x).toList ∧ I w x := hf H enc w fuel cs d ps h
/-- a struct that is handed in -/
theorem open_S {α : Type} [Enc α] {I : World → α → Prop} {W : World} {base : Nat} {v : Value} {d : DataW H} {ps : List MemPlace} {t : TypeId} (hf : RdW P t α I) (ha : AggT P t) (hok : Value.okWide P W .any base t v) (hr : DataW.Trod enc P W 0 (fun _ => true) true t v d ps) : ∃ x : α, v = .agg (Enc.enc x) ∧ I W x :=
  open_agg' ha hf hok hr
end
/-- two slices in an array -/
structure SlV2 where
  a : SlV
  b : SlV
instance : Enc SlV2 where
  enc s := #[s.a.v, s.b.v]
  sz := 2
  pos := by omega
  size_eq _ := rfl
  one s u hu := by simp at hu; rcases hu with rfl | rfl <;> rfl
theorem enc_slv2 (s : SlV2) : Enc.enc s = #[s.a.v, s.b.v] := rfl
theorem SlV2.at_a (s : SlV2) : (Enc.enc s)[0]? = some s.a.v := rfl
theorem SlV2.at_b (s : SlV2) : (Enc.enc s)[1]? = some s.b.v := rfl
theorem rdw_slv2 {P : Program} {t e e' : TypeId} {α : Type} [Enc α] {I : World → α → Prop} [ha : ArrT P t 2 e] [hs : SliceT P e e'] (hf : RdW P e' α I) [hz : SizeT P e' (Enc.sz α)] [h1 : SizeT P e 1] [h2 : SizeT P t 2] :
    RdW P t SlV2 (fun w x => (∃ l : List α, SlR w x.a.v l ∧ ∀ y ∈ l, I w y) ∧ ∃ l : List α, SlR w x.b.v l ∧ ∀ y ∈ l, I w y) := by
  intro H enc w fuel cs d ps hr
  obtain ⟨hl, fuel', hel⟩ := rd_array ha.out hr
  rw [cells_of h1] at hel
  rw [cells_of h2] at hl
  obtain ⟨y0, g0⟩ := hel 0 (by omega)
  obtain ⟨y1, g1⟩ := hel 1 (by omega)
  obtain ⟨a, ea, ia⟩ := rd_slv hs hf hz (d := y0.1) (ps := y0.2) g0
  obtain ⟨b, eb, ib⟩ := rd_slv hs hf hz (d := y1.1) (ps := y1.2) g1
  refine ⟨⟨a, b⟩, ?_, ia, ib⟩
  match cs, hl with
  | [c0, c1], _ =>
    simp at ea eb
    subst ea; subst eb; rfl
end Go.Fer
