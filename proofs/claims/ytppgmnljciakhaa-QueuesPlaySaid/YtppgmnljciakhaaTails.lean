/- Library, part 26 (whole numbers as elements; slices that are the tail of an own slice: appended to). No condition: rules alone. -/
import Derived.Test.YtppgmnljciakhaaTypes
set_option linter.all false
namespace Go.Fer
open Go Go.RowKit Go.ChangeShapes Go.WideShapes Go.ChangeAt
/-- a whole number of 64 bits, as an element -/
structure I64 where
  n : Int
  deriving DecidableEq
instance : Enc I64 where
  enc s := #[.int .i64 s.n]
  sz := 1
  pos := by omega
  size_eq _ := rfl
  one s u hu := by simp at hu; subst hu; rfl
theorem enc_i64 (s : I64) : Enc.enc s = #[.int .i64 s.n] := rfl
theorem rdw_i64 {P : Program} {t : TypeId} [h : IntT P t .i64] : RdW P t I64 (fun _ x => -9223372036854775808 ≤ x.n ∧ x.n ≤ 9223372036854775807) := by
  intro H enc w fuel cs d ps hr
  obtain ⟨n, rfl, hw⟩ := rd_int h.out hr
  have hb : -9223372036854775808 ≤ n ∧ n ≤ 9223372036854775807 := by simpa [Lit.wf, IntKind.min, IntKind.max, IntKind.signed, IntKind.bits] using hw
  exact ⟨⟨n⟩, rfl, hb⟩
theorem one_i64 (n : Int) : ∀ u ∈ (#[Value.int .i64 n] : Array Value).toList, u.oneCell' = true := by intro u hu; simp at hu; subst hu; rfl
section
variable {P : Program} {w : World}
theorem run_append_roomO (t ty e : TypeId) (i : TypeInfo) (ht : P.underlying t = some (.slice e)) (hi : P.info? e = some i)
    (g o sLen sCap : Nat) (cur : Array Value) (hg : w.heap[g]? = some (.cells cur e (0, 0)))
    (a : Addr) (m c : Nat) (news : List Value) (hl : news.length = m * i.size) (hnews : ∀ (j : Nat) (u : Value), news[j]? = some u → w.cell? (a.add j) = some u) (h1 : ∀ u ∈ news, u.oneCell' = true)
    (hroom : sLen + m ≤ sCap) (hfit : o + sLen * i.size + news.length ≤ cur.size) :
    (Builtin.append_ #[t, t] ty #[.slice (some ⟨g, o, none⟩) sLen sCap, .slice (some a) m c]).run P w =
      .ok (.slice (some ⟨g, o, none⟩) (sLen + m) sCap) (w.setRow g (cur.toList.take (o + sLen * i.size) ++ news ++ cur.toList.drop (o + sLen * i.size + news.length)).toArray) := by
  have hf := run_firstCells_some (P := P) w i.size m a m c news hl hnews
  have hst := run_storeCells_at P g (o + sLen * i.size) e news 0 cur w hg (by simpa using hfit) h1
  simp only [Nat.add_zero] at hst
  simp [Builtin.append_, run_underlying ht, sizeOf, typeInfo, hi, Builtin.lenOf, hroom, hf, Addr.add_lit, hst]
end
section
variable {α : Type} [Enc α] {P : Program} {f : Fr} {w w0 : World} {S : List Ent} {R : Value → World → Prop} {d : Option Tmp} {T : TypeId} {pos : String} {af : Array Edge} {gd : Option (Nat × Bool)}
/-- the tail of an own slice -/
def tailV (fv : Value) (ds xs : List α) : Value := cutV fv ds.length (ds ++ xs).length (capV fv) (Enc.sz α)
theorem run_append_tail {t ty e by_ : Nat} (ht : SliceT P t e) (hsz : SizeT P e (Enc.sz α)) (hby : BytesT P e by_) {z : Value} (hz : ZeroT P e z) (hzs : z.cells.size = Enc.sz α)
    {v u : Value} {ds xs ys : List α} (ho : OwnB w v e (ds ++ xs)) (hs : SlR w u ys) (hys : 0 < ys.length) (hlen : (xs.length + ys.length) * by_ ≤ 140737488355328) (hlen2 : ds.length + xs.length + ys.length ≤ maxLen) :
    ∃ v' w' ds', (Builtin.append_ #[t, t] ty #[tailV v ds xs, u]).run P w = .ok (tailV (α := α) v' ds' (xs ++ ys)) w' ∧ OwnB w' v' e (ds' ++ (xs ++ ys)) ∧ ds'.length ≤ ds.length ∧ Chg (fun k => v.ownBlock = some k) w w' ∧
      ∀ k, v'.ownBlock = some k → v.ownBlock = some k ∨ (w.heap.size ≤ k ∧ k < w'.heap.size) := by
  obtain ⟨i, hi, hisz, hiby, hiz⟩ : ∃ i, P.info? e = some i ∧ i.size = Enc.sz α ∧ i.bytes = by_ ∧ i.zero = some z := by
    have h1 := hsz.out; have h2 := hby.out; have h3 := hz.out
    cases hi : P.info? e with
    | none => simp [hi] at h1
    | some i => simp [hi] at h1 h2 h3; exact ⟨i, rfl, h1, h2, h3⟩
  have hpos := Enc.pos (α := α)
  have h63 : ((xs.length + ys.length : Nat) : Int) ≤ 9223372036854775807 := by simp only [maxLen] at hlen2; omega
  obtain ⟨ad, cap', hu, hcap', hrow⟩ := hs.some_of hys
  subst hu
  have hnews : ∀ (j : Nat) (u : Value), (flat ys)[j]? = some u → w.cell? (ad.add j) = some u := by
    intro j u hj
    have := hrow.2 j u hj
    have e : ad.add j = ⟨ad.block, ad.off + j, none⟩ := by
      have h1 := hrow.1
      obtain ⟨b, o, s⟩ := ad
      simp only at h1
      subst h1
      exact add_spot b o j
    rw [e]; exact this
  have hl : (flat ys).length = ys.length * i.size := by rw [flat_length, hisz]
  rcases ho with ⟨rfl, hnil⟩ | ⟨g, cap, cur, rfl, hg, h1, h2, h3, h4⟩
  · obtain ⟨hd, hx⟩ := List.append_eq_nil_iff.1 hnil
    subst hd; subst hx
    obtain ⟨v', w', hr, k1, k2, k3⟩ := run_append_OwnB (P := P) (t := t) (ty := ty) ht hsz hby hz hzs (v := .slice none 0 0) (xs := ([] : List α)) (ys := ys) (.inl ⟨rfl, rfl⟩) hs (by simpa using hlen) (by simpa using hlen2)
    refine ⟨v', w', [], ?_, by simpa using k1, Nat.le_refl _, k2, k3⟩
    have e1 : tailV (α := α) (.slice none 0 0) [] [] = .slice none 0 0 := rfl
    have e2 : tailV (α := α) v' [] ([] ++ ys) = v' := by
      have := k1.shape.self (Enc.sz α)
      simpa [tailV] using this
    rw [e1, e2]; exact hr
  · have hdl : (ds ++ xs).length = ds.length + xs.length := List.length_append
    have hfl : (flat (ds ++ xs)).length = (ds.length + xs.length) * Enc.sz α := by rw [flat_length, hdl]
    have hmul : (ds.length + xs.length) * Enc.sz α ≤ cap * Enc.sz α := Nat.mul_le_mul_right _ (by omega)
    have hA : (ds.length + xs.length) * Enc.sz α = ds.length * Enc.sz α + xs.length * Enc.sz α := Nat.add_mul _ _ _
    have hcurT : cur.toList.take ((ds.length + xs.length) * Enc.sz α) = flat ds ++ flat xs := by rw [← hdl, h4, flat_append]
    by_cases hroom : xs.length + ys.length ≤ cap - ds.length
    · have hne : ¬ cap = ds.length := by omega
      have hmul3 : (ds.length + xs.length + ys.length) * Enc.sz α ≤ cap * Enc.sz α := Nat.mul_le_mul_right _ (by omega)
      have hA3 : (ds.length + xs.length + ys.length) * Enc.sz α = ds.length * Enc.sz α + xs.length * Enc.sz α + ys.length * Enc.sz α := by rw [Nat.add_mul, Nat.add_mul]
      have ev1 : tailV (.slice (some ⟨g, 0, none⟩) (ds ++ xs).length cap) ds xs = .slice (some ⟨g, ds.length * Enc.sz α, none⟩) xs.length (cap - ds.length) := by
        simp [tailV, cutV, capV, hne, hdl]
      have hr := run_append_roomO (P := P) (w := w) t ty e i ht.out hi g (ds.length * Enc.sz α) xs.length (cap - ds.length) cur hg ad ys.length cap' (flat ys) hl hnews (flat_one ys) hroom (by rw [hl, hisz]; omega)
      refine ⟨.slice (some ⟨g, 0, none⟩) (ds ++ (xs ++ ys)).length cap, w.setRow g (List.take (ds.length * Enc.sz α + xs.length * i.size) cur.toList ++ flat ys ++ List.drop (ds.length * Enc.sz α + xs.length * i.size + (flat ys).length) cur.toList).toArray, ds, ?_, .inr ⟨g, cap, _, rfl, setRow_heap w g cur _ e _ hg, by simp; omega, h2, ?_, ?_⟩, Nat.le_refl _, ⟨rfl, rfl, rfl, by simp [World.setRow], fun k _ hk => setRow_other w g k _ (fun e => hk (by simp [Value.ownBlock, e]))⟩, fun k hk => .inl (by simpa [Value.ownBlock] using hk)⟩
      · rw [ev1, hr]
        have e2 : tailV (.slice (some ⟨g, 0, none⟩) (ds ++ (xs ++ ys)).length cap) ds (xs ++ ys) = .slice (some ⟨g, ds.length * Enc.sz α, none⟩) (xs.length + ys.length) (cap - ds.length) := by
          simp [tailV, cutV, capV, hne]
        rw [e2]
      · simp only [List.size_toArray, List.length_append, List.length_take, List.length_drop, Array.length_toList, hisz, hl]
        omega
      · have hfa : flat (ds ++ (xs ++ ys)) = flat ds ++ flat xs ++ flat ys := by rw [flat_append, flat_append, List.append_assoc]
        rw [hisz, ← hA, hcurT, hfa]
        have hll : (ds ++ (xs ++ ys)).length * Enc.sz α = (flat ds ++ flat xs ++ flat ys).length := by
          simp only [List.length_append, flat_length, Nat.add_mul]; omega
        rw [hll]
        exact List.take_left
    · obtain ⟨bo, hbo⟩ : ∃ bo, tailV (.slice (some ⟨g, 0, none⟩) (ds ++ xs).length cap) ds xs = .slice (some ⟨g, bo, none⟩) xs.length (cap - ds.length) ∧ (xs ≠ [] → bo = ds.length * Enc.sz α) := by
        by_cases hc : cap = ds.length
        · refine ⟨0, by simp [tailV, cutV, capV, hc, hdl], fun hx => ?_⟩
          have : 0 < xs.length := List.length_pos_iff.2 hx
          omega
        · exact ⟨ds.length * Enc.sz α, by simp [tailV, cutV, capV, hc, hdl], fun _ => rfl⟩
      have holds : ∀ (j : Nat) (u : Value), (flat xs)[j]? = some u → w.cell? ((⟨g, bo, none⟩ : Addr).add j) = some u := by
        intro j u hj
        have hxne : xs ≠ [] := by intro hx; rw [hx] at hj; simp [flat] at hj
        rw [add_spot, cell_blk hg, hbo.2 hxne]
        have h5 : (flat ds ++ flat xs)[ds.length * Enc.sz α + j]? = some u := by
          rw [List.getElem?_append_right (by rw [flat_length]; omega), flat_length, Nat.add_sub_cancel_left]; exact hj
        rw [← hcurT, List.getElem?_take] at h5
        split at h5
        · simpa using h5
        · cases h5
      have hge := grownCap_ge w (xs.length + ys.length) (cap - ds.length) e
      have hcm : grownCap w (xs.length + ys.length) (cap - ds.length) e ≤ maxLen := grownCap_le_maxLen w _ _ e (by omega)
      have hr := run_append_grow (P := P) w t ty e i z ht.out hi hiz ⟨g, bo, none⟩ xs.length (cap - ds.length) (flat xs) (by rw [flat_length, hisz]) holds ad ys.length cap' (flat ys) hl hnews (by omega) h63 (growslice_fits (by omega) (by rw [hiby]; exact hlen))
      refine ⟨.slice (some ⟨w.heap.size, 0, none⟩) (xs.length + ys.length) (grownCap w (xs.length + ys.length) (cap - ds.length) e), w.drew.alloc (.cells ((flat xs).toArray ++ (flat ys).toArray ++ Builtin.zeroCells z.cells (grownCap w (xs.length + ys.length) (cap - ds.length) e - (xs.length + ys.length))) e), [], ?_, .inr ⟨w.heap.size, _, _, by simp, heap_alloc_new w.drew _, by simpa using hge, hcm, ?_, ?_⟩, Nat.zero_le _, ⟨rfl, rfl, rfl, by simp, fun k hk _ => heap_alloc_old w.drew _ hk⟩, ?_⟩
      · rw [hbo.1, hr]
        have e2 : tailV (α := α) (.slice (some ⟨w.heap.size, 0, none⟩) (xs.length + ys.length) (grownCap w (xs.length + ys.length) (cap - ds.length) e)) [] (xs ++ ys) = .slice (some ⟨w.heap.size, 0, none⟩) (xs.length + ys.length) (grownCap w (xs.length + ys.length) (cap - ds.length) e) := by
          simp [tailV, cutV, capV]
        rw [e2]
      · simp only [Array.size_append, List.size_toArray, size_zeroCells, hzs, flat_length, ← Nat.add_mul]
        refine Nat.mul_le_mul_right _ ?_
        omega
      · simp only [Array.toList_append, List.nil_append]
        rw [List.append_assoc, ← List.append_assoc, ← flat_append, ← flat_length]
        exact List.take_left
      · intro k hk
        simp [Value.ownBlock] at hk; subst hk
        exact .inr ⟨Nat.le_refl _, by simp⟩
theorem opW.appendTail {x y : Operand} {t E by_ : Nat} {z v : Value} {ds xs ys : List α} [ht : SliceT P t E] [hz : SizeT P E (Enc.sz α)] [hb : BytesT P E by_] [hzz : ZeroT P E z] (hzs : z.cells.size = Enc.sz α) (hS : St w0 S w) (hx : ev f x = tailV v ds xs) (ho : Has (ownE v E (ds ++ xs)) S) (hy : SlR w (ev f y) ys) (hys : 0 < ys.length)
    (hl1 : (xs.length + ys.length) * by_ ≤ 140737488355328) (hl2 : ds.length + xs.length + ys.length ≤ maxLen)
    (h : ∀ (v' : Value) (ds' : List α) (w' : World), ds'.length ≤ ds.length → (∀ S', Turn (ownE v E (ds ++ xs)) (ownE v' E (ds' ++ (xs ++ ys))) S S' → St w0 S' w') → R (tailV v' ds' (xs ++ ys)) w') :
    opW P f ⟨d, .call { callee := .builtin .append, args := #[x, y], argTypes := #[t, t] }, T, pos, af, gd⟩ w R := by
  obtain ⟨v', w', ds', hr, h1, h0, h2, h3⟩ := run_append_tail (P := P) (ty := T) ht hz hb hzz hzs (hS.own ho) hy hys hl1 hl2
  refine opW.of_run (v := tailV v' ds' (xs ++ ys)) (w' := w') ?_ (h v' ds' w' h0 fun S' hT => St.turn (by rw [ownE_F]; exact h2) (by rw [ownE_A]; exact h1) (by rw [ownE_F, ownE_F]; exact h3) hS hT)
  simp [execOp, resolve, Go.invoke, builtin, hx, hr]
/-- copy onto a part of an own slice -/
theorem opW.copyAt {t t' E n m : Nat} {x y : Operand} {v : Value} {xs ys : List α} [ht : SliceT P t E] [hs : SizeT P E (Enc.sz α)] (hS : St w0 S w) (he : Has (ownE v E xs) S) (hx : ev f x = cutV v n xs.length m (Enc.sz α)) (hy : SlR w (ev f y) ys) (hl : n + ys.length ≤ xs.length) (hm : xs.length ≤ m) (hmc : m ≤ capV v)
    (h : ∀ w', (∀ S', Turn (ownE v E xs) (ownE v E (xs.take n ++ ys ++ xs.drop (n + ys.length))) S S' → St w0 S' w') → R (.int .i64 (ys.length : Int)) w') : opW P f ⟨d, .call { callee := .builtin .copy, args := #[x, y], argTypes := #[t, t'] }, T, pos, af, gd⟩ w R := by
  have hpos := Enc.pos (α := α)
  obtain ⟨i, hi, hisz⟩ : ∃ i, P.info? E = some i ∧ i.size = Enc.sz α := by
    have h1 := hs.out
    cases hi : P.info? E with
    | none => simp [hi] at h1
    | some i => simp [hi] at h1; exact ⟨i, rfl, h1⟩
  have hown := hS.own he
  obtain ⟨a, c, hu, hc1, hc2, hc3, hrow⟩ := hy
  by_cases hn : ys.length = 0
  · have hy0 : ys = [] := List.eq_nil_of_length_eq_zero hn
    subst hy0
    have hid : xs.take n ++ [] ++ xs.drop (n + ([] : List α).length) = xs := by simp
    rw [hid] at h
    refine opW.of_run (v := .int .i64 0) (w' := w) ?_ (h w fun S' hT => St.turn ⟨rfl, rfl, rfl, Nat.le_refl _, fun _ _ _ => rfl⟩ (hS.get he) (fun k hk => .inl hk) hS hT)
    have hl0 : ∀ (x : Addr), (loadCells x 0).run P w = .ok #[] w := fun x => by simpa using run_loadCells_list (P := P) w x [] (by simp)
    obtain ⟨b, nn, cc, hv⟩ := hown.shape.isS
    subst hv
    generalize hdv : cutV (.slice b nn cc) n xs.length m (Enc.sz α) = dv at hx
    obtain ⟨b2, n2, c2, rfl⟩ : ∃ b2 n2 c2, dv = .slice b2 n2 c2 := by subst hdv; exact ⟨_, _, _, rfl⟩
    cases a <;> cases b2 <;> simp [execOp, resolve, Go.invoke, builtin, hx, hu, Builtin.copy_, run_underlying ht.out, Builtin.lenOf, Builtin.firstCells, sizeOf, typeInfo, hi, goInt, hl0, storeCells]
  · rcases hown with ⟨rfl, rfl⟩ | ⟨g, cap, cur, rfl, hg, g1, g2, g3, g4⟩
    · exfalso; simp only [List.length_nil] at hl; omega
    · obtain ⟨ad, rfl⟩ : ∃ ad, a = some ad := by
        cases a with
        | none => have := hc3 rfl; omega
        | some ad => exact ⟨ad, rfl⟩
      have hr := hrow ad rfl (by omega)
      have hsrc : ∀ (j : Nat) (u : Value), (flat ys)[j]? = some u → w.cell? (ad.add j) = some u := by
        intro j u hj
        have h2 := hr.2 j u hj
        have e : ad.add j = ⟨ad.block, ad.off + j, none⟩ := by
          have h1 := hr.1
          obtain ⟨b, o, s⟩ := ad
          simp only at h1
          subst h1
          exact add_spot b o j
        rw [e]; exact h2
      have hfl : (flat ys).length = ys.length * Enc.sz α := flat_length ys
      have hmul : xs.length * Enc.sz α ≤ cap * Enc.sz α := Nat.mul_le_mul_right _ g1
      have hmul2 : (n + ys.length) * Enc.sz α ≤ xs.length * Enc.sz α := Nat.mul_le_mul_right _ hl
      have hA : (n + ys.length) * Enc.sz α = n * Enc.sz α + ys.length * Enc.sz α := Nat.add_mul _ _ _
      have hld := run_loadCells_list (P := P) w ad (flat ys) hsrc
      have hst := run_storeCells_at P g (n * Enc.sz α) E (flat ys) 0 cur w hg (by omega) (flat_one ys)
      simp only [Nat.add_zero] at hst
      have hmin : Nat.min ys.length (xs.length - n) = ys.length := Nat.min_eq_left (by omega)
      have hmn : ¬ m = n := by omega
      have hx2 : ev f x = .slice (some ⟨g, n * Enc.sz α, none⟩) (xs.length - n) (m - n) := by rw [hx]; simp [cutV, hmn]
      refine opW.of_run (v := .int .i64 (ys.length : Int)) (w' := w.setRow g (cur.toList.take (n * Enc.sz α) ++ flat ys ++ cur.toList.drop (n * Enc.sz α + (flat ys).length)).toArray) ?_ (h _ fun S' hT => St.turn ?_ ?_ ?_ hS hT)
      · rw [hfl] at hld
        have e1 : (Builtin.firstCells (Enc.sz α) ys.length (.slice (some ad) ys.length c)).run P w = .ok (flat ys).toArray w := by simp [Builtin.firstCells, hld]
        simp [execOp, resolve, Go.invoke, builtin, hx2, hu, Builtin.copy_, run_underlying ht.out, Builtin.lenOf, sizeOf, typeInfo, hi, hisz, hmin, goInt, e1, hst]
      · rw [ownE_F]
        exact ⟨rfl, rfl, rfl, by simp [World.setRow], fun k _ hk => setRow_other w g k _ (fun e => hk (by simp [Value.ownBlock, e]))⟩
      · rw [ownE_A]
        have hlen : (xs.take n ++ ys ++ xs.drop (n + ys.length)).length = xs.length := by simp; omega
        refine .inr ⟨g, cap, _, by rw [hlen], setRow_heap w g cur _ E _ hg, by rw [hlen]; exact g1, g2, ?_, ?_⟩
        · simp only [List.size_toArray, List.length_append, List.length_take, List.length_drop, Array.length_toList]; omega
        · rw [hlen, flat_append, flat_append, flat_take, flat_drop, ← g4, hfl]
          simp only
          rw [List.take_take, Nat.min_eq_left (by omega), ← hA]
          have hl1 : (List.take (n * Enc.sz α) cur.toList ++ flat ys).length = (n + ys.length) * Enc.sz α := by
            rw [List.length_append, List.length_take, hfl, Array.length_toList, Nat.min_eq_left (by omega)]; omega
          rw [List.take_append, List.take_of_length_le (by rw [hl1]; exact hmul2), hl1]
          congr 1
          rw [List.drop_take]
      · rw [ownE_F, ownE_F]; exact fun k hk => .inl hk
/-- the tail, read -/
theorem OwnB.tail {w : World} {v : Value} {e : TypeId} {ds xs : List α} (h : OwnB w v e (ds ++ xs)) : SlR w (tailV v ds xs) xs := by
  have h1 := h.sl.tail
  exact h1
end
end Go.Fer
