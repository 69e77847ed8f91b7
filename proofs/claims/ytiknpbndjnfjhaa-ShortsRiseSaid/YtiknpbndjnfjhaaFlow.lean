/- Library, part 7 (statements whose order Go leaves open): what gives the same in whatever world that keeps what was there may be walked in the order of the text. No condition: rules alone. -/
import Derived.Test.YtiknpbndjnfjhaaWalk
import Derived.StillTail
set_option linter.all false
namespace Go.Fer
open Go Go.RowKit

def opX (P : Program) (ρ : Operand → Value) (o : Oper) (w : World) (R : Value → World → Prop) : Prop :=
  match (execOp ρ o).run P w with
  | .ok (.value v) w' => R v w'
  | .ok .skip w' => R undef w'
  | .ok (.enter g args) w' => Calls P g args w' fun e w'' => ∃ v, e = .returned v ∧ R v w''
  | _ => False
theorem opX_of_opW {P : Program} {f : Fr} {o : Oper} {w : World} {R : Value → World → Prop} (h : opW P f o w R) : opX P (ev f) o w R := by
  unfold opW at h; exact h
theorem opX_wp {P : Program} {a : Act} {o : Oper} {w : World} {R : Value → World → Prop} {K : Act → World → Prop} {Q : Exit → Act → World → Prop}
    (h : opX P a.eval o w R) (hk : ∀ v w', R v w' → K (a.put o.dst v) w') : o.wp P a w K Q := by
  unfold opX at h
  unfold Oper.wp
  generalize (execOp a.eval o).run P w = r at *
  cases r with
  | ok x w' =>
    cases x <;> simp only [Oper.upon] at * <;> try exact hk _ _ h
    all_goals first
      | exact (h : False).elim
      | (refine Calls.mono h fun e w'' ⟨v, he, hv⟩ => ?_
         subst he
         exact hk _ _ hv)
  | halt x w' => exact (h : False).elim

section
variable {P : Program} {ops : Array Oper} {md : Region.Mode} {I : World → Prop}

def YieldsI (P : Program) (ops : Array Oper) (I : World → Prop) (o : Oper) (v : Value) (a : Act) : Prop :=
  (Region.wanted o (yielded ops a.tmps) = true ∧ ∀ w, I w → opX P a.eval o w (fun u w' => u = v ∧ I w')) ∨ (Region.wanted o (yielded ops a.tmps) = false ∧ v = undef)

theorem YieldsI.of_same {o : Oper} {v : Value} {a a' : Act} (hy : YieldsI P ops I o v a) (he : execOp a'.eval o = execOp a.eval o)
    (hw : Region.wanted o (yielded ops a'.tmps) = Region.wanted o (yielded ops a.tmps)) : YieldsI P ops I o v a' := by
  unfold YieldsI opX at *
  rw [he, hw]
  exact hy

/-- whatever order: each operation that may come next gives one value in every world that fits; at the end L -/
def anyE (P : Program) (md : Region.Mode) (ops : Array Oper) (I : World → Prop) (n : Nat) (L : Array Bool → Act → Prop) : Nat → Array Bool → Act → Prop
  | 0, listed, a => L listed a
  | f + 1, listed, a => Region.ready md ops listed ≠ [] ∧ ∀ i ∈ Region.ready md ops listed, i < n ∧ ∃ o v, ops[i]? = some o ∧ YieldsI P ops I o v a ∧ anyE P md ops I n L f (listed.setIfInBounds i true) (a.put o.dst v)

theorem wpAny_of_anyE {n g : Nat} {L : Array Bool → Act → Prop} {Q : Exit → Act → World → Prop} (hL : ∀ listed a, L listed a → ∀ w, I w → wpAny P md ops Q g listed a w) :
    ∀ (f : Nat) (listed : Array Bool) (a : Act), anyE P md ops I n L f listed a → ∀ w, I w → wpAny P md ops Q (f + g) listed a w
  | 0, listed, a, h, w, hw => by rw [Nat.zero_add]; exact hL _ _ h w hw
  | f + 1, listed, a, h, w, hw => by
    rw [show f + 1 + g = (f + g) + 1 by omega]
    refine ⟨fun h0 => absurd h0 h.1, fun i hi => ?_⟩
    obtain ⟨_, o, v, ho, hy, hn⟩ := h.2 i hi
    unfold wpOp
    simp only [ho]
    rcases hy with ⟨hwant, hr⟩ | ⟨hwant, rfl⟩
    · simp only [hwant, if_true]
      exact .inl (opX_wp (hr w hw) fun u w' ⟨hu, hI⟩ => by subst hu; exact wpAny_of_anyE hL f _ _ hn w' hI)
    · simp only [hwant, Bool.false_eq_true, if_false]
      exact wpAny_of_anyE hL f _ _ hn w hw

/-- the bounds of the head: nothing of the tail is ready before all of the head is through -/
def headOk (md : Region.Mode) (ops : Array Oper) (n : Nat) (listed : Array Bool) : Prop := n = ops.size ∨ (n < ops.size ∧ Region.sinkB md ops n = true ∧ Region.chainB md ops n = true ∧ HeadInv md ops n listed)
theorem headOk.lt {n i : Nat} {listed : Array Bool} (h : headOk md ops n listed) (hin : i < n) (hun : listed.getD i true = false) : ∀ j ∈ Region.ready md ops listed, j < n := by
  intro j hj
  rcases h with rfl | ⟨hn, hs, hc, inv⟩
  · obtain ⟨_, o, ho, _⟩ := mem_ready.1 hj
    exact (Array.getElem?_eq_some_iff.1 ho).1
  · rcases Nat.lt_or_ge j n with h | h
    · exact h
    · exact absurd hj (tail_waits hs hc hn inv _ i rfl hin hun j h)
theorem headOk.set {n i : Nat} {listed : Array Bool} (h : headOk md ops n listed) (hi : i ∈ Region.ready md ops listed) (hin : i < n) : headOk md ops n (listed.setIfInBounds i true) := by
  rcases h with h | ⟨hn, hs, hc, inv⟩
  · exact .inl h
  · exact .inr ⟨hn, hs, hc, inv.set hi hin⟩

theorem anyE_first {n i : Nat} {oi : Oper} {v : Value} {L : Array Bool → Act → Prop} (hi : ops[i]? = some oi) (hsel : ∀ (j : Nat) (o : Oper) cs b, ops[j]? = some o → o.op ≠ .select cs b) (hin : i < n)
    (hdone : ∀ listed a, L listed a → ∀ j ∈ Region.ready md ops listed, n ≤ j) :
    ∀ (f : Nat) (listed : Array Bool) (a : Act), headOk md ops n listed →
      (∀ j oj, ops[j]? = some oj → j ≠ i → listed.getD j true = false → (∀ e ∈ oj.after, Region.binds md e = true → e.on ≠ i) → oi.apart ops oj = true) →
      i ∈ Region.ready md ops listed → YieldsI P ops I oi v a →
      anyE P md ops I n L f (listed.setIfInBounds i true) (a.put oi.dst v) → anyE P md ops I n L (f + 1) listed a := by
  intro f
  induction f with
  | zero =>
    intro listed a inv _ hr hy H
    have hun := (mem_ready.1 hr).1
    refine ⟨fun h => (by rw [h] at hr; cases hr), fun j hj => ?_⟩
    have hjn := inv.lt hin hun j hj
    refine ⟨hjn, ?_⟩
    by_cases hji : j = i
    · subst hji; exact ⟨oi, v, hi, hy, H⟩
    · have := hdone _ _ H j (ready_mono hj hji)
      omega
  | succ f ih =>
    intro listed a inv hfree hr hy H
    have hun := (mem_ready.1 hr).1
    refine ⟨fun h => (by rw [h] at hr; cases hr), fun j hj => ?_⟩
    have hjn := inv.lt hin hun j hj
    refine ⟨hjn, ?_⟩
    by_cases hji : j = i
    · subst hji; exact ⟨oi, v, hi, hy, H⟩
    · obtain ⟨_, oj, u, hoj, hyj, hn⟩ := H.2 j (ready_mono hj hji)
      obtain ⟨hjun, oj', hoj', hall⟩ := mem_ready.1 hj
      have : oj' = oj := Option.some.inj (hoj'.symm.trans hoj)
      subst this
      have hnot : ∀ e ∈ oj'.after, Region.binds md e = true → e.on ≠ i := fun e he hb heq => by
        have h1 := hall e he hb
        rw [heq, getD_both hun] at h1
        cases h1
      obtain ⟨h1, h2, h3⟩ := Oper.apart_spec (hfree j oj' hoj hji hjun hnot)
      refine ⟨oj', u, hoj, hyj.of_same (execOp_put oj' (fun cs b => hsel j oj' cs b hoj) a oi.dst v h1).symm (wanted_put oj' a oi.dst v h1).symm, ?_⟩
      have hfree' : ∀ k ok, ops[k]? = some ok → k ≠ i → (listed.setIfInBounds j true).getD k true = false →
          (∀ e ∈ ok.after, Region.binds md e = true → e.on ≠ i) → oi.apart ops ok = true := fun k ok hk hki hun' hno => by
        refine hfree k ok hk hki ?_ hno
        by_cases hjk : j = k
        · subst hjk; exact hjun
        · rw [getD_set_ne true hjk] at hun'; exact hun'
      refine ih (listed.setIfInBounds j true) (a.put oj'.dst u) (inv.set hj hjn) hfree' (ready_mono hr (Ne.symm hji)) (hy.of_same (execOp_put oi (fun cs b => hsel i oi cs b hi) a oj'.dst u h3) (wanted_put oi a oj'.dst u h3)) ?_
      rw [Array.setIfInBounds_comm _ _ hji, ← Act.put_comm a v u h2]
      exact hn

/-- the order of the text fits (as far as n) -/
def lexOk (ops : Array Oper) (n : Nat) : Bool :=
  Region.noSelect ops && (if n = ops.size then Region.lexFrom .any ops ops.size 0 (Array.replicate ops.size false) else Region.lexTailB .any ops n)

theorem lexFrom_head {g : Nat} : ∀ (m k : Nat) (listed : Array Bool), Region.lexFrom md ops m k listed = true → g = 0 → Region.lexHead md ops g m k listed = true
  | 0, k, listed, h, hg => by subst hg; simpa [Region.lexHead, Region.seqB, Region.lexFrom] using h
  | m + 1, k, listed, h, hg => by
    simp only [Region.lexFrom, Bool.and_eq_true] at h
    simp only [Region.lexHead, Bool.and_eq_true]
    exact ⟨h.1, lexFrom_head m (k + 1) _ h.2 hg⟩

/-- the list walked in the order of the text, in every world that fits -/
def listE (P : Program) (ops : Array Oper) (I : World → Prop) (Lq : Act → Prop) : List Oper → Act → Prop
  | [], a => Lq a
  | o :: rest, a => ∃ v, YieldsI P ops I o v a ∧ listE P ops I Lq rest (a.put o.dst v)

theorem anyE_lex {n g : Nat} {Lq : Act → Prop} (hsel : Region.noSelect ops = true) :
    ∀ (l : List Oper) (k : Nat) (listed : Array Bool) (a : Act), (∀ j, j < l.length → l[j]? = ops[k + j]?) → k + l.length = n → headOk md ops n listed →
    Region.lexHead md ops g l.length k listed = true → listE P ops I Lq l a →
    anyE P md ops I n (fun listed' a' => Region.seqB md ops g n listed' = true ∧ Lq a') l.length listed a
  | [], k, listed, a, _, hk, _, hB, h => by
    have : k = n := by simpa using hk
    subst this
    exact ⟨by simpa [Region.lexHead] using hB, h⟩
  | o :: l, k, listed, a, hl, hk, inv, hB, h => by
    have h0 : ops[k]? = some o := by simpa using (hl 0 (by simp)).symm
    simp only [List.length_cons, Region.lexHead, Bool.and_eq_true] at hB
    obtain ⟨⟨hr, hf⟩, hB'⟩ := hB
    have hkn : k < n := by simp only [List.length_cons] at hk; omega
    have hr' : k ∈ Region.ready md ops listed := by simpa using hr
    obtain ⟨v, hy, hK⟩ := h
    exact anyE_first h0 (Region.noSelect_spec hsel) hkn (fun listed' a' hL => seqB_ready hL.1) l.length listed a inv (Region.free_spec h0 hf) hr' hy
      (anyE_lex hsel l (k + 1) _ _ (fun j hj => by have := hl (j + 1) (by simp; omega); simpa [Nat.add_assoc, Nat.add_comm 1 j] using this) (by simp only [List.length_cons] at hk; omega) (inv.set hr' hkn) hB' hK)

theorem wp_region_E {id : Nat} {Q : Exit → Act → World → Prop} {a : Act} {w : World} {l : List Oper} (n : Nat) (hm : P.follows .mixedOrders = true) (hB : lexOk l.toArray n = true) (hn : n ≤ l.length)
    (hI : I { w with drawn := w.drawn + 1 })
    (h : listE P l.toArray I (fun a' => ∀ w', I w' → wpList P l.toArray Q (l.drop n) a' w') (l.take n) a) : (Code.region id l.toArray true).wp P Q a w := by
  simp only [lexOk, Bool.and_eq_true] at hB
  obtain ⟨hsel, hB⟩ := hB
  have htl : (l.take n).length = n := by simp; omega
  have hdl : (l.drop n).length = l.toArray.size - n := by simp
  have hlex : Region.lexHead .any l.toArray (l.toArray.size - n) n 0 (Array.replicate l.toArray.size false) = true ∧ headOk .any l.toArray n (Array.replicate l.toArray.size false) := by
    by_cases he : n = l.toArray.size
    · rw [if_pos he] at hB
      have h0 : l.toArray.size - n = 0 := by rw [he]; exact Nat.sub_self _
      have h1 := lexFrom_head (g := 0) _ _ _ hB rfl
      rw [← he] at h1
      refine ⟨?_, .inl he⟩
      rw [h0, ← he]
      exact h1
    · rw [if_neg he] at hB
      simp only [Region.lexTailB, Bool.and_eq_true, decide_eq_true_eq] at hB
      obtain ⟨⟨⟨⟨_, hn'⟩, hs⟩, hc⟩, hlex⟩ := hB
      exact ⟨hlex, .inr ⟨hn', hs, hc, ⟨by simp, fun j oj _ hl => (by rw [getD_replicate_false] at hl; cases hl), fun t _ ht => getD_in (by simpa using ht) (getD_replicate_false _ _)⟩⟩⟩
  have H := anyE_lex (P := P) (I := I) (md := .any) (n := n) (g := l.toArray.size - n) hsel (l.take n) 0 (Array.replicate l.toArray.size false) a (fun j hj => by
    have hj' : j < n := by rw [htl] at hj; exact hj
    simp [hj']) (by simpa using htl) hlex.2 (by rw [htl]; exact hlex.1) h
  refine wp_region_any hm ?_
  have := wpAny_of_anyE (Q := Q) (g := l.toArray.size - n) (fun listed a' hL w' hw' => by
    have := wpAny_of_seq (md := .any) (Q' := Q) (l.drop n) n listed a' w' (fun j => by simp [List.getElem?_drop]) (by rw [hdl]; exact hL.1) (hL.2 w' hw')
    rwa [hdl] at this) _ _ _ H _ hI
  have hsz : l.toArray.size = l.length := by simp
  rw [htl, show n + (l.toArray.size - n) = l.toArray.size by omega] at this
  exact this
end

/-! the same over frames as functions -/
/-- a list of operations, in the order of the text, each of which gives one value in every world that fits -/
@[irreducible] def RL (P : Program) (n : Nat) (ops : Array Oper) (I : World → Prop) (K : Fr → Prop) (l : List Oper) (f : Fr) : Prop :=
  ∀ a, Rel n a f → listE P ops I (fun a' => ∃ f', Rel n a' f' ∧ K f') l a
section
variable {P : Program} {n : Nat} {ops : Array Oper} {I : World → Prop} {K : Fr → Prop} {f : Fr}
theorem RL.nil (h : K f) : RL P n ops I K [] f := by unfold RL; exact fun a ha => ⟨f, ha, h⟩
theorem RL.op {d : Nat} {op : Op} {T : TypeId} {pos : String} {af : Array Edge} {rest : List Oper} (hd : Nat.blt d n = true) {E : Value}
    (h : ∀ w, I w → opW P f ⟨some d, op, T, pos, af, none⟩ w (fun v w' => v = E ∧ I w')) (hr : RL P n ops I K rest (upd f d E)) :
    RL P n ops I K (⟨some d, op, T, pos, af, none⟩ :: rest) f := by
  unfold RL at hr ⊢
  intro a ha
  exact ⟨E, .inl ⟨rfl, fun w hw => by rw [ha.eval]; exact opX_of_opW (h w hw)⟩, hr _ (ha.put (dst := some d) (by intro x hx; cases hx; simpa using hd) E)⟩
theorem RL.op0 {op : Op} {T : TypeId} {pos : String} {af : Array Edge} {rest : List Oper} {E : Value}
    (h : ∀ w, I w → opW P f ⟨none, op, T, pos, af, none⟩ w (fun v w' => v = E ∧ I w')) (hr : RL P n ops I K rest f) :
    RL P n ops I K (⟨none, op, T, pos, af, none⟩ :: rest) f := by
  unfold RL at hr ⊢
  intro a ha
  exact ⟨E, .inl ⟨rfl, fun w hw => by rw [ha.eval]; exact opX_of_opW (h w hw)⟩, hr _ (ha.put (dst := none) (by intro x hx; cases hx) E)⟩
theorem RL.gd2 {d : Nat} {op : Op} {T : TypeId} {pos : String} {af : Array Edge} {g : Nat} {want : Bool} {rest : List Oper} (G b : Bool) (t : Nat) (v : Value)
    (hg : (ops[g]?).bind (·.dst) = some t) (ht : Nat.blt t n = true) (hb : f t = gv G (.bool b)) (hd : Nat.blt d n = true)
    (hop : (G && (b == want)) = true → ∀ w, I w → opW P f ⟨some d, op, T, pos, af, none⟩ w (fun v' w' => v' = v ∧ I w'))
    (h : RL P n ops I K rest (upd f d (gv (G && (b == want)) v))) : RL P n ops I K (⟨some d, op, T, pos, af, some (g, want)⟩ :: rest) f := by
  unfold RL at h ⊢
  intro a ha
  have hwant : Region.wanted ⟨some d, op, T, pos, af, some (g, want)⟩ (yielded ops a.tmps) = (G && (b == want)) := by
    simp only [Region.wanted]
    have : yielded ops a.tmps g = if G then some b else none := by
      unfold yielded
      simp only [hg, Option.bind_some, tmps_at ha (t := t) (by simpa using ht), hb]
      cases G
      · rw [gv_false rfl]; rfl
      · rw [gv_true rfl]; rfl
    rw [this]
    cases G <;> simp
  refine ⟨gv (G && (b == want)) v, ?_, h _ (ha.put (dst := some d) (by intro x hx; cases hx; simpa using hd) _)⟩
  cases hG : (G && (b == want)) with
  | true =>
    refine .inl ⟨by rw [hwant, hG], fun w hw => ?_⟩
    rw [ha.eval, gv_true rfl]
    have h3 := opX_of_opW (hop hG w hw)
    unfold opX at h3 ⊢
    exact h3
  | false => exact .inr ⟨by rw [hwant, hG], gv_false rfl v⟩
theorem RL.gd {d : Nat} {op : Op} {T : TypeId} {pos : String} {af : Array Edge} {g : Nat} {want : Bool} {rest : List Oper} (b : Bool) (t : Nat) (v : Value)
    (hg : (ops[g]?).bind (·.dst) = some t) (ht : Nat.blt t n = true) (hb : f t = .bool b) (hd : Nat.blt d n = true)
    (hop : (b == want) = true → ∀ w, I w → opW P f ⟨some d, op, T, pos, af, none⟩ w (fun v' w' => v' = v ∧ I w'))
    (h : RL P n ops I K rest (upd f d (gv (b == want) v))) : RL P n ops I K (⟨some d, op, T, pos, af, some (g, want)⟩ :: rest) f := by
  have := RL.gd2 (P := P) (f := f) (n := n) (I := I) (K := K) (rest := rest) (op := op) (T := T) (pos := pos) (af := af) true b t v hg ht (by rw [hb, gv_true rfl]) hd (by simpa using hop) (by simpa using h)
  exact this
end
class MixedT (P : Program) : Prop where out : P.follows .mixedOrders = true
section
variable {P : Program} {n : Nat} {Q : Exit → Fr → World → Prop} {f : Fr} {w : World}
theorem WC.draw [hm : MixedT P] {id : Nat} {l : List Oper} (hB : lexOk l.toArray l.length = true)
    (h : RL P n l.toArray (Bel w) (fun f' => ∀ w', Bel w w' → Q .normal f' w') l f) : WC P n (.region id l.toArray true) Q f w := by
  unfold WC; unfold RL at h
  intro a ha
  refine wp_region_E (I := Bel w) l.length hm.out hB (Nat.le_refl _) (Bel.drawn w _) ?_
  have := h a ha
  rw [List.take_length, List.drop_length]
  have key : ∀ (l' : List Oper) (a : Act), listE P l.toArray (Bel w) (fun a' => ∃ f', Rel n a' f' ∧ ∀ w', Bel w w' → Q .normal f' w') l' a →
      listE P l.toArray (Bel w) (fun a' => ∀ w', Bel w w' → wpList P l.toArray (fun e a' w' => ∃ f', Rel n a' f' ∧ Q e f' w') [] a' w') l' a := by
    intro l'
    induction l' with
    | nil => intro a ⟨f', hr, hq⟩ w' hw'; exact ⟨f', hr, hq w' hw'⟩
    | cons o l' ih => intro a ⟨v, hy, hn⟩; exact ⟨v, hy, ih _ hn⟩
  exact key _ _ this
/-- the head in whatever order, then the tail in its own -/
theorem WC.drawT [hm : MixedT P] {id : Nat} {l : List Oper} (k : Nat) (hB : lexOk l.toArray k = true) (hk : Nat.ble k l.length = true)
    (h : RL P n l.toArray (Bel w) (fun f' => ∀ w', Bel w w' → WL P n l.toArray Q (l.drop k) f' w') (l.take k) f) : WC P n (.region id l.toArray true) Q f w := by
  unfold WC; unfold RL at h
  intro a ha
  refine wp_region_E (I := Bel w) k hm.out hB (by simpa using hk) (Bel.drawn w _) ?_
  have := h a ha
  have key : ∀ (l' : List Oper) (a : Act), listE P l.toArray (Bel w) (fun a' => ∃ f', Rel n a' f' ∧ ∀ w', Bel w w' → WL P n l.toArray Q (l.drop k) f' w') l' a →
      listE P l.toArray (Bel w) (fun a' => ∀ w', Bel w w' → wpList P l.toArray (fun e a' w' => ∃ f', Rel n a' f' ∧ Q e f' w') (l.drop k) a' w') l' a := by
    intro l'
    induction l' with
    | nil =>
      intro a ⟨f', hr, hq⟩ w' hw'
      have h2 := hq w' hw'
      unfold WL at h2
      exact h2 a hr
    | cons o l' ih => intro a ⟨v, hy, hn⟩; exact ⟨v, hy, ih _ hn⟩
  exact key _ _ this
end
end Go.Fer
