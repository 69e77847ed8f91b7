/- Library, part 7 (statements whose order Go leaves open): what gives the same in whatever world that keeps what was there may be walked in the order of the text. No condition: rules alone. -/
import Derived.Test.YthfbfhokmknfnaaDoorWalk
import Derived.StillTail
set_option linter.all false
namespace Go.Fer
open Go Go.RowKit
variable [D : Dfr]

section
variable {P : Program} {ops : Array Oper} {md : Region.Mode} {Q : Exit → Act → World → Prop}
/-- an operation that moves a value, and waits for nothing -/
def pureB (md : Region.Mode) (ops : Array Oper) (i : Nat) : Bool :=
  match ops[i]? with
  | some ⟨some _, .move _, _, _, af, none⟩ => af.all (fun e => !Region.binds md e)
  | _ => false
theorem pureB_spec {i : Nat} (h : pureB md ops i = true) : ∃ d x T pos af, ops[i]? = some ⟨some d, .move x, T, pos, af, none⟩ ∧ ∀ e ∈ af, Region.binds md e = false := by
  unfold pureB at h
  split at h
  · rename_i d x T pos af hi
    exact ⟨d, x, T, pos, af, hi, fun e he => by simpa using Array.all_eq_true'.1 h e he⟩
  · cases h
theorem waits_not_pure {j i : Nat} (h : Region.waitsFor md ops j i = true) : pureB md ops j = false := by
  rw [← Bool.not_eq_true]
  intro hp
  obtain ⟨d, x, T, pos, af, hj, ha⟩ := pureB_spec hp
  obtain ⟨oj, hoj, e, he, hb, _⟩ := Region.waitsFor_spec h
  rw [hj] at hoj
  cases hoj
  rw [ha e he] at hb; cases hb
/-- what is no such move is waited for -/
def sinkP (md : Region.Mode) (ops : Array Oper) (n : Nat) : Bool :=
  (List.range n).all fun i => pureB md ops i || (List.range (n + 1)).any fun j => decide (i < j) && Region.waitsFor md ops j i
theorem tail_waitsP {n : Nat} {listed : Array Bool} (hs : sinkP md ops n = true) (hc : Region.chainB md ops n = true) (hn : n < ops.size) (inv : HeadInv md ops n listed) :
    ∀ (d i : Nat), n - i = d → i < n → pureB md ops i = false → listed.getD i true = false → ∀ t, n ≤ t → t ∉ Region.ready md ops listed := by
  intro d
  induction d using Nat.strongRecOn with
  | _ d ih =>
    intro i hd hi hpi hun t ht hr
    obtain ⟨_, ot, hot, hall⟩ := mem_ready.1 hr
    have htlt : t < ops.size := (Array.getElem?_eq_some_iff.1 hot).1
    by_cases htn : t = n
    · subst htn
      have h1 := List.all_eq_true.1 hs i (List.mem_range.2 hi)
      rw [hpi, Bool.false_or] at h1
      obtain ⟨j, hj, hj2⟩ := List.any_eq_true.1 h1
      simp only [Bool.and_eq_true, decide_eq_true_eq] at hj2
      obtain ⟨oj, hoj, e, he, hb, hon⟩ := Region.waitsFor_spec hj2.2
      have hjle : j ≤ t := by have := List.mem_range.1 hj; omega
      by_cases hjt : j = t
      · subst hjt
        have : oj = ot := Option.some.inj (hoj.symm.trans hot)
        subst this
        have h2 := hall e he hb
        rw [hon, getD_both hun] at h2
        cases h2
      · cases hl : listed.getD j false with
        | true =>
          have h2 := inv.closed j oj hoj hl e he hb
          rw [hon, getD_both hun] at h2
          cases h2
        | false =>
          have hjs : j < listed.size := by rw [inv.size]; omega
          exact ih (t - j) (by omega) j rfl (by omega) (waits_not_pure hj2.2) (getD_in hjs hl) t (Nat.le_refl _) hr
    · have h1 := List.all_eq_true.1 hc t (List.mem_range.2 htlt)
      simp only [Bool.or_eq_true, decide_eq_true_eq] at h1
      rcases h1 with h1 | h1
      · omega
      · obtain ⟨o', ho', e, he, hb, hon⟩ := Region.waitsFor_spec h1
        have : o' = ot := Option.some.inj (ho'.symm.trans hot)
        subst this
        have h2 := hall e he hb
        rw [hon, getD_both (inv.tail (t - 1) (by omega) (by omega))] at h2
        cases h2
/-- the bounds of the head: nothing of the tail is ready before all of the head is through, but for moves -/
def headOk (md : Region.Mode) (ops : Array Oper) (n : Nat) (listed : Array Bool) : Prop := n = ops.size ∨ (n < ops.size ∧ sinkP md ops n = true ∧ Region.chainB md ops n = true ∧ HeadInv md ops n listed)
theorem headOk.lt {n i : Nat} {listed : Array Bool} (h : headOk md ops n listed) (hin : i < n) (hp : pureB md ops i = false) (hun : listed.getD i true = false) : ∀ j ∈ Region.ready md ops listed, j < n := by
  intro j hj
  rcases h with rfl | ⟨hn, hs, hc, inv⟩
  · obtain ⟨_, o, ho, _⟩ := mem_ready.1 hj
    exact (Array.getElem?_eq_some_iff.1 ho).1
  · rcases Nat.lt_or_ge j n with h | h
    · exact h
    · exact absurd hj (tail_waitsP hs hc hn inv _ i rfl hin hp hun j h)
theorem headOk.set {n i : Nat} {listed : Array Bool} (h : headOk md ops n listed) (hi : i ∈ Region.ready md ops listed) (hin : i < n) : headOk md ops n (listed.setIfInBounds i true) := by
  rcases h with h | ⟨hn, hs, hc, inv⟩
  · exact .inl h
  · exact .inr ⟨hn, hs, hc, inv.set hi hin⟩
theorem wpOp_pure {j : Nat} (hp : pureB md ops j = true) {K : Act → World → Prop} {a : Act} {w : World} (h : wpOp P ops Q j K a w) : wpOp P ops Q j (fun a' w' => K a' w' ∧ w' = w) a w := by
  obtain ⟨d, x, T, pos, af, hj, _⟩ := pureB_spec hp
  unfold Go.wpOp at *
  simp only [hj, Region.wanted, if_true] at *
  rcases h with h | h
  · refine .inl ?_
    simp only [Oper.wp, execOp, Sem.run_pure, Oper.upon] at *
    simp_all
  · exact .inr h
end

/-! one way through all orders: what only looks may be taken first; what is alone must come next -/
section
variable {P : Program} {ops : Array Oper} {md : Region.Mode} {Q : Exit → Act → World → Prop}

def wpAnyB (P : Program) (md : Region.Mode) (ops : Array Oper) (nh : Nat) (I : World → Prop) (Q : Exit → Act → World → Prop) : Nat → Array Bool → Act → World → Prop
  | 0, listed, a, w => Region.ready md ops listed = [] ∧ Q .normal a w
  | f + 1, listed, a, w => (Region.ready md ops listed = [] → Q .normal a w) ∧ ∀ i ∈ Region.ready md ops listed, wpOp P ops Q i (fun a' w' => (i < nh → pureB md ops i = false → I w') ∧ wpAnyB P md ops nh I Q f (listed.setIfInBounds i true) a' w') a w
theorem wpAny_of_B {nh : Nat} {I : World → Prop} : ∀ (f : Nat) (listed : Array Bool) (a : Act) (w : World), wpAnyB P md ops nh I Q f listed a w → wpAny P md ops Q f listed a w
  | 0, _, _, _, h => h
  | f + 1, _, _, _, h => ⟨h.1, fun i hi => wpOp_mono (fun a' w' h' => wpAny_of_B f _ a' w' h'.2) (h.2 i hi)⟩

/-- gives v and leaves the world, in every world that keeps what was there -/
def YieldsB (P : Program) (ops : Array Oper) (I : World → Prop) (o : Oper) (v : Value) (a : Act) : Prop :=
  (Region.wanted o (yielded ops a.tmps) = true ∧ ∀ w', I w' → (execOp a.eval o).run P w' = .ok (.value v) w') ∨ (Region.wanted o (yielded ops a.tmps) = false ∧ v = undef)
theorem YieldsB.of_same {o : Oper} {v : Value} {a a' : Act} {I : World → Prop} (hy : YieldsB P ops I o v a) (he : execOp a'.eval o = execOp a.eval o)
    (hw : Region.wanted o (yielded ops a'.tmps) = Region.wanted o (yielded ops a.tmps)) : YieldsB P ops I o v a' := by
  unfold YieldsB at *
  rw [he, hw]
  exact hy
theorem YieldsB.wpOp {i : Nat} {o : Oper} {v : Value} {a : Act} {I : World → Prop} {w : World} (hb : I w) (hi : ops[i]? = some o) (hy : YieldsB P ops I o v a)
    {K : Act → World → Prop} (h : K (a.put o.dst v) w) : wpOp P ops Q i K a w := by
  unfold Go.wpOp
  simp only [hi]
  rcases hy with ⟨hw, hv⟩ | ⟨hw, rfl⟩
  · simp only [hw, if_true, Oper.wp, hv w hb, Oper.upon]; exact .inl h
  · simp only [hw, Bool.false_eq_true, if_false]; exact h

theorem wpOp_putB {j : Nat} {oi oj : Oper} {v : Value} (hj : ops[j]? = some oj) (hap : oi.apart ops oj = true)
    (hsi : ∀ cs b, oi.op ≠ .select cs b) (hsj : ∀ cs b, oj.op ≠ .select cs b)
    (hQ : ∀ c a w, Q (.panic c) (a.put oi.dst v) w → Q (.panic c) a w) {K : Act → World → Prop} {a : Act} {I : World → Prop} {w : World}
    (hy : YieldsB P ops I oi v a) (h : wpOp P ops Q j K (a.put oi.dst v) w) :
    wpOp P ops Q j (fun a' w' => YieldsB P ops I oi v a' ∧ K (a'.put oi.dst v) w') a w := by
  obtain ⟨h1, h2, h3⟩ := Oper.apart_spec hap
  have keep : ∀ (a : Act), YieldsB P ops I oi v a → ∀ u, YieldsB P ops I oi v (a.put oj.dst u) := fun a hy u =>
    hy.of_same (execOp_put oi hsi a oj.dst u h3) (wanted_put oi a oj.dst u h3)
  have keepD : ∀ d, YieldsB P ops I oi v { a with defers := d :: a.defers } := fun d => hy.of_same rfl rfl
  unfold wpOp at *
  simp only [hj] at *
  rw [wanted_put oj a oi.dst v h1] at h
  split
  · rename_i hw
    simp only [hw, if_true] at h
    rcases h with h | ⟨hasks, hlets⟩
    case inr => exact .inr ⟨by unfold Oper.asks at *; rw [execOp_put oj hsj a oi.dst v h1] at hasks; exact hasks, hlets⟩
    refine .inl ?_
    unfold Oper.wp at *
    rw [execOp_put oj hsj a oi.dst v h1] at h
    generalize (execOp a.eval oj).run P w = r at *
    cases r with
    | ok n w' =>
      cases n <;> simp only [Oper.upon] at h ⊢
      case value u => exact ⟨keep a hy u, by rw [← Act.put_comm a v u h2]; exact h⟩
      case skip => exact ⟨keep a hy _, by rw [← Act.put_comm a v undef h2]; exact h⟩
      case defer d =>
        refine ⟨keep _ (keepD d) _, ?_⟩
        rw [← Act.put_comm _ v undef h2, ← Act.put_defers]
        exact h
      case enter f args =>
        refine Calls.mono h fun e w'' he => ?_
        cases e with
        | returned u => exact ⟨keep a hy u, by rw [← Act.put_comm a v u h2]; exact he⟩
        | panicked c => exact hQ _ _ _ he
        | outgrown => exact he
      case row row args => exact Rows.mono h fun u w'' he => ⟨keep a hy u, by rw [← Act.put_comm a v u h2]; exact he⟩
    | halt x w' =>
      cases x <;> simp only [Oper.upon] at h ⊢
      case panic u => exact hQ _ _ _ h
  · rename_i hw
    simp only [hw] at h
    exact ⟨keep a hy _, by rw [← Act.put_comm a v undef h2]; exact h⟩

theorem wpAnyB_first {nh i : Nat} {I : World → Prop} {oi : Oper} {v : Value} (hi : ops[i]? = some oi) (hsel : ∀ (j : Nat) (o : Oper) cs b, ops[j]? = some o → o.op ≠ .select cs b)
    (hin : i < nh) (hpi : pureB md ops i = false) (hQ : ∀ c a w, Q (.panic c) (a.put oi.dst v) w → Q (.panic c) a w) :
    ∀ (fuel : Nat) (listed : Array Bool) (a : Act) (w : World), I w → headOk md ops nh listed →
      (∀ j oj, ops[j]? = some oj → j ≠ i → listed.getD j true = false → (∀ e ∈ oj.after, Region.binds md e = true → e.on ≠ i) → oi.apart ops oj = true) →
      i ∈ Region.ready md ops listed → YieldsB P ops I oi v a →
      wpAnyB P md ops nh I Q fuel (listed.setIfInBounds i true) (a.put oi.dst v) w → wpAnyB P md ops nh I Q (fuel + 1) listed a w := by
  intro fuel
  induction fuel with
  | zero =>
    intro listed a w hb _ _ hr hy H
    refine ⟨fun h => (by rw [h] at hr; cases hr), fun j hj => ?_⟩
    by_cases hji : j = i
    · subst hji; exact hy.wpOp hb hi ⟨fun _ _ => hb, H⟩
    · have := ready_mono hj hji
      rw [H.1] at this
      cases this
  | succ fuel ih =>
    intro listed a w hb hinv hfree hr hy H
    refine ⟨fun h => (by rw [h] at hr; cases hr), fun j hj => ?_⟩
    by_cases hji : j = i
    · subst hji; exact hy.wpOp hb hi ⟨fun _ _ => hb, H⟩
    · have h1 := H.2 j (ready_mono hj hji)
      obtain ⟨hjun, oj, hoj, hall⟩ := mem_ready.1 hj
      have hnot : ∀ e ∈ oj.after, Region.binds md e = true → e.on ≠ i := fun e he hb heq => by
        have h1 := hall e he hb
        rw [heq, getD_both (mem_ready.1 hr).1] at h1
        cases h1
      have h2 := wpOp_putB hoj (hfree j oj hoj hji hjun hnot) (fun cs b => hsel i oi cs b hi) (fun cs b => hsel j oj cs b hoj) hQ hy h1
      have hfree' : ∀ k ok, ops[k]? = some ok → k ≠ i → (listed.setIfInBounds j true).getD k true = false →
          (∀ e ∈ ok.after, Region.binds md e = true → e.on ≠ i) → oi.apart ops ok = true := fun k ok hk hki hun hno => by
        refine hfree k ok hk hki ?_ hno
        by_cases hjk : j = k
        · subst hjk; exact hjun
        · rw [getD_set_ne true hjk] at hun; exact hun
      have hjn := hinv.lt hin hpi (mem_ready.1 hr).1 j hj
      cases hpj : pureB md ops j with
      | true =>
        refine wpOp_mono (fun a' w' h3 => ⟨fun _ h => (by cases h), ih (listed.setIfInBounds j true) a' w' (by rw [h3.2]; exact hb) (hinv.set hj hjn) hfree' (ready_mono hr (Ne.symm hji)) h3.1.1 ?_⟩) (wpOp_pure hpj h2)
        rw [Array.setIfInBounds_comm _ _ hji]
        exact h3.1.2.2
      | false =>
        refine wpOp_mono (fun a' w' h3 => ⟨fun h _ => h3.2.1 h hpj, ih (listed.setIfInBounds j true) a' w' (h3.2.1 hjn hpj) (hinv.set hj hjn) hfree' (ready_mono hr (Ne.symm hji)) h3.1 ?_⟩) h2
        rw [Array.setIfInBounds_comm _ _ hji]
        exact h3.2.2
/-- a move may be taken first, wherever it comes -/
theorem wpAnyB_firstP {nh i : Nat} {I : World → Prop} {oi : Oper} {v : Value} (hi : ops[i]? = some oi) (hsel : ∀ (j : Nat) (o : Oper) cs b, ops[j]? = some o → o.op ≠ .select cs b)
    (hpi : pureB md ops i = true) (hQ : ∀ c a w, Q (.panic c) (a.put oi.dst v) w → Q (.panic c) a w) :
    ∀ (fuel : Nat) (listed : Array Bool) (a : Act) (w : World),
      (∀ j oj, ops[j]? = some oj → j ≠ i → listed.getD j true = false → (∀ e ∈ oj.after, Region.binds md e = true → e.on ≠ i) → oi.apart ops oj = true) →
      i ∈ Region.ready md ops listed → YieldsB P ops (fun _ => True) oi v a →
      wpAnyB P md ops nh I Q fuel (listed.setIfInBounds i true) (a.put oi.dst v) w → wpAnyB P md ops nh I Q (fuel + 1) listed a w := by
  intro fuel
  induction fuel with
  | zero =>
    intro listed a w _ hr hy H
    refine ⟨fun h => (by rw [h] at hr; cases hr), fun j hj => ?_⟩
    by_cases hji : j = i
    · subst hji; exact hy.wpOp trivial hi ⟨fun _ h => (by rw [hpi] at h; cases h), H⟩
    · have := ready_mono hj hji
      rw [H.1] at this
      cases this
  | succ fuel ih =>
    intro listed a w hfree hr hy H
    refine ⟨fun h => (by rw [h] at hr; cases hr), fun j hj => ?_⟩
    by_cases hji : j = i
    · subst hji; exact hy.wpOp trivial hi ⟨fun _ h => (by rw [hpi] at h; cases h), H⟩
    · have h1 := H.2 j (ready_mono hj hji)
      obtain ⟨hjun, oj, hoj, hall⟩ := mem_ready.1 hj
      have hnot : ∀ e ∈ oj.after, Region.binds md e = true → e.on ≠ i := fun e he hb heq => by
        have h1 := hall e he hb
        rw [heq, getD_both (mem_ready.1 hr).1] at h1
        cases h1
      have h2 := wpOp_putB hoj (hfree j oj hoj hji hjun hnot) (fun cs b => hsel i oi cs b hi) (fun cs b => hsel j oj cs b hoj) hQ hy h1
      have hfree' : ∀ k ok, ops[k]? = some ok → k ≠ i → (listed.setIfInBounds j true).getD k true = false →
          (∀ e ∈ ok.after, Region.binds md e = true → e.on ≠ i) → oi.apart ops ok = true := fun k ok hk hki hun hno => by
        refine hfree k ok hk hki ?_ hno
        by_cases hjk : j = k
        · subst hjk; exact hjun
        · rw [getD_set_ne true hjk] at hun; exact hun
      refine wpOp_mono (fun a' w' h3 => ⟨h3.2.1, ih (listed.setIfInBounds j true) a' w' hfree' (ready_mono hr (Ne.symm hji)) h3.1 ?_⟩) h2
      rw [Array.setIfInBounds_comm _ _ hji]
      exact h3.2.2
theorem YieldsB.pure {i : Nat} {o : Oper} {v : Value} {a : Act} {I : World → Prop} {w : World} (hi : ops[i]? = some o) (hp : pureB md ops i = true) (hI : I w) (hy : YieldsB P ops I o v a) : YieldsB P ops (fun _ => True) o v a := by
  obtain ⟨d, x, T, pos, af, hj, _⟩ := pureB_spec hp
  rw [hi] at hj
  cases hj
  rcases hy with ⟨hw, hv⟩ | ⟨hw, _⟩
  · refine .inl ⟨hw, fun w' _ => ?_⟩
    have h1 := hv w hI
    simp only [execOp, Sem.run_pure] at h1 ⊢
    injection h1 with h1 h2
    rw [h1]
  · simp [Region.wanted] at hw
end

/-- the way: what only looks may be taken first; what is alone comes next; two may come next, and then the other one; or each of two, with its own way behind it -/
inductive Sched where
  | nil
  | look (i : Nat) (r : Sched)
  | one (i : Nat) (r : Sched)
  | pair (i j : Nat) (r : Sched)
  | fork (i j : Nat) (ri rj : Sched)
  | fork3 (i j k : Nat) (ri rj rk : Sched)
def ways : Sched → Nat
  | .nil => 0
  | .look _ r => ways r + 1
  | .one _ r => ways r + 1
  | .pair _ _ r => ways r + 2
  | .fork _ _ ri _ => ways ri + 1
  | .fork3 _ _ _ ri _ _ => ways ri + 1
def ones : Sched → Bool
  | .nil => true
  | .one _ r => ones r
  | _ => false
def mixOk (ops : Array Oper) (nh : Nat) : Array Bool → Sched → Bool
  | listed, .nil => (Region.ready .any ops listed).isEmpty
  | listed, .look i r => decide (i < nh) && (Region.ready .any ops listed).contains i && Region.free .any ops listed i && mixOk ops nh (listed.setIfInBounds i true) r
  | listed, .one i r => decide (Region.ready .any ops listed = [i]) && mixOk ops nh (listed.setIfInBounds i true) r
  | listed, .pair i j r => decide (i < nh) && decide (j < nh) && decide (i ≠ j) && decide (Region.ready .any ops listed = [i, j]) && decide (Region.ready .any ops (listed.setIfInBounds i true) = [j]) && decide (Region.ready .any ops (listed.setIfInBounds j true) = [i]) && mixOk ops nh ((listed.setIfInBounds i true).setIfInBounds j true) r
  | listed, .fork i j ri rj => decide (i < nh) && decide (j < nh) && decide (Region.ready .any ops listed = [i, j]) && decide (ways ri = ways rj) && mixOk ops nh (listed.setIfInBounds i true) ri && mixOk ops nh (listed.setIfInBounds j true) rj
  | listed, .fork3 i j k ri rj rk => decide (i < nh) && decide (j < nh) && decide (k < nh) && decide (Region.ready .any ops listed = [i, j, k]) && decide (ways ri = ways rj) && decide (ways ri = ways rk) && mixOk ops nh (listed.setIfInBounds i true) ri && mixOk ops nh (listed.setIfInBounds j true) rj && mixOk ops nh (listed.setIfInBounds k true) rk

@[irreducible] def ML (P : Program) (n : Nat) (ops : Array Oper) (nh : Nat) (I : World → Prop) (Q : Exit → Fr → World → Prop) (r : Sched) (f : Fr) (w : World) : Prop :=
  ∀ listed a, Region.noSelect ops = true → mixOk ops nh listed r = true → (headOk .any ops nh listed ∧ I w ∨ ones r = true) → Rel n a f → (∀ (c : List PanicEntry) f f1 w, Q (.panic c) f w → Q (.panic c) f1 w) →
    wpAnyB P .any ops nh I (fun e a' w' => ∃ f', Rel n a' f' ∧ Q e f' w') (ways r) listed a w
section
variable {P : Program} {n nh : Nat} {I : World → Prop} {w1 : World} {ops : Array Oper} {Q : Exit → Fr → World → Prop} {r : Sched} {f : Fr} {w : World}
theorem ML.nil (h : Q .normal f w) : ML P n ops nh I Q .nil f w := by
  unfold ML
  intro listed a _ hok _ ha _
  exact ⟨by simpa [mixOk] using hok, f, ha, h⟩
theorem ML.look' {i : Nat} {o : Oper} {v : Value} (hi : ops[i]? = some o) (hd : ∀ x, o.dst = some x → x < n)
    (hy : ∀ a, Rel n a f → YieldsB P ops I o v a) (hr : ML P n ops nh I Q r (putO f o.dst v) w) : ML P n ops nh I Q (.look i r) f w := by
  unfold ML at hr ⊢
  intro listed a hsel hok hinv ha hnp
  simp only [mixOk, Bool.and_eq_true, decide_eq_true_eq] at hok
  obtain ⟨⟨⟨h0, h1⟩, h2⟩, h3⟩ := hok
  have hinv : headOk .any ops nh listed ∧ I w := hinv.resolve_right (fun h => by cases h)
  have h1' : i ∈ Region.ready .any ops listed := by simpa using h1
  cases hpi : pureB .any ops i with
  | true =>
    refine wpAnyB_firstP hi (Region.noSelect_spec hsel) hpi (fun c a w ⟨f', hr', h⟩ => ⟨_, hr'.unput, hnp c f' _ w h⟩) (ways r) listed a w (Region.free_spec hi h2) (by simpa using h1) ((hy a ha).pure hi hpi hinv.2) ?_
    exact hr _ _ hsel h3 (.inl ⟨hinv.1.set h1' h0, hinv.2⟩) (ha.put hd v) hnp
  | false =>
  refine wpAnyB_first hi (Region.noSelect_spec hsel) h0 hpi (fun c a w ⟨f', hr', h⟩ => ⟨_, hr'.unput, hnp c f' _ w h⟩) (ways r) listed a w hinv.2 hinv.1 (Region.free_spec hi h2) (by simpa using h1) (hy a ha) ?_
  exact hr _ _ hsel h3 (.inl ⟨hinv.1.set h1' h0, hinv.2⟩) (ha.put hd v) hnp
theorem opW_val {f : Fr} {o : Oper} {w : World} {v : Value} (h : opW P f o w (fun u w' => u = v ∧ w' = w)) (hc : ∀ g args w', (execOp (ev f) o).run P w ≠ .ok (.enter g args) w') (hs : ∀ w', (execOp (ev f) o).run P w ≠ .ok .skip w') : (execOp (ev f) o).run P w = .ok (.value v) w := by
  unfold opW at h
  generalize hr : (execOp (ev f) o).run P w = r at *
  cases r with
  | ok x w' =>
    cases x <;> first
      | (exact absurd rfl (hs _))
      | (exact absurd rfl (hc _ _ _))
      | (obtain ⟨rfl, rfl⟩ := h; rfl)
      | exact (h : False).elim
  | halt x w' => exact (h : False).elim
/-- one of Go's own operations gives a value, calls nothing -/
def Op.looks : Op → Bool
  | .call { callee := .builtin .len, .. } | .call { callee := .builtin .min, .. } | .call { callee := .builtin .max, .. } | .call { callee := .builtin .cap, .. } => true
  | .move _ | .assign _ | .pick .. | .load .. | .binOp .. | .unOp .. | .convert .. | .slice .. | .fieldAddr .. | .field .. | .indexAddr .. | .index .. | .extract .. | .build .. | .makeInterface .. | .lookup .. | .nilCheck .. => true
  | _ => false
theorem looks_value {ρ : Operand → Value} {o : Oper} (h : Op.looks o.op = true) (P : Program) (w : World) : (∀ g args w', (execOp ρ o).run P w ≠ .ok (.enter g args) w') ∧ ∀ w', (execOp ρ o).run P w ≠ .ok .skip w' := by
  have key : ∀ (s : Sem Value), (∀ g args w', ((do pure (.value (← s)) : Sem Next)).run P w ≠ .ok (.enter g args) w') ∧ ∀ w', ((do pure (.value (← s)) : Sem Next)).run P w ≠ .ok .skip w' := by
    intro s
    simp only [Sem.run_bind]
    cases s.run P w <;> simp
  obtain ⟨dst, op, T, pos, af, gd⟩ := o
  cases op
  case call c =>
    obtain ⟨callee, args, ts⟩ := c
    cases callee
    case builtin b => cases b <;> simp [Op.looks] at h <;> exact key _
    all_goals simp [Op.looks] at h
  case nilCheck x =>
    simp only [execOp]
    split
    all_goals try (simp [runtimePanic]; done)
    split
    all_goals try (simp [runtimePanic]; done)
    rename_i t0 w1 _
    simp [unsupported]
    generalize Sem.run P (nilAhead _ _ _ _) w = q
    cases q with
    | ok b w2 => cases b with
      | none => simp [Result.andThen]
      | some b => cases b <;> simp [Result.andThen]
    | halt x w2 => simp [Result.andThen]
  all_goals first
    | (simp [Op.looks] at h; done)
    | exact key _
    | (simp only [execOp]; simp; done)
    | (simp only [execOp, Sem.run_bind]; generalize Sem.run P _ _ = q; cases q <;> simp)
theorem ML.look {i d : Nat} {op : Op} {T : TypeId} {pos : String} {af : Array Edge} {E : Value} (hi : ops[i]? = some ⟨some d, op, T, pos, af, none⟩) (hl : Op.looks op = true) (hd : Nat.blt d n = true)
    (h : ∀ w', I w' → opW P f ⟨some d, op, T, pos, af, none⟩ w' (fun v w'' => v = E ∧ w'' = w')) (hr : ML P n ops nh I Q r (upd f d E) w) : ML P n ops nh I Q (.look i r) f w :=
  ML.look' hi (by intro x hx; cases hx; simpa using hd) (fun a ha => .inl ⟨rfl, fun w' hw' => by
    rw [ha.eval]
    obtain ⟨h1, h2⟩ := looks_value (ρ := ev f) (o := ⟨some d, op, T, pos, af, none⟩) hl P w'
    exact opW_val (h w' hw') h1 h2⟩) hr
theorem ML.lookG2 {i d : Nat} {op : Op} {T : TypeId} {pos : String} {af : Array Edge} {g : Nat} {want : Bool} {E : Value} (G b : Bool) (t : Nat) (hi : ops[i]? = some ⟨some d, op, T, pos, af, some (g, want)⟩) (hl : Op.looks op = true) (hd : Nat.blt d n = true)
    (hg : (ops[g]?).bind (·.dst) = some t) (ht : Nat.blt t n = true) (hb : f t = gv G (.bool b))
    (h : (G && (b == want)) = true → ∀ w', I w' → opW P f ⟨some d, op, T, pos, af, none⟩ w' (fun v w'' => v = E ∧ w'' = w')) (hr : ML P n ops nh I Q r (upd f d (gv (G && (b == want)) E)) w) : ML P n ops nh I Q (.look i r) f w := by
  refine ML.look' (v := gv (G && (b == want)) E) hi (by intro x hx; cases hx; simpa using hd) (fun a ha => ?_) hr
  have hwant : Region.wanted ⟨some d, op, T, pos, af, some (g, want)⟩ (yielded ops a.tmps) = (G && (b == want)) := by
    simp only [Region.wanted]
    have : yielded ops a.tmps g = if G then some b else none := by
      unfold yielded
      simp only [hg, Option.bind_some, tmps_at ha (t := t) (by simpa using ht), hb]
      cases G
      · rw [gv_false rfl]; rfl
      · rw [gv_true rfl]; rfl
    rw [this]
    cases G <;> simp
  cases hG : (G && (b == want)) with
  | true =>
    refine .inl ⟨by rw [hwant, hG], fun w' hw' => ?_⟩
    rw [ha.eval, gv_true rfl]
    obtain ⟨h1, h2⟩ := looks_value (ρ := ev f) (o := ⟨some d, op, T, pos, af, none⟩) hl P w'
    have := opW_val (h hG w' hw') h1 h2
    exact this
  | false => exact .inr ⟨by rw [hwant, hG], gv_false rfl E⟩
theorem ML.lookG {i d : Nat} {op : Op} {T : TypeId} {pos : String} {af : Array Edge} {g : Nat} {want : Bool} {E : Value} (b : Bool) (t : Nat) (hi : ops[i]? = some ⟨some d, op, T, pos, af, some (g, want)⟩) (hl : Op.looks op = true) (hd : Nat.blt d n = true)
    (hg : (ops[g]?).bind (·.dst) = some t) (ht : Nat.blt t n = true) (hb : f t = .bool b)
    (h : (b == want) = true → ∀ w', I w' → opW P f ⟨some d, op, T, pos, af, none⟩ w' (fun v w'' => v = E ∧ w'' = w')) (hr : ML P n ops nh I Q r (upd f d (gv (b == want) E)) w) : ML P n ops nh I Q (.look i r) f w :=
  ML.lookG2 true b t hi hl hd hg ht (by rw [hb, gv_true rfl]) (by simpa using h) (by simpa using hr)
/-- a guard that is known to be met -/
theorem ML.lookT {i d : Nat} {op : Op} {T : TypeId} {pos : String} {af : Array Edge} {g : Nat} {want : Bool} {E : Value} (t : Nat) (hi : ops[i]? = some ⟨some d, op, T, pos, af, some (g, want)⟩) (hl : Op.looks op = true) (hd : Nat.blt d n = true)
    (hg : (ops[g]?).bind (·.dst) = some t) (ht : Nat.blt t n = true) (hb : f t = .bool want)
    (h : ∀ w', I w' → opW P f ⟨some d, op, T, pos, af, none⟩ w' (fun v w'' => v = E ∧ w'' = w')) (hr : ML P n ops nh I Q r (upd f d E) w) : ML P n ops nh I Q (.look i r) f w :=
  ML.lookG (E := E) want t hi hl hd hg ht hb (fun _ => h) (by rw [gv_true (by simp)]; exact hr)

/-- what is alone keeps what was there, or nothing is looked at behind it -/
def Later (nh i : Nat) (r : Sched) (I : World → Prop) (w' : World) : Prop := (i < nh → I w') ∧ (i < nh ∨ ones r = true)
theorem ML.one' {i : Nat} {o : Oper} (hi : ops[i]? = some o) (h : ∀ a, Rel n a f → wpOp P ops (fun e a' w' => ∃ f', Rel n a' f' ∧ Q e f' w') i (fun a' w' => Later nh i r I w' ∧ ∃ f', Rel n a' f' ∧ ML P n ops nh I Q r f' w') a w) : ML P n ops nh I Q (.one i r) f w := by
  unfold ML at h ⊢
  intro listed a hsel hok hinv ha hnp
  simp only [mixOk, Bool.and_eq_true, decide_eq_true_eq] at hok
  obtain ⟨h1, h3⟩ := hok
  refine ⟨fun h0 => (by rw [h1] at h0; cases h0), fun j hj => ?_⟩
  rw [h1] at hj
  have hji : j = i := by simpa using hj
  subst hji
  refine wpOp_mono (fun a' w' ⟨hb, f', hr', hm⟩ => ⟨fun h _ => hb.1 h, hm _ _ hsel h3 ?_ hr' hnp⟩) (h a ha)
  rcases hb.2 with hlt | hall
  · rcases hinv with hinv | hall
    · exact .inl ⟨hinv.1.set (by rw [h1]; simp) hlt, hb.1 hlt⟩
    · exact .inr hall
  · exact .inr hall
theorem ML.one {i d : Nat} {op : Op} {T : TypeId} {pos : String} {af : Array Edge} (hi : ops[i]? = some ⟨some d, op, T, pos, af, none⟩) (hd : Nat.blt d n = true)
    (hlt : Nat.blt i nh = true) (h : opW P f ⟨some d, op, T, pos, af, none⟩ w (fun v w' => I w' ∧ ML P n ops nh I Q r (upd f d v) w')) : ML P n ops nh I Q (.one i r) f w := by
  have hlt : i < nh := by simpa using hlt
  refine ML.one' hi fun a ha => ?_
  unfold wpOp
  simp only [hi, Region.wanted, if_true]
  exact .inl (wp_of_opW ha h fun v w' ⟨hb, hm⟩ => ⟨⟨fun _ => hb, .inl hlt⟩, _, ha.put (dst := some d) (by intro x hx; cases hx; simpa using hd) v, hm⟩)
theorem ML.one0 {i : Nat} {op : Op} {T : TypeId} {pos : String} {af : Array Edge} (hi : ops[i]? = some ⟨none, op, T, pos, af, none⟩)
    (hlt : Nat.blt i nh = true) (h : opW P f ⟨none, op, T, pos, af, none⟩ w (fun _ w' => I w' ∧ ML P n ops nh I Q r f w')) : ML P n ops nh I Q (.one i r) f w := by
  have hlt : i < nh := by simpa using hlt
  refine ML.one' hi fun a ha => ?_
  unfold wpOp
  simp only [hi, Region.wanted, if_true]
  exact .inl (wp_of_opW ha h fun v w' ⟨hb, hm⟩ => ⟨⟨fun _ => hb, .inl hlt⟩, _, ha.put (dst := none) (by intro x hx; cases hx) v, hm⟩)
/-- two that may come in either order -/
theorem ML.pair {i j di dj : Nat} {opi opj : Op} {Ti Tj : TypeId} {posi posj : String} {afi afj : Array Edge} (M : Value → Value → World → Prop) (hi : ops[i]? = some ⟨some di, opi, Ti, posi, afi, none⟩) (hj : ops[j]? = some ⟨some dj, opj, Tj, posj, afj, none⟩)
    (hdi : Nat.blt di n = true) (hdj : Nat.blt dj n = true) (hne : Nat.beq di dj = false)
    (h1 : opW P f ⟨some di, opi, Ti, posi, afi, none⟩ w (fun vi w' => I w' ∧ opW P (upd f di vi) ⟨some dj, opj, Tj, posj, afj, none⟩ w' (fun vj w'' => I w'' ∧ M vi vj w'')))
    (h2 : opW P f ⟨some dj, opj, Tj, posj, afj, none⟩ w (fun vj w' => I w' ∧ opW P (upd f dj vj) ⟨some di, opi, Ti, posi, afi, none⟩ w' (fun vi w'' => I w'' ∧ M vi vj w'')))
    (hr : ∀ vi vj w', M vi vj w' → ML P n ops nh I Q r (upd (upd f di vi) dj vj) w') : ML P n ops nh I Q (.pair i j r) f w := by
  have hdi : di < n := by simpa using hdi
  have hdj : dj < n := by simpa using hdj
  have hne : di ≠ dj := by intro e; subst e; simp at hne
  unfold ML at hr ⊢
  intro listed a hsel hok hinv ha hnp
  simp only [mixOk, Bool.and_eq_true, decide_eq_true_eq] at hok
  obtain ⟨⟨⟨⟨⟨⟨g1, g2⟩, g0⟩, g3⟩, g4⟩, g5⟩, g6⟩ := hok
  have hinv : headOk .any ops nh listed := (hinv.resolve_right (fun h => by cases h)).1
  have hcomm : ∀ (vi vj : Value), upd (upd f di vi) dj vj = upd (upd f dj vj) di vi := by
    intro vi vj; funext x
    by_cases e1 : x = dj
    · rw [e1, upd_same, upd_ne _ _ (Ne.symm hne), upd_same]
    · by_cases e2 : x = di
      · rw [e2, upd_ne _ _ hne, upd_same, upd_same]
      · rw [upd_ne _ _ e1, upd_ne _ _ e2, upd_ne _ _ e2, upd_ne _ _ e1]
  have hl : (listed.setIfInBounds i true).setIfInBounds j true = (listed.setIfInBounds j true).setIfInBounds i true := Array.setIfInBounds_comm _ _ g0
  have hri : i ∈ Region.ready .any ops listed := by rw [g3]; simp
  have hrj : j ∈ Region.ready .any ops listed := by rw [g3]; simp
  have hh : headOk .any ops nh ((listed.setIfInBounds i true).setIfInBounds j true) := (hinv.set hri g1).set (by rw [g4]; simp) g2
  refine ⟨fun h0 => (by rw [g3] at h0; cases h0), fun x hx => ?_⟩
  rw [g3] at hx
  rcases List.mem_cons.1 hx with rfl | hx
  · unfold wpOp
    simp only [hi, Region.wanted, if_true]
    refine .inl (wp_of_opW ha h1 fun vi w' ⟨hI, hk⟩ => ⟨fun _ _ => hI, fun h0 => (by rw [g4] at h0; cases h0), fun y hy => ?_⟩)
    rw [g4] at hy
    obtain rfl : y = j := by simpa using hy
    have ha2 : Rel n (a.put (some di) vi) (upd f di vi) := ha.put (dst := some di) (by intro x hx; cases hx; exact hdi) vi
    unfold wpOp
    simp only [hj, Region.wanted, if_true]
    exact .inl (wp_of_opW ha2 hk fun vj w'' ⟨hI2, hM⟩ => ⟨fun _ _ => hI2, hr vi vj w'' hM _ _ hsel g6 (.inl ⟨hh, hI2⟩) (ha2.put (dst := some dj) (by intro x hx; cases hx; exact hdj) vj) hnp⟩)
  · obtain rfl : x = j := by simpa using hx
    unfold wpOp
    simp only [hj, Region.wanted, if_true]
    refine .inl (wp_of_opW ha h2 fun vj w' ⟨hI, hk⟩ => ⟨fun _ _ => hI, fun h0 => (by rw [g5] at h0; cases h0), fun y hy => ?_⟩)
    rw [g5] at hy
    obtain rfl : y = i := by simpa using hy
    have ha2 : Rel n (a.put (some dj) vj) (upd f dj vj) := ha.put (dst := some dj) (by intro x hx; cases hx; exact hdj) vj
    unfold wpOp
    simp only [hi, Region.wanted, if_true]
    refine .inl (wp_of_opW ha2 hk fun vi w'' ⟨hI2, hM⟩ => ⟨fun _ _ => hI2, ?_⟩)
    rw [← hl]
    exact hr vi vj w'' hM _ _ hsel g6 (.inl ⟨hh, hI2⟩) (by rw [hcomm]; exact ha2.put (dst := some di) (by intro x hx; cases hx; exact hdi) vi) hnp
/-- each of two may come first -/
theorem ML.fork {ri rj : Sched} {i j di dj : Nat} {opi opj : Op} {Ti Tj : TypeId} {posi posj : String} {afi afj : Array Edge} (hi : ops[i]? = some ⟨some di, opi, Ti, posi, afi, none⟩) (hj : ops[j]? = some ⟨some dj, opj, Tj, posj, afj, none⟩)
    (hdi : Nat.blt di n = true) (hdj : Nat.blt dj n = true)
    (h1 : opW P f ⟨some di, opi, Ti, posi, afi, none⟩ w (fun v w' => I w' ∧ ML P n ops nh I Q ri (upd f di v) w'))
    (h2 : opW P f ⟨some dj, opj, Tj, posj, afj, none⟩ w (fun v w' => I w' ∧ ML P n ops nh I Q rj (upd f dj v) w')) : ML P n ops nh I Q (.fork i j ri rj) f w := by
  have hdi : di < n := by simpa using hdi
  have hdj : dj < n := by simpa using hdj
  unfold ML at h1 h2 ⊢
  intro listed a hsel hok hinv ha hnp
  simp only [mixOk, Bool.and_eq_true, decide_eq_true_eq] at hok
  obtain ⟨⟨⟨⟨⟨g1, g2⟩, g3⟩, g4⟩, g5⟩, g6⟩ := hok
  have hho : headOk .any ops nh listed := (hinv.resolve_right (fun h => by cases h)).1
  have hri : i ∈ Region.ready .any ops listed := by rw [g3]; simp
  have hrj : j ∈ Region.ready .any ops listed := by rw [g3]; simp
  refine ⟨fun h0 => (by rw [g3] at h0; cases h0), fun x hx => ?_⟩
  rw [g3] at hx
  rcases List.mem_cons.1 hx with rfl | hx
  · unfold wpOp
    simp only [hi, Region.wanted, if_true]
    exact .inl (wp_of_opW ha h1 fun v w' ⟨hI, hk⟩ => ⟨fun _ _ => hI, hk _ _ hsel g5 (.inl ⟨hho.set hri g1, hI⟩) (ha.put (dst := some di) (by intro x hx; cases hx; exact hdi) v) hnp⟩)
  · obtain rfl : x = j := by simpa using hx
    unfold wpOp
    simp only [hj, Region.wanted, if_true]
    refine .inl (wp_of_opW ha h2 fun v w' ⟨hI, hk⟩ => ⟨fun _ _ => hI, ?_⟩)
    show wpAnyB P .any ops nh I _ (ways ri) _ _ _
    rw [g4]
    exact hk _ _ hsel g6 (.inl ⟨hho.set hrj g2, hI⟩) (ha.put (dst := some dj) (by intro x hx; cases hx; exact hdj) v) hnp
/-- each of three may come first -/
theorem ML.fork3 {ri rj rk : Sched} {i j k di dj dk : Nat} {opi opj opk : Op} {Ti Tj Tk : TypeId} {posi posj posk : String} {afi afj afk : Array Edge} (hi : ops[i]? = some ⟨some di, opi, Ti, posi, afi, none⟩) (hj : ops[j]? = some ⟨some dj, opj, Tj, posj, afj, none⟩) (hk : ops[k]? = some ⟨some dk, opk, Tk, posk, afk, none⟩)
    (hdi : Nat.blt di n = true) (hdj : Nat.blt dj n = true) (hdk : Nat.blt dk n = true)
    (h1 : opW P f ⟨some di, opi, Ti, posi, afi, none⟩ w (fun v w' => I w' ∧ ML P n ops nh I Q ri (upd f di v) w'))
    (h2 : opW P f ⟨some dj, opj, Tj, posj, afj, none⟩ w (fun v w' => I w' ∧ ML P n ops nh I Q rj (upd f dj v) w'))
    (h3 : opW P f ⟨some dk, opk, Tk, posk, afk, none⟩ w (fun v w' => I w' ∧ ML P n ops nh I Q rk (upd f dk v) w')) : ML P n ops nh I Q (.fork3 i j k ri rj rk) f w := by
  have hdi : di < n := by simpa using hdi
  have hdj : dj < n := by simpa using hdj
  have hdk : dk < n := by simpa using hdk
  unfold ML at h1 h2 h3 ⊢
  intro listed a hsel hok hinv ha hnp
  simp only [mixOk, Bool.and_eq_true, decide_eq_true_eq] at hok
  obtain ⟨⟨⟨⟨⟨⟨⟨⟨g1, g2⟩, g2k⟩, g3⟩, g4⟩, g4k⟩, g5⟩, g6⟩, g7⟩ := hok
  have hho : headOk .any ops nh listed := (hinv.resolve_right (fun h => by cases h)).1
  have hri : i ∈ Region.ready .any ops listed := by rw [g3]; simp
  have hrj : j ∈ Region.ready .any ops listed := by rw [g3]; simp
  have hrk : k ∈ Region.ready .any ops listed := by rw [g3]; simp
  refine ⟨fun h0 => (by rw [g3] at h0; cases h0), fun x hx => ?_⟩
  rw [g3] at hx
  rcases List.mem_cons.1 hx with rfl | hx
  · unfold wpOp
    simp only [hi, Region.wanted, if_true]
    exact .inl (wp_of_opW ha h1 fun v w' ⟨hI, hk⟩ => ⟨fun _ _ => hI, hk _ _ hsel g5 (.inl ⟨hho.set hri g1, hI⟩) (ha.put (dst := some di) (by intro x hx; cases hx; exact hdi) v) hnp⟩)
  rcases List.mem_cons.1 hx with rfl | hx
  · unfold wpOp
    simp only [hj, Region.wanted, if_true]
    refine .inl (wp_of_opW ha h2 fun v w' ⟨hI, hk⟩ => ⟨fun _ _ => hI, ?_⟩)
    show wpAnyB P .any ops nh I _ (ways ri) _ _ _
    rw [g4]
    exact hk _ _ hsel g6 (.inl ⟨hho.set hrj g2, hI⟩) (ha.put (dst := some dj) (by intro x hx; cases hx; exact hdj) v) hnp
  · obtain rfl : x = k := by simpa using hx
    unfold wpOp
    simp only [hk, Region.wanted, if_true]
    refine .inl (wp_of_opW ha h3 fun v w' ⟨hI, hk⟩ => ⟨fun _ _ => hI, ?_⟩)
    show wpAnyB P .any ops nh I _ (ways ri) _ _ _
    rw [g4k]
    exact hk _ _ hsel g7 (.inl ⟨hho.set hrk g2k, hI⟩) (ha.put (dst := some dk) (by intro x hx; cases hx; exact hdk) v) hnp
theorem St.merge {w0 w1 w : World} {S T : List Ent} (h1 : St w0 S w1) (h2 : St w1 T w) : St w0 (T ++ S) w := by
  have h3 := h1.bel h2.old
  refine ⟨h3.old, List.pairwise_append.2 ⟨h2.dis, h1.dis, fun a ha b hb k hk hk' => ?_⟩, fun e he => ?_⟩
  · have := ((h2.all a ha).2 k hk).1
    have := ((h1.all b hb).2 k hk').2
    omega
  · rcases List.mem_append.1 he with he | he
    · exact ⟨(h2.all e he).1, fun k hk => ⟨Nat.le_trans h1.old.size ((h2.all e he).2 k hk).1, ((h2.all e he).2 k hk).2⟩⟩
    · exact h3.all e he
theorem St.swap {w0 w : World} {a b : Ent} {S : List Ent} (h : St w0 (a :: b :: S) w) : St w0 (b :: a :: S) w := by
  obtain ⟨h1, h2, h3⟩ := h
  refine ⟨h1, ?_, fun e he => h3 e (by simp only [List.mem_cons] at he ⊢; exact (or_left_comm.1 he))⟩
  obtain ⟨g1, g2⟩ := List.pairwise_cons.1 h2
  obtain ⟨g3, g4⟩ := List.pairwise_cons.1 g2
  refine List.pairwise_cons.2 ⟨fun x hx => ?_, List.pairwise_cons.2 ⟨fun x hx => g1 x (List.mem_cons_of_mem _ hx), g4⟩⟩
  rcases List.mem_cons.1 hx with rfl | hx
  · exact fun k h1 h2 => g1 b List.mem_cons_self k h2 h1
  · exact g3 x hx
/-- two that make new things, in either order -/
theorem ML.pairNew {i j di dj : Nat} {opi opj : Op} {Ti Tj : TypeId} {posi posj : String} {afi afj : Array Edge} {w0 : World} {S : List Ent} (hS0 : St w0 S w) (e1 e2 : Value → Ent) (hi : ops[i]? = some ⟨some di, opi, Ti, posi, afi, none⟩) (hj : ops[j]? = some ⟨some dj, opj, Tj, posj, afj, none⟩)
    (hdi : Nat.blt di n = true) (hdj : Nat.blt dj n = true) (hne : Nat.beq di dj = false)
    (a1 : opW P f ⟨some di, opi, Ti, posi, afi, none⟩ w (fun vi w' => Bel w1 w' ∧ St w0 (e1 vi :: S) w'))
    (a2 : ∀ vi w', Bel w1 w' → St w0 (e1 vi :: S) w' → opW P (upd f di vi) ⟨some dj, opj, Tj, posj, afj, none⟩ w' (fun vj w'' => Bel w1 w'' ∧ St w0 (e2 vj :: e1 vi :: S) w''))
    (b1 : opW P f ⟨some dj, opj, Tj, posj, afj, none⟩ w (fun vj w' => Bel w1 w' ∧ St w0 (e2 vj :: S) w'))
    (b2 : ∀ vj w', Bel w1 w' → St w0 (e2 vj :: S) w' → opW P (upd f dj vj) ⟨some di, opi, Ti, posi, afi, none⟩ w' (fun vi w'' => Bel w1 w'' ∧ St w0 (e1 vi :: e2 vj :: S) w''))
    (hr : ∀ vi vj w', Bel w1 w' → St w0 (e2 vj :: e1 vi :: S) w' → ML P n ops nh (Bel w1) Q r (upd (upd f di vi) dj vj) w') : ML P n ops nh (Bel w1) Q (.pair i j r) f w :=
  ML.pair (fun vi vj w' => Bel w1 w' ∧ St w0 (e2 vj :: e1 vi :: S) w') hi hj hdi hdj hne
    (opW_mono a1 fun vi w' ⟨h1, h2⟩ => ⟨h1, opW_mono (a2 vi w' h1 h2) fun vj w'' ⟨h3, h4⟩ => ⟨h3, h3, h4⟩⟩)
    (opW_mono b1 fun vj w' ⟨h1, h2⟩ => ⟨h1, opW_mono (b2 vj w' h1 h2) fun vi w'' ⟨h3, h4⟩ => ⟨h3, h3, h4.swap⟩⟩)
    (fun vi vj w' ⟨h1, h2⟩ => hr vi vj w' h1 h2)
/-- under a guard: it gives one value, and keeps what was there -/
theorem ML.oneG2 {i d : Nat} {op : Op} {T : TypeId} {pos : String} {af : Array Edge} {g : Nat} {want : Bool} (E : Value) (G b : Bool) (t : Nat) (hb0 : Bel w1 w) (hi : ops[i]? = some ⟨some d, op, T, pos, af, some (g, want)⟩) (hd : Nat.blt d n = true)
    (hg : (ops[g]?).bind (·.dst) = some t) (ht : Nat.blt t n = true) (hb : f t = gv G (.bool b)) (hlt : Nat.blt i nh = true)
    (h : (G && (b == want)) = true → opW P f ⟨some d, op, T, pos, af, none⟩ w (fun v w' => v = E ∧ Bel w w')) (hr : ∀ w', Bel w w' → ML P n ops nh (Bel w1) Q r (upd f d (gv (G && (b == want)) E)) w') : ML P n ops nh (Bel w1) Q (.one i r) f w := by
  have hlt : i < nh := by simpa using hlt
  refine ML.one' hi fun a ha => ?_
  have hwant : Region.wanted ⟨some d, op, T, pos, af, some (g, want)⟩ (yielded ops a.tmps) = (G && (b == want)) := by
    simp only [Region.wanted]
    have : yielded ops a.tmps g = if G then some b else none := by
      unfold yielded
      simp only [hg, Option.bind_some, tmps_at ha (t := t) (by simpa using ht), hb]
      cases G
      · rw [gv_false rfl]; rfl
      · rw [gv_true rfl]; rfl
    rw [this]
    cases G <;> simp
  unfold wpOp
  simp only [hi]
  cases hG : (G && (b == want)) with
  | true =>
    rw [hwant, hG, if_pos rfl]
    refine .inl (wp_of_opW (o := ⟨some d, op, T, pos, af, some (g, want)⟩) ha (R := fun v w' => v = E ∧ Bel w w') ?_ fun v w' ⟨h1, h2⟩ => ⟨⟨fun _ => hb0.trans h2, .inl hlt⟩, _, ha.put (dst := some d) (by intro x hx; cases hx; simpa using hd) v, ?_⟩)
    · have := h hG
      unfold opW at this ⊢
      exact this
    · subst h1
      have := hr w' h2
      rw [hG, gv_true rfl] at this
      exact this
  | false =>
    rw [hwant, hG, if_neg (by simp)]
    refine ⟨⟨fun _ => hb0, .inl hlt⟩, _, ha.put (dst := some d) (by intro x hx; cases hx; simpa using hd) undef, ?_⟩
    have := hr w (Bel.refl w)
    rw [hG, gv_false rfl] at this
    exact this
theorem ML.oneG {i d : Nat} {op : Op} {T : TypeId} {pos : String} {af : Array Edge} {g : Nat} {want : Bool} (E : Value) (b : Bool) (t : Nat) (hb0 : Bel w1 w) (hi : ops[i]? = some ⟨some d, op, T, pos, af, some (g, want)⟩) (hd : Nat.blt d n = true)
    (hg : (ops[g]?).bind (·.dst) = some t) (ht : Nat.blt t n = true) (hb : f t = .bool b) (hlt : Nat.blt i nh = true)
    (h : (b == want) = true → opW P f ⟨some d, op, T, pos, af, none⟩ w (fun v w' => v = E ∧ Bel w w')) (hr : ∀ w', Bel w w' → ML P n ops nh (Bel w1) Q r (upd f d (gv (b == want) E)) w') : ML P n ops nh (Bel w1) Q (.one i r) f w :=
  ML.oneG2 E true b t hb0 hi hd hg ht (by rw [hb, gv_true rfl]) hlt (by simpa using h) (by simpa using hr)
/-- a guard that is known to be met -/
theorem ML.oneT {i d : Nat} {op : Op} {T : TypeId} {pos : String} {af : Array Edge} {g : Nat} {want : Bool} (t : Nat) (hi : ops[i]? = some ⟨some d, op, T, pos, af, some (g, want)⟩) (hd : Nat.blt d n = true)
    (hg : (ops[g]?).bind (·.dst) = some t) (ht : Nat.blt t n = true) (hb : f t = .bool want)
    (hlt : Nat.blt i nh = true) (h : opW P f ⟨some d, op, T, pos, af, none⟩ w (fun v w' => I w' ∧ ML P n ops nh I Q r (upd f d v) w')) : ML P n ops nh I Q (.one i r) f w := by
  have hlt : i < nh := by simpa using hlt
  refine ML.one' hi fun a ha => ?_
  have hwant : Region.wanted ⟨some d, op, T, pos, af, some (g, want)⟩ (yielded ops a.tmps) = true := by
    simp only [Region.wanted]
    have : yielded ops a.tmps g = some want := by
      unfold yielded
      simp only [hg, Option.bind_some, tmps_at ha (t := t) (by simpa using ht), hb]
    rw [this]
    simp
  unfold wpOp
  simp only [hi]
  rw [hwant, if_pos rfl]
  refine .inl (wp_of_opW (o := ⟨some d, op, T, pos, af, some (g, want)⟩) ha (R := fun v w' => I w' ∧ ML P n ops nh I Q r (upd f d v) w') ?_ fun v w' ⟨hb, hm⟩ => ⟨⟨fun _ => hb, .inl hlt⟩, _, ha.put (dst := some d) (by intro x hx; cases hx; simpa using hd) v, hm⟩)
  unfold opW at h ⊢
  exact h
/-- of the tail: it may write -/
theorem ML.put {i : Nat} {d : Option Tmp} {op : Op} {T : TypeId} {pos : String} {af : Array Edge} (hi : ops[i]? = some ⟨d, op, T, pos, af, none⟩) (hd : ∀ x, d = some x → x < n) (hlt : Nat.ble nh i = true) (hall : ones r = true)
    (h : opW P f ⟨d, op, T, pos, af, none⟩ w (fun v w' => ML P n ops nh I Q r (putO f d v) w')) : ML P n ops nh I Q (.one i r) f w := by
  have hlt : nh ≤ i := by simpa using hlt
  refine ML.one' hi fun a ha => ?_
  unfold wpOp
  simp only [hi, Region.wanted, if_true]
  exact .inl (wp_of_opW ha h fun v w' hm => ⟨⟨fun h => absurd h (by omega), .inr hall⟩, _, ha.put hd v, hm⟩)
theorem ML.put0 {i : Nat} {op : Op} {T : TypeId} {pos : String} {af : Array Edge} (hi : ops[i]? = some ⟨none, op, T, pos, af, none⟩) (hlt : Nat.ble nh i = true) (hall : ones r = true)
    (h : opW P f ⟨none, op, T, pos, af, none⟩ w (fun _ w' => ML P n ops nh I Q r f w')) : ML P n ops nh I Q (.one i r) f w := ML.put (d := none) hi (by intro x hx; cases hx) hlt hall h
theorem ML.put1 {i d : Nat} {op : Op} {T : TypeId} {pos : String} {af : Array Edge} (hi : ops[i]? = some ⟨some d, op, T, pos, af, none⟩) (hd : Nat.blt d n = true) (hlt : Nat.ble nh i = true) (hall : ones r = true)
    (h : opW P f ⟨some d, op, T, pos, af, none⟩ w (fun v w' => ML P n ops nh I Q r (upd f d v) w')) : ML P n ops nh I Q (.one i r) f w := ML.put (d := some d) hi (by intro x hx; cases hx; simpa using hd) hlt hall h
end
class MixedT (P : Program) : Prop where out : P.follows .mixedOrders = true

section
variable {P : Program} {n : Nat} {Q : Exit → Fr → World → Prop} {f : Fr} {w : World}
def headB (ops : Array Oper) (nh : Nat) : Bool := decide (nh = ops.size) || (decide (nh < ops.size) && sinkP .any ops nh && Region.chainB .any ops nh)
theorem headB_ok {ops : Array Oper} {nh : Nat} (h : headB ops nh = true) : headOk .any ops nh (Array.replicate ops.size false) := by
  simp only [headB, Bool.or_eq_true, Bool.and_eq_true, decide_eq_true_eq] at h
  rcases h with h | ⟨⟨h1, h2⟩, h3⟩
  · exact .inl h
  · exact .inr ⟨h1, h2, h3, ⟨by simp, fun j oj _ hl => (by rw [getD_replicate_false] at hl; cases hl), fun t _ ht => getD_in (by simpa using ht) (getD_replicate_false _ _)⟩⟩
theorem WC.drawP [hm : MixedT P] {id : Nat} {l : List Oper} (nh : Nat) (r : Sched) (hB : (Region.noSelect l.toArray && headB l.toArray nh && mixOk l.toArray nh (Array.replicate l.toArray.size false) r && decide (ways r = l.length)) = true)
    (hnp : ∀ (c : List PanicEntry) f f1 w, Q (.panic c) f w → Q (.panic c) f1 w) (h : ∀ w1, Bel w w1 → ∃ I : World → Prop, I w1 ∧ ML P n l.toArray nh I Q r f w1) : WC P n (.region id l.toArray true) Q f w := by
  simp only [Bool.and_eq_true, decide_eq_true_eq] at hB
  obtain ⟨⟨⟨hsel, hh⟩, hB⟩, hlen⟩ := hB
  unfold WC
  obtain ⟨I, hI, h⟩ := h _ (Bel.drawn w (w.drawn + 1))
  unfold ML at h
  intro a ha
  refine wp_region_any hm.out ?_
  have := wpAny_of_B _ _ _ _ (h _ a hsel hB (.inl ⟨headB_ok hh, hI⟩) ha hnp)
  rw [hlen] at this
  simpa using this
theorem WC.drawI [hm : MixedT P] {id : Nat} {l : List Oper} (nh : Nat) (r : Sched) (hB : (Region.noSelect l.toArray && headB l.toArray nh && mixOk l.toArray nh (Array.replicate l.toArray.size false) r && decide (ways r = l.length)) = true)
    (hnp : ∀ (c : List PanicEntry) f w, ¬ Q (.panic c) f w) (h : ∀ w1, Bel w w1 → ∃ I : World → Prop, I w1 ∧ ML P n l.toArray nh I Q r f w1) : WC P n (.region id l.toArray true) Q f w :=
  WC.drawP nh r hB (fun c f _ w h => absurd h (hnp c f w)) h
theorem WC.draw [hm : MixedT P] {id : Nat} {l : List Oper} (nh : Nat) (r : Sched) (hB : (Region.noSelect l.toArray && headB l.toArray nh && mixOk l.toArray nh (Array.replicate l.toArray.size false) r && decide (ways r = l.length)) = true)
    (hnp : ∀ (c : List PanicEntry) f w, ¬ Q (.panic c) f w) (h : ∀ w1, Bel w w1 → ML P n l.toArray nh (Bel w1) Q r f w1) : WC P n (.region id l.toArray true) Q f w :=
  WC.drawI nh r hB hnp fun w1 hw1 => ⟨Bel w1, Bel.refl w1, h w1 hw1⟩
end
end Go.Fer
