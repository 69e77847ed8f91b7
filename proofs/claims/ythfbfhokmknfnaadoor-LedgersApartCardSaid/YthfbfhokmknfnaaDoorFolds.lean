/- Library, part 27 (a range over a function that changes what the body sees, and a break out of it). No condition: rules alone. -/
import Derived.Test.YthfbfhokmknfnaaDoorIters
import Derived.Scope
import Derived.RangeFuncBound
import Derived.OrdersIn
set_option linter.all false
namespace Go.Fer
open Go Go.RowKit
/-- one object, as it lies -/
@[irreducible] def rawE (l : Nat) (o : Obj) : Ent := ⟨fun k => k = l, fun w => w.heap[l]? = some o, fun w w' h hA => (h l rfl).trans hA⟩
theorem rawE_F (l : Nat) (o : Obj) : (rawE l o).F = fun k => k = l := by unfold rawE; rfl
theorem rawE_A (l : Nat) (o : Obj) : (rawE l o).A = fun w => w.heap[l]? = some o := by unfold rawE; rfl
section
variable {w0 w : World} {S S' : List Ent}
theorem St.raw {l : Nat} {o : Obj} (h : St w0 S w) (he : Has (rawE l o) S) : w.heap[l]? = some o := by have := h.get he; rw [rawE_A] at this; exact this
theorem St.rawNew (h : St w0 S w) (o : Obj) : St w0 (rawE w.heap.size o :: S) (w.alloc o) :=
  h.new (Bel.alloc w _) (by rw [rawE_A]; exact heap_alloc_new w _) (by rw [rawE_F]; intro k hk; have hk : k = w.heap.size := hk; subst hk; exact ⟨Nat.le_refl _, by simp⟩)
theorem St.rawPut {l : Nat} {o : Obj} (o' : Obj) (h : St w0 S w) (ht : Turn (rawE l o) (rawE l o') S S') : St w0 S' (w.putObj l o') := by
  have hl := h.raw ht.has
  have hlt := (Array.getElem?_eq_some_iff.1 hl).1
  have hc : Chg (rawE l o).F w (w.putObj l o') := ⟨rfl, rfl, rfl, by simp, fun k hk hf => by
    rw [rawE_F] at hf
    have hf : k ≠ l := hf
    exact World.putObj_heap_other (by omega)⟩
  refine St.turn (w := w) (w' := w.putObj l o') (e := rawE l o) (e' := rawE l o') hc ?_ ?_ h ht
  · rw [rawE_A]; exact World.putObj_heap_same hlt
  · rw [rawE_F, rawE_F]; exact fun k hk => .inl hk
end
/-- a call of yield with two values -/
theorem opI.yield2 {P : Program} {f : Fr} {w : World} {R : Value → World → Prop} {d : Option Tmp} {T : TypeId} {pos : String} {af : Array Edge} {gd : Option (Nat × Bool)} {x : Operand} {ys : Array Operand} {us : Array Value} {ts : Array TypeId} {l : Nat}
    (hx : ev f x = .func (.yield l) #[] #[]) (hy : ys.toList.map (ev f) = us.toList) {R' : Value → World → Prop} (hY : YieldAt Fence.wide 0 P l us w fun e w' => ∃ v, e = .returned v ∧ R' v w') (h : ∀ v w', R' v w' → R v w') :
    opI P f ⟨d, .call { callee := .value x, args := ys, argTypes := ts }, T, pos, af, gd⟩ w R := by
  obtain ⟨fn, tmps, assign, body, hr, hR⟩ := hY
  replace hy : ys.map (ev f) = us := by apply Array.ext'; simpa using hy
  have hr2 : (execOp (ev f) ⟨d, .call { callee := .value x, args := ys, argTypes := ts }, T, pos, af, gd⟩).run P w = .ok (.round l fn tmps assign body) w := by
    simp only [execOp, resolve, hx, Deferred.ofValue, Sem.run_bind, Sem.run_pure, Result.andThen_ok, Go.invoke, hy, Array.empty_append]
    exact hr
  unfold opI
  rw [hr2]
  exact hR.mono fun e w' ⟨v, he, hv⟩ => ⟨v, he, h v w' hv⟩
/-! code in a round -/
@[irreducible] def WCR (l : Nat) (P : Program) (n : Nat) (c : Code) (Q : Exit → Fr → World → Prop) (f : Fr) (w : World) : Prop :=
  ∀ a, RelD n [] a f → c.wpIn (fen (some l)) 0 P (fun e a' w' => ∃ f', RelD n [] a' f' ∧ Q e f' w') a w
section
variable {l : Nat} {P : Program} {n : Nat} {Q : Exit → Fr → World → Prop} {f : Fr} {w : World}
theorem WCR.run {c : Code} {a : Act} (h : WCR l P n c Q f w) (ha : RelD n [] a f) : c.wpIn (fen (some l)) 0 P (fun e a' w' => ∃ f', RelD n [] a' f' ∧ Q e f' w') a w := by
  unfold WCR at h; exact h a ha
theorem WCR.region {id : Nat} {ops : Array Oper} (h : WLI (some l) 0 P n ops [] Q (List.range ops.size) f w) : WCR l P n (.region id ops false) Q f w := by
  unfold WCR
  unfold WLI at h
  exact fun a ha => wpIn_region (h a ha)
theorem WCR.seq {c1 c2 : Code} (h : WCR l P n c1 (fun e f' w' => match e with | .normal => WCR l P n c2 Q f' w' | e => Q e f' w') f w) : WCR l P n (.seq c1 c2) Q f w := by
  unfold WCR
  intro a ha
  refine wpIn_seq (wpIn_mono (h.run ha) ?_)
  rintro e a' w' ⟨f', hr, hq⟩
  cases e <;> first | exact WCR.run hq hr | exact ⟨f', hr, hq⟩
theorem WCR.seqR {id : Nat} {ops : Array Oper} {c2 : Code} (h : WLI (some l) 0 P n ops [] (fun e f' w' => e = .normal ∧ WCR l P n c2 Q f' w') (List.range ops.size) f w) : WCR l P n (.seq (.region id ops false) c2) Q f w := by
  unfold WCR
  unfold WLI at h
  intro a ha
  refine wpIn_seq (wpIn_mono (wpIn_region (h a ha)) ?_)
  rintro e a' w' ⟨f', hr, rfl, hq⟩
  exact WCR.run hq hr
theorem WCR.cond {c : Operand} {x y : Code} (b : Bool) (hc : ev f c = .bool b) (ht : b = true → WCR l P n x Q f w) (hf : b = false → WCR l P n y Q f w) : WCR l P n (.cond c x y) Q f w := by
  unfold WCR
  intro a ha
  refine wpIn_cond (t := b) (by rw [ha.eval]; exact hc) ?_
  cases b
  · exact (hf rfl).run ha
  · exact (ht rfl).run ha
theorem WCR.skip (h : Q .normal f w) : WCR l P n .skip Q f w := by unfold WCR; exact fun a ha => wpIn_skip ⟨f, ha, h⟩
theorem WCR.exit {id : Nat} (h : Q (.exit id) f w) : WCR l P n (.exit id) Q f w := by unfold WCR; exact fun a ha => wpIn_exit ⟨f, ha, h⟩
theorem WCR.block {id : Nat} {c : Code} (h : WCR l P n c (fun e f' w' => match e with | .exit i => if i = id then Q .normal f' w' else Q (.exit i) f' w' | e => Q e f' w') f w) : WCR l P n (.block id c) Q f w := by
  unfold WCR
  intro a ha
  refine wpIn_block (wpIn_mono (h.run ha) ?_)
  rintro e a' w' ⟨f', hr, hq⟩
  cases e with
  | exit i =>
    show Exit.inBlock id _ (.exit i) a' w'
    have hq : if i = id then Q .normal f' w' else Q (.exit i) f' w' := hq
    simp only [Exit.inBlock]
    by_cases hi : i = id
    · rw [if_pos hi] at hq
      simp only [hi, if_true]; exact ⟨f', hr, hq⟩
    · rw [if_neg hi] at hq
      simp only [hi, if_false]; exact ⟨f', hr, hq⟩
  | _ => exact ⟨f', hr, hq⟩
end
section
variable {P : Program} {n : Nat} {D : List Deferred} {Q : Exit → Act → World → Prop} {f : Fr} {w : World}
theorem WCI.scope {c : Code} (h : WCI P n c D (Exit.noGoto Q) f w) : WCI P n (.scope c) D Q f w := by
  unfold WCI
  exact fun a ha => wpIn_wide.2 (wp_scope_straight (wpIn_wide.1 (h.run ha)))
theorem WCI.label {l : Nat} (h : ∀ a, RelD n D a f → Q .normal a w) : WCI P n (.label l) D Q f w := by unfold WCI; exact fun a ha => wpIn_label (h a ha)
theorem WCI.skip (h : ∀ a, RelD n D a f → Q .normal a w) : WCI P n .skip D Q f w := by unfold WCI; exact fun a ha => wpIn_skip (h a ha)
theorem WCI.cond {c : Operand} {x y : Code} (b : Bool) (hc : ev f c = .bool b) (ht : b = true → WCI P n x D Q f w) (hf : b = false → WCI P n y D Q f w) : WCI P n (.cond c x y) D Q f w := by
  unfold WCI
  intro a ha
  refine wpIn_cond (t := b) (by rw [ha.eval]; exact hc) ?_
  cases b
  · exact (hf rfl).run ha
  · exact (ht rfl).run ha
/-- the statement: the function and the body change what both see -/
theorem WCI.rangeS {τ σ ρ : Type} {g : Operand} {p q ib : Nat} {ca cb : Code} {gf : Nat} [hF : FnT P gf] {lb : List Value} {wb : World} {S0 : List Ent}
    (Y : τ → Prop) (E : τ → List Ent) (u v : τ → Value) (Nx : τ → σ → Prop) (En : σ → List Ent) (Bx : τ → ρ → Prop) (Eb : ρ → List Ent) (Fin : σ → Prop) (Stop : ρ → Prop)
    (hg : ev f g = .func (.func gf) #[] lb.toArray) (hp : Nat.blt p n = true) (hq : Nat.blt q n = true) (hS : St wb S0 w)
    (hit : ∀ (l : Nat) (X Xs : List Ent) (W : World), St wb (X ++ S0) W →
      (∀ t W1, Y t → St wb (X ++ E t) W1 → YieldAt Fence.wide 0 P l #[u t, v t] W1 fun e W' => (e = .returned (.bool true) ∧ ∃ s, Nx t s ∧ St wb (X ++ En s) W') ∨ (e = .returned (.bool false) ∧ ∃ r, Bx t r ∧ St wb (Xs ++ Eb r) W')) →
      Ret P gf (.func (.yield l) #[] #[] :: lb).toArray W fun _ W' => (∃ s, Fin s ∧ St wb (X ++ En s) W') ∨ (∃ r, Stop r ∧ St wb (Xs ++ Eb r) W'))
    (hbody : ∀ (l : Nat) (X : List Ent) (t : τ) (W : World), Y t → St wb (X ++ E t) W →
      WCR l P n ca (fun e f' W' => e = .normal ∧ ∃ Ez, St wb (X ++ Ez) W' ∧ ∀ X' W2, St wb (X' ++ Ez) W2 →
        WCR l P n cb (fun e _ W3 => (e = .normal ∧ ∃ s, Nx t s ∧ St wb (X' ++ En s) W3) ∨ (e = .exit ib ∧ ∃ r, Bx t r ∧ St wb (X' ++ Eb r) W3)) f' W2) (upd (upd f p (u t)) q (v t)) W)
    (hdone : ∀ (d : Nat) (W : World) (s : σ), Fin s → St wb (rawE d (.deferred (some [])) :: En s) W → ∀ a, RelD n ({ target := .collected d, args := #[] } :: D) a f → Q .normal a W)
    (hstop : ∀ (d : Nat) (W : World) (r : ρ), Stop r → St wb (rawE d (.deferred (some [])) :: Eb r) W → ∀ a, RelD n ({ target := .collected d, args := #[] } :: D) a f → Q .normal a W) :
    WCI P n (.block ib (.rangeFunc g #[p, q] ca cb)) D Q f w := by
  unfold WCI
  intro a ha
  refine wpIn_block (wpIn_rangeFunc ?_)
  intro fn hfn
  obtain ⟨rec, hrec⟩ : ∃ rec : LoopState → Option Code → Loop, rec = fun st pe => { state := st, pending := pe, fn, tmps := a.tmps, params := #[p, q], assign := ca, body := cb, defers := w.heap.size } := ⟨_, rfl⟩
  obtain ⟨L, hL⟩ : ∃ L, L = w.heap.size + 1 := ⟨_, rfl⟩
  obtain ⟨d, hd⟩ : ∃ d, d = w.heap.size := ⟨_, rfl⟩
  obtain ⟨X, hX⟩ : ∃ X : LoopState → Option Code → List Ent, X = fun st pe => [rawE L (.loop (rec st pe)), rawE d (.deferred (some []))] := ⟨_, rfl⟩
  have hXr : ∀ {st pe S W}, St wb (X st pe ++ S) W → W.heap[L]? = some (.loop (rec st pe)) := by
    intro st pe S W h; rw [hX] at h; exact h.raw (S := rawE L (.loop (rec st pe)) :: _) .here
  have hXp : ∀ {st pe S W} (st' pe'), St wb (X st pe ++ S) W → St wb (X st' pe' ++ S) (W.putObj L (.loop (rec st' pe'))) := by
    intro st pe S W st' pe' h
    rw [hX] at h ⊢
    exact St.rawPut (o := .loop (rec st pe)) _ h .here
  have hXd : ∀ {st pe S W}, St wb (X st pe ++ S) W → St wb (rawE d (.deferred (some [])) :: S) W := by
    intro st pe S W h; rw [hX] at h
    exact h.sub (List.sublist_cons_self _ _)
  obtain ⟨W1, hW1⟩ : ∃ W1, (w.alloc (.deferred (some []))).alloc (.loop (rec .ready none)) = W1 := ⟨_, rfl⟩
  have hS1 : St wb (X .ready none ++ S0) W1 := by
    rw [← hW1, hX, hL, hd]
    have h := (hS.rawNew (.deferred (some []))).rawNew (.loop (rec .ready none))
    rw [World.size_alloc] at h
    exact h
  refine ⟨L, [{ target := .collected w.heap.size, args := #[] }], W1, { target := .fn (.func gf) lb.toArray, args := #[.func (.yield L) #[] #[]] }, W1, gf, #[.func (.yield L) #[] #[]] ++ lb.toArray, W1, ?_, ?_, fun _ _ => trivial, ?_, fun _ => by omega, ?_⟩
  · rw [← hW1, hrec, hL]; exact run_enterLoop_outer _ _ _ _ _
  · have he := ha.eval
    simp only [resolve, rangeCall, he, hg]
    simp [go_sem]
    rfl
  · simp [invoke, go_sem, run_callFunc hF]
  have hret := hit L (X .ready none) (X .done (some (.exit ib))) W1 hS1 (fun t W hy hs => by
    have hl := hXr hs
    have hyld : (Instr.yield L #[u t, v t]).run P W = .ok (.round L fn ((a.tmps.setIfInBounds p (u t)).setIfInBounds q (v t)) ca cb) W := by
      have h1 := run_yield (P := P) (args := #[u t, v t]) hl (by rw [hrec]; rfl)
      rw [hrec] at h1
      simpa using h1
    refine ⟨fn, _, _, _, hyld, roundIn_of_wpIn (F := Fence.wide) trivial ?_⟩
    have hra : RelD n [] { tmps := (a.tmps.setIfInBounds p (u t)).setIfInBounds q (v t), defers := [] } (upd (upd f p (u t)) q (v t)) := by
      have h1 : RelD n [] { a with defers := [] } f := ⟨rfl, ha.size, ha.at_⟩
      exact (h1.put (dst := some p) (by intro d hd; cases hd; simpa using hp) _).put (dst := some q) (by intro d hd; cases hd; simpa using hq) _
    refine wpIn_mono ((hbody L (X .ready none) t W hy hs).run hra) ?_
    rintro e a1 w1 ⟨f1, hr1, rfl, Ez, hs1, hk⟩
    have hl1 := hXr hs1
    refine ⟨_, run_beginRound hl1 (by rw [hrec]), ?_⟩
    have hs2 : St wb (X .busy none ++ Ez) (w1.putObj L (.loop { rec .ready none with state := .busy })) := by
      have h2 := hXp .busy none hs1
      rw [hrec] at h2 ⊢
      exact h2
    refine wpIn_mono ((hk (X .busy none) _ hs2).run hr1) ?_
    rintro e a2 w3 ⟨f2, hr2, hq3⟩
    rcases hq3 with ⟨rfl, s, hn, hs3⟩ | ⟨rfl, r, hb, hs3⟩
    · refine ⟨_, _, run_endRound (P := P) none (hXr hs3), .inl ⟨rfl, s, hn, ?_⟩⟩
      have h2 := hXp .ready none hs3
      rw [hrec] at h2 ⊢
      exact h2
    · refine ⟨_, _, run_endRound (P := P) (some (.exit ib)) (hXr hs3), .inr ⟨rfl, r, hb, ?_⟩⟩
      have h2 := hXp .done (some (.exit ib)) hs3
      rw [hrec] at h2 ⊢
      exact h2)
  unfold Ret at hret
  have hret2 : CallsIn Fence.wide 1 P gf (#[.func (.yield L) #[] #[]] ++ lb.toArray) W1 _ := callsIn_wide.2 (by
    have e1 : (#[.func (.yield L) #[] #[]] ++ lb.toArray : Array Value) = (.func (.yield L) #[] #[] :: lb).toArray := by apply Array.ext'; simp
    rw [e1]; exact hret)
  refine CallsIn.mono hret2 ?_
  rintro e W2 ⟨v, rfl, hfin⟩
  rcases hfin with ⟨s, hf, hs⟩ | ⟨r, hf, hs⟩
  · have hend := run_endLoop (P := P) (hXr hs) (by rw [hrec]; simp)
    refine ⟨none, _, (by rw [hend, hrec]), ?_⟩
    have hs2 : St wb (X .exhausted none ++ En s) (W2.putObj L (.loop { rec .ready none with state := .exhausted })) := by
      have h2 := hXp .exhausted none hs
      rw [hrec] at h2 ⊢
      exact h2
    have hq5 := hdone d _ s hf (hXd hs2) { a with defers := { target := .collected w.heap.size, args := #[] } :: a.defers } ⟨by rw [← ha.defers, hd], ha.size, ha.at_⟩
    rw [hrec] at hq5
    exact hq5
  · have hend := run_endLoop (P := P) (hXr hs) (by rw [hrec]; simp)
    refine ⟨some (.exit ib), _, (by rw [hend, hrec]), ?_⟩
    refine wpIn_exit ?_
    have hs2 : St wb (X .exhausted (some (.exit ib)) ++ Eb r) (W2.putObj L (.loop { rec .done (some (.exit ib)) with state := .exhausted })) := by
      have h2 := hXp .exhausted (some (.exit ib)) hs
      rw [hrec] at h2 ⊢
      exact h2
    have hq5 := hstop d _ r hf (hXd hs2) { a with defers := { target := .collected w.heap.size, args := #[] } :: a.defers } ⟨by rw [← ha.defers, hd], ha.size, ha.at_⟩
    show Exit.inBlock ib Q (.exit ib) _ _
    simp only [Exit.inBlock, if_true]
    rw [hrec] at hq5
    exact hq5
end
/-! regions in any order, in a round -/
theorem wp_to_in {P : Program} {r : Option Nat} {m : Nat} {o : Oper} {a : Act} {w : World} {K : Act → World → Prop} {Q : Exit → Act → World → Prop} (hnd : ∀ c, o.op ≠ .defer c) (h : o.wp P a w K Q) : o.wpIn (fen r) m P a w K Q := by
  refine ⟨fun _ _ => trivial, ?_⟩
  rw [Oper.semAt_eq _ _ _ hnd]
  unfold Oper.wp at h
  generalize (execOp a.eval o).run P w = res at *
  cases res with
  | ok x w' =>
    cases x with
    | enter g args =>
      refine ⟨fun hh => by simp [fen, Fence.wide] at hh, ?_⟩
      have h2 : CallsIn Fence.wide (m - 1) P g args w' _ := callsIn_wide.2 h
      exact CallsIn.mono (F := fen r) h2 fun e w'' he => he
    | row row args => exact ⟨fun hh => by simp [fen, Fence.wide] at hh, fun c cs _ => (by obtain ⟨v, w2, r2, s⟩ := h c cs; exact ⟨v, w2, r2, stepsIn_wide.2 s⟩)⟩
    | value v => exact h
    | skip => exact h
    | defer d => exact h
    | _ => exact (h : False).elim
  | halt x w' => cases x <;> exact h
def noDefer (ops : List Oper) : Bool := ops.all fun o => match o.op with | .defer _ => false | _ => true
theorem noDefer_ok {l : List Oper} (h : noDefer l = true) {i : Nat} {o : Oper} (ho : l.toArray[i]? = some o) : ∀ c, o.op ≠ .defer c := by
  intro c hc
  have hm : o ∈ l := by simpa using Array.mem_of_getElem? ho
  have := List.all_eq_true.1 h o hm
  rw [hc] at this
  cases this
theorem wpAny_to_in {P : Program} {r : Option Nat} {m : Nat} {md : Region.Mode} {ops : Array Oper} {Q : Exit → Act → World → Prop} (hno : ¬ LetsOut Q) (hnd : ∀ (i : Nat) (o : Oper), ops[i]? = some o → ∀ c, o.op ≠ .defer c) :
    ∀ (n : Nat) (listed : Array Bool) (a : Act) (w : World), wpAny P md ops Q n listed a w → wpAnyIn (fen r) m P md ops Q n listed a w
  | 0, _, _, _, h => h
  | n + 1, listed, a, w, h => ⟨h.1, fun i hi => by
    have h2 := h.2 i hi
    unfold wpOp at h2
    unfold wpOpIn
    cases ho : ops[i]? with
    | none => simp only [ho] at h2 ⊢; exact wpAny_to_in hno hnd n _ _ _ h2
    | some o =>
      simp only [ho] at h2 ⊢
      split at h2
      · rename_i hw
        rw [if_pos hw]
        rcases h2 with h2 | h2
        · exact Oper.wpIn_mono (fun a w hk => wpAny_to_in hno hnd n _ _ _ hk) (wp_to_in (hnd i o ho) h2)
        · exact absurd h2.2 hno
      · rename_i hw
        rw [if_neg hw]
        exact ⟨fun _ _ => trivial, wpAny_to_in hno hnd n _ _ _ h2⟩⟩
section
variable {P : Program} {n : Nat} {Q : Exit → Fr → World → Prop} {f : Fr} {w : World}
theorem draw_in [hm : MixedT P] [D : Dfr] {id : Nat} {l : List Oper} {rr : Option Nat} {m : Nat} (nh : Nat) (r : Sched) (hB : (Region.noSelect l.toArray && headB l.toArray nh && mixOk l.toArray nh (Array.replicate l.toArray.size false) r && decide (ways r = l.length) && noDefer l) = true)
    (hnp : ∀ (c : List PanicEntry) f w, ¬ Q (.panic c) f w) (hno : ∀ f w, ¬ Q .outgrown f w) (h : ∀ w1, Bel w w1 → ∃ I : World → Prop, I w1 ∧ ML P n l.toArray nh I Q r f w1) (a : Act) (ha : Rel n a f) : (Code.region id l.toArray true).wpIn (fen rr) m P (fun e a' w' => ∃ f', Rel n a' f' ∧ Q e f' w') a w := by
  simp only [Bool.and_eq_true, decide_eq_true_eq] at hB
  obtain ⟨⟨⟨⟨hsel, hh⟩, hB⟩, hlen⟩, hnd⟩ := hB
  obtain ⟨I, hI, h⟩ := h _ (Bel.drawn w (w.drawn + 1))
  unfold ML at h
  refine wpIn_region_any hm.out ?_
  have := wpAny_of_B _ _ _ _ (h _ a hsel hB (.inl ⟨headB_ok hh, hI⟩) ha (fun c f f1 w h => absurd h (hnp c f w)))
  rw [hlen] at this
  exact wpAny_to_in (by rintro ⟨a, w, f', _, hq⟩; exact hno _ _ hq) (fun i o ho => noDefer_ok hnd ho) _ _ _ _ (by simpa using this)
/-- a region in any order, in a round -/
theorem WCR.drawI [hm : MixedT P] {l' id : Nat} {l : List Oper} (nh : Nat) (r : Sched) (hB : (Region.noSelect l.toArray && headB l.toArray nh && mixOk l.toArray nh (Array.replicate l.toArray.size false) r && decide (ways r = l.length) && noDefer l) = true)
    (hnp : ∀ (c : List PanicEntry) f w, ¬ Q (.panic c) f w) (hno : ∀ f w, ¬ Q .outgrown f w) (h : ∀ w1, Bel w w1 → ∃ I : World → Prop, I w1 ∧ ML P n l.toArray nh I Q r f w1) : WCR l' P n (.region id l.toArray true) Q f w := by
  unfold WCR
  exact fun a ha => wpIn_mono (draw_in nh r hB hnp hno h a ha.nil) fun e a' w' ⟨f', hr, hq⟩ => ⟨f', hr.relD, hq⟩
/-- a region in any order, in the frame that holds the statement -/
theorem WCI.seqD [hm : MixedT P] {D : List Deferred} {QA : Exit → Act → World → Prop} {id : Nat} {l : List Oper} {c2 : Code} (nh : Nat) (r : Sched) (hB : (Region.noSelect l.toArray && headB l.toArray nh && mixOk l.toArray nh (Array.replicate l.toArray.size false) r && decide (ways r = l.length) && noDefer l) = true)
    (h : ∀ w1, Bel w w1 → ∃ I : World → Prop, I w1 ∧ @ML ⟨D⟩ P n l.toArray nh I (fun e f' w' => e = .normal ∧ WCI P n c2 D QA f' w') r f w1) : WCI P n (.seq (.region id l.toArray true) c2) D QA f w := by
  unfold WCI
  intro a ha
  have hr0 : @Rel ⟨D⟩ n a f := by
    refine @Rel.mk ⟨D⟩ _ _ _ ?_ ?_ ?_
    · exact ha.defers
    · exact ha.size
    · exact ha.at_
  refine wpIn_seq (wpIn_mono (@draw_in P n _ f w hm ⟨D⟩ id l none 2 nh r hB (fun c f w h => by cases h.1) (fun f w h => by cases h.1) h a hr0) ?_)
  rintro e a' w' ⟨f', hr, rfl, hq⟩
  obtain ⟨h1, h2, h3⟩ := hr
  exact WCI.run hq ⟨h1, h2, h3⟩
end
end Go.Fer
