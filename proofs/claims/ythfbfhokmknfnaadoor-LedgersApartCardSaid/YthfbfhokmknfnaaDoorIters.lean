/- Library, part 22 (a range over a function: what the function does with yield, the statement, the function that holds it). No condition: rules alone. -/
import Derived.Test.YthfbfhokmknfnaaDoorBooks
import Derived.RangeFuncRecord
import Derived.RangeFuncLeaves
import Derived.RangeFuncOwn
import Derived.RangeFuncSeq
set_option linter.all false
namespace Go.Fer
open Go Go.RowKit

/-! frames with deferred calls -/
structure RelD (n : Nat) (D : List Deferred) (a : Act) (f : Fr) : Prop where
  defers : a.defers = D
  size : a.tmps.size = n
  at_ : ∀ i, a.tmps.getD i undef = f i
theorem RelD.rel {n : Nat} {D : List Deferred} {a : Act} {f : Fr} (h : RelD n D a f) : Rel n { a with defers := [] } f := ⟨rfl, h.size, h.at_⟩
theorem RelD.eval {n : Nat} {D : List Deferred} {a : Act} {f : Fr} (h : RelD n D a f) : a.eval = ev f := by
  have h2 := h.rel.eval
  exact h2
theorem RelD.put {n : Nat} {D : List Deferred} {a : Act} {f : Fr} (h : RelD n D a f) {dst : Option Tmp} (hd : ∀ d, dst = some d → d < n) (v : Value) : RelD n D (a.put dst v) (putO f dst v) := by
  have h2 := h.rel.put hd v
  cases dst with
  | none => exact ⟨h.defers, h2.size, h2.at_⟩
  | some d => exact ⟨h.defers, h2.size, h2.at_⟩
theorem Rel.relD {n : Nat} {a : Act} {f : Fr} (h : Rel n a f) : RelD n [] a f := ⟨h.defers, h.size, h.at_⟩
theorem RelD.nil {n : Nat} {a : Act} {f : Fr} (h : RelD n [] a f) : Rel n a f := ⟨h.defers, h.size, h.at_⟩

/-! one operation, a round too -/
@[irreducible] def opI (P : Program) (f : Fr) (o : Oper) (w : World) (R : Value → World → Prop) : Prop :=
  match (execOp (ev f) o).run P w with
  | .ok (.value v) w' => R v w'
  | .ok .skip w' => R undef w'
  | .ok (.enter g args) w' => Calls P g args w' fun e w'' => ∃ v, e = .returned v ∧ R v w''
  | .ok (.round l fn tmps assign body) w' => RoundIn Fence.wide 0 P l fn tmps assign body w' fun e w'' => ∃ v, e = .returned v ∧ R v w''
  | _ => False
theorem opW.opI {P : Program} {f : Fr} {o : Oper} {w : World} {R : Value → World → Prop} (h : opW P f o w R) : opI P f o w R := by
  unfold opW at h
  unfold Fer.opI
  generalize (execOp (ev f) o).run P w = r at *
  cases r with
  | ok x w' => cases x <;> first | exact h | exact (h : False).elim
  | halt x w' => exact (h : False).elim
/-- a call of yield that goes on -/
theorem opI.yield {P : Program} {f : Fr} {w : World} {R : Value → World → Prop} {d : Option Tmp} {T : TypeId} {pos : String} {af : Array Edge} {gd : Option (Nat × Bool)} {x y : Operand} {ts : Array TypeId} {l : Nat} {u : Value} {R' : World → Prop}
    (hx : ev f x = .func (.yield l) #[] #[]) (hy : ev f y = u) (hY : YieldAt Fence.wide 0 P l #[u] w fun e w' => e = .returned (.bool true) ∧ R' w') (h : ∀ w', R' w' → R (.bool true) w') :
    opI P f ⟨d, .call { callee := .value x, args := #[y], argTypes := ts }, T, pos, af, gd⟩ w R := by
  obtain ⟨fn, tmps, assign, body, hr, hR⟩ := hY
  have hr2 : (execOp (ev f) ⟨d, .call { callee := .value x, args := #[y], argTypes := ts }, T, pos, af, gd⟩).run P w = .ok (.round l fn tmps assign body) w := by
    have e1 : (#[y].map (ev f)) = #[u] := by simp [hy]
    simp only [execOp, resolve, hx, Deferred.ofValue, Sem.run_bind, Sem.run_pure, Result.andThen_ok, Go.invoke, e1]
    exact hr
  unfold opI
  rw [hr2]
  exact hR.mono fun e w' ⟨he, hw⟩ => ⟨_, he, h _ hw⟩

abbrev fen (r : Option Nat) : Fence := { Fence.wide with round := r }
@[irreducible] def WLI (r : Option Nat) (m : Nat) (P : Program) (n : Nat) (ops : Array Oper) (D : List Deferred) (Q : Exit → Fr → World → Prop) (is : List Nat) (f : Fr) (w : World) : Prop :=
  ∀ a, RelD n D a f → wpOpsIn (fen r) m P ops (fun e a' w' => ∃ f', RelD n D a' f' ∧ Q e f' w') is a w
section
variable {r : Option Nat} {m : Nat} {P : Program} {n : Nat} {ops : Array Oper} {D : List Deferred} {Q : Exit → Fr → World → Prop} {is : List Nat} {f : Fr} {w : World}
theorem WLI.nil (h : Q .normal f w) : WLI r m P n ops D Q [] f w := by
  unfold WLI; exact fun a ha => ⟨f, ha, h⟩
theorem WLI.cons {i : Nat} {o : Oper} (ho : ops[i]? = some o) (hg : o.guard = none) (hd : ∀ x, o.dst = some x → x < n) (hnd : ∀ c, o.op ≠ .defer c) (h : opI P f o w (fun v w' => WLI r m P n ops D Q is (putO f o.dst v) w')) :
    WLI r m P n ops D Q (i :: is) f w := by
  unfold WLI
  intro a ha
  unfold wpOpsIn
  simp only [ho]
  have hw : Region.wanted o (yielded ops a.tmps) = true := by unfold Region.wanted; rw [hg]
  rw [if_pos hw]
  refine ⟨fun _ _ => trivial, ?_⟩
  rw [Oper.semAt_eq _ _ _ hnd, ha.eval]
  unfold opI at h
  generalize (execOp (ev f) o).run P w = res at *
  have go : ∀ v w', WLI r m P n ops D Q is (putO f o.dst v) w' → wpOpsIn (fen r) m P ops (fun e a' w' => ∃ f', RelD n D a' f' ∧ Q e f' w') is (a.put o.dst v) w' := by
    intro v w' hv
    unfold WLI at hv
    exact hv _ (ha.put hd v)
  cases res with
  | halt x w' => exact (h : False).elim
  | ok x w' =>
    cases x with
    | value v => exact go _ _ h
    | skip => exact go _ _ h
    | enter g args =>
      refine ⟨fun hh => by simp [fen, Fence.wide] at hh, ?_⟩
      have h2 : CallsIn Fence.wide (m - 1) P g args w' _ := callsIn_wide.2 h
      exact CallsIn.mono (F := fen r) h2 fun e w'' ⟨v, he, hv⟩ => by subst he; exact go _ _ hv
    | round l fn tmps assign body =>
      refine ⟨fun hh => by simp [fen, Fence.wide] at hh, ?_⟩
      have h2 : RoundIn (fen r) (m - 1) P l fn tmps assign body w' _ := ⟨trivial, fun c cs _ => h.2 c cs (room_wide _)⟩
      exact h2.mono fun e w'' ⟨v, he, hv⟩ => by subst he; exact go _ _ hv
    | _ => exact (h : False).elim
theorem WLI.op {i d : Nat} {op : Op} {T : TypeId} {pos : String} {af : Array Edge} (ho : ops[i]? = some ⟨some d, op, T, pos, af, none⟩) (hd : Nat.blt d n = true) (hnd : ∀ c, op ≠ .defer c)
    (h : opI P f ⟨some d, op, T, pos, af, none⟩ w (fun v w' => WLI r m P n ops D Q is (upd f d v) w')) : WLI r m P n ops D Q (i :: is) f w :=
  WLI.cons ho rfl (by intro x hx; cases hx; simpa using hd) hnd h
theorem WLI.op0 {i : Nat} {op : Op} {T : TypeId} {pos : String} {af : Array Edge} (ho : ops[i]? = some ⟨none, op, T, pos, af, none⟩) (hnd : ∀ c, op ≠ .defer c)
    (h : opI P f ⟨none, op, T, pos, af, none⟩ w (fun _ w' => WLI r m P n ops D Q is f w')) : WLI r m P n ops D Q (i :: is) f w :=
  WLI.cons ho rfl (by intro x hx; cases hx) hnd h
/-- a region with calls of yield, in a plain frame -/
theorem WC.regionI {id : Nat} (h : WLI none 0 P n ops [] Q (List.range ops.size) f w) : WC P n (.region id ops false) Q f w := by
  unfold WC
  unfold WLI at h
  intro a ha
  refine (wpIn_wide (n := 0)).1 (wpIn_mono (wpIn_region (h a ha.relD)) ?_)
  rintro e a' w' ⟨f', hr, hq⟩
  exact ⟨f', hr.nil, hq⟩
end

/-! what a round keeps -/
/-- below N all but the block b lies as it lay -/
structure KpB (N b : Nat) (A B : World) : Prop where
  os : B.os = A.os
  tape : B.tape = A.tape
  output : B.output = A.output
  size : A.heap.size ≤ B.heap.size
  block : ∀ k, k < N → k ≠ b → B.heap[k]? = A.heap[k]?
theorem KpB.trans {N b : Nat} {A B C : World} (h : KpB N b A B) (k : KpB N b B C) : KpB N b A C :=
  ⟨k.os.trans h.os, k.tape.trans h.tape, k.output.trans h.output, Nat.le_trans h.size k.size, fun i hi hb => (k.block i hi hb).trans (h.block i hi hb)⟩
theorem KpB.of_bel {N b : Nat} {A B : World} (h : Bel A B) (hN : N ≤ A.heap.size) : KpB N b A B := ⟨h.os, h.tape, h.output, h.size, fun k hk _ => h.block k (Nat.lt_of_lt_of_le hk hN)⟩
theorem KpB.putObj {N b l : Nat} (A : World) (o : Obj) (hl : N ≤ l) : KpB N b A (A.putObj l o) := ⟨rfl, rfl, rfl, by simp, fun k hk _ => World.putObj_heap_other (by omega)⟩
theorem bel_grown {A B : World} (h : Bel A B) : A.grownBy B none := ⟨h.os, h.tape, h.output, h.size, fun k hk _ => h.block k hk⟩
theorem KpB.bel {N b : Nat} {w0 A B : World} (h : Bel w0 A) (hk : KpB N b A B) (hN : w0.heap.size ≤ N) (hb : w0.heap.size ≤ b) : Bel w0 B :=
  ⟨hk.os.trans h.os, hk.tape.trans h.tape, hk.output.trans h.output, Nat.le_trans h.size hk.size, fun k hk2 => (hk.block k (by omega) (by omega)).trans (h.block k hk2)⟩
/-- what is known beside the block b is known behind a round -/
theorem St.kpB {wb W0 W1 W' : World} {S0 : List Ent} {b : Nat} {c : Array Value} {T : TypeId} (hL : St wb (blkE b c T :: S0) W0) (hS : St wb S0 W1) (hk : KpB W0.heap.size b W1 W') : St wb S0 W' := by
  have hb := ((hL.all _ (List.mem_cons_self)).2 b (by unfold blkE; rfl))
  refine ⟨KpB.bel hS.old hk hL.old.size hb.1, hS.dis, fun e he => ?_⟩
  have h1 := hL.all e (List.mem_cons_of_mem _ he)
  have h2 := hS.all e he
  have hne : ∀ k, e.F k → k ≠ b := by
    intro k hF hkb
    subst hkb
    exact (List.pairwise_cons.1 hL.dis).1 e he k (by unfold blkE; rfl) hF
  refine ⟨e.st W1 W' (fun k hF => hk.block k (h1.2 k hF).2 (hne k hF)) h2.1, fun k hF => ⟨(h1.2 k hF).1, ?_⟩⟩
  exact Nat.lt_of_lt_of_le (h2.2 k hF).2 hk.size

/-- what a function does that yields the list xs to whoever goes on -/
def IterW {α : Type} (P : Program) (gf : Nat) (lb : List Value) (enc : α → Value) (xs : List α) (N b : Nat) (w : World) : Prop :=
  ∀ (l : Nat) (J : Nat → World → Prop) (W : World), Bel w W → (∀ k A B, J k A → Bel A B → J k B) →
    (∀ k (hk : k < xs.length) W1, J k W1 → YieldAt Fence.wide 0 P l #[enc (xs[k]'hk)] W1 fun e W' => e = .returned (.bool true) ∧ J (k + 1) W' ∧ KpB N b W1 W') →
    J 0 W → Ret P gf (.func (.yield l) #[] #[] :: lb).toArray W fun _ W' => J xs.length W'

/-! the function that holds the statement -/
@[irreducible] def WCI (P : Program) (n : Nat) (c : Code) (D : List Deferred) (Q : Exit → Act → World → Prop) (f : Fr) (w : World) : Prop :=
  ∀ a, RelD n D a f → c.wpIn Fence.wide 2 P Q a w
section
variable {P : Program} {n : Nat} {D : List Deferred} {Q : Exit → Act → World → Prop} {f : Fr} {w : World}
theorem WCI.seqR {id : Nat} {ops : Array Oper} {c2 : Code} (h : WLI none 2 P n ops D (fun e f' w' => e = .normal ∧ WCI P n c2 D Q f' w') (List.range ops.size) f w) : WCI P n (.seq (.region id ops false) c2) D Q f w := by
  unfold WCI
  unfold WLI at h
  intro a ha
  refine wpIn_seq (wpIn_mono (wpIn_region (h a ha)) ?_)
  rintro e a' w' ⟨f', hr, rfl, hq⟩
  unfold WCI at hq
  exact hq a' hr
theorem WCI.run {c : Code} {a : Act} (h : WCI P n c D Q f w) (ha : RelD n D a f) : c.wpIn Fence.wide 2 P Q a w := by
  unfold WCI at h; exact h a ha
theorem WCI.seq {c1 c2 : Code} (h : WCI P n c1 D (Exit.then (c2.wpIn Fence.wide 2 P Q) Q) f w) : WCI P n (.seq c1 c2) D Q f w := by
  unfold WCI; exact fun a ha => wpIn_seq (h.run ha)
theorem WCI.ret (h : ∀ a, RelD n D a f → Q .ret a w) : WCI P n .ret D Q f w := by
  unfold WCI; exact fun a ha => wpIn_ret (h a ha)

theorem WCI.range {α : Type} {xs : List α} {enc : α → Value} {g : Operand} {p ib jb ia ra : Nat} {oa ob : Array Oper} {gf : Nat} [hF : FnT P gf] {lb : List Value} {b : Nat}
    (hg : ev f g = .func (.func gf) #[] lb.toArray) (hp : Nat.blt p n = true) (hit : IterW P gf lb enc xs w.heap.size b w)
    (I : Nat → World → Prop) (q : Nat)
    (hI : ∀ k A B row, I k A → A.grownBy B row → (∀ r, row = some r → w.heap.size ≤ r ∧ ∃ o : Obj, A.heap[r]? = some o ∧ o.isCells = false) → I k B)
    (h0 : I 0 w)
    (hassign : ∀ (l : Nat) (x : α) (W : World), WLI (some l) 0 P n oa [] (fun e f' W' => e = .normal ∧ f' = upd (upd f p (enc x)) q (enc x) ∧ W' = W) (List.range oa.size) (upd f p (enc x)) W)
    (hbody : ∀ (l k : Nat) (hk : k < xs.length) (W : World), I k W → WLI (some l) 0 P n ob [] (fun e _ W' => e = .normal ∧ KeepsOthers W W' ∧ KpB w.heap.size b W W' ∧ I (k + 1) W') (List.range ob.size) (upd (upd f p (enc (xs[k]'hk))) q (enc (xs[k]'hk))) W)
    (hdone : ∀ (d : Nat) (W : World), I xs.length W → W.heap[d]? = some (.deferred (some [])) → w.heap.size ≤ d → ∀ a, RelD n ({ target := .collected d, args := #[] } :: D) a f → Q .normal a W) :
    WCI P n (.block ib (.rangeFunc g #[p] (.region ra oa false) (.block jb (.region ia ob false)))) D Q f w := by
  unfold WCI
  intro a ha
  refine wpIn_block (wpIn_rangeFunc ?_)
  intro fn hfn
  obtain ⟨rec, hrec⟩ : ∃ rec : LoopState → Loop, rec = fun st => { state := st, pending := none, fn, tmps := a.tmps, params := #[p], assign := (.region ra oa false), body := (.block jb (.region ia ob false)), defers := w.heap.size } := ⟨_, rfl⟩
  obtain ⟨L, hL⟩ : ∃ L, L = w.heap.size + 1 := ⟨_, rfl⟩
  obtain ⟨W1, hW1⟩ : ∃ W1, (w.alloc (.deferred (some []))).alloc (.loop (rec .ready)) = W1 := ⟨_, rfl⟩
  have hb1 : Bel w W1 := by rw [← hW1]; exact (Bel.alloc w _).trans (Bel.alloc _ _)
  have hL1 : W1.heap[L]? = some (.loop (rec .ready)) := by
    rw [← hW1, hL]
    have := World.alloc_heap_new (w.alloc (.deferred (some []))) (.loop (rec .ready))
    rwa [World.size_alloc] at this
  have hD1 : W1.heap[w.heap.size]? = some (.deferred (some [])) := by
    rw [← hW1]; exact (Below.heap_alloc _ _ _ (by simp)).trans (World.alloc_heap_new w _)
  refine ⟨L, [{ target := .collected w.heap.size, args := #[] }], W1, { target := .fn (.func gf) lb.toArray, args := #[.func (.yield L) #[] #[]] }, W1, gf, #[.func (.yield L) #[] #[]] ++ lb.toArray, W1, ?_, ?_, fun _ _ => trivial, ?_, fun _ => by omega, ?_⟩
  · rw [← hW1, hrec, hL]; exact run_enterLoop_outer _ _ _ _ _
  · have he := ha.eval
    simp only [resolve, rangeCall, he, hg]
    simp [go_sem]
    rfl
  · simp [invoke, go_sem, run_callFunc hF]
  have hret := hit L (fun k W => I k W ∧ W.heap[L]? = some (.loop (rec .ready)) ∧ W.heap[w.heap.size]? = some (.deferred (some []))) W1 hb1
    (fun k A B ⟨h1, h2, h3⟩ hAB => ⟨hI k A B none h1 (bel_grown hAB) (fun r e => by cases e), hAB.get h2, hAB.get h3⟩)
    (by
      rintro k hk W ⟨hi, hl, hd⟩
      have hlt : L < W.heap.size := (Array.getElem?_eq_some_iff.1 hl).1
      have hy : (Instr.yield L #[enc (xs[k]'hk)]).run P W = .ok (.round L fn (a.tmps.setIfInBounds p (enc (xs[k]'hk))) (.region ra oa false) (.block jb (.region ia ob false))) W := by
        have h1 := run_yield (P := P) (args := #[enc (xs[k]'hk)]) hl (by rw [hrec]; rfl)
        rw [hrec] at h1
        simpa using h1
      refine ⟨fn, _, _, _, hy, roundIn_of_wpIn (F := Fence.wide) trivial ?_⟩
      have hra : RelD n [] { tmps := a.tmps.setIfInBounds p (enc (xs[k]'hk)), defers := [] } (upd f p (enc (xs[k]'hk))) := by
        have h1 : RelD n [] { a with defers := [] } f := ⟨rfl, ha.size, ha.at_⟩
        exact h1.put (dst := some p) (by intro d hd; cases hd; simpa using hp) _
      have hwa := hassign L (xs[k]'hk) W
      unfold WLI at hwa
      refine wpIn_mono (wpIn_region (hwa _ hra)) ?_
      rintro e a1 w1 ⟨f1, hr1, rfl, rfl, hw1⟩
      have hw2 := hw1.symm
      subst hw2
      have hl2 : (W.putObj L (.loop { rec .ready with state := .busy })).heap[L]? = some (.loop { rec .ready with state := .busy }) := World.putObj_heap_same hlt
      have hd2 : (W.putObj L (.loop { rec .ready with state := .busy })).heap[w.heap.size]? = some (.deferred (some [])) := (World.putObj_heap_other (by omega)).trans hd
      have hi2 : I k (W.putObj L (.loop { rec .ready with state := .busy })) := hI k W _ (some L) hi (grownBy_putObj' W L _) (fun r e => by cases e; exact ⟨by omega, _, hl, rfl⟩)
      refine ⟨_, run_beginRound hl (by rw [hrec]), ?_⟩
      have hwb := hbody L k hk _ hi2
      unfold WLI at hwb
      refine wpIn_block (wpIn_mono (wpIn_region (hwb _ hr1)) ?_)
      rintro e a2 W3 ⟨f2, hr2, rfl, hk3, hkp, hi3⟩
      have hl3 := hk3.same _ _ hl2 rfl
      have hd3 := hk3.same _ _ hd2 rfl
      have hlt3 := (Array.getElem?_eq_some_iff.1 hl3).1
      have hend := run_endRound (P := P) none hl3
      refine ⟨_, _, hend, rfl, ⟨hI _ W3 _ (some L) hi3 (grownBy_putObj' W3 L _) (fun r e => by cases e; exact ⟨by omega, _, hl3, rfl⟩), ?_, (World.putObj_heap_other (by omega)).trans hd3⟩, ?_⟩
      · rw [World.putObj_heap_same hlt3, hrec]; rfl
      · exact ((KpB.putObj W _ (by omega)).trans hkp).trans (KpB.putObj W3 _ (by omega)))
    ⟨hI 0 w W1 none h0 (bel_grown hb1) (fun r e => by cases e), hL1, hD1⟩
  unfold Ret at hret
  have hret2 : CallsIn Fence.wide 1 P gf (#[.func (.yield L) #[] #[]] ++ lb.toArray) W1 _ := callsIn_wide.2 (by
    have e1 : (#[.func (.yield L) #[] #[]] ++ lb.toArray : Array Value) = (.func (.yield L) #[] #[] :: lb).toArray := by apply Array.ext'; simp
    rw [e1]; exact hret)
  refine CallsIn.mono hret2 ?_
  rintro e W2 ⟨v, rfl, hi, hl, hd⟩
  have hlt := (Array.getElem?_eq_some_iff.1 hl).1
  have hend := run_endLoop (P := P) hl (by rw [hrec]; simp)
  rw [hrec] at hend
  refine ⟨none, _, hend, ?_⟩
  have hq := hdone w.heap.size _ (hI _ W2 (W2.putObj L (.loop { rec .ready with state := .exhausted })) (some L) hi (grownBy_putObj' W2 L _) (fun r e => by cases e; exact ⟨by omega, _, hl, rfl⟩)) ((World.putObj_heap_other (by omega)).trans hd) (Nat.le_refl _)
  rw [hrec] at hq
  exact hq _ ⟨by rw [← ha.defers]; rfl, ha.size, ha.at_⟩

theorem Ret.enterI {g : FuncId} {fn : Func} {c : Code} {args : List Value} {R : Value → World → Prop} 
    (hf : P.funcs[g]? = some fn) (hb : fn.body = some c) (hn : fn.ntmps = n) (hargs : Nat.ble args.length n = true)
    (h : WCI P n c [] (bodyPostM Fence.wide 2 P fn (fun e w' => ∃ v, e = .returned v ∧ R v w')) (fr0 args) w) : Ret P g args.toArray w R := by
  unfold Ret
  refine (callsIn_wide (n := 2)).1 (callsIn_of_wp_marks hf hb trivial ?_ rfl)
  unfold WCI at h
  have hle : args.length ≤ n := by simpa using hargs
  refine h _ ⟨rfl, by simp [hn]; omega, fun i => ?_⟩
  simp only [fr0, Array.getD_eq_getD_getElem?, Array.getElem?_append, List.size_toArray]
  split
  · simp
  · rename_i hi
    have : args[i]? = none := List.getElem?_eq_none (by omega)
    simp only [this, Option.getD_none, Array.getElem?_replicate]
    split <;> rfl
/-- the end: the mark is taken, the results are read -/
theorem bodyM_one {fn : Func} {R : Value → World → Prop} {a : Act} {d : Nat} {rs : List ResultVar} {vs : List Value} (ha : RelD n [{ target := .collected d, args := #[] }] a f) (hd : w.heap[d]? = some (.deferred (some []))) (hr : fn.results = rs.toArray)
    (hv : ResV P f (w.putObj d (.deferred none)) rs vs) (hR : R (resOne vs) (w.putObj d (.deferred none))) : bodyPostM Fence.wide 2 P fn (fun e w' => ∃ v, e = .returned v ∧ R v w') .ret a w := by
  have hrs : fn.results.toList = rs := by rw [hr]
  subst hrs
  show LeavesInM _ _ _ _ _ _ a.defers _ _
  rw [ha.defers]
  exact ⟨by simp, .inl ⟨_, _, rfl, run_takeDeferred hd, _, ResV.run (a := { a with defers := [] }) ha.rel hv, _, rfl, hR⟩⟩
end

theorem KeepsOthers.of_bel {A B : World} (h : Bel A B) : KeepsOthers A B := ⟨h.size, fun k o hk _ => h.get hk⟩
theorem Bel.putObj {w0 W : World} {d : Nat} {o : Obj} (h : Bel w0 W) (hd : w0.heap.size ≤ d) : Bel w0 (W.putObj d o) :=
  ⟨h.os, h.tape, h.output, Nat.le_trans h.size (by simp), fun k hk => (World.putObj_heap_other (by omega)).trans (h.block k hk)⟩
theorem blkE_cells {b : Nat} {c : Array Value} {T : TypeId} {W : World} {k : Nat} (hA : (blkE b c T).A W) (hF : (blkE b c T).F k) : ∃ o : Obj, W.heap[k]? = some o ∧ o.isCells = true := by
  unfold blkE at hA hF
  have hF : k = b := hF
  subst hF
  exact ⟨_, hA, rfl⟩
/-- what is known of variables abides what the statement itself does -/
theorem St.grown {w0 w A B : World} {S : List Ent} {row : Option Nat} (h : St w0 S A) (hg : A.grownBy B row) (hr : ∀ r, row = some r → w.heap.size ≤ r ∧ ∃ o : Obj, A.heap[r]? = some o ∧ o.isCells = false) (hw : w0.heap.size ≤ w.heap.size)
    (hc : ∀ e ∈ S, ∃ b c T, e = blkE b c T) : St w0 S B := by
  have key : ∀ k o, A.heap[k]? = some o → (k < w0.heap.size ∨ o.isCells = true) → B.heap[k]? = A.heap[k]? := by
    intro k o hk h2
    refine hg.block k (Array.getElem?_eq_some_iff.1 hk).1 ?_
    intro e
    obtain ⟨h3, o', ho', hno⟩ := hr k e.symm
    rcases h2 with h2 | h2
    · omega
    · rw [hk] at ho'; cases ho'; rw [h2] at hno; cases hno
  refine ⟨⟨hg.os.trans h.old.os, hg.tape.trans h.old.tape, hg.output.trans h.old.output, Nat.le_trans h.old.size hg.size, fun k hk => ?_⟩, h.dis, fun e he => ?_⟩
  · have hk2 : k < A.heap.size := Nat.lt_of_lt_of_le hk h.old.size
    exact (key k _ (Array.getElem?_eq_getElem hk2) (.inl hk)).trans (h.old.block k hk)
  · have h1 := h.all e he
    refine ⟨e.st A B (fun k hF => ?_) h1.1, fun k hF => ⟨(h1.2 k hF).1, Nat.lt_of_lt_of_le (h1.2 k hF).2 hg.size⟩⟩
    obtain ⟨b, c, T, rfl⟩ := hc e he
    obtain ⟨o, ho, hoc⟩ := blkE_cells h1.1 hF
    exact key k o ho (.inr hoc)
section
variable {P : Program} {f : Fr} {w : World} {R : Value → World → Prop} {d : Option Tmp} {T : TypeId} {pos : String} {af : Array Edge} {gd : Option (Nat × Bool)}
/-- a store into a variable of one cell, with what it keeps -/
theorem opW.storeK {E T' b : Nat} [hs : SizeT P E 1] {x y : Operand} {u v : Value} {w0 : World} {S : List Ent} (hS : St w0 S w) (hx : ev f x = .pointer (some ⟨b, 0, none⟩)) (hy : ev f y = v) (hc : v.cells = #[v]) (h1 : v.oneCell' = true) (he : Has (blkE b #[u] T') S)
    (h : ∀ w', (∀ S', Turn (blkE b #[u] T') (blkE b #[v] T') S S' → St w0 S' w') → (∀ N, KpB N b w w') → KeepsOthers w w' → R undef w') : opW P f ⟨d, .store E x y, T, pos, af, gd⟩ w R := by
  have hb := hS.blk he
  have hr := run_storeVar_blk (P := P) hs hb 0 v (by rw [hc]; rfl) (by simp) (by rw [hc]; intro u hu; simp at hu; subst hu; exact h1)
  have hspl : ((#[u] : Array Value).toList.take 0 ++ v.cells.toList ++ (#[u] : Array Value).toList.drop (0 + v.cells.toList.length)).toArray = #[v] := by rw [hc]; rfl
  rw [hspl] at hr
  refine opW.of_skip (w' := w.setRow b #[v]) ?_ (h _ (fun S' hT => St.turn ?_ ?_ ?_ hS hT) (fun N => ⟨rfl, rfl, rfl, by simp [World.setRow], fun k _ hk => setRow_other w b k _ hk⟩) ⟨by simp [World.setRow], fun k o hk ho => ?_⟩)
  · simp [execOp, Instr.storeAt, hx, hy, Instr.sureAddr, hr]
  · unfold blkE
    exact ⟨rfl, rfl, rfl, by simp [World.setRow], fun k _ hk => setRow_other w b k _ hk⟩
  · unfold blkE; exact setRow_heap w b _ _ T' _ hb
  · unfold blkE; intro k hk; exact .inl hk
  · by_cases e : k = b
    · subst e
      rw [hb] at hk; cases hk; cases ho
    · exact (setRow_other w b k _ e).trans hk
end
end Go.Fer
