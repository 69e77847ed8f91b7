/- Library, part 1 (plain rules of the walk): function frames, one rule for each operation, over any program. No condition: rules alone. -/
import Derived.Test.YthfbfhokmknfnaaDoorRows
import Derived.WalkKit
import Derived.ProofKit
set_option linter.all false
namespace Go.Fer
open Go Go.RowKit

/-! frames as functions from slots to values -/
abbrev Fr := Nat → Value
def upd (f : Fr) (d : Nat) (v : Value) : Fr := fun i => cond (Nat.beq i d) v (f i)
def putO (f : Fr) : Option Tmp → Value → Fr
  | some d, v => upd f d v
  | none, _ => f
def ev (f : Fr) : Operand → Value
  | .tmp t => f t
  | .const v => v
  | .global g => .pointer (some ⟨g, 0, none⟩)
  | .func g => .func (.func g) #[] #[]
def fr0 (l : List Value) : Fr := fun i => (l[i]?).getD undef

theorem upd_same (f : Fr) (d : Nat) (v : Value) : upd f d v d = v := by simp [upd]
theorem upd_ne (f : Fr) {d i : Nat} (v : Value) (h : i ≠ d) : upd f d v i = f i := by
  have : Nat.beq i d = false := by rw [← Bool.not_eq_true, Nat.beq_eq]; exact h
  simp [upd, this]

/-- what stands to be done at the function's end -/
class Dfr where
  ds : List Deferred
instance dfr0 : Dfr := ⟨[]⟩
section
variable [D : Dfr]
structure Rel (n : Nat) (a : Act) (f : Fr) : Prop where
  defers : a.defers = D.ds
  size : a.tmps.size = n
  at_ : ∀ i, a.tmps.getD i undef = f i

theorem Rel.eval {n : Nat} {a : Act} {f : Fr} (h : Rel n a f) : a.eval = ev f := by
  funext x
  cases x with
  | tmp t => exact h.at_ t
  | _ => rfl

theorem Rel.put {n : Nat} {a : Act} {f : Fr} (h : Rel n a f) {dst : Option Tmp} (hd : ∀ d, dst = some d → d < n) (v : Value) :
    Rel n (a.put dst v) (putO f dst v) := by
  cases dst with
  | none => exact h
  | some d =>
    have hlt := hd d rfl
    refine ⟨h.defers, by simp [Act.put, h.size], fun i => ?_⟩
    by_cases hi : i = d
    · subst hi
      simp only [putO, upd_same, Act.put]
      have : i < a.tmps.size := by rw [h.size]; exact hlt
      simp [this]
    · simp only [putO, upd_ne f v hi, Act.put]
      rw [← h.at_ i]
      simp [Array.getElem?_setIfInBounds_ne (Ne.symm hi)]

theorem Rel.unput {n : Nat} {a : Act} {f : Fr} {dst : Option Tmp} {v : Value} (h : Rel n (a.put dst v) f) : Rel n a (fun i => a.tmps.getD i undef) := by
  cases dst with
  | none => exact ⟨h.defers, h.size, fun _ => rfl⟩
  | some d => exact ⟨h.defers, by have := h.size; simpa [Act.put] using this, fun _ => rfl⟩

/-! one operation -/
@[irreducible] def opW (P : Program) (f : Fr) (o : Oper) (w : World) (R : Value → World → Prop) : Prop :=
  match (execOp (ev f) o).run P w with
  | .ok (.value v) w' => R v w'
  | .ok .skip w' => R undef w'
  | .ok (.enter g args) w' => Calls P g args w' fun e w'' => ∃ v, e = .returned v ∧ R v w''
  | _ => False

theorem opW_mono {P : Program} {f : Fr} {o : Oper} {w : World} {R R' : Value → World → Prop} (h : opW P f o w R) (hr : ∀ v w', R v w' → R' v w') : opW P f o w R' := by
  unfold opW at *
  generalize (execOp (ev f) o).run P w = r at *
  cases r with
  | ok x w' =>
    cases x <;> first
      | exact hr _ _ h
      | exact (h : False).elim
      | exact Calls.mono h fun e w' ⟨v, he, hv⟩ => ⟨v, he, hr _ _ hv⟩
  | halt x w' => exact (h : False).elim

theorem wp_of_opW {P : Program} {n : Nat} {a : Act} {f : Fr} {o : Oper} {w : World} {R : Value → World → Prop} {K : Act → World → Prop} {Q : Exit → Act → World → Prop}
    (hrel : Rel n a f) (h : opW P f o w R) (hk : ∀ v w', R v w' → K (a.put o.dst v) w') : o.wp P a w K Q := by
  unfold opW at h
  unfold Oper.wp
  rw [hrel.eval]
  generalize (execOp (ev f) o).run P w = r at *
  cases r with
  | ok x w' =>
    cases x <;> simp only [Oper.upon] at * <;> try exact hk _ _ h
    all_goals first
      | exact (h : False).elim
      | (refine Calls.mono h fun e w'' ⟨v, he, hv⟩ => ?_
         subst he
         exact hk _ _ hv)
  | halt x w' => exact (h : False).elim

/-! lists of operations -/
def yieldF (ops : Array Oper) (f : Fr) (i : Nat) : Option Bool :=
  match (ops[i]?).bind (·.dst) with
  | some t => match f t with | .bool b => some b | _ => none
  | none => none

@[irreducible] def WL (P : Program) (n : Nat) (ops : Array Oper) (Q : Exit → Fr → World → Prop) (l : List Oper) (f : Fr) (w : World) : Prop :=
  ∀ a, Rel n a f → wpList P ops (fun e a' w' => ∃ f', Rel n a' f' ∧ Q e f' w') l a w

@[irreducible] def WC (P : Program) (n : Nat) (c : Code) (Q : Exit → Fr → World → Prop) (f : Fr) (w : World) : Prop :=
  ∀ a, Rel n a f → c.wp P (fun e a' w' => ∃ f', Rel n a' f' ∧ Q e f' w') a w

def thenQ (K : Fr → World → Prop) (Q : Exit → Fr → World → Prop) : Exit → Fr → World → Prop
  | .normal, f, w => K f w
  | e, f, w => Q e f w
def blockQ (id : Nat) (Q : Exit → Fr → World → Prop) : Exit → Fr → World → Prop
  | .exit id', f, w => cond (Nat.beq id' id) (Q .normal f w) (Q (.exit id') f w)
  | e, f, w => Q e f w

section
variable {P : Program} {n : Nat} {ops : Array Oper} {Q : Exit → Fr → World → Prop} {f : Fr} {w : World}

theorem WL.nil (h : Q .normal f w) : WL P n ops Q [] f w := by
  unfold WL; exact fun a ha => ⟨f, ha, h⟩

theorem WL.cons {d : Option Tmp} {op : Op} {T : TypeId} {pos : String} {af : Array Edge} {rest : List Oper}
    (h : opW P f ⟨d, op, T, pos, af, none⟩ w (fun v w' => WL P n ops Q rest (putO f d v) w'))
    (hd : ∀ x, d = some x → x < n) : WL P n ops Q (⟨d, op, T, pos, af, none⟩ :: rest) f w := by
  unfold WL at h ⊢
  intro a ha
  refine wpList_plain rfl fun K hK => wp_of_opW ha h fun v w' hv => hK _ _ ?_
  exact hv _ (ha.put hd v)

/-- an operation with a slot -/
theorem WL.op {d : Nat} {op : Op} {T : TypeId} {pos : String} {af : Array Edge} {rest : List Oper} (hd : Nat.blt d n = true)
    (h : opW P f ⟨some d, op, T, pos, af, none⟩ w (fun v w' => WL P n ops Q rest (upd f d v) w')) :
    WL P n ops Q (⟨some d, op, T, pos, af, none⟩ :: rest) f w :=
  WL.cons (d := some d) h (by intro x hx; cases hx; simpa using hd)
theorem WL.op0 {op : Op} {T : TypeId} {pos : String} {af : Array Edge} {rest : List Oper}
    (h : opW P f ⟨none, op, T, pos, af, none⟩ w (fun _ w' => WL P n ops Q rest f w')) :
    WL P n ops Q (⟨none, op, T, pos, af, none⟩ :: rest) f w :=
  WL.cons (d := none) h (by intro x hx; cases hx)

theorem tmps_at {a : Act} (ha : Rel n a f) {t : Nat} (ht : t < n) : a.tmps[t]? = some (f t) := by
  have hlt : t < a.tmps.size := by rw [ha.size]; exact ht
  have := ha.at_ t
  rw [← this]
  simp [hlt]

theorem Rel.yield {a : Act} (ha : Rel n a f) (hn : ∀ (i t : Nat), (ops[i]?).bind (·.dst) = some t → t < n) (j : Nat) : yielded ops a.tmps j = yieldF ops f j := by
  unfold yielded yieldF
  cases ht : (ops[j]?).bind (·.dst) with
  | none => rfl
  | some t => simp only [Option.bind_some, tmps_at ha (hn j t ht)]; cases f t <;> rfl

theorem wanted_of {o : Oper} {a : Act} (ha : Rel n a f) (hn : ∀ (i t : Nat), (ops[i]?).bind (·.dst) = some t → t < n) :
    Region.wanted o (yielded ops a.tmps) = Region.wanted o (yieldF ops f) := by
  unfold Region.wanted
  cases o.guard with
  | none => rfl
  | some g =>
    obtain ⟨j, want⟩ := g
    simp only [ha.yield hn j]

/-- a guarded operation of a list: whether it is wanted hangs on a slot -/
theorem WL.guard {d : Nat} {op : Op} {T : TypeId} {pos : String} {af : Array Edge} {g : Nat} {want : Bool} {rest : List Oper} (b : Bool) (t : Nat)
    (hg : (ops[g]?).bind (·.dst) = some t) (ht : Nat.blt t n = true) (hb : f t = .bool b) (hd : Nat.blt d n = true)
    (hy : b = want → WL P n ops Q (⟨some d, op, T, pos, af, none⟩ :: rest) f w)
    (hn : b = (!want) → WL P n ops Q rest (upd f d undef) w) : WL P n ops Q (⟨some d, op, T, pos, af, some (g, want)⟩ :: rest) f w := by
  unfold WL at *
  intro a ha
  have hyield : yielded ops a.tmps g = some b := by
    unfold yielded
    simp only [hg, Option.bind_some, tmps_at ha (t := t) (by simpa using ht), hb]
  by_cases hbw : b = want
  · have h := hy hbw a ha
    simp only [wpList, Region.wanted] at h ⊢
    simp only [hyield, hbw, beq_self_eq_true, if_true] at h ⊢
    exact h
  · have hbw' : b = !want := by cases b <;> cases want <;> simp_all
    have h := hn hbw' _ (ha.put (dst := some d) (by intro x hx; cases hx; simpa using hd) undef)
    simp only [wpList, Region.wanted, hyield]
    have : (some b == some want) = false := by simp [hbw]
    simp only [this]
    exact h
end

section
variable {P : Program} {n : Nat} {Q : Exit → Fr → World → Prop} {f : Fr} {w : World}

theorem WC.region {id : Nat} {l : List Oper} (h : WL P n l.toArray Q l f w) : WC P n (.region id l.toArray false) Q f w := by
  unfold WC; unfold WL at h
  exact fun a ha => wp_region_lit (h a ha)

theorem WC.mono {c : Code} {Q' : Exit → Fr → World → Prop} (h : WC P n c Q f w) (hq : ∀ e f w, Q e f w → Q' e f w) : WC P n c Q' f w := by
  unfold WC at *
  exact fun a ha => wp_mono (h a ha) fun e a w ⟨f', hr, q⟩ => ⟨f', hr, hq _ _ _ q⟩

theorem WC.seq {c1 c2 : Code} (h : ∀ K : Fr → World → Prop, (∀ f w, WC P n c2 Q f w → K f w) → WC P n c1 (thenQ K Q) f w) : WC P n (.seq c1 c2) Q f w := by
  have h := h (fun f w => ∀ (a : Act), Rel n a f → c2.wp P (fun e a' w' => ∃ f', Rel n a' f' ∧ Q e f' w') a w) (fun _ _ h => by unfold WC at h; exact h)
  unfold WC at h ⊢
  intro a ha
  refine wp_seq (wp_mono (h a ha) fun e a' w' ⟨f', hr, q⟩ => ?_)
  cases e with
  | normal =>
    exact q a' hr
  | _ => exact ⟨f', hr, q⟩

/-- where ways meet again: what holds there -/
theorem WC.mid {c1 c2 : Code} (M : Fr → World → Prop) (h1 : WC P n c1 (thenQ M Q) f w) (h2 : ∀ f w, M f w → WC P n c2 Q f w) : WC P n (.seq c1 c2) Q f w :=
  WC.seq fun K hK => WC.mono h1 fun e f w q => by
    cases e with
    | normal => exact hK _ _ (h2 _ _ q)
    | _ => exact q

theorem WC.cond {c : Operand} {x y : Code} (b : Bool) (hc : ev f c = .bool b) (ht : b = true → WC P n x Q f w) (hf : b = false → WC P n y Q f w) :
    WC P n (.cond c x y) Q f w := by
  unfold WC at *
  intro a ha
  have hc' : a.eval c = .bool b := by rw [ha.eval]; exact hc
  exact wp_cond_split hc' (fun hb => ht hb a ha) (fun hb => hf hb a ha)

theorem WC.block {id : Nat} {c : Code} (h : WC P n c (blockQ id Q) f w) : WC P n (.block id c) Q f w := by
  unfold WC at *
  intro a ha
  refine wp_block (wp_mono (h a ha) fun e a' w' ⟨f', hr, q⟩ => ?_)
  cases e with
  | exit id' =>
    simp only [Exit.inBlock]
    split
    · rename_i hid; subst hid
      exact ⟨f', hr, by simpa [blockQ] using q⟩
    · rename_i hid
      have : Nat.beq id' id = false := by rw [← Bool.not_eq_true, Nat.beq_eq]; exact hid
      exact ⟨f', hr, by simpa [blockQ, this] using q⟩
  | _ => exact ⟨f', hr, q⟩

theorem WC.skip (h : Q .normal f w) : WC P n .skip Q f w := by unfold WC; exact fun a ha => wp_skip ⟨f, ha, h⟩
theorem WC.exit {id : Nat} (h : Q (.exit id) f w) : WC P n (.exit id) Q f w := by unfold WC; exact fun a ha => wp_exit ⟨f, ha, h⟩
theorem WC.ret (h : Q .ret f w) : WC P n .ret Q f w := by unfold WC; exact fun a ha => wp_ret ⟨f, ha, h⟩

theorem WC.loop {c : Code} (I : Nat → Fr → World → Prop) (m : Nat) (h0 : I m f w)
    (round : ∀ m f w, I m f w → WC P n c (thenQ (fun f' w' => ∃ m', m' < m ∧ I m' f' w') Q) f w) : WC P n (.loop c) Q f w := by
  unfold WC at *
  intro a ha
  -- the measure is carried along as a function of act and world by choice of the least one
  have key : ∀ (m : Nat) (a : Act) (f : Fr) (w : World), Rel n a f → I m f w → (Code.loop c).wp P (fun e a' w' => ∃ f', Rel n a' f' ∧ Q e f' w') a w := by
    intro m a f w ha hI b k cs
    have key2 : ∀ (m : Nat) (a : Act) (f : Fr) (w : World), Rel n a f → I m f w →
        ∃ e a' w', (∃ f', Rel n a' f' ∧ Q e f' w') ∧ Arrives P (lone (b.at a (.code c :: .inLoop c :: k)) cs w) b k cs e a' w' := by
      intro m
      induction m using Nat.strongRecOn with
      | _ m ih =>
        intro a f w ha hI
        obtain ⟨e, a₁, w₁, ⟨f', hr, hq⟩, harr⟩ := round m f w hI a ha b (.inLoop c :: k) cs
        cases e with
        | normal =>
          obtain ⟨m', hm, hI'⟩ := hq
          obtain ⟨e₂, a₂, w₂, hq₂, harr₂⟩ := ih m' hm a₁ f' w₁ hr hI'
          exact ⟨e₂, a₂, w₂, hq₂, .of_steps (Steps.trans harr (.one step_inLoop)) harr₂⟩
        | exit id => exact ⟨_, a₁, w₁, ⟨f', hr, hq⟩, .pass (x := .inLoop c) rfl (fun _ _ => .inl (by simp)) harr⟩
        | goto l => exact ⟨_, a₁, w₁, ⟨f', hr, hq⟩, .pass (x := .inLoop c) rfl (fun _ _ => .inl (by simp)) harr⟩
        | ret => exact ⟨_, a₁, w₁, ⟨f', hr, hq⟩, .pass (x := .inLoop c) rfl (fun _ _ => .inl (by simp)) harr⟩
        | panic ch => exact ⟨_, a₁, w₁, ⟨f', hr, hq⟩, .pass (x := .inLoop c) rfl (fun _ _ => .inl (by simp)) harr⟩
        | outgrown => exact ⟨_, a₁, w₁, ⟨f', hr, hq⟩, .pass (x := .inLoop c) rfl (fun _ _ => .inl (by simp)) harr⟩
    obtain ⟨e, a', w', hq, harr⟩ := key2 m a f w ha hI
    exact ⟨e, a', w', hq, .of_steps (.one step_loop) harr⟩
  exact key m a f w ha h0
end

end

/-! calls -/
@[irreducible] def Ret (P : Program) (g : FuncId) (args : Array Value) (w : World) (R : Value → World → Prop) : Prop :=
  Calls P g args w fun e w' => ∃ v, e = .returned v ∧ R v w'

theorem Ret.mono {P : Program} {g : FuncId} {args : Array Value} {w : World} {R R' : Value → World → Prop} (h : Ret P g args w R) (hr : ∀ v w', R v w' → R' v w') : Ret P g args w R' := by
  unfold Ret at *
  exact Calls.mono h fun e w' ⟨v, he, hv⟩ => ⟨v, he, hr _ _ hv⟩

/-- 'loading a variable of type T at this pointer gives v' -/
@[irreducible] def Ld (P : Program) (T : TypeId) (w : World) (pv v : Value) : Prop :=
  ∃ ad, pv = .pointer (some ad) ∧ (loadVar T ad).run P w = .ok v w

inductive ResV (P : Program) (f : Fr) (w : World) : List ResultVar → List Value → Prop
  | nil : ResV P f w [] []
  | tmp {t : Tmp} {rs : List ResultVar} {vs : List Value} (h : ResV P f w rs vs) : ResV P f w (.tmp t :: rs) (f t :: vs)
  | cell {a : Tmp} {T : TypeId} {v : Value} {rs : List ResultVar} {vs : List Value} (hl : Ld P T w (f a) v) (h : ResV P f w rs vs) : ResV P f w (.cell a T :: rs) (v :: vs)

theorem ResV.tmpV {P : Program} {f : Fr} {w : World} {t : Tmp} {v : Value} {rs : List ResultVar} {vs : List Value} (hv : f t = v) (h : ResV P f w rs vs) : ResV P f w (.tmp t :: rs) (v :: vs) := by subst hv; exact .tmp h
theorem ResV.tmpI {P : Program} {f : Fr} {w : World} {t : Tmp} {k : IntKind} {n : Int} {rs : List ResultVar} {vs : List Value} (hv : f t = .int k n) (h : ResV P f w rs vs) : ResV P f w (.tmp t :: rs) (.int k n :: vs) := .tmpV hv h
theorem ResV.tmpB {P : Program} {f : Fr} {w : World} {t : Tmp} {b : Bool} {rs : List ResultVar} {vs : List Value} (hv : f t = .bool b) (h : ResV P f w rs vs) : ResV P f w (.tmp t :: rs) (.bool b :: vs) := .tmpV hv h
def resOne : List Value → Value
  | [v] => v
  | vs => .tuple vs.toArray

def bodyQ (P : Program) (rs : List ResultVar) (R : Value → World → Prop) : Exit → Fr → World → Prop
  | .normal, f, w | .ret, f, w => ∃ vs, ResV P f w rs vs ∧ R (resOne vs) w
  | _, _, _ => False
theorem bodyQ_ret {P : Program} {rs : List ResultVar} {R : Value → World → Prop} {f : Fr} {w : World} {vs : List Value} (h : ResV P f w rs vs) (hR : R (resOne vs) w) : bodyQ P rs R .ret f w := ⟨vs, h, hR⟩
theorem bodyQ_end {P : Program} {rs : List ResultVar} {R : Value → World → Prop} {f : Fr} {w : World} {vs : List Value} (h : ResV P f w rs vs) (hR : R (resOne vs) w) : bodyQ P rs R .normal f w := ⟨vs, h, hR⟩

theorem run_mapM_list {α β : Type} (P : Program) (w : World) (g : α → Sem β) : ∀ (l : List α) (vs : List β), (∀ (i : Nat) (x : α), l[i]? = some x → ∃ v, vs[i]? = some v ∧ (g x).run P w = .ok v w) → l.length = vs.length → (l.mapM g).run P w = .ok vs w
  | [], [], _, _ => by simp
  | x :: l, v :: vs, h, hl => by
    obtain ⟨v', hv', hr⟩ := h 0 x rfl
    simp at hv'; subst hv'
    have ih := run_mapM_list P w g l vs (fun i x hx => by simpa using h (i + 1) x (by simpa using hx)) (by simpa using hl)
    simp [List.mapM_cons, hr, ih]
  | [], _ :: _, _, hl => by simp at hl
  | _ :: _, [], _, hl => by simp at hl

theorem ResV.len {P : Program} {f : Fr} {w : World} {rs : List ResultVar} {vs : List Value} (h : ResV P f w rs vs) : rs.length = vs.length := by
  induction h <;> simp_all

def resG (tmps : Array Value) : ResultVar → Sem Value
  | .tmp t => pure (tmps.getD t undef)
  | .cell a t => do loadVar t (← asAddr (tmps.getD a undef))

theorem ResV.each {P : Program} {n : Nat} {a : Act} {f : Fr} {w : World} (ha : Rel n a f) {rs : List ResultVar} {vs : List Value} (h : ResV P f w rs vs) :
    ∀ (i : Nat) (x : ResultVar), rs[i]? = some x → ∃ v, vs[i]? = some v ∧ (resG a.tmps x).run P w = .ok v w := by
  induction h with
  | nil => intro i x hx; simp at hx
  | @tmp t rs vs h ih =>
    intro i x hx
    cases i with
    | zero => simp at hx; subst hx; exact ⟨_, rfl, by simp only [resG, ha.at_]; rfl⟩
    | succ i => simpa using ih i x (by simpa using hx)
  | @cell c T v rs vs hl h ih =>
    intro i x hx
    cases i with
    | zero =>
      simp at hx; subst hx
      unfold Ld at hl
      obtain ⟨ad, hp, hr⟩ := hl
      refine ⟨v, rfl, ?_⟩
      simp only [resG, ha.at_, hp, asAddr, pure_bind]
      exact hr
    | succ i => simpa using ih i x (by simpa using hx)

theorem ResV.run {P : Program} {n : Nat} {a : Act} {f : Fr} {w : World} {fn : Func} {vs : List Value} (ha : Rel n a f) (h : ResV P f w fn.results.toList vs) :
    (results fn a.tmps).run P w = .ok (resOne vs) w := by
  have e0 : results fn a.tmps = (do let vs ← fn.results.mapM (resG a.tmps); pure (if h : vs.size = 1 then vs[0] else .tuple vs)) := by
    unfold results
    congr 1
  have hmm := run_mapM_list P w (resG a.tmps) fn.results.toList vs (h.each ha) h.len
  rw [e0, Array.mapM_eq_mapM_toList]
  simp only [Sem.run_bind, Sem.run_map, hmm, Result.andThen_ok, Sem.run_pure]
  congr 1
  match vs with
  | [] => simp [resOne]
  | [v] => simp [resOne]
  | v :: u :: vs => simp [resOne]

theorem Ret.enter {P : Program} {g : FuncId} {fn : Func} {c : Code} {args : List Value} {w : World} {R : Value → World → Prop} {n : Nat} {rs : List ResultVar}
    (hf : P.funcs[g]? = some fn) (hb : fn.body = some c) (hn : fn.ntmps = n) (hr : fn.results = rs.toArray) (hargs : Nat.ble args.length n = true)
    (h : WC P n c (bodyQ P rs R) (fr0 args) w) : Ret P g args.toArray w R := by
  unfold Ret
  refine calls_of_wp hf hb ?_
  unfold WC at h
  have hle : args.length ≤ n := by simpa using hargs
  have hrel : Rel n { tmps := args.toArray ++ Array.replicate (fn.ntmps - args.toArray.size) undef, defers := [] } (fr0 args) := by
    refine ⟨rfl, by simp [hn]; omega, fun i => ?_⟩
    simp only [fr0, Array.getD_eq_getD_getElem?, Array.getElem?_append, List.size_toArray]
    split
    · simp
    · rename_i hi
      have : args[i]? = none := List.getElem?_eq_none (by omega)
      simp only [this, Option.getD_none, Array.getElem?_replicate]
      split <;> rfl
  have hrs : fn.results.toList = rs := by rw [hr]
  subst hrs
  refine wp_mono (h _ hrel) fun e a w ⟨f', hr, q⟩ => ?_
  cases e with
  | normal =>
    obtain ⟨vs, hv, hR⟩ := q
    exact ⟨hr.defers, _, hv.run hr, _, rfl, hR⟩
  | ret =>
    obtain ⟨vs, hv, hR⟩ := q
    exact ⟨hr.defers, _, hv.run hr, _, rfl, hR⟩
  | _ => exact (q : False).elim

end Go.Fer
