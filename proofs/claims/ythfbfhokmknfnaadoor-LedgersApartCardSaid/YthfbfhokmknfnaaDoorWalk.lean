/- Library, part 6 (the walk's joints): frames forgotten but for what is wanted; guards; ends. No condition: rules alone. -/
import Derived.Test.YthfbfhokmknfnaaDoorBuild
set_option linter.all false
namespace Go.Fer
open Go Go.RowKit
variable [D : Dfr]

/-! ends -/
section
variable {K : Fr → World → Prop} {Q : Exit → Fr → World → Prop} {f : Fr} {w : World}
theorem thenQ_n (h : K f w) : thenQ K Q .normal f w := h
theorem thenQ_e {i : Nat} (h : Q (.exit i) f w) : thenQ K Q (.exit i) f w := h
theorem thenQ_r (h : Q .ret f w) : thenQ K Q .ret f w := h
theorem blockQ_n {id : Nat} (h : Q .normal f w) : blockQ id Q .normal f w := h
theorem blockQ_r {id : Nat} (h : Q .ret f w) : blockQ id Q .ret f w := h
theorem blockQ_hit {id : Nat} (h : Q .normal f w) : blockQ id Q (.exit id) f w := by
  have : Nat.beq id id = true := by simp
  simp only [blockQ, this, cond_true]; exact h
theorem blockQ_miss {id i : Nat} (hi : Nat.beq i id = false) (h : Q (.exit i) f w) : blockQ id Q (.exit i) f w := by
  simp only [blockQ, hi, cond_false]; exact h
end

/-! frames, but for some slots -/
def upds : List (Nat × Value) → Fr → Fr
  | [], f => f
  | (i, v) :: l, f => upd (upds l f) i v
def Fits : List (Nat × Value) → Fr → Prop
  | [], _ => True
  | (i, v) :: l, f => f i = v ∧ Fits l f
theorem Fits.eq : ∀ {l : List (Nat × Value)} {f : Fr}, Fits l f → f = upds l f
  | [], f, _ => rfl
  | (i, v) :: l, f, h => by
    have ih := Fits.eq h.2
    funext j
    simp only [upds]
    by_cases hj : j = i
    · subst hj; rw [upd_same]; exact h.1
    · rw [upd_ne _ _ hj, ← ih]
section
variable {P : Program} {n : Nat} {Q : Exit → Fr → World → Prop} {f : Fr} {w : World}
theorem WC.fits {c : Code} (l : List (Nat × Value)) (hf : Fits l f) (h : ∀ g : Fr, WC P n c Q (upds l g) w) : WC P n c Q f w := by
  rw [hf.eq]; exact h f
theorem WL.fits {ops : Array Oper} {r : List Oper} (l : List (Nat × Value)) (hf : Fits l f) (h : ∀ g : Fr, WL P n ops Q r (upds l g) w) : WL P n ops Q r f w := by
  rw [hf.eq]; exact h f
end

/-! guards: what is not wanted leaves nothing in its slot -/
@[irreducible] def gv (G : Bool) (v : Value) : Value := cond G v undef
theorem gv_true {G : Bool} (h : G = true) (v : Value) : gv G v = v := by subst h; unfold gv; rfl
theorem gv_of {G : Bool} {x v : Value} (h : x = gv G v) (hg : G = true) : x = v := h.trans (gv_true hg v)
theorem gv_and {G e : Bool} {x v : Value} (h : x = gv (G && e) v) (hg : G = true) : x = gv e v := by subst hg; simpa using h
theorem gv_false {G : Bool} (h : G = false) (v : Value) : gv G v = undef := by subst h; unfold gv; rfl
section
variable {P : Program} {n : Nat} {ops : Array Oper} {Q : Exit → Fr → World → Prop} {f : Fr} {w : World}
/-- a guarded operation that changes nothing that was there -/
theorem WL.gd {d : Nat} {op : Op} {T : TypeId} {pos : String} {af : Array Edge} {g : Nat} {want : Bool} {rest : List Oper} (b : Bool) (t : Nat) (v : Value)
    (hg : (ops[g]?).bind (·.dst) = some t) (ht : Nat.blt t n = true) (hb : f t = .bool b) (hd : Nat.blt d n = true)
    (hop : (b == want) = true → opW P f ⟨some d, op, T, pos, af, none⟩ w (fun v' w' => v' = v ∧ Bel w w'))
    (h : ∀ w', Bel w w' → WL P n ops Q rest (upd f d (gv (b == want) v)) w') : WL P n ops Q (⟨some d, op, T, pos, af, some (g, want)⟩ :: rest) f w := by
  refine WL.guard b t hg ht hb hd (fun hw => ?_) (fun hw => ?_)
  · have hE : (b == want) = true := by subst hw; simp
    refine WL.op hd (opW_mono (hop hE) fun v' w' hv => ?_)
    obtain ⟨rfl, hbel⟩ := hv
    have := h w' hbel
    rw [gv_true hE] at this
    exact this
  · have hE : (b == want) = false := by subst hw; cases want <;> rfl
    have := h w (Bel.refl w)
    rw [gv_false hE] at this
    exact this
/-- a guard that is known not to be met -/
theorem WL.gF {d : Nat} {op : Op} {T : TypeId} {pos : String} {af : Array Edge} {g : Nat} {want : Bool} {rest : List Oper} (t : Nat)
    (hg : (ops[g]?).bind (·.dst) = some t) (ht : Nat.blt t n = true) (hd : Nat.blt d n = true) (hb : f t = .bool (!want))
    (h : WL P n ops Q rest (upd f d undef) w) : WL P n ops Q (⟨some d, op, T, pos, af, some (g, want)⟩ :: rest) f w :=
  WL.guard (!want) t hg ht hb hd (fun e => by cases want <;> simp at e) (fun _ => h)
/-- a guard that is known to be met -/
theorem WL.gT {d : Nat} {op : Op} {T : TypeId} {pos : String} {af : Array Edge} {g : Nat} {want : Bool} {rest : List Oper} (t : Nat)
    (hg : (ops[g]?).bind (·.dst) = some t) (ht : Nat.blt t n = true) (hb : f t = .bool want)
    (h : WL P n ops Q (⟨some d, op, T, pos, af, none⟩ :: rest) f w) : WL P n ops Q (⟨some d, op, T, pos, af, some (g, want)⟩ :: rest) f w := by
  unfold WL at *
  intro a ha
  have hyield : yielded ops a.tmps g = some want := by
    unfold yielded
    simp only [hg, Option.bind_some, tmps_at ha (t := t) (by simpa using ht), hb]
  have h2 := h a ha
  simp only [wpList, Region.wanted, hyield, beq_self_eq_true, if_true] at h2 ⊢
  exact h2
/-- a guard that was not asked itself -/
theorem WL.gU {d : Nat} {op : Op} {T : TypeId} {pos : String} {af : Array Edge} {g : Nat} {want : Bool} {rest : List Oper} (t : Nat)
    (hg : (ops[g]?).bind (·.dst) = some t) (ht : Nat.blt t n = true) (hd : Nat.blt d n = true) (hu : f t = undef)
    (h : WL P n ops Q rest (upd f d undef) w) : WL P n ops Q (⟨some d, op, T, pos, af, some (g, want)⟩ :: rest) f w := by
  unfold WL at h ⊢
  intro a ha
  have h2 := h _ (ha.put (dst := some d) (by intro x hx; cases hx; simpa using hd) undef)
  have hyield : yielded ops a.tmps g = none := by
    unfold yielded
    simp only [hg, Option.bind_some, tmps_at ha (t := t) (by simpa using ht), hu, undef]
  simp only [wpList, Region.wanted, hyield]
  exact h2
/-- under another guard -/
theorem WL.gd2 {d : Nat} {op : Op} {T : TypeId} {pos : String} {af : Array Edge} {g : Nat} {want : Bool} {rest : List Oper} (G b : Bool) (t : Nat) (v : Value)
    (hg : (ops[g]?).bind (·.dst) = some t) (ht : Nat.blt t n = true) (hb : f t = gv G (.bool b)) (hd : Nat.blt d n = true)
    (hop : (G && (b == want)) = true → opW P f ⟨some d, op, T, pos, af, none⟩ w (fun v' w' => v' = v ∧ Bel w w'))
    (h : ∀ w', Bel w w' → WL P n ops Q rest (upd f d (gv (G && (b == want)) v)) w') : WL P n ops Q (⟨some d, op, T, pos, af, some (g, want)⟩ :: rest) f w := by
  cases hG : G with
  | true =>
    subst hG
    refine WL.gd b t v hg ht (by rw [hb, gv_true rfl]) hd (fun hE => hop (by simpa using hE)) fun w' hbel => ?_
    simpa using h w' hbel
  | false =>
    subst hG
    have hu : f t = undef := by rw [hb, gv_false rfl]
    have h1 := h w (Bel.refl w)
    simp only [Bool.false_and] at h1
    rw [gv_false rfl] at h1
    unfold WL at h1 ⊢
    intro a ha
    have h2 := h1 _ (ha.put (dst := some d) (by intro x hx; cases hx; simpa using hd) undef)
    have hyield : yielded ops a.tmps g = none := by
      unfold yielded
      simp only [hg, Option.bind_some, tmps_at ha (t := t) (by simpa using ht), hu, undef]
    simp only [wpList, Region.wanted, hyield]
    exact h2
end
section
variable {P : Program} {f : Fr} {w : World} {R : Value → World → Prop} {d : Option Tmp} {T : TypeId} {pos : String} {af : Array Edge} {gd : Option (Nat × Bool)}
theorem opW.pickAnd {c a b : Operand} {t u : Bool} (hc : ev f c = .bool t) (ha : ev f a = gv (t == true) (.bool u)) (hb : ev f b = .bool false) (h : R (.bool (t && u)) w) : opW P f ⟨d, .pick c a b, T, pos, af, gd⟩ w R := by
  refine opW.pick hc ?_
  cases t with
  | true => rw [ha, gv_true (G := (true == true)) rfl]; exact h
  | false => rw [hb]; exact h
theorem opW.pickOr {c a b : Operand} {t u : Bool} (hc : ev f c = .bool t) (ha : ev f a = .bool true) (hb : ev f b = gv (t == false) (.bool u)) (h : R (.bool (t || u)) w) : opW P f ⟨d, .pick c a b, T, pos, af, gd⟩ w R := by
  refine opW.pick hc ?_
  cases t with
  | true => rw [ha]; exact h
  | false => rw [hb, gv_true (G := (false == false)) rfl]; exact h
theorem opW.pickT {c a b : Operand} {t u : Bool} (hc : ev f c = .bool t) (ha : cond t (ev f a) (ev f b) = .bool u) (h : R (.bool u) w) : opW P f ⟨d, .pick c a b, T, pos, af, gd⟩ w R :=
  opW.pick hc (by rw [ha]; exact h)
theorem opW.moveI {x : Operand} {k : IntKind} {a : Int} (hx : ev f x = .int k a) (h : R (.int k a) w) : opW P f ⟨d, .move x, T, pos, af, gd⟩ w R := opW.move (by rw [hx]; exact h)
theorem opW.moveB {x : Operand} {a : Bool} (hx : ev f x = .bool a) (h : R (.bool a) w) : opW P f ⟨d, .move x, T, pos, af, gd⟩ w R := opW.move (by rw [hx]; exact h)
theorem opW.moveV {x : Operand} {v : Value} (hx : ev f x = v) (h : R v w) : opW P f ⟨d, .move x, T, pos, af, gd⟩ w R := opW.move (by rw [hx]; exact h)
theorem opW.assignI {x : Operand} {k : IntKind} {a : Int} (hx : ev f x = .int k a) (h : R (.int k a) w) : opW P f ⟨d, .assign x, T, pos, af, gd⟩ w R := opW.assign (by rw [hx]; exact h)
theorem opW.assignB {x : Operand} {a : Bool} (hx : ev f x = .bool a) (h : R (.bool a) w) : opW P f ⟨d, .assign x, T, pos, af, gd⟩ w R := opW.assign (by rw [hx]; exact h)
theorem opW.assignV {x : Operand} {v : Value} (hx : ev f x = v) (h : R v w) : opW P f ⟨d, .assign x, T, pos, af, gd⟩ w R := opW.assign (by rw [hx]; exact h)
theorem opW.boxA {E : TypeId} {x : Operand} {c : Array Value} {w0 : World} {S : List Ent} (hS : St w0 S w) (hx : ev f x = .agg c)
    (h : ∀ b w', Bel w w' → St w0 (blkE b c E :: S) w' → R (.pointer (some ⟨b, 0, none⟩)) w') : opW P f ⟨d, .box E x, T, pos, af, gd⟩ w R := by
  refine opW.box hS ?_; rw [hx]; exact h
theorem opW.box1 {E : TypeId} {x : Operand} {v : Value} {w0 : World} {S : List Ent} (hS : St w0 S w) (hx : ev f x = v) (hv : v.cells = #[v])
    (h : ∀ b w', Bel w w' → St w0 (blkE b #[v] E :: S) w' → R (.pointer (some ⟨b, 0, none⟩)) w') : opW P f ⟨d, .box E x, T, pos, af, gd⟩ w R := by
  refine opW.box hS ?_; rw [hx, hv]; exact h
theorem opW.allocA {E : TypeId} {c : Array Value} [ZeroT P E (.agg c)] {w0 : World} {S : List Ent} (hS : St w0 S w)
    (h : ∀ b w', Bel w w' → St w0 (blkE b c E :: S) w' → R (.pointer (some ⟨b, 0, none⟩)) w') : opW P f ⟨d, .alloc E, T, pos, af, gd⟩ w R := opW.alloc (z := .agg c) hS h
theorem opW.alloc1 {E : TypeId} {v : Value} [ZeroT P E v] {w0 : World} {S : List Ent} (hS : St w0 S w) (hv : v.cells = #[v])
    (h : ∀ b w', Bel w w' → St w0 (blkE b #[v] E :: S) w' → R (.pointer (some ⟨b, 0, none⟩)) w') : opW P f ⟨d, .alloc E, T, pos, af, gd⟩ w R := by
  refine opW.alloc (z := v) hS ?_; rw [hv]; exact h
theorem opW.fieldAddrB {s i off b o : Nat} [FieldT P s i off] {x : Operand} (hx : ev f x = .pointer (some ⟨b, o, none⟩)) (h : R (.pointer (some ⟨b, o + off, none⟩)) w) : opW P f ⟨d, .fieldAddr s x i, T, pos, af, gd⟩ w R :=
  opW.fieldAddr hx (IsP.mk b o) h
theorem opW.nilCheckB {x : Operand} {b o : Nat} (hx : ev f x = .pointer (some ⟨b, o, none⟩)) (h : R (.pointer (some ⟨b, o, none⟩)) w) : opW P f ⟨d, .nilCheck x, T, pos, af, gd⟩ w R :=
  opW.nilCheck hx (IsP.mk b o) h
/-- a store into a local variable, the whole of it -/
theorem run_storeVar_blk {P : Program} {w : World} {T sz b : Nat} (hs : SizeT P T sz) {cs : Array Value} {E : TypeId} (hb : w.heap[b]? = some (.cells cs E (0, 0))) (o : Nat) (v : Value) (hv : v.cells.size = sz) (ho : o + sz ≤ cs.size) (h1 : ∀ u ∈ v.cells.toList, u.oneCell' = true) :
    (storeVar T ⟨b, o, none⟩ v).run P w = .ok () (w.setRow b (cs.toList.take o ++ v.cells.toList ++ cs.toList.drop (o + v.cells.toList.length)).toArray) := by
  have hst := run_storeCells_at P b o E v.cells.toList 0 cs w hb (by simp; omega) h1
  simp only [Nat.add_zero] at hst
  simp only [storeVar, Sem.run_bind, run_sizeOf' hs, Result.andThen_ok, hv, ne_eq, not_true_eq_false, if_false]
  exact hst
theorem opW.store {E T' sz b o : Nat} [hs : SizeT P E sz] {x y : Operand} {v : Value} {cs : Array Value} {w0 : World} {S : List Ent} (hS : St w0 S w) (hx : ev f x = .pointer (some ⟨b, o, none⟩)) (hy : ev f y = v) (he : Has (blkE b cs T') S)
    (hv : v.cells.size = sz) (ho : o + sz ≤ cs.size) (h1 : ∀ u ∈ v.cells.toList, u.oneCell' = true)
    (h : ∀ w', (∀ S', Turn (blkE b cs T') (blkE b (spl cs o v.cells) T') S S' → St w0 S' w') → R undef w') : opW P f ⟨d, .store E x y, T, pos, af, gd⟩ w R := by
  have hb := hS.blk he
  have hr := run_storeVar_blk (P := P) hs hb o v hv ho h1
  have hspl : (cs.toList.take o ++ v.cells.toList ++ cs.toList.drop (o + v.cells.toList.length)).toArray = spl cs o v.cells := by
    apply Array.ext_getElem?
    intro j
    rw [spl_get cs v.cells o (by omega) j]
    simp only [List.getElem?_toArray, List.getElem?_append, List.length_append, List.length_take, Array.length_toList, List.getElem?_take, List.getElem?_drop, Array.getElem?_toList]
    have m : min o cs.size = o := by omega
    rw [m]
    by_cases h1 : j < o
    · rw [if_pos (by omega), if_pos h1, if_pos h1, if_neg (by omega)]
    · by_cases h2 : j < o + v.cells.size
      · rw [if_pos h2, if_neg h1, if_pos (by omega)]
      · rw [if_neg h2, if_neg (by omega)]
        congr 1; omega
  rw [hspl] at hr
  refine opW.of_skip (w' := w.setRow b (spl cs o v.cells)) ?_ (h _ fun S' hT => St.turn ?_ ?_ ?_ hS hT)
  · simp [execOp, Instr.storeAt, hx, hy, Instr.sureAddr, hr]
  · unfold blkE
    exact ⟨rfl, rfl, rfl, by simp [World.setRow], fun k _ hk => setRow_other w b k _ hk⟩
  · unfold blkE; exact setRow_heap w b cs _ T' _ hb
  · unfold blkE; intro k hk; exact .inl hk
theorem spl_all {cs v : Array Value} (h : v.size = cs.size) : spl cs 0 v = v := by
  unfold spl; rw [h]; simp
theorem opW.storeAll {E T' sz b : Nat} [hs : SizeT P E sz] {x y : Operand} {c cs : Array Value} {w0 : World} {S : List Ent} (hS : St w0 S w) (hx : ev f x = .pointer (some ⟨b, 0, none⟩)) (hy : (ev f y).cells = c) (he : Has (blkE b cs T') S)
    (hv : c.size = sz) (ho : cs.size = sz) (h1 : ∀ u ∈ c.toList, u.oneCell' = true)
    (h : ∀ w', (∀ S', Turn (blkE b cs T') (blkE b c T') S S' → St w0 S' w') → R undef w') : opW P f ⟨d, .store E x y, T, pos, af, gd⟩ w R := by
  subst hy
  refine opW.store hS hx rfl he hv (by omega) h1 fun w' h' => h w' fun S' hT => h' S' ?_
  rw [spl_all (by omega)]; exact hT
end

section
variable {P : Program} {f : Fr} {w : World} {R : Value → World → Prop} {d : Option Tmp} {T : TypeId} {pos : String} {af : Array Edge} {gd : Option (Nat × Bool)}
theorem opW.minI {x y : Operand} {k : IntKind} {a b c : Int} {ts : Array TypeId} (hx : ev f x = .int k a) (hy : ev f y = .int k b) (hc : (if b < a then b else a) = c) (h : R (.int k c) w) :
    opW P f ⟨d, .call { callee := .builtin .min, args := #[x, y], argTypes := ts }, T, pos, af, gd⟩ w R := by
  subst hc
  refine opW.of_run (v := .int k (if b < a then b else a)) (w' := w) ?_ h
  simp [execOp, resolve, invoke, builtin, Builtin.min_, Builtin.min2, hx, hy]
theorem opW.maxI {x y : Operand} {k : IntKind} {a b c : Int} {ts : Array TypeId} (hx : ev f x = .int k a) (hy : ev f y = .int k b) (hc : (if a < b then b else a) = c) (h : R (.int k c) w) :
    opW P f ⟨d, .call { callee := .builtin .max, args := #[x, y], argTypes := ts }, T, pos, af, gd⟩ w R := by
  subst hc
  refine opW.of_run (v := .int k (if a < b then b else a)) (w' := w) ?_ h
  simp [execOp, resolve, invoke, builtin, Builtin.max_, Builtin.max2, hx, hy]
theorem opW.boolT {op : BinOp} {s t : TypeId} {x y : Operand} {b : Bool} (hb : b = true) (hh : opW P f ⟨d, .binOp op s x y t, T, pos, af, gd⟩ w (fun v w' => v = .bool b ∧ w' = w)) (h : R (.bool true) w) : opW P f ⟨d, .binOp op s x y t, T, pos, af, gd⟩ w R :=
  opW_mono hh fun v w' ⟨h1, h2⟩ => by subst h1; subst h2; subst hb; exact h
theorem opW.boolF {op : BinOp} {s t : TypeId} {x y : Operand} {b : Bool} (hb : b = false) (hh : opW P f ⟨d, .binOp op s x y t, T, pos, af, gd⟩ w (fun v w' => v = .bool b ∧ w' = w)) (h : R (.bool false) w) : opW P f ⟨d, .binOp op s x y t, T, pos, af, gd⟩ w R :=
  opW_mono hh fun v w' ⟨h1, h2⟩ => by subst h1; subst h2; subst hb; exact h
theorem run_equal_nil {s E n c : Nat} (hs : SliceT P s E) (a : Option Addr) (w : World) : (Op.equal s (.slice a n c) (.slice none 0 0)).run P w = .ok a.isNone w := by
  unfold Op.equal
  show (Op.equalIn (9999 + 1) s (.slice a n c) (.slice none 0 0)).run P w = .ok a.isNone w
  generalize 9999 = k
  cases a <;> simp [Op.equalIn, run_underlying hs.out]
/-- a slice held against nil -/
theorem opW.eqlNil {s t E n c : Nat} {x y : Operand} {a : Option Addr} [hs : SliceT P s E] (hx : ev f x = .slice a n c) (hy : ev f y = .slice none 0 0) (h : R (.bool a.isNone) w) : opW P f ⟨d, .binOp .eql s x y t, T, pos, af, gd⟩ w R := by
  refine opW.of_run (v := .bool a.isNone) (w' := w) ?_ h
  have e1 : eqGuard .eql s x y (.slice a n c) (.slice none 0 0) = pure () := rfl
  have e2 : binOp .eql s (.slice a n c) (.slice none 0 0) = (do pure (.bool (← Op.equal s (.slice a n c) (.slice none 0 0)))) := rfl
  simp only [execOp, hx, hy, e1, e2, Sem.run_bind, Sem.run_pure, Result.andThen_ok, run_equal_nil hs]
theorem opW.neqNil {s t E n c : Nat} {x y : Operand} {a : Option Addr} [hs : SliceT P s E] (hx : ev f x = .slice a n c) (hy : ev f y = .slice none 0 0) (h : R (.bool (!a.isNone)) w) : opW P f ⟨d, .binOp .neq s x y t, T, pos, af, gd⟩ w R := by
  refine opW.of_run (v := .bool (!a.isNone)) (w' := w) ?_ h
  have e1 : eqGuard .neq s x y (.slice a n c) (.slice none 0 0) = pure () := rfl
  have e2 : binOp .neq s (.slice a n c) (.slice none 0 0) = (do pure (.bool (!(← Op.equal s (.slice a n c) (.slice none 0 0))))) := rfl
  simp only [execOp, hx, hy, e1, e2, Sem.run_bind, Sem.run_pure, Result.andThen_ok, run_equal_nil hs]
end
theorem SlR.none_nil {α : Type} [Enc α] {w : World} {n c : Nat} {xs : List α} (h : SlR w (.slice none n c) xs) : xs = [] ∧ n = 0 ∧ c = 0 := by
  obtain ⟨a, cap, he, h1, h2, h3, _⟩ := h
  cases he
  have := h3 rfl
  subst this
  exact ⟨List.eq_nil_of_length_eq_zero (by omega), by omega, rfl⟩
theorem New.cut {w w' : World} {v : Value} {e : TypeId} {α : Type} [Enc α] {xs : List α} (h : New w w' v e xs) : New w w' (cutV v 0 xs.length xs.length (Enc.sz α)) e xs := by
  obtain ⟨ho, hf⟩ := h
  rcases ho with ⟨rfl, rfl⟩ | ⟨g, cap, cur, rfl, hg, h1, h2, h3, h4⟩
  · exact ⟨.inl ⟨by simp [cutV], rfl⟩, by simp [cutV, Value.ownBlock]⟩
  · refine ⟨.inr ⟨g, xs.length, cur, ?_, hg, Nat.le_refl _, by omega, Nat.le_trans (Nat.mul_le_mul_right _ h1) h3, h4⟩, ?_⟩
    · simp [cutV]
    · intro k hk
      refine hf k ?_
      by_cases hl : xs.length = 0 <;> simp [cutV, Value.ownBlock, hl] at hk ⊢ <;> exact hk
theorem New.of_eq {w w' : World} {v : Value} {e : TypeId} {α : Type} [Enc α] {xs ys : List α} (h : New w w' v e xs) (he : xs = ys) : New w w' v e ys := he ▸ h
theorem New.nil (w w' : World) (e : TypeId) {α : Type} [Enc α] : New (α := α) w w' (.slice none 0 0) e [] := ⟨.inl ⟨rfl, rfl⟩, by simp [Value.ownBlock]⟩

/-! bytes -/
instance : Enc UInt8 where
  enc c := #[.int .u8 c.toNat]
  sz := 1
  pos := by omega
  size_eq _ := rfl
  one c u hu := by simp at hu; subst hu; rfl
theorem enc_u8 (c : UInt8) : Enc.enc c = #[.int .u8 c.toNat] := rfl
end Go.Fer
