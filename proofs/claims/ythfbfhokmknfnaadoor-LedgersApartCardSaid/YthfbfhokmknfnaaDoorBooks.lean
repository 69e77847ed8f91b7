/- Library, part 20 (interface values, calls through them; room behind an own slice). No condition: rules alone. -/
import Derived.Test.YthfbfhokmknfnaaDoorSizes
set_option linter.all false
namespace Go.Fer
open Go Go.RowKit

/-- a method's row: whose text runs, for a value -/
class MethT (P : Program) (t : TypeId) (name : String) (g : outParam FuncId) : Prop where
  out : ∃ sig, (P.info? t).bind (fun i => i.methods.find? (fun m => m.name == name)) = some ⟨name, sig, #[], some (g, false)⟩
theorem run_method' {P : Program} {t g : Nat} {name : String} (hm : MethT P t name g) (ha : AggT P t) (v : Value) (n : Nat) (w : World) : (Go.method (n + 1) t v name).run P w = .ok (g, v) w := by
  obtain ⟨sig, h⟩ := hm.out
  have h2 := ha.out
  unfold aggB at h2
  cases hi : P.info? t with
  | none => simp [hi] at h
  | some i =>
    simp only [hi, Option.bind_some] at h
    cases hu : P.underlying t with
    | none => simp [hu] at h2
    | some d =>
      cases d <;> simp [hu] at h2 <;> simp [Go.method, typeInfo, hi, h, follow, receiverAt, run_underlying hu, Place.get]
/-- what a call through an interface value does -/
def InvR (P : Program) (v : Value) (name : String) (vs : List Value) (w : World) (R : Value → World → Prop) : Prop :=
  ∃ t x g, v = .iface t x ∧ MethT P t name g ∧ AggT P t ∧ FnT P g ∧ Ret P g (x :: vs).toArray w R
section
variable {P : Program} {f : Fr} {w w0 : World} {S : List Ent} {R : Value → World → Prop} {d : Option Tmp} {T : TypeId} {pos : String} {af : Array Edge} {gd : Option (Nat × Bool)}
theorem opW.invoke {recv : Operand} {name : String} {args : Array Operand} {ts : Array TypeId} {v : Value} {vs : List Value} {R' : Value → World → Prop} (hr : ev f recv = v) (hi : InvR P v name vs w R') (hargs : args.toList.map (ev f) = vs) (h : ∀ v w', R' v w' → R v w') :
    opW P f ⟨d, .call { callee := .invoke recv name, args := args, argTypes := ts }, T, pos, af, gd⟩ w R := by
  obtain ⟨t, x, g, rfl, hm, ha, hg, hc⟩ := hi
  unfold Ret at hc
  have he : (x :: vs).toArray = #[x] ++ args.map (ev f) := by subst hargs; apply Array.ext'; simp
  rw [he] at hc
  have hex : (#[Value.iface t x] ++ args.map (ev f)).extract 1 (#[Value.iface t x] ++ args.map (ev f)).size = args.map (ev f) := by
    apply Array.ext'; simp
    rw [List.take_of_length_le (by simp)]
  have h0 : (#[Value.iface t x] ++ args.map (ev f))[0]? = some (Value.iface t x) := by rw [Array.getElem?_append_left (by simp)]; rfl
  obtain ⟨n, hn⟩ : ∃ n, P.types.size + Made.depth = n + 1 := ⟨_, rfl⟩
  have hcm : (callMethod (.iface t x) name (args.map (ev f))).run P w = .ok (.enter g (#[x] ++ args.map (ev f))) w := by
    simp only [callMethod, Sem.run_bind, run_program, Result.andThen_ok, hn, run_method' hm ha, run_callFunc hg]
  have hrun : (execOp (ev f) ⟨d, .call { callee := .invoke recv name, args := args, argTypes := ts }, T, pos, af, gd⟩).run P w = .ok (.enter g (#[x] ++ args.map (ev f))) w := by
    simp only [execOp, resolve, hr, Sem.run_bind, Sem.run_pure, Result.andThen_ok, Go.invoke, h0, hex, hcm]
  unfold opW
  rw [hrun]
  exact Calls.mono hc fun e w' ⟨v, he, hv⟩ => ⟨v, he, h _ _ hv⟩
theorem concrete_of {t : TypeId} (ha : AggT P t) : P.concrete t = true := by
  have h2 := ha.out
  unfold aggB at h2
  unfold Program.concrete
  cases hu : P.underlying t with
  | none => simp [hu] at h2
  | some d => cases d <;> simp [hu] at h2 <;> rfl
theorem opW.iface {s : TypeId} {x : Operand} {v : Value} [ha : AggT P s] (hx : ev f x = v) (h : R (.iface s v) w) : opW P f ⟨d, .makeInterface s x, T, pos, af, gd⟩ w R := by
  refine opW.of_run (v := .iface s v) (w' := w) ?_ h
  simp [execOp, hx, run_makeInterface, concrete_of ha]
end
/-- an interface value as a list's element -/
structure IfV where
  t : TypeId
  x : Value
def IfV.v (s : IfV) : Value := .iface s.t s.x
instance : Enc IfV where
  enc s := #[s.v]
  sz := 1
  pos := by omega
  size_eq _ := rfl
  one s u hu := by simp at hu; subst hu; rfl
theorem enc_ifv (s : IfV) : Enc.enc s = #[s.v] := rfl
theorem Pt.ldI {P : Program} {w : World} {T : Nat} [ScalT P T] {q pv : Value} {x : IfV} (hp : Pt w q (Enc.enc x)) (h : x.v = pv) : Ld P T w q pv := hp.ld (by rw [enc_ifv, ← h]; rfl)

/-! room behind an own slice -/
/-- an own slice, or none: its shape -/
def OwnS (v : Value) (n : Nat) : Prop := (v = .slice none 0 0 ∧ n = 0) ∨ ∃ g cap, v = .slice (some ⟨g, 0, none⟩) n cap ∧ n ≤ cap ∧ cap ≤ maxLen
theorem elemP_cut0 (v : Value) (h m sz i s : Nat) : elemP (cutV v 0 h m sz) i s = elemP v i s := by
  cases v with
  | slice a n c => cases a <;> by_cases hm : m = 0 <;> simp [cutV, elemP, hm]
  | _ => rfl
theorem cutV_cut0 (v : Value) (h m sz h' : Nat) : cutV (cutV v 0 h m sz) 0 h' m sz = cutV v 0 h' m sz := by
  cases v with
  | slice a n c => cases a <;> by_cases hm : m = 0 <;> simp [cutV, hm]
  | _ => rfl
theorem capV_cut0 (v : Value) (h m sz : Nat) (hv : ∃ a n c, v = .slice a n c) : capV (cutV v 0 h m sz) = m := by obtain ⟨a, n, c, rfl⟩ := hv; simp [cutV, capV]
theorem OwnS.isS {v : Value} {n : Nat} (h : OwnS v n) : ∃ a n c, v = .slice a n c := by
  rcases h with ⟨rfl, _⟩ | ⟨g, c, rfl, _⟩ <;> exact ⟨_, _, _, rfl⟩
theorem OwnS.le {v : Value} {n : Nat} (h : OwnS v n) : n ≤ capV v ∧ capV v ≤ maxLen := by
  rcases h with ⟨rfl, rfl⟩ | ⟨g, c, rfl, h1, h2⟩
  · exact ⟨Nat.le_refl _, Nat.zero_le _⟩
  · exact ⟨h1, h2⟩
theorem OwnS.self {v : Value} {n : Nat} (h : OwnS v n) (sz : Nat) : cutV v 0 n (capV v) sz = v := by
  rcases h with ⟨rfl, rfl⟩ | ⟨g, c, rfl, h1, h2⟩
  · simp [cutV, capV]
  · by_cases hc : c = 0 <;> simp [cutV, capV, hc]
section
variable {α : Type} [Enc α] {P : Program} {f : Fr} {w w0 : World} {S : List Ent} {R : Value → World → Prop} {d : Option Tmp} {T : TypeId} {pos : String} {af : Array Edge} {gd : Option (Nat × Bool)}
theorem OwnB.shape {v : Value} {e : TypeId} {xs : List α} (h : OwnB w v e xs) : OwnS v xs.length := by
  rcases h with ⟨rfl, rfl⟩ | ⟨g, cap, cur, rfl, _, h1, h2, _⟩
  · exact .inl ⟨rfl, rfl⟩
  · exact .inr ⟨g, cap, rfl, h1, h2⟩
/-- the head of an own slice, with room -/
theorem St.ownFront {v : Value} {E : TypeId} {xs : List α} {k m : Nat} {S' : List Ent} (hS : St w0 S w) (hk : k ≤ xs.length) (hm : k ≤ m) (hm2 : m ≤ capV v) (hT : Turn (ownE v E xs) (ownE (cutV v 0 k m (Enc.sz α)) E (xs.take k)) S S') : St w0 S' w := by
  have ho := hS.own hT.has
  refine St.turn ⟨rfl, rfl, rfl, Nat.le_refl _, fun _ _ _ => rfl⟩ ?_ ?_ hS hT
  · rw [ownE_A]
    have hl : (xs.take k).length = k := by simp; omega
    rcases ho with ⟨rfl, rfl⟩ | ⟨g, cap, cur, rfl, hg, h1, h2, h3, h4⟩
    · simp only [capV] at hm2
      obtain rfl : m = 0 := by omega
      obtain rfl : k = 0 := by omega
      exact .inl ⟨by simp [cutV], by simp⟩
    · simp only [capV] at hm2
      refine .inr ⟨g, m, cur, ?_, hg, by omega, by omega, Nat.le_trans (Nat.mul_le_mul_right _ hm2) h3, ?_⟩
      · by_cases hz : m = 0 <;> simp [cutV, hz, hl]
      · rw [hl, flat_take, ← h4, List.take_take, Nat.min_eq_left (Nat.mul_le_mul_right _ hk)]
  · rw [ownE_F, ownE_F]
    intro k' hk'
    refine .inl ?_
    rcases ho with ⟨rfl, rfl⟩ | ⟨g, cap, cur, rfl, _⟩
    · simp [cutV, Value.ownBlock] at hk'
    · by_cases hz : m = 0 <;> simp [cutV, hz, Value.ownBlock] at hk' ⊢ <;> exact hk'
/-- an element of what was cut -/
theorem opW.idxCut {x ix : Operand} {v : Value} {t E h m n : Nat} {k : IntKind} {i : Int} [ht : SliceT P t E] [hz : SizeT P E (Enc.sz α)] (ho : OwnS v n) (hx : ev f x = cutV v 0 h m (Enc.sz α)) (hi : ev f ix = .int k i) (hb : 0 ≤ i ∧ i < (h : Int)) (hh : h ≤ capV v)
    (hR : R (elemP v i.toNat (Enc.sz α)) w) : opW P f ⟨d, .indexAddr t x ix, T, pos, af, gd⟩ w R := by
  rcases ho with ⟨rfl, rfl⟩ | ⟨g, cap, rfl, h1, h2⟩
  · simp only [capV] at hh; omega
  · have e : cutV (.slice (some ⟨g, 0, none⟩) n cap) 0 h m (Enc.sz α) = .slice (some ⟨g, 0, none⟩) h m := by by_cases hz : m = 0 <;> simp [cutV, hz]
    refine opW.of_run (v := elemP (.slice (some ⟨g, 0, none⟩) n cap) i.toNat (Enc.sz α)) (w' := w) ?_ hR
    simp [execOp, Instr.indexAt, hi, asIntOf, run_underlying ht.out, hx, e, hb, run_sizeOf' hz, elemP, add_spot]
theorem opW.lenCut {x : Operand} {v : Value} {t E h m n sz : Nat} [SliceT P t E] (ho : OwnS v n) (hx : ev f x = cutV v 0 h m sz) (hR : R (.int .i64 (h : Int)) w) :
    opW P f ⟨d, .call { callee := .builtin .len, args := #[x], argTypes := #[t] }, T, pos, af, gd⟩ w R := by
  obtain ⟨a, n', c, rfl⟩ := ho.isS
  obtain ⟨a', h'⟩ : ∃ a', cutV (.slice a n' c) 0 h m sz = .slice a' h m := ⟨_, rfl⟩
  rw [h'] at hx
  exact opW.len hx hR
/-- a store into the room behind an own slice: its first place -/
theorem opW.storeRoom {E' E : Nat} {x y : Operand} {v u : Value} {xs : List α} {y' : α} [hs : SizeT P E' (Enc.sz α)] (hS : St w0 S w) (he : Has (ownE v E xs) S) (hi : xs.length < capV v) (hx : ev f x = elemP v xs.length (Enc.sz α)) (hy : ev f y = u)
    (hu : u.cells = Enc.enc y')
    (h : ∀ w', (∀ S', Turn (ownE v E xs) (ownE (cutV v 0 (xs.length + 1) (capV v) (Enc.sz α)) E (xs ++ [y'])) S S' → St w0 S' w') → R undef w') : opW P f ⟨d, .store E' x y, T, pos, af, gd⟩ w R := by
  have ho := hS.own he
  rcases ho with ⟨rfl, rfl⟩ | ⟨g, cap, cur, rfl, hg, hc1, hc2, hc3, hc4⟩
  · simp [capV] at hi
  simp only [capV] at hi
  have hus : u.cells.size = Enc.sz α := by rw [hu, Enc.size_eq]
  have hmul : xs.length * Enc.sz α + Enc.sz α ≤ cap * Enc.sz α := by
    have := Nat.mul_le_mul_right (Enc.sz α) (show xs.length + 1 ≤ cap from hi)
    rw [Nat.succ_mul] at this; exact this
  have hx' : ev f x = .pointer (some ⟨g, xs.length * Enc.sz α, none⟩) := by rw [hx]; simp [elemP]
  have hr := run_storeVar_blk (P := P) hs hg (xs.length * Enc.sz α) u hus (by omega) (by rw [hu]; exact Enc.one y')
  have hspl : (cur.toList.take (xs.length * Enc.sz α) ++ u.cells.toList ++ cur.toList.drop (xs.length * Enc.sz α + u.cells.toList.length)).toArray = spl cur (xs.length * Enc.sz α) u.cells := by
    unfold spl
    apply Array.ext'
    simp only [Array.toList_append, Array.toList_extract, List.extract_eq_take_drop, Nat.sub_zero, List.drop_zero, Array.length_toList]
    congr 1
    rw [List.take_of_length_le (by simp)]
  rw [hspl] at hr
  have hl1 : (xs ++ [y']).length = xs.length + 1 := by simp
  refine opW.of_skip (w' := w.setRow g (spl cur (xs.length * Enc.sz α) u.cells)) ?_ (h _ fun S' hT => St.turn ?_ ?_ ?_ hS hT)
  · simp [execOp, Instr.storeAt, hx', hy, Instr.sureAddr, hr]
  · rw [ownE_F]
    exact ⟨rfl, rfl, rfl, by simp [World.setRow], fun k _ hk => setRow_other w g k _ (fun e => hk (by simp [Value.ownBlock, e]))⟩
  · rw [ownE_A]
    refine .inr ⟨g, cap, spl cur (xs.length * Enc.sz α) u.cells, ?_, setRow_heap w g cur _ E _ hg, by rw [hl1]; exact hi, hc2, ?_, ?_⟩
    · by_cases hz : cap = 0 <;> simp [cutV, capV, hz]
    · unfold spl; simp; omega
    · rw [hl1]
      apply List.ext_getElem?
      intro j
      rw [flat_append, List.getElem?_take, Array.getElem?_toList]
      have hfl := congrArg (fun l => l[j]?) hc4
      simp only [List.getElem?_take, Array.getElem?_toList] at hfl
      have hf1 : (flat [y'] : List Value) = (Enc.enc y').toList := by simp [flat]
      have hfx := flat_length xs
      rw [Nat.succ_mul]
      by_cases hj : j < xs.length * Enc.sz α + Enc.sz α
      · rw [if_pos hj, spl_get cur u.cells _ (by omega) j]
        by_cases hin : j < xs.length * Enc.sz α
        · rw [if_neg (by omega), List.getElem?_append_left (by omega), ← hfl, if_pos hin]
        · rw [if_pos (by omega), List.getElem?_append_right (by omega), hf1, hu, hfx]
          simp
      · rw [if_neg hj]
        refine (List.getElem?_eq_none ?_).symm
        rw [List.length_append, hfx, hf1]
        simp [Enc.size_eq]; omega
  · rw [ownE_F, ownE_F]
    intro k hk
    by_cases hz : cap = 0
    · omega
    · simp [cutV, capV, hz, Value.ownBlock] at hk ⊢
      exact .inl hk
theorem SlR.asV {v : Value} {xs : List α} (h : SlR w v xs) : ∃ s : SlV, v = s.v := by
  obtain ⟨a, c, h⟩ := h.eq
  exact ⟨⟨a, xs.length, c⟩, h⟩
/-- all of an own slice read: its own part -/
theorem SlR.uncut {v : Value} {xs ys : List α} (ho : OwnS v xs.length) (h : SlR w (cutV v 0 (xs ++ ys).length (capV v) (Enc.sz α)) (xs ++ ys)) : SlR w v xs := by
  obtain ⟨hle, _⟩ := ho.le
  have h2 := h.head (m := capV v) hle (by rw [capV_cut0 _ _ _ _ ho.isS]; exact Nat.le_refl _)
  rw [cutV_cut0, ho.self] at h2
  exact h2
end
/-! pages -/
def SIGN : String := "ferryhouse/ferryhouselaw01.sign"
def OWN : String := "ferryhouse/ferryhouselaw01.own"
structure Pg (P : Program) where
  iv : IfV
  e0 : Ent
  e1 : Ent
  e2 : Ent
  s0 : ∀ wb S w, St wb (e0 :: S) w → InvR P iv.v "ferryhouse/ferryhouselaw01.sign" [.bool false] w (fun _ w' => St wb (e1 :: S) w')
  s1 : ∀ wb S w, St wb (e1 :: S) w → InvR P iv.v "ferryhouse/ferryhouselaw01.sign" [.bool true] w (fun _ w' => St wb (e2 :: S) w')
  ow : ∀ wb S w, St wb (e2 :: S) w → InvR P iv.v "ferryhouse/ferryhouselaw01.own" [] w (fun u w' => u = .bool true ∧ St wb (e2 :: S) w')
theorem pg_out {P : Program} (L : List Ent) (pgs : List (Pg P)) (i : Nat) (hi : i < pgs.length) (F G : Pg P → Ent) (S : List Ent) :
    (L ++ ((pgs.take i).map F ++ ((pgs.drop i).map G ++ S))).Perm (G pgs[i] :: (L ++ ((pgs.take i).map F ++ ((pgs.drop (i + 1)).map G ++ S)))) := by
  rw [List.drop_eq_getElem_cons hi, List.map_cons, List.cons_append, ← List.append_assoc, ← List.append_assoc]
  exact List.perm_middle
theorem pg_in {P : Program} (L : List Ent) (pgs : List (Pg P)) (i : Nat) (hi : i < pgs.length) (F G : Pg P → Ent) (S : List Ent) :
    (F pgs[i] :: (L ++ ((pgs.take i).map F ++ ((pgs.drop (i + 1)).map G ++ S)))).Perm (L ++ ((pgs.take (i + 1)).map F ++ ((pgs.drop (i + 1)).map G ++ S))) := by
  have e (X : List Ent) : L ++ ((pgs.take (i + 1)).map F ++ X) = (L ++ (pgs.take i).map F) ++ F pgs[i] :: X := by
    rw [List.take_succ_eq_append_getElem hi, List.map_append]; simp
  rw [e, ← List.append_assoc]
  exact List.perm_middle.symm
theorem rep_set {α : Type} {xs : List α} {h : α} {k : Nat} (hk : k < xs.length) : (List.replicate k h ++ xs.drop k).set k h = List.replicate (k + 1) h ++ xs.drop (k + 1) := by
  rw [List.set_append_right _ _ (by simp), List.length_replicate, Nat.sub_self, List.drop_eq_getElem_cons hk, List.set_cons_zero, List.replicate_succ', List.append_assoc]
  rfl
theorem rep_len {α : Type} {xs : List α} {h : α} {k : Nat} (hk : k ≤ xs.length) : (List.replicate k h ++ xs.drop k).length = xs.length := by simp; omega
theorem rep_room {α : Type} {xs : List α} {h : α} {k : Nat} (hk : xs.length ≤ k) : xs ++ List.replicate (k - xs.length) h ++ [h] = xs ++ List.replicate (k + 1 - xs.length) h := by
  rw [List.append_assoc, show k + 1 - xs.length = (k - xs.length) + 1 by omega, List.replicate_succ']
def u8of (n : Int) : UInt8 := UInt8.ofNat (n % 256).toNat
theorem wrap_u8of (n : Int) : IntKind.u8.wrap n = ((u8of n).toNat : Int) := by
  rw [wrap_u8_mod]
  unfold u8of
  rw [UInt8.toNat_ofNat']
  have := Int.emod_nonneg n (show (256 : Int) ≠ 0 by decide)
  have := Int.emod_lt_of_pos n (show (0 : Int) < 256 by decide)
  omega
end Go.Fer
