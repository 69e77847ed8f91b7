/- Library, part 5 (structs and arrays as values): parts joined; build, buildSlice. No condition: rules alone. -/
import Derived.Test.YthfbfhokmknfnaaDoorSlices
set_option linter.all false
namespace Go.Fer
open Go Go.RowKit

def joinA (ps : List (Array Value)) : Array Value := ps.foldr (· ++ ·) #[]
theorem joinA_nil : joinA [] = #[] := rfl
theorem joinA_cons (p : Array Value) (ps : List (Array Value)) : joinA (p :: ps) = p ++ joinA ps := rfl
theorem joinA_append (ps qs : List (Array Value)) : joinA (ps ++ qs) = joinA ps ++ joinA qs := by
  induction ps with
  | nil => simp [joinA_nil]
  | cons p ps ih => simp [joinA_cons, ih]
theorem joinA_size (ps : List (Array Value)) : (joinA ps).size = (ps.map Array.size).sum := by
  induction ps with
  | nil => rfl
  | cons p ps ih => simp [joinA_cons, ih]

/-- cells with others laid over them -/
def spl (cells : Array Value) (off : Nat) (v : Array Value) : Array Value := cells.extract 0 off ++ v ++ cells.extract (off + v.size) cells.size
theorem spl_join (a b : List (Array Value)) (p v : Array Value) (hv : v.size = p.size) : spl (joinA (a ++ p :: b)) (joinA a).size v = joinA (a ++ v :: b) := by
  unfold spl
  rw [joinA_append, joinA_append, joinA_cons, joinA_cons]
  have h1 : (joinA a ++ (p ++ joinA b)).extract 0 (joinA a).size = joinA a := by simp
  have h2 : (joinA a ++ (p ++ joinA b)).extract ((joinA a).size + v.size) (joinA a ++ (p ++ joinA b)).size = joinA b := by
    rw [hv, ← Array.append_assoc]
    have : (joinA a).size + p.size = (joinA a ++ p).size := by simp
    rw [this]
    simp
  rw [h1, h2, Array.append_assoc]
theorem setAt_get (v : List Value) : ∀ (k off : Nat) (cells : Array Value), off + k + v.length ≤ cells.size → ∀ i : Nat,
    ((v.zipIdx k).foldl (fun cs (x : Value × Nat) => cs.setIfInBounds (off + x.2) x.1) cells)[i]? = if off + k ≤ i ∧ i < off + k + v.length then v[i - (off + k)]? else cells[i]? := by
  induction v with
  | nil =>
    intro k off cells h i
    have : ¬ (off + k ≤ i ∧ i < off + k + ([] : List Value).length) := by simp only [List.length_nil]; omega
    rw [if_neg this]
    rfl
  | cons x v ih =>
    intro k off cells h i
    simp only [List.length_cons] at h
    simp only [List.zipIdx_cons, List.foldl_cons]
    rw [ih (k + 1) off _ (by simp; omega) i, Array.getElem?_setIfInBounds]
    by_cases h1 : off + (k + 1) ≤ i ∧ i < off + (k + 1) + v.length
    · have h2 : off + k ≤ i ∧ i < off + k + (v.length + 1) := by omega
      have e : i - (off + k) = (i - (off + (k + 1))) + 1 := by omega
      simp only [h1, h2, and_self, if_true, List.length_cons, e, List.getElem?_cons_succ]
    · simp only [h1, if_false, List.length_cons]
      by_cases h3 : off + k = i
      · subst h3
        have h4 : off + k < cells.size := by omega
        simp [h4]
      · have h5 : ¬ (off + k ≤ i ∧ i < off + k + (v.length + 1)) := by omega
        simp [h3, h5]
theorem spl_get (cells v : Array Value) (off : Nat) (h : off + v.size ≤ cells.size) (i : Nat) : (spl cells off v)[i]? = if off ≤ i ∧ i < off + v.size then v[i - off]? else cells[i]? := by
  unfold spl
  have m1 : min off cells.size = off := by omega
  rw [Array.getElem?_append, Array.getElem?_append]
  simp only [Array.size_append, Array.size_extract, Nat.sub_zero, m1]
  by_cases h1 : i < off
  · have h2 : ¬ (off ≤ i ∧ i < off + v.size) := by omega
    have h3 : i < off + v.size := by omega
    rw [if_neg h2, if_pos h3, if_pos h1]
    simp only [Array.getElem?_extract, Nat.sub_zero, m1, Nat.zero_add, h1, if_true]
  · by_cases h2 : i < off + v.size
    · have h3 : off ≤ i ∧ i < off + v.size := by omega
      rw [if_pos h3, if_pos h2, if_neg h1]
    · have h3 : ¬ (off ≤ i ∧ i < off + v.size) := by omega
      rw [if_neg h3, if_neg h2]
      simp only [Array.getElem?_extract]
      have e : off + v.size + (i - (off + v.size)) = i := by omega
      rw [e, Nat.min_self]
      split
      · rfl
      · rw [Array.getElem?_eq_none (by omega)]
theorem fold_spl (v : Array Value) (off : Nat) (cells : Array Value) (h : off + v.size ≤ cells.size) :
    (v.zipIdx.foldl (fun cs (x : Value × Nat) => cs.setIfInBounds (off + x.2) x.1) cells) = spl cells off v := by
  apply Array.ext_getElem?
  intro i
  rw [spl_get cells v off h i, ← Array.foldl_toList, Array.toList_zipIdx, setAt_get v.toList 0 off cells (by simpa using h) i]
  simp
theorem fill_cons {place : Nat → Option (Nat × Nat)} {cells : Array Value} {i off size : Nat} {v : Value} {rest : List (Nat × Value)} (hp : place i = some (off, size)) (hv : v.cells.size = size) (hle : off + size ≤ cells.size) :
    Instr.fill place cells ((i, v) :: rest) = Instr.fill place (spl cells off v.cells) rest := by
  have h1 : ¬ (v.cells.size ≠ size ∨ cells.size < off + v.cells.size) := by rw [hv]; omega
  simp only [Instr.fill, hp]
  simp only [ne_eq, Bool.or_eq_true, decide_eq_true_eq, gt_iff_lt, h1, if_false]
  congr 1
  exact fold_spl v.cells off cells (by omega)

/-- the parts of a struct's zero, and where they lie -/
class StructT (P : Program) (T : TypeId) (zs : outParam (List (Array Value))) : Prop where
  out : ∃ fs, P.underlying T = some (.struct fs) ∧ (P.info? T).bind (·.zero) = some (.agg (joinA zs)) ∧
    (fs.toList.map fun f => (P.info? f.type).map fun i => (f.offset, i.size)) = (List.range zs.length).map fun i => some ((joinA (zs.take i)).size, (zs.getD i #[]).size)
theorem structT_mk {P : Program} {T : TypeId} {fs : Array Field} {zs : List (Array Value)} (hu : P.underlying T = some (.struct fs))
    (h : ((P.info? T).bind (·.zero), fs.toList.map fun f => (P.info? f.type).map fun i => (f.offset, i.size)) = (some (.agg (joinA zs)), (List.range zs.length).map fun i => some ((joinA (zs.take i)).size, (zs.getD i #[]).size))) :
    StructT P T zs := ⟨fs, hu, congrArg Prod.fst h, congrArg Prod.snd h⟩
def setParts (zs : List (Array Value)) : List (Nat × Value) → List (Array Value)
  | [] => zs
  | (i, v) :: rest => setParts (zs.set i v.cells) rest
/-- each part has the room that is its -/
def partsFit : List (Array Value) → List (Nat × Value) → Prop
  | _, [] => True
  | zs, (i, v) :: rest => i < zs.length ∧ v.cells.size = (zs.getD i #[]).size ∧ partsFit (zs.set i v.cells) rest

section
variable {P : Program} {f : Fr} {w : World} {R : Value → World → Prop} {d : Option Tmp} {T : TypeId} {pos : String} {af : Array Edge} {gd : Option (Nat × Bool)}

theorem fill_parts {place : Nat → Option (Nat × Nat)} : ∀ (parts : List (Nat × Value)) (zs : List (Array Value)), (∀ i, i < zs.length → place i = some ((joinA (zs.take i)).size, (zs.getD i #[]).size)) → partsFit zs parts →
    Instr.fill place (joinA zs) parts = some (joinA (setParts zs parts))
  | [], zs, _, _ => rfl
  | (i, v) :: rest, zs, hp, hf => by
    obtain ⟨h1, h2, h3⟩ := hf
    have hz : zs = zs.take i ++ (zs.getD i #[]) :: zs.drop (i + 1) := by
      have : zs.getD i #[] = zs[i] := by simp [h1]
      rw [this, List.getElem_cons_drop, List.take_append_drop]
    have hset : zs.set i v.cells = zs.take i ++ v.cells :: zs.drop (i + 1) := by rw [List.set_eq_take_append_cons_drop, if_pos h1]
    have hsz : (joinA zs).size = (joinA (zs.take i)).size + (zs.getD i #[]).size + (joinA (zs.drop (i + 1))).size := by
      rw [joinA_size, joinA_size, joinA_size]
      conv => lhs; rw [hz]
      simp [Nat.add_assoc]
    rw [fill_cons (hp i h1) h2 (by omega)]
    have hspl : spl (joinA zs) (joinA (zs.take i)).size v.cells = joinA (zs.set i v.cells) := by
      rw [hset]
      conv => lhs; rw [hz]
      rw [show (joinA ((zs.take i ++ zs.getD i #[] :: zs.drop (i + 1)).take i)).size = (joinA (zs.take i)).size by
        rw [List.take_append_of_le_length (by simp; omega), List.take_take, Nat.min_self]]
      exact spl_join _ _ _ _ h2
    rw [hspl]
    exact fill_parts rest (zs.set i v.cells) (fun j hj => by
      rw [List.length_set] at hj
      rw [hp j hj]
      have e1 : (zs.set i v.cells).getD j #[] = if i = j then v.cells else zs.getD j #[] := by
        by_cases hij : i = j
        · subst hij; simp [h1]
        · simp [hij, List.getElem?_set_ne hij]
      have e2 : ((zs.set i v.cells).getD j #[]).size = (zs.getD j #[]).size := by
        rw [e1]; split
        · rename_i hij; subst hij; exact h2
        · rfl
      have e3 : (joinA ((zs.set i v.cells).take j)).size = (joinA (zs.take j)).size := by
        rw [joinA_size, joinA_size, List.map_take, List.map_take, List.map_set, h2]
        congr 2
        have : (zs.getD i #[]).size = (zs.map Array.size)[i]'(by simpa using h1) := by simp [h1]
        rw [this, List.set_getElem_self]
      rw [e2, e3]) h3

theorem opW.build {s : TypeId} {parts : Array (Nat × Operand)} {zs : List (Array Value)} [hs : StructT P s zs] (hf : partsFit zs (parts.toList.map fun (i, x) => (i, ev f x)))
    (h : R (.agg (joinA (setParts zs (parts.toList.map fun (i, x) => (i, ev f x))))) w) : opW P f ⟨d, .build s parts, T, pos, af, gd⟩ w R := by
  obtain ⟨fs, hu, hz, hfs⟩ := hs.out
  refine opW.of_run (v := .agg (joinA (setParts zs (parts.toList.map fun (i, x) => (i, ev f x))))) (w' := w) ?_ h
  have hlen : fs.size = zs.length := by have := congrArg List.length hfs; simpa using this
  have hm : (fs.mapM fun f => do pure (f.offset, ← sizeOf f.type) : Sem _).run P w = .ok ((List.range zs.length).map fun i => ((joinA (zs.take i)).size, (zs.getD i #[]).size)).toArray w := by
    rw [Array.mapM_eq_mapM_toList]
    have := run_mapM_list P w (fun (f : Field) => (do pure (f.offset, ← sizeOf f.type) : Sem (Nat × Nat))) fs.toList ((List.range zs.length).map fun i => ((joinA (zs.take i)).size, (zs.getD i #[]).size)) (fun i x hx => by
      have h1 := congrArg (fun l => l[i]?) hfs
      simp only [List.getElem?_map, hx, Option.map_some] at h1
      have hi : i < zs.length := by rw [← hlen]; have := (List.getElem?_eq_some_iff.1 hx).1; simpa using this
      simp only [List.getElem?_range hi, Option.map_some, Option.some.injEq] at h1
      cases hinf : P.info? x.type with
      | none => simp [hinf] at h1
      | some inf =>
        simp only [hinf, Option.map_some, Option.some.injEq, Prod.mk.injEq] at h1
        refine ⟨((joinA (zs.take i)).size, (zs.getD i #[]).size), by simp [hi], ?_⟩
        simp [sizeOf, typeInfo, hinf, h1.1, h1.2]) (by simpa using hlen)
    simp only [Sem.run_map, this, Result.andThen_ok]
  have hzero : (zeroValue s).run P w = .ok (.agg (joinA zs)) w := run_zeroValue' ⟨hz⟩ w
  have hfill := fill_parts (place := fun i => (((List.range zs.length).map fun i => ((joinA (zs.take i)).size, (zs.getD i #[]).size)).toArray)[i]?) (parts.toList.map fun (i, x) => (i, ev f x)) zs (fun i hi => by simp [hi]) hf
  simp only [execOp, Instr.build, Sem.run_bind, hzero, Result.andThen_ok, run_underlying hu, hm, Value.cells, Array.toList_map]
  erw [hfill]
  simp

/-- an array of one-cell elements, written out -/
def arrSet : Array Value → List (Nat × Value) → Array Value
  | cells, [] => cells
  | cells, (i, v) :: rest => arrSet (cells.setIfInBounds i v) rest
theorem spl_one (cells : Array Value) (i : Nat) (v : Value) (h : i < cells.size) : spl cells i #[v] = cells.setIfInBounds i v := by
  apply Array.ext_getElem?
  intro j
  rw [spl_get cells #[v] i (by simp; omega) j, Array.getElem?_setIfInBounds]
  by_cases hj : i = j
  · subst hj
    rw [if_pos (by simp), if_pos rfl, if_pos h]
    simp
  · rw [if_neg (by simp; omega), if_neg hj]
theorem fill_one : ∀ (parts : List (Nat × Value)) (cells : Array Value), (∀ p ∈ parts, p.1 < cells.size ∧ p.2.cells = #[p.2]) → Instr.fill (fun i => some (i * 1, 1)) cells parts = some (arrSet cells parts)
  | [], cells, _ => rfl
  | (i, v) :: rest, cells, h => by
    obtain ⟨h1, h2⟩ := h (i, v) List.mem_cons_self
    simp only at h1 h2
    rw [fill_cons (off := i * 1) (size := 1) rfl (by rw [h2]; rfl) (by omega), h2, Nat.mul_one, spl_one cells i v h1]
    exact fill_one rest _ fun p hp => by
      have := h p (List.mem_cons_of_mem _ hp)
      simpa using this
theorem opW.buildA {s n E : TypeId} {parts : Array (Nat × Operand)} {zc : Array Value} [hs : ArrT P s n E] [hz : ZeroT P s (.agg zc)] [he : SizeT P E 1]
    (hf : ∀ p ∈ parts.toList.map (fun (i, x) => (i, ev f x)), p.1 < zc.size ∧ p.2.cells = #[p.2])
    (h : R (.agg (arrSet zc (parts.toList.map fun (i, x) => (i, ev f x)))) w) : opW P f ⟨d, .build s parts, T, pos, af, gd⟩ w R := by
  refine opW.of_run (v := .agg (arrSet zc (parts.toList.map fun (i, x) => (i, ev f x)))) (w' := w) ?_ h
  have hzero : (zeroValue s).run P w = .ok (.agg zc) w := run_zeroValue' hz w
  have hfill := fill_one (parts.toList.map fun (i, x) => (i, ev f x)) zc hf
  simp only [execOp, Instr.build, Sem.run_bind, hzero, Result.andThen_ok, run_underlying hs.out, run_sizeOf' he, Value.cells, Array.toList_map]
  erw [hfill]
  simp

theorem joinA_map {α : Type} [Enc α] (xs : List α) : joinA (xs.map Enc.enc) = (flat xs).toArray := by
  induction xs with
  | nil => rfl
  | cons x xs ih => rw [List.map_cons, joinA_cons, ih, flat_cons]; simp
theorem joinA_replicate (z : Array Value) (n : Nat) : joinA (List.replicate n z) = (Array.range (n * z.size)).map (z[· % z.size]!) := by
  induction n with
  | zero => simp [joinA_nil]
  | succ n ih =>
    rw [List.replicate_succ', joinA_append, ih, joinA_cons, joinA_nil, Array.append_empty, Nat.succ_mul]
    apply Array.ext_getElem?
    intro i
    rw [Array.getElem?_append]
    simp only [Array.size_map, Array.size_range, Array.getElem?_map, Array.getElem?_range]
    by_cases h1 : i < n * z.size
    · simp [h1, show i < n * z.size + z.size by omega]
    · simp only [h1, if_false]
      by_cases h2 : i < n * z.size + z.size
      · have h3 : i % z.size = i - n * z.size := by
          have : i = (i - n * z.size) + z.size * n := by rw [Nat.mul_comm z.size n]; omega
          rw [this, Nat.add_mul_mod_self_left, Nat.mod_eq_of_lt (by omega), Nat.mul_comm z.size n]; omega
        have h4 : i - n * z.size < z.size := by omega
        simp [h2, h3, h4]
      · rw [Array.getElem?_eq_none (by omega)]
        simp [h2]
def seqParts (vs : List Value) (k : Nat) : List (Nat × Value) := (vs.zipIdx k).map fun (v, i) => (i, v)
theorem setParts_seq : ∀ (vs : List Value) (k : Nat) (done zs : List (Array Value)), done.length = k → zs.length = vs.length → setParts (done ++ zs) (seqParts vs k) = done ++ vs.map Value.cells
  | [], k, done, zs, _, h => by simp at h; simp [seqParts, setParts, h]
  | v :: vs, k, done, [], _, h => by simp at h
  | v :: vs, k, done, z :: zs, hk, h => by
    have e : seqParts (v :: vs) k = (k, v) :: seqParts vs (k + 1) := by simp [seqParts]
    rw [e, setParts]
    have : (done ++ z :: zs).set k v.cells = (done ++ [v.cells]) ++ zs := by
      rw [List.set_append_right _ _ (by omega)]; simp [hk]
    rw [this, setParts_seq vs (k + 1) (done ++ [v.cells]) zs (by simp [hk]) (by simpa using h)]
    simp
theorem partsFit_seq (n : Nat) : ∀ (vs : List Value) (k : Nat) (zs : List (Array Value)), k + vs.length ≤ zs.length → (∀ z ∈ zs, z.size = n) → (∀ v ∈ vs, v.cells.size = n) → partsFit zs (seqParts vs k)
  | [], k, zs, _, _, _ => by simp [seqParts, partsFit]
  | v :: vs, k, zs, h, hz, hv => by
    have e : seqParts (v :: vs) k = (k, v) :: seqParts vs (k + 1) := by simp [seqParts]
    simp only [List.length_cons] at h
    have hk : k < zs.length := by omega
    rw [e, partsFit]
    refine ⟨hk, ?_, partsFit_seq n vs (k + 1) _ (by rw [List.length_set]; omega) ?_ (fun u hu => hv u (List.mem_cons_of_mem _ hu))⟩
    · rw [hv v List.mem_cons_self]
      simp [hk, hz]
    · intro z hzm
      rcases List.mem_or_eq_of_mem_set hzm with h | h
      · exact hz z h
      · subst h; exact hv v List.mem_cons_self

/-- a slice of plain elements, written out whole -/
theorem opW.buildSl {α : Type} [Enc α] {s E : TypeId} {len : Nat} {z : Value} {parts : Array (Nat × Operand)} [hs : SliceT P s E] [hsz : SizeT P E (Enc.sz α)] [hz : ZeroT P E z] {w0 : World} {S : List Ent} (hS : St w0 S w) (xs : List α) (vs : List Value)
    (hzs : z.cells.size = Enc.sz α) (hp : parts.toList.map (fun (i, x) => (i, ev f x)) = seqParts vs 0) (hvs : vs.map Value.cells = xs.map Enc.enc) (hlen : len = xs.length) (hb : len * Enc.sz α ≤ 16777216)
    (h : ∀ b w', Bel w w' → St w0 (ownE (.slice (some ⟨b, 0, none⟩) xs.length xs.length) E xs :: S) w' → R (.slice (some ⟨b, 0, none⟩) xs.length xs.length) w') :
    opW P f ⟨d, .buildSlice s len parts, T, pos, af, gd⟩ w R := by
  subst hlen
  have hl : vs.length = xs.length := by have := congrArg List.length hvs; simpa using this
  have hmax : xs.length ≤ maxLen := by
    have := Enc.pos (α := α)
    have : xs.length * 1 ≤ xs.length * Enc.sz α := Nat.mul_le_mul_left _ this
    simp only [maxLen]; omega
  refine opW.of_run (v := .slice (some ⟨w.heap.size, 0, none⟩) xs.length xs.length) (w' := w.alloc (.cells (joinA (xs.map Enc.enc)) E)) ?_ (h _ _ (Bel.alloc w _) (hS.newRow' xs (by rw [joinA_map]) hmax))
  have hnb : ¬ (16777216 < xs.length * Enc.sz α) := by omega
  have hcells : ((Array.range (xs.length * Enc.sz α)).map ((if xs.length * Enc.sz α = 0 then #[] else z.cells)[· % (if xs.length * Enc.sz α = 0 then #[] else z.cells).size]!)) = joinA (List.replicate xs.length z.cells) := by
    by_cases h0 : xs.length * Enc.sz α = 0
    · have : xs.length = 0 := by
        have := Enc.pos (α := α)
        rcases Nat.mul_eq_zero.1 h0 with h | h <;> omega
      simp [this, joinA_nil]
    · rw [if_neg h0, joinA_replicate, hzs]
  have hfill := fill_parts (place := fun i => some (i * Enc.sz α, Enc.sz α)) (seqParts vs 0) (List.replicate xs.length z.cells) (fun i hi => by
    rw [List.length_replicate] at hi
    rw [joinA_size]
    simp [hi, hzs, Nat.min_eq_left (Nat.le_of_lt hi)]) (partsFit_seq (Enc.sz α) vs 0 _ (by simp [hl]) (fun z' hz' => by rw [List.eq_of_mem_replicate hz']; exact hzs) (fun v hv => by
      have : v.cells ∈ xs.map Enc.enc := by rw [← hvs]; exact List.mem_map_of_mem hv
      obtain ⟨x, _, hx⟩ := List.mem_map.1 this
      rw [← hx]; exact Enc.size_eq x))
  have hset := setParts_seq vs 0 [] (List.replicate xs.length z.cells) rfl (by simp [hl])
  simp only [List.nil_append] at hset
  rw [hset, hvs] at hfill
  simp only [execOp, Instr.buildSlice, Sem.run_bind, run_underlying hs.out, Result.andThen_ok, run_sizeOf' hsz, Array.toList_map]
  simp only [gt_iff_lt, show (2 : Nat) ^ 24 = 16777216 from rfl, hnb, if_false, Sem.run_bind, Sem.run_pure, Result.andThen_ok]
  by_cases h0 : xs.length * Enc.sz α = 0
  · rw [if_pos h0] at hcells
    simp only [h0, if_true, Sem.run_bind, Sem.run_pure, Result.andThen_ok]
    rw [h0] at hcells
    erw [hcells, hp, hfill]
    simp [newRow]
  · rw [if_neg h0] at hcells
    simp only [h0, if_false, Sem.run_bind, run_zeroValue' hz, Sem.run_pure, Result.andThen_ok] at hcells ⊢
    erw [hcells, hp, hfill]
    simp [newRow]
end
end Go.Fer
