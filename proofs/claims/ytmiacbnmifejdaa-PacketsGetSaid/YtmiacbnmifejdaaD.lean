/- reading -/
import Derived.Test.YtmiacbnmifejdaaC
import Derived.Test.YtmiacbnmifejdaaWords
import Derived.Test.YtmiacbnmifejdaaPanics
set_option linter.all false
namespace Go.Fer
open Go Go.Proofs Go.RowKit

structure Reader where
  b : SlV
  at_ : Int
def Reader.parts (x : Reader) : List (Array Value) := [#[x.b.v], #[.int .i64 x.at_]]
theorem Reader.sizes (x : Reader) : x.parts.map Array.size = [1, 1] := by
  simp only [Reader.parts, List.map, Enc.size_eq]; rfl
instance : Enc Reader where
  enc x := joinA x.parts
  sz := 2
  pos := by omega
  size_eq x := by rw [joinA_size, Reader.sizes]; rfl
  one x := joinA_one (all_cons (Enc.one (α := SlV) _) (all_cons (one_int _ _) all_nil))
theorem Reader.enc_eq (x : Reader) : Enc.enc x = joinA x.parts := rfl
theorem Reader.at_b (x : Reader) : (Enc.enc x)[0]? = some (x.b.v) := joinA_at [] [#[.int .i64 x.at_]] _ (by rw [joinA_size]; simp only [List.map, Enc.size_eq]; rfl)
theorem Reader.at_at_ (x : Reader) : (Enc.enc x)[1]? = some (.int .i64 x.at_) := joinA_at [#[x.b.v]] [] _ (by rw [joinA_size]; simp only [List.map, Enc.size_eq]; rfl)
theorem Reader.set_b (x : Reader) (v : SlV) : spl (Enc.enc x) 0 #[v.v] = Enc.enc { x with b := v } := by
  have h := spl_join [] [#[.int .i64 x.at_]] (#[x.b.v]) (#[v.v]) (by first | (rw [Enc.size_eq, Enc.size_eq]; done) | rfl)
  rw [show (joinA []).size = 0 from (by rw [joinA_size]; simp only [List.map, Enc.size_eq]; rfl)] at h
  exact h
theorem Reader.set_at_ (x : Reader) (v : Int) : spl (Enc.enc x) 1 #[.int .i64 v] = Enc.enc { x with at_ := v } := by
  have h := spl_join [#[x.b.v]] [] (#[.int .i64 x.at_]) (#[.int .i64 v]) (by first | (rw [Enc.size_eq, Enc.size_eq]; done) | rfl)
  rw [show (joinA [#[x.b.v]]).size = 1 from (by rw [joinA_size]; simp only [List.map, Enc.size_eq]; rfl)] at h
  exact h
def Reader.ok (w : World) (x : Reader) : Prop := (∃ l : List (UInt8), SlR w x.b.v l ∧ ∀ e ∈ l, True) ∧ (-9223372036854775808 ≤ x.at_ ∧ x.at_ ≤ 9223372036854775807)
theorem Reader.ok.bel {w w' : World} {x : Reader} (hb : Bel w w') (h : Reader.ok w x) : Reader.ok w' x := by
  unfold Reader.ok at h ⊢
  obtain ⟨⟨l0, g0⟩, g1⟩ := h
  exact ⟨(⟨_, g0.1.bel hb, fun e he => trivial⟩), (g1)⟩
theorem rdw_Reader : RdW Try.prog 107 Reader Reader.ok := by
  intro H enc w fuel cs d ps hr
  obtain ⟨hend, fuel', hf⟩ := rdS Try.underlying107 inferInstance hr
  obtain ⟨d0, ps0, h0⟩ := hf 0 _ 37 0 1 rfl rfl rfl inferInstance
  obtain ⟨x0, e0, i0⟩ := rd_slv (α := UInt8) inferInstance rdw_u8 inferInstance h0
  obtain ⟨d1, ps1, h1⟩ := hf 1 _ 3 1 1 rfl rfl rfl inferInstance
  obtain ⟨x1, e1, i1⟩ := rd_i64' inferInstance h1
  have k1 := cells_cut e1 hend
  have k0 := cells_cut e0 k1
  refine ⟨⟨x0, x1⟩, ?_, ⟨i0, i1⟩⟩
  rw [Reader.enc_eq]; simp only [Reader.parts, joinA_toList_cons, joinA_nil]
  rw [List.drop_zero] at k0; rw [k0]; try simp

structure Stop where
  e : Int
  deriving DecidableEq
def Stop.parts (x : Stop) : List (Array Value) := [#[.int .i64 x.e]]
theorem Stop.sizes (x : Stop) : x.parts.map Array.size = [1] := by
  simp only [Stop.parts, List.map, Enc.size_eq]; rfl
instance : Enc Stop where
  enc x := joinA x.parts
  sz := 1
  pos := by omega
  size_eq x := by rw [joinA_size, Stop.sizes]; rfl
  one x := joinA_one (all_cons (one_int _ _) all_nil)
theorem Stop.enc_eq (x : Stop) : Enc.enc x = joinA x.parts := rfl
theorem Stop.at_e (x : Stop) : (Enc.enc x)[0]? = some (.int .i64 x.e) := joinA_at [] [] _ (by rw [joinA_size]; simp only [List.map, Enc.size_eq]; rfl)
theorem Stop.set_e (x : Stop) (v : Int) : spl (Enc.enc x) 0 #[.int .i64 v] = Enc.enc { x with e := v } := by
  have h := spl_join [] [] (#[.int .i64 x.e]) (#[.int .i64 v]) (by first | (rw [Enc.size_eq, Enc.size_eq]; done) | rfl)
  rw [show (joinA []).size = 0 from (by rw [joinA_size]; simp only [List.map, Enc.size_eq]; rfl)] at h
  exact h
def Stop.ok (w : World) (x : Stop) : Prop := (-9223372036854775808 ≤ x.e ∧ x.e ≤ 9223372036854775807)
theorem Stop.ok.bel {w w' : World} {x : Stop} (hb : Bel w w') (h : Stop.ok w x) : Stop.ok w' x := by
  unfold Stop.ok at h ⊢
  have g0 := h
  exact (g0)
theorem rdw_Stop : RdW Try.prog 103 Stop Stop.ok := by
  intro H enc w fuel cs d ps hr
  obtain ⟨hend, fuel', hf⟩ := rdS Try.underlying103 inferInstance hr
  obtain ⟨d0, ps0, h0⟩ := hf 0 _ 38 0 1 rfl rfl rfl inferInstance
  obtain ⟨x0, e0, i0⟩ := rd_i64' inferInstance h0
  have k0 := cells_cut e0 hend
  refine ⟨⟨x0⟩, ?_, i0⟩
  rw [Stop.enc_eq]; simp only [Stop.parts, joinA_toList_cons, joinA_nil]
  rw [List.drop_zero] at k0; rw [k0]; try simp
instance : EqT Try.prog 103 Stop 2 where
  le := by omega
  run w d hd x y := by
    obtain ⟨d, rfl⟩ : ∃ d', d = d' + 1 := ⟨d - 1, by omega⟩
    have h := run_equal_fields (P := Try.prog) (w := w) (d := d) (xs := Enc.enc x) (ys := Enc.enc y) Try.underlying103 (by kernel_rfl) (run_eqFields_int (T := 38) (by omega) rfl rfl (by decide) (Stop.at_e x) (Stop.at_e y) run_eqFields_nil)
    rw [h]; refine congrArg (fun b => Result.ok b w) ?_; rw [Bool.eq_iff_iff]; cases x; cases y; simp [Stop.mk.injEq]; try (intros; simp_all [← UInt8.toNat_inj]; try omega)
    all_goals (try simp only [Int.ofNat_inj, Int.natCast_inj])

/-- where a reader is, or what went wrong first -/
abbrev RS := Except Int Nat
def rBytes (xs : List UInt8) (n : Nat) : RS → List UInt8 × RS
  | .error e => ([], .error e)
  | .ok at_ => if n ≤ xs.length - at_ then ((xs.drop at_).take n, .ok (at_ + n)) else ([], .error 5)
def rByte (xs : List UInt8) (s : RS) : UInt8 × RS := ((rBytes xs 1 s).1.headD 0, (rBytes xs 1 s).2)
def rShort (xs : List UInt8) : RS → Nat × RS
  | .error e => (0, .error e)
  | .ok at_ => ((gs (xs.drop at_) 0 0).1.toNat, if (gs (xs.drop at_) 0 0).2.2 = 0 then .ok (at_ + (gs (xs.drop at_) 0 0).2.1.toNat) else .error (gs (xs.drop at_) 0 0).2.2)
def rKey (xs : List UInt8) (s : RS) : Vector UInt8 32 × RS := (vecOf 32 (rBytes xs 32 s).1, (rBytes xs 32 s).2)
def rList (xs : List UInt8) (s : RS) : List UInt8 × RS := rBytes xs (rShort xs s).1 (rShort xs s).2
def rInstr (xs : List UInt8) (s : RS) : (UInt8 × List UInt8 × List UInt8) × RS :=
  let a := rByte xs s; let b := rList xs a.2; let c := rList xs b.2; ((a.1, b.1, c.1), c.2)
def rLookup (xs : List UInt8) (s : RS) : (Vector UInt8 32 × List UInt8 × List UInt8) × RS :=
  let a := rKey xs s; let b := rList xs a.2; let c := rList xs b.2; ((a.1, b.1, c.1), c.2)
def rMany {α : Type} (one : RS → α × RS) : Nat → RS → List α × RS
  | 0, s => ([], s)
  | _ + 1, .error e => ([], .error e)
  | n + 1, .ok a => ((one (.ok a)).1 :: (rMany one n (one (.ok a)).2).1, (rMany one n (one (.ok a)).2).2)
def rAll {α : Type} (xs : List UInt8) (one : RS → α × RS) (s : RS) : List α × RS := rMany one (rShort xs s).1 (rShort xs s).2
theorem gs_bound : ∀ (b : List UInt8) (k n : Nat), n < 2 ^ (7 * k) → k ≤ 2 → 0 ≤ (gs b k n).1 ∧ (gs b k n).1 < 65536 ∧ 0 ≤ (gs b k n).2.1 ∧ ((gs b k n).2.2 = 0 → (gs b k n).2.1 ≤ (k + b.length : Nat))
  | [], _, _, _, _ => by simp [gs]
  | c :: r, k, n, hn, hk => by
    have hlt := gs_lt (c := c) hn
    unfold gs
    split
    · simp
    · rename_i h0
      simp only [Bool.or_eq_true, Bool.and_eq_true, decide_eq_true_eq, not_or, not_and] at h0
      split
      · rename_i h1
        simp only [List.length_cons]
        refine ⟨by omega, ?_, by omega, fun _ => by omega⟩
        have h3 : n + c.toNat % 128 * 2 ^ (7 * k) < 65536 := by
          rcases (show k = 0 ∨ k = 1 ∨ k = 2 by omega) with rfl | rfl | rfl <;> simp at hlt hn h0 ⊢ <;> omega
        omega
      · rename_i h1
        by_cases h2 : k = 2
        · exfalso
          subst h2
          omega
        · have ih := gs_bound r (k + 1) _ hlt (by omega)
          simp only [List.length_cons]
          refine ⟨ih.1, ih.2.1, ih.2.2.1, fun h => ?_⟩
          have := ih.2.2.2 h
          omega
theorem gs_err : ∀ (b : List UInt8) (k n : Nat), (gs b k n).2.2 = 0 ∨ (gs b k n).2.2 = 4 ∨ (gs b k n).2.2 = 5
  | [], _, _ => by simp [gs]
  | c :: r, k, n => by
    unfold gs
    split
    · simp
    · split
      · simp
      · exact gs_err r _ _
theorem rBytes_ok (xs : List UInt8) (n a : Nat) : rBytes xs n (.ok a) = if n ≤ xs.length - a then ((xs.drop a).take n, .ok (a + n)) else ([], .error 5) := rfl
theorem gs_err0 : ∀ (b : List UInt8) (k n : Nat), (gs b k n).2.2 ≠ 0 → (gs b k n).2.1 = 0
  | [], _, _, _ => rfl
  | c :: r, k, n, h => by
    unfold gs at h ⊢
    split at h
    · rename_i h0; rw [if_pos h0]
    · rename_i h0
      rw [if_neg h0]
      split at h
      · exact absurd rfl h
      · rename_i h1; rw [if_neg h1]; exact gs_err0 r _ _ h
theorem rBytes_le {xs : List UInt8} {n a a' : Nat} (ha : a ≤ xs.length) (h : (rBytes xs n (.ok a)).2 = .ok a') : a' ≤ xs.length ∧ a' = a + n ∧ n ≤ xs.length - a ∧ (rBytes xs n (.ok a)).1 = (xs.drop a).take n ∧ (rBytes xs n (.ok a)).1.length = n := by
  rw [rBytes_ok] at h ⊢
  by_cases hn : n ≤ xs.length - a
  · rw [if_pos hn] at h ⊢
    cases h
    refine ⟨by omega, rfl, hn, rfl, ?_⟩
    rw [List.length_take, List.length_drop]; omega
  · rw [if_neg hn] at h; cases h
theorem St.cutOwn {α : Type} [Enc α] {w0 w : World} {S S' : List Ent} {v : Value} {T : TypeId} {xs : List α} (hS : St w0 S w) (hT : Turn (ownE v T xs) (ownE (cutV v 0 xs.length xs.length (Enc.sz α)) T xs) S S') : St w0 S' w := by
  have h0 : New w0 w v T xs := hS.own_new hT.has
  have h1 := New.cut (w := w0) (w' := w) (v := v) (e := T) (xs := xs) h0
  refine St.turn ⟨rfl, rfl, rfl, Nat.le_refl _, fun _ _ _ => rfl⟩ (by rw [ownE_A]; exact h1.1) ?_ hS hT
  rw [ownE_F, ownE_F]
  intro k hk
  refine .inl ?_
  rcases h0.1 with ⟨rfl, rfl⟩ | ⟨g, cap, cur, rfl, _⟩
  · simp [cutV, Value.ownBlock] at hk
  · by_cases hl : xs.length = 0 <;> simp [cutV, Value.ownBlock, hl] at hk ⊢ <;> exact hk
theorem rBytes_e (xs : List UInt8) (n : Nat) (e : Int) : rBytes xs n (.error e) = ([], .error e) := rfl
theorem rByte_e (xs : List UInt8) (e : Int) : rByte xs (.error e) = (0, .error e) := rfl
theorem rShort_e (xs : List UInt8) (e : Int) : rShort xs (.error e) = (0, .error e) := rfl
theorem rList_e (xs : List UInt8) (e : Int) : rList xs (.error e) = ([], .error e) := rfl
theorem rKey_e (xs : List UInt8) (e : Int) : (rKey xs (.error e)).2 = .error e := rfl
theorem rMany_e {α : Type} (one : RS → α × RS) (n : Nat) (e : Int) : rMany one n (.error e) = ([], .error e) := by cases n <;> rfl
theorem rMany_succ {α : Type} (one : RS → α × RS) (n a : Nat) : rMany one (n + 1) (.ok a) = ((one (.ok a)).1 :: (rMany one n (one (.ok a)).2).1, (rMany one n (one (.ok a)).2).2) := rfl
theorem rAll_e {α : Type} (xs : List UInt8) (one : RS → α × RS) (e : Int) : rAll xs one (.error e) = ([], .error e) := rfl
theorem rShort_ok (xs : List UInt8) (a : Nat) : (rShort xs (.ok a)).2 = if (gs (xs.drop a) 0 0).2.2 = 0 then .ok (a + (gs (xs.drop a) 0 0).2.1.toNat) else .error (gs (xs.drop a) 0 0).2.2 := rfl
theorem rShort_lt (xs : List UInt8) (s : RS) : (rShort xs s).1 < 65536 := by
  cases s with
  | error e => show (0 : Nat) < 65536; omega
  | ok a => have := gs_bound (xs.drop a) 0 0 (by omega) (by omega); show (gs (xs.drop a) 0 0).1.toNat < 65536; omega
theorem rShort_le {xs : List UInt8} {a a' : Nat} (ha : a ≤ xs.length) (h : (rShort xs (.ok a)).2 = .ok a') : a' ≤ xs.length := by
  rw [rShort_ok] at h
  split at h
  · rename_i h0
    have := (gs_bound (xs.drop a) 0 0 (by omega) (by omega)).2.2.2 h0
    rw [List.length_drop] at this
    cases h; omega
  · cases h
/-- the first bytes -/
def rFirst (xs : List UInt8) (s : RS) : (UInt8 × Bool) × RS :=
  let f := rByte xs s
  let s1 : RS := match f.2 with | .ok a => if 128 < f.1.toNat then .error 4 else .ok a | .error e => .error e
  if f.1.toNat = 128 then (((rByte xs s1).1, true), (rByte xs s1).2) else ((f.1, false), s1)
def rMsg (xs : List UInt8) (s : RS) : MC × RS :=
  let g := rFirst xs s; let h1 := rByte xs g.2; let h2 := rByte xs h1.2
  let k := rAll xs (rKey xs) h2.2; let rc := rKey xs k.2; let i := rAll xs (rInstr xs) rc.2
  let l := if g.1.2 = true then rAll xs (rLookup xs) i.2 else ([], i.2)
  (⟨g.1.2, ⟨g.1.1, h1.1, h2.1⟩, k.1, rc.1, i.1, l.1⟩, l.2)
def zMC : MC := ⟨false, ⟨0, 0, 0⟩, [], vz 32, [], []⟩
/-- the message that bytes begin with, how many they are, the error -/
def getF (xs : List UInt8) : MC × Nat × Int := match (rMsg xs (.ok 0)).2 with | .ok a => ((rMsg xs (.ok 0)).1, a, 0) | .error e => (zMC, 0, e)
/-- pairs of own bytes -/
def b2L (l : List ((SlV × List UInt8) × (SlV × List UInt8))) : List Ent := l.flatMap fun p => [ownE p.1.1.v 5 p.1.2, ownE p.2.1.v 5 p.2.2]
@[irreducible] def b2E (l : List ((SlV × List UInt8) × (SlV × List UInt8))) : Ent := starE (b2L l)
theorem b2E_eq (l : List ((SlV × List UInt8) × (SlV × List UInt8))) : b2E l = starE (b2L l) := by unfold b2E; rfl
theorem b2L_snoc (l : List ((SlV × List UInt8) × (SlV × List UInt8))) (p : (SlV × List UInt8) × (SlV × List UInt8)) : b2L (l ++ [p]) = b2L l ++ [ownE p.1.1.v 5 p.1.2, ownE p.2.1.v 5 p.2.2] := by simp [b2L]
theorem St.b2New {w0 w : World} {S : List Ent} (h : St w0 S w) : St w0 (b2E [] :: S) w := by
  rw [b2E_eq]; exact St.closed (l := b2L []) h
theorem St.b2Add {w0 w : World} {S : List Ent} {l : List ((SlV × List UInt8) × (SlV × List UInt8))} {p : (SlV × List UInt8) × (SlV × List UInt8)} (h : St w0 (ownE p.1.1.v 5 p.1.2 :: ownE p.2.1.v 5 p.2.2 :: b2E l :: S) w) : St w0 (b2E (l ++ [p]) :: S) w := by
  rw [b2E_eq, b2L_snoc]
  have h1 : St w0 (b2E l :: (ownE p.1.1.v 5 p.1.2 :: ownE p.2.1.v 5 p.2.2 :: S)) w := h.perm (((List.Perm.swap (b2E l) (ownE p.2.1.v 5 p.2.2) S).cons _).trans (List.Perm.swap (b2E l) (ownE p.1.1.v 5 p.1.2) _))
  rw [b2E_eq] at h1
  refine St.closed (l := b2L l ++ [ownE p.1.1.v 5 p.1.2, ownE p.2.1.v 5 p.2.2]) ?_
  rw [List.append_assoc]
  exact h1.opened
def zipI (is : List Instr) (cs : List (UInt8 × List UInt8 × List UInt8)) : List ((SlV × List UInt8) × (SlV × List UInt8)) := List.zipWith (fun i c => ((i.accounts, c.2.1), (i.data, c.2.2))) is cs
def zipL (ls : List Lookup) (cs : List (Vector UInt8 32 × List UInt8 × List UInt8)) : List ((SlV × List UInt8) × (SlV × List UInt8)) := List.zipWith (fun i c => ((i.writes, c.2.1), (i.reads, c.2.2))) ls cs
theorem zipI_snoc {is : List Instr} {cs : List (UInt8 × List UInt8 × List UInt8)} (h : is.length = cs.length) (i : Instr) (c : UInt8 × List UInt8 × List UInt8) : zipI (is ++ [i]) (cs ++ [c]) = zipI is cs ++ [((i.accounts, c.2.1), (i.data, c.2.2))] := by
  unfold zipI; rw [List.zipWith_append (by exact h)]; rfl
theorem zipL_snoc {is : List Lookup} {cs : List (Vector UInt8 32 × List UInt8 × List UInt8)} (h : is.length = cs.length) (i : Lookup) (c : Vector UInt8 32 × List UInt8 × List UInt8) : zipL (is ++ [i]) (cs ++ [c]) = zipL is cs ++ [((i.writes, c.2.1), (i.reads, c.2.2))] := by
  unfold zipL; rw [List.zipWith_append (by exact h)]; rfl
/-- a reader -/
abbrev rdE (p : Nat) (bs : SlV) (at_ : Nat) : Ent := blkE p (Enc.enc (⟨bs, (at_ : Int)⟩ : Reader)) 107
def stopV (e : Int) : Value := .iface 103 (.agg (Enc.enc (⟨e⟩ : Stop)))
theorem sub_back {a n : Nat} (h : a + n ≤ 1000000000000000000) : IntKind.i64.wrap (((a + n : Nat) : Int) - (n : Int)) = (a : Int) := by rw [IntKind.wrap_i64]; omega
theorem head0 (l : List UInt8) (h : 0 < l.length) : l[0] = l.headD 0 := by cases l with
  | nil => simp at h
  | cons x r => rfl
theorem take1 {l : List UInt8} (h : 0 < l.length) : l.take 1 = [l[0]] := by
  cases l with
  | nil => simp at h
  | cons a t => rfl

theorem must_ok (w0 : World) (b : Bool) (e : Int) : RetP Try.prog 72 #[.bool b, .int .i64 e] w0 (fun u w' => b = true ∧ Bel w0 w') (fun v w' => b = false ∧ v = stopV e ∧ Bel w0 w') := by
  refine RetP.enter (args := [.bool b, .int .i64 e]) Try.func72 rfl Try.ntmps72 Try.results72 rfl ?_
  have hS := St.start w0
  refine WC.seq (fun K1 hK1 => ?_)
  refine WC.region ?_
  refine WL.op rfl (opW.moveB rfl ?_)
  refine WL.op rfl (opW.not rfl ?_)
  refine WL.nil ?_
  refine thenQ_n (hK1 _ _ ?_)
  refine WC.cond _ rfl (fun hc0 => ?_) (fun hc0 => ?_)
  ·
    have hr0 := hc0
    try simp only [decide_eq_true_eq, decide_eq_false_iff_not, Bool.and_eq_true, Bool.or_eq_true, Bool.and_eq_false_iff, Bool.or_eq_false_iff, Bool.not_eq_true', Bool.not_eq_false', Int.not_lt, Int.not_le] at hc0
    refine WC.region ?_
    refine WL.op rfl (opW.moveI rfl ?_)
    refine WL.op rfl (opW.buildE (r := (⟨e⟩ : Stop)) (ps := Stop.parts (⟨e⟩ : Stop)) (Stop.enc_eq _) (by first | rfl | (simp only [enc_vset, enc_vz, Header.enc_eq, Header.parts, Instr.enc_eq, Instr.parts, Lookup.enc_eq, Lookup.parts, Message.enc_eq, Message.parts, Tx.enc_eq, Tx.parts, Reader.enc_eq, Reader.parts, Stop.enc_eq, Stop.parts]; rfl)) (by (repeat' (first | exact trivial | refine And.intro ?_ ?_)) <;> first | rfl | exact Enc.size_eq _ | (simp; done)) ?_)
    refine WL.op rfl (opW.iface rfl ?_)
    refine WL.op0P (opWP.panic rfl ⟨_, rfl, (by simpa using hc0), rfl, hS.old⟩)
  ·
    have hr0 := hc0
    try simp only [decide_eq_true_eq, decide_eq_false_iff_not, Bool.and_eq_true, Bool.or_eq_true, Bool.and_eq_false_iff, Bool.or_eq_false_iff, Bool.not_eq_true', Bool.not_eq_false', Int.not_lt, Int.not_le] at hc0
    refine WC.skip ?_
    refine bodyQP_end .nil ?_
    exact ⟨by simpa using hc0, hS.old⟩

theorem bytes_ok (wb w0 : World) (S : List Ent) (p : Nat) (bs : SlV) (xs : List UInt8) (a : Nat) (hb : SlR wb bs.v xs) (hxl : xs.length ≤ 1000000000) (ha : a ≤ xs.length) (n : Nat) (hn : n ≤ 1000000) (hS0 : St wb (rdE p bs a :: S) w0) : RetP Try.prog 79 #[.pointer (some ⟨p, 0, none⟩), .int .i64 (n : Int)] w0 (fun u w' => ∃ (s : SlV) (a' : Nat), u = s.v ∧ (rBytes xs n (.ok a)).2 = .ok a' ∧ St wb (ownE s.v 5 (rBytes xs n (.ok a)).1 :: rdE p bs a' :: S) w') (fun v w' => ∃ (e : Int) (a' : Nat), (rBytes xs n (.ok a)).2 = .error e ∧ v = stopV e ∧ St wb (rdE p bs a' :: S) w') := by
  refine RetP.enter (args := [.pointer (some ⟨p, 0, none⟩), .int .i64 (n : Int)]) Try.func79 rfl Try.ntmps79 Try.results79 rfl ?_
  have hS := St.start w0
  replace hS := hS0
  have hat : (a : Int) ≤ xs.length := by omega
  refine WC.seq (fun K1 hK1 => ?_)
  refine WC.region ?_
  refine WL.op rfl (opW.assignV (v := .slice none 0 0) rfl ?_)
  refine WL.nil ?_
  refine thenQ_n (hK1 _ _ ?_)
  refine WC.seq (fun K2 hK2 => ?_)
  refine WC.drawP 13 (.look 0 (.look 1 (.look 2 (.look 3 (.look 4 (.look 5 (.look 6 (.look 7 (.look 8 (.look 9 (.look 10 (.look 11 (.one 12 .nil))))))))))))) (by kernel_rfl) (fun _ _ _ _ h => h) (fun w1 hw1 => ⟨Bel w1, Bel.refl w1, ?_⟩)
  replace hS := hS.bel hw1
  have hS1 := hS
  have hT := St.start w1
  refine ML.look rfl rfl rfl (fun w hw => (by have hS := hS1.bel hw; exact opW.moveI rfl ⟨rfl, rfl⟩)) ?_
  refine ML.look rfl rfl rfl (fun w hw => (by have hS := hS1.bel hw; exact opW.moveV (v := .pointer (some ⟨p, 0, none⟩)) rfl ⟨rfl, rfl⟩)) ?_
  refine ML.look rfl rfl rfl (fun w hw => (by have hS := hS1.bel hw; exact opW.nilCheckB rfl ⟨rfl, rfl⟩)) ?_
  refine ML.look rfl rfl rfl (fun w hw => (by have hS := hS1.bel hw; exact opW.fieldAddrB rfl ⟨rfl, rfl⟩)) ?_
  refine ML.look rfl rfl rfl (fun w hw => (by have hS := hS1.bel hw; exact opW.loadV rfl (hS.ld1 (by first | exact .h0 | exact .h1 | exact .h2 | exact .h3 | exact .h4 | exact .h5 | exact .h6 | exact .h7 | exact .h8 | exact .h9 | exact .h10 | exact .h11 | exact .h12 | exact .h13 | exact .h14) (show (Enc.enc (⟨bs, (a : Int)⟩ : Reader))[0]? = some bs.v from Reader.at_b _)) ⟨rfl, rfl⟩)) ?_
  refine ML.look rfl rfl rfl (fun w hw => (by have hS := hS1.bel hw; exact opW.lenV rfl ((hb.bel hS.old)) ⟨rfl, rfl⟩)) ?_
  refine ML.look rfl rfl rfl (fun w hw => (by have hS := hS1.bel hw; exact opW.moveV (v := .pointer (some ⟨p, 0, none⟩)) rfl ⟨rfl, rfl⟩)) ?_
  refine ML.look rfl rfl rfl (fun w hw => (by have hS := hS1.bel hw; exact opW.nilCheckB rfl ⟨rfl, rfl⟩)) ?_
  refine ML.look rfl rfl rfl (fun w hw => (by have hS := hS1.bel hw; exact opW.fieldAddrB rfl ⟨rfl, rfl⟩)) ?_
  refine ML.look rfl rfl rfl (fun w hw => (by have hS := hS1.bel hw; exact opW.loadV rfl (hS.ld1 (by first | exact .h0 | exact .h1 | exact .h2 | exact .h3 | exact .h4 | exact .h5 | exact .h6 | exact .h7 | exact .h8 | exact .h9 | exact .h10 | exact .h11 | exact .h12 | exact .h13 | exact .h14) (show (Enc.enc (⟨bs, (a : Int)⟩ : Reader))[1]? = some (.int .i64 (a : Int)) from Reader.at_at_ _)) ⟨rfl, rfl⟩)) ?_
  refine ML.look rfl rfl rfl (fun w hw => (by have hS := hS1.bel hw; exact opW.sub rfl rfl (wrap_i64 (by omega)) ⟨rfl, rfl⟩)) ?_
  refine ML.look rfl rfl rfl (fun w hw => (by have hS := hS1.bel hw; exact opW.leq rfl rfl ⟨rfl, rfl⟩)) ?_
  refine ML.oneP rfl rfl rfl (opWP.call (must_ok _ _ 5) rfl ?_ ?_)
  · rintro pv w ⟨hcf, rfl, hw⟩
    replace hT := hT.bel hw
    refine ⟨_, rfl, 5, a, ?_, rfl, hS1.merge hT⟩
    have hcf' : ¬ n ≤ xs.length - a := by
      have := of_decide_eq_false hcf
      omega
    rw [rBytes_ok, if_neg hcf']
  rintro _ w ⟨hct, hw⟩; replace hT := hT.bel hw
  refine ⟨hT.old, ?_⟩
  have hS := hS1.merge hT
  try simp only [List.cons_append, List.nil_append] at hS
  refine ML.nil ?_
  have hnl : n ≤ xs.length - a := by
    have := of_decide_eq_true hct
    omega
  have e1 : rBytes xs n (.ok a) = ((xs.drop a).take n, .ok (a + n)) := by rw [rBytes_ok, if_pos hnl]
  refine thenQ_n (hK2 _ _ ?_)
  refine WC.seq (fun K3 hK3 => ?_)
  refine WC.region ?_
  refine WL.op rfl (opW.moveV (v := .pointer (some ⟨p, 0, none⟩)) rfl ?_)
  refine WL.op rfl (opW.nilCheckB rfl ?_)
  refine WL.op rfl (opW.fieldAddrB rfl ?_)
  refine WL.op rfl (opW.loadV rfl (hS.ld1 (by first | exact .h0 | exact .h1 | exact .h2 | exact .h3 | exact .h4 | exact .h5 | exact .h6 | exact .h7 | exact .h8 | exact .h9 | exact .h10 | exact .h11 | exact .h12 | exact .h13 | exact .h14) (show (Enc.enc (⟨bs, (a : Int)⟩ : Reader))[1]? = some (.int .i64 (a : Int)) from Reader.at_at_ _)) ?_)
  refine WL.op rfl (opW.moveI rfl ?_)
  refine WL.op rfl (opW.add rfl rfl (wrap_i64 (by omega)) ?_)
  refine WL.op rfl (opW.nilCheckB rfl ?_)
  refine WL.op rfl (opW.fieldAddrB rfl ?_)
  refine WL.op0 (opW.storeF (b := p) (o := 1) (v := .int .i64 ((a : Int) + (n : Int))) (sz := 1) (cs := Enc.enc (⟨bs, (a : Int)⟩ : Reader)) (cs' := Enc.enc (⟨bs, ((a + n : Nat) : Int)⟩ : Reader)) hS rfl rfl (by first | exact .h0 | exact .h1 | exact .h2 | exact .h3 | exact .h4 | exact .h5 | exact .h6 | exact .h7 | exact .h8 | exact .h9 | exact .h10 | exact .h11 | exact .h12 | exact .h13 | exact .h14) rfl (by rw [Enc.size_eq]; exact Nat.le_refl 2) (one_int _ _) (Reader.set_at_ ⟨bs, (a : Int)⟩ _) ?_)
  intro w hS; replace hS := hS _ (by first | exact .h0 | exact .h1 | exact .h2 | exact .h3 | exact .h4 | exact .h5 | exact .h6 | exact .h7 | exact .h8 | exact .h9 | exact .h10 | exact .h11 | exact .h12 | exact .h13 | exact .h14)
  refine WL.nil ?_
  refine thenQ_n (hK3 _ _ ?_)
  refine WC.seq (fun K4 hK4 => ?_)
  refine WC.drawP 17 (.look 0 (.look 1 (.look 2 (.look 3 (.look 4 (.look 5 (.look 6 (.look 7 (.look 8 (.look 9 (.look 10 (.look 11 (.look 12 (.look 13 (.look 14 (.one 15 (.look 16 .nil))))))))))))))))) (by kernel_rfl) (fun _ _ _ _ h => h) (fun w1 hw1 => ⟨Bel w1, Bel.refl w1, ?_⟩)
  replace hS := hS.bel hw1
  have hS1 := hS
  have hT := St.start w1
  refine ML.look rfl rfl rfl (fun w hw => (by have hS := hS1.bel hw; exact opW.moveV (v := .pointer (some ⟨p, 0, none⟩)) rfl ⟨rfl, rfl⟩)) ?_
  refine ML.look rfl rfl rfl (fun w hw => (by have hS := hS1.bel hw; exact opW.nilCheckB rfl ⟨rfl, rfl⟩)) ?_
  refine ML.look rfl rfl rfl (fun w hw => (by have hS := hS1.bel hw; exact opW.fieldAddrB rfl ⟨rfl, rfl⟩)) ?_
  refine ML.look rfl rfl rfl (fun w hw => (by have hS := hS1.bel hw; exact opW.loadV rfl (hS.ld1 (by first | exact .h0 | exact .h1 | exact .h2 | exact .h3 | exact .h4 | exact .h5 | exact .h6 | exact .h7 | exact .h8 | exact .h9 | exact .h10 | exact .h11 | exact .h12 | exact .h13 | exact .h14) (show (Enc.enc (⟨bs, ((a + n : Nat) : Int)⟩ : Reader))[0]? = some bs.v from Reader.at_b _)) ⟨rfl, rfl⟩)) ?_
  refine ML.look rfl rfl rfl (fun w hw => (by have hS := hS1.bel hw; exact opW.moveV (v := .pointer (some ⟨p, 0, none⟩)) rfl ⟨rfl, rfl⟩)) ?_
  refine ML.look rfl rfl rfl (fun w hw => (by have hS := hS1.bel hw; exact opW.nilCheckB rfl ⟨rfl, rfl⟩)) ?_
  refine ML.look rfl rfl rfl (fun w hw => (by have hS := hS1.bel hw; exact opW.fieldAddrB rfl ⟨rfl, rfl⟩)) ?_
  refine ML.look rfl rfl rfl (fun w hw => (by have hS := hS1.bel hw; exact opW.loadV rfl (hS.ld1 (by first | exact .h0 | exact .h1 | exact .h2 | exact .h3 | exact .h4 | exact .h5 | exact .h6 | exact .h7 | exact .h8 | exact .h9 | exact .h10 | exact .h11 | exact .h12 | exact .h13 | exact .h14) (show (Enc.enc (⟨bs, ((a + n : Nat) : Int)⟩ : Reader))[1]? = some (.int .i64 ((a + n : Nat) : Int)) from Reader.at_at_ _)) ⟨rfl, rfl⟩)) ?_
  refine ML.look rfl rfl rfl (fun w hw => (by have hS := hS1.bel hw; exact opW.moveI rfl ⟨rfl, rfl⟩)) ?_
  refine ML.look rfl rfl rfl (fun w hw => (by have hS := hS1.bel hw; exact opW.sub rfl rfl (sub_back (by omega)) ⟨rfl, rfl⟩)) ?_
  refine ML.look rfl rfl rfl (fun w hw => (by have hS := hS1.bel hw; exact opW.moveV (v := .pointer (some ⟨p, 0, none⟩)) rfl ⟨rfl, rfl⟩)) ?_
  refine ML.look rfl rfl rfl (fun w hw => (by have hS := hS1.bel hw; exact opW.nilCheckB rfl ⟨rfl, rfl⟩)) ?_
  refine ML.look rfl rfl rfl (fun w hw => (by have hS := hS1.bel hw; exact opW.fieldAddrB rfl ⟨rfl, rfl⟩)) ?_
  refine ML.look rfl rfl rfl (fun w hw => (by have hS := hS1.bel hw; exact opW.loadV rfl (hS.ld1 (by first | exact .h0 | exact .h1 | exact .h2 | exact .h3 | exact .h4 | exact .h5 | exact .h6 | exact .h7 | exact .h8 | exact .h9 | exact .h10 | exact .h11 | exact .h12 | exact .h13 | exact .h14) (show (Enc.enc (⟨bs, ((a + n : Nat) : Int)⟩ : Reader))[1]? = some (.int .i64 ((a + n : Nat) : Int)) from Reader.at_at_ _)) ⟨rfl, rfl⟩)) ?_
  refine ML.look rfl rfl rfl (fun w hw => (by have hS := hS1.bel hw; exact opW.cutS (hb.bel hS.old) (xs := xs) (l := a) (h' := a + n) (m := capV bs.v) ⟨rfl, Nat.le_refl _⟩ ⟨⟨_, rfl⟩, by have := (hb.bel hS.old).cap; omega⟩ ⟨⟨_, rfl⟩, by omega⟩ ⟨rfl, rfl⟩)) ?_
  refine ML.one rfl rfl rfl (opW.call (clone_b _ _ ((xs.drop a).take n) (by have h1 := (hb.bel hS.old).cut (l := a) (h := a + n) (m := capV bs.v) (by omega) (by omega) (by have := (hb.bel hS.old).cap; omega) (Nat.le_refl _); rw [List.drop_take, Nat.add_sub_cancel_left] at h1; exact h1) (by rw [List.length_take]; omega)) rfl ?_)
  rintro v41 w ⟨hn41, hw⟩; replace hT := hT.newOwn hw hn41.1 hn41.2
  refine ⟨hT.old, ?_⟩
  have hS := hS1.merge hT
  try simp only [List.cons_append, List.nil_append] at hS
  refine ML.look rfl rfl rfl (fun w hw => (by have hS := hS1.bel hw; exact opW.assignV (v := v41) rfl ⟨rfl, rfl⟩)) ?_
  refine ML.nil ?_
  refine thenQ_n (hK4 _ _ ?_)
  refine WC.ret ?_
  refine bodyQP_ret (.tmpV (v := v41) rfl .nil) ?_
  obtain ⟨s41, rfl⟩ := (hS.sl (v := v41) (xs := (xs.drop a).take n) (by first | exact .h0 | exact .h1 | exact .h2 | exact .h3 | exact .h4 | exact .h5 | exact .h6 | exact .h7 | exact .h8 | exact .h9 | exact .h10 | exact .h11 | exact .h12 | exact .h13 | exact .h14)).asV
  rw [e1]
  exact ⟨s41, a + n, rfl, rfl, hS⟩

theorem rd_byte (wb w0 : World) (S : List Ent) (p : Nat) (bs : SlV) (xs : List UInt8) (a : Nat) (hb : SlR wb bs.v xs) (hxl : xs.length ≤ 1000000000) (ha : a ≤ xs.length) (hS0 : St wb (rdE p bs a :: S) w0) : RetP Try.prog 71 #[.pointer (some ⟨p, 0, none⟩)] w0 (fun u w' => ∃ a' : Nat, u = .int .u8 ((rByte xs (.ok a)).1.toNat : Int) ∧ (rByte xs (.ok a)).2 = .ok a' ∧ a' ≤ xs.length ∧ St wb (rdE p bs a' :: S) w') (fun v w' => ∃ (e : Int) (a' : Nat), (rByte xs (.ok a)).2 = .error e ∧ v = stopV e ∧ St wb (rdE p bs a' :: S) w') := by
  refine RetP.enter (args := [.pointer (some ⟨p, 0, none⟩)]) Try.func71 rfl Try.ntmps71 Try.results71 rfl ?_
  have hS := St.start w0
  replace hS := hS0
  refine WC.seq (fun K1 hK1 => ?_)
  refine WC.region ?_
  refine WL.op rfl (opW.assignI rfl ?_)
  refine WL.nil ?_
  refine thenQ_n (hK1 _ _ ?_)
  refine WC.seq (fun K2 hK2 => ?_)
  refine WC.region ?_
  refine WL.op rfl (opW.moveV (v := .pointer (some ⟨p, 0, none⟩)) rfl ?_)
  refine WL.opP rfl (opWP.call (bytes_ok _ _ _ p bs xs a hb hxl ha 1 (by omega) hS) rfl ?_ ?_)
  · rintro pv w ⟨e, a', he, rfl, hS⟩
    exact ⟨_, rfl, e, a', by exact he, rfl, hS.sub (by repeat (first | with_reducible exact List.nil_sublist _ | with_reducible exact List.Sublist.refl _ | with_reducible refine List.Sublist.cons₂ _ ?_ | with_reducible refine List.Sublist.cons _ ?_))⟩
  rintro _ w ⟨s4, a', rfl, he, hS⟩
  obtain ⟨h1, h2, h3, h4, h5⟩ := rBytes_le ha he
  have hS4 := hS.sl (v := s4.v) (xs := (rBytes xs 1 (.ok a)).1) (by first | exact .h0 | exact .h1 | exact .h2 | exact .h3 | exact .h4 | exact .h5 | exact .h6 | exact .h7 | exact .h8 | exact .h9 | exact .h10 | exact .h11 | exact .h12 | exact .h13 | exact .h14)
  refine WL.op rfl (opW.idxV rfl (hS4) rfl (by omega) ?_)
  refine WL.op rfl (opW.loadV rfl ((hS4.pt (List.getElem?_eq_getElem (by omega))).ld rfl) ?_)
  refine WL.op rfl (opW.assignI rfl ?_)
  refine WL.nil ?_
  refine thenQ_n (hK2 _ _ ?_)
  refine WC.ret ?_
  refine bodyQP_ret (.tmpI rfl .nil) ?_
  exact ⟨a', congrArg (fun x : UInt8 => Value.int .u8 (x.toNat : Int)) (head0 (rBytes xs 1 (.ok a)).1 (by omega)), he, h1, hS.drop1⟩

theorem rd_short (wb w0 : World) (S : List Ent) (p : Nat) (bs : SlV) (xs : List UInt8) (a : Nat) (hb : SlR wb bs.v xs) (hxl : xs.length ≤ 1000000000) (ha : a ≤ xs.length) (hS0 : St wb (rdE p bs a :: S) w0) : RetP Try.prog 80 #[.pointer (some ⟨p, 0, none⟩)] w0 (fun u w' => ∃ a' : Nat, u = .int .i64 ((rShort xs (.ok a)).1 : Int) ∧ (rShort xs (.ok a)).2 = .ok a' ∧ a' ≤ xs.length ∧ St wb (rdE p bs a' :: S) w') (fun v w' => ∃ (e : Int) (a' : Nat), (rShort xs (.ok a)).2 = .error e ∧ v = stopV e ∧ St wb (rdE p bs a' :: S) w') := by
  refine RetP.enter (args := [.pointer (some ⟨p, 0, none⟩)]) Try.func80 rfl Try.ntmps80 Try.results80 rfl ?_
  have hS := St.start w0
  replace hS := hS0
  have hat : (a : Int) ≤ xs.length := by omega
  refine WC.seq (fun K1 hK1 => ?_)
  refine WC.region ?_
  refine WL.op rfl (opW.assignI rfl ?_)
  refine WL.nil ?_
  refine thenQ_n (hK1 _ _ ?_)
  refine WC.seq (fun K2 hK2 => ?_)
  refine WC.drawP 17 (.look 0 (.look 1 (.look 2 (.look 3 (.look 4 (.look 5 (.look 6 (.look 7 (.look 8 (.one 9 (.look 10 (.look 11 (.look 12 (.look 13 (.look 14 (.look 15 (.look 16 .nil))))))))))))))))) (by kernel_rfl) (fun _ _ _ _ h => h) (fun w1 hw1 => ⟨Bel w1, Bel.refl w1, ?_⟩)
  replace hS := hS.bel hw1
  have hS1 := hS
  have hT := St.start w1
  refine ML.look rfl rfl rfl (fun w hw => (by have hS := hS1.bel hw; exact opW.moveV (v := .pointer (some ⟨p, 0, none⟩)) rfl ⟨rfl, rfl⟩)) ?_
  refine ML.look rfl rfl rfl (fun w hw => (by have hS := hS1.bel hw; exact opW.nilCheckB rfl ⟨rfl, rfl⟩)) ?_
  refine ML.look rfl rfl rfl (fun w hw => (by have hS := hS1.bel hw; exact opW.fieldAddrB rfl ⟨rfl, rfl⟩)) ?_
  refine ML.look rfl rfl rfl (fun w hw => (by have hS := hS1.bel hw; exact opW.loadV rfl (hS.ld1 (by first | exact .h0 | exact .h1 | exact .h2 | exact .h3 | exact .h4 | exact .h5 | exact .h6 | exact .h7 | exact .h8 | exact .h9 | exact .h10 | exact .h11 | exact .h12 | exact .h13 | exact .h14) (show (Enc.enc (⟨bs, (a : Int)⟩ : Reader))[0]? = some bs.v from Reader.at_b _)) ⟨rfl, rfl⟩)) ?_
  refine ML.look rfl rfl rfl (fun w hw => (by have hS := hS1.bel hw; exact opW.moveV (v := .pointer (some ⟨p, 0, none⟩)) rfl ⟨rfl, rfl⟩)) ?_
  refine ML.look rfl rfl rfl (fun w hw => (by have hS := hS1.bel hw; exact opW.nilCheckB rfl ⟨rfl, rfl⟩)) ?_
  refine ML.look rfl rfl rfl (fun w hw => (by have hS := hS1.bel hw; exact opW.fieldAddrB rfl ⟨rfl, rfl⟩)) ?_
  refine ML.look rfl rfl rfl (fun w hw => (by have hS := hS1.bel hw; exact opW.loadV rfl (hS.ld1 (by first | exact .h0 | exact .h1 | exact .h2 | exact .h3 | exact .h4 | exact .h5 | exact .h6 | exact .h7 | exact .h8 | exact .h9 | exact .h10 | exact .h11 | exact .h12 | exact .h13 | exact .h14) (show (Enc.enc (⟨bs, (a : Int)⟩ : Reader))[1]? = some (.int .i64 (a : Int)) from Reader.at_at_ _)) ⟨rfl, rfl⟩)) ?_
  refine ML.look rfl rfl rfl (fun w hw => (by have hS := hS1.bel hw; exact opW.cutS (hb.bel hS.old) (xs := xs) (l := a) (h' := xs.length) (m := capV bs.v) ⟨rfl, Nat.le_refl _⟩ ⟨⟨rfl, rfl⟩, (hb.bel hS.old).cap⟩ ⟨⟨_, rfl⟩, by omega⟩ ⟨rfl, rfl⟩)) ?_
  refine ML.one rfl rfl rfl (opW.call (get_short _ _ (xs.drop a) (by have h1 := (hb.bel hS.old).cut (l := a) (h := xs.length) (m := capV bs.v) (by omega) (by omega) (hb.bel hS.old).cap (Nat.le_refl _); rw [List.take_length] at h1; exact h1)) rfl ?_)
  rintro _ w ⟨rfl, hw⟩; replace hT := hT.bel hw
  refine ⟨hT.old, ?_⟩
  have hS := hS1.merge hT
  try simp only [List.cons_append, List.nil_append] at hS
  refine ML.look rfl rfl rfl (fun w hw => (by have hS := hS1.bel hw; exact opW.moveV (v := .tuple #[.int .i64 (gs (xs.drop a) 0 0).1, .int .i64 (gs (xs.drop a) 0 0).2.1, .int .i64 (gs (xs.drop a) 0 0).2.2]) rfl ⟨rfl, rfl⟩)) ?_
  refine ML.look rfl rfl rfl (fun w hw => (by have hS := hS1.bel hw; exact opW.extract rfl rfl ⟨rfl, rfl⟩)) ?_
  refine ML.look rfl rfl rfl (fun w hw => (by have hS := hS1.bel hw; exact opW.extract rfl rfl ⟨rfl, rfl⟩)) ?_
  refine ML.look rfl rfl rfl (fun w hw => (by have hS := hS1.bel hw; exact opW.extract rfl rfl ⟨rfl, rfl⟩)) ?_
  refine ML.look rfl rfl rfl (fun w hw => (by have hS := hS1.bel hw; exact opW.assignI rfl ⟨rfl, rfl⟩)) ?_
  refine ML.look rfl rfl rfl (fun w hw => (by have hS := hS1.bel hw; exact opW.assignI rfl ⟨rfl, rfl⟩)) ?_
  refine ML.look rfl rfl rfl (fun w hw => (by have hS := hS1.bel hw; exact opW.assignI rfl ⟨rfl, rfl⟩)) ?_
  refine ML.nil ?_
  have hgb := gs_bound (xs.drop a) 0 0 (by omega) (by omega)
  rw [List.length_drop] at hgb
  refine thenQ_n (hK2 _ _ ?_)
  refine WC.seq (fun K3 hK3 => ?_)
  refine WC.region ?_
  refine WL.op rfl (opW.moveI rfl ?_)
  refine WL.op rfl (opW.eql rfl rfl ?_)
  refine WL.op rfl (opW.moveI rfl ?_)
  refine WL.opP rfl (opWP.call (must_ok _ _ _) rfl ?_ ?_)
  · rintro pv w ⟨hcf, rfl, hw⟩
    replace hS := hS.bel hw
    exact ⟨_, rfl, _, a, by rw [rShort_ok, if_neg (of_decide_eq_false hcf)], rfl, hS⟩
  rintro _ w ⟨hct, hw⟩; replace hS := hS.bel hw
  replace hct := of_decide_eq_true hct
  have hgl := hgb.2.2.2 hct
  refine WL.nil ?_
  refine thenQ_n (hK3 _ _ ?_)
  refine WC.seq (fun K4 hK4 => ?_)
  refine WC.region ?_
  refine WL.op rfl (opW.moveV (v := .pointer (some ⟨p, 0, none⟩)) rfl ?_)
  refine WL.op rfl (opW.nilCheckB rfl ?_)
  refine WL.op rfl (opW.fieldAddrB rfl ?_)
  refine WL.op rfl (opW.loadV rfl (hS.ld1 (by first | exact .h0 | exact .h1 | exact .h2 | exact .h3 | exact .h4 | exact .h5 | exact .h6 | exact .h7 | exact .h8 | exact .h9 | exact .h10 | exact .h11 | exact .h12 | exact .h13 | exact .h14) (show (Enc.enc (⟨bs, (a : Int)⟩ : Reader))[1]? = some (.int .i64 (a : Int)) from Reader.at_at_ _)) ?_)
  refine WL.op rfl (opW.moveI rfl ?_)
  refine WL.op rfl (opW.add rfl rfl (wrap_i64 (by omega)) ?_)
  refine WL.op rfl (opW.nilCheckB rfl ?_)
  refine WL.op rfl (opW.fieldAddrB rfl ?_)
  refine WL.op0 (opW.storeF (b := p) (o := 1) (v := .int .i64 ((a : Int) + (gs (xs.drop a) 0 0).2.1)) (sz := 1) (cs := Enc.enc (⟨bs, (a : Int)⟩ : Reader)) (cs' := Enc.enc (⟨bs, ((a + (gs (xs.drop a) 0 0).2.1.toNat : Nat) : Int)⟩ : Reader)) hS rfl rfl (by first | exact .h0 | exact .h1 | exact .h2 | exact .h3 | exact .h4 | exact .h5 | exact .h6 | exact .h7 | exact .h8 | exact .h9 | exact .h10 | exact .h11 | exact .h12 | exact .h13 | exact .h14) rfl (by rw [Enc.size_eq]; exact Nat.le_refl 2) (one_int _ _) (by rw [show (((a + (gs (xs.drop a) 0 0).2.1.toNat : Nat) : Int)) = (a : Int) + (gs (xs.drop a) 0 0).2.1 from by omega]; exact Reader.set_at_ ⟨bs, (a : Int)⟩ _) ?_)
  intro w hS; replace hS := hS _ (by first | exact .h0 | exact .h1 | exact .h2 | exact .h3 | exact .h4 | exact .h5 | exact .h6 | exact .h7 | exact .h8 | exact .h9 | exact .h10 | exact .h11 | exact .h12 | exact .h13 | exact .h14)
  refine WL.nil ?_
  refine thenQ_n (hK4 _ _ ?_)
  refine WC.seq (fun K5 hK5 => ?_)
  refine WC.region ?_
  refine WL.op rfl (opW.moveI rfl ?_)
  refine WL.op rfl (opW.assignI rfl ?_)
  refine WL.nil ?_
  refine thenQ_n (hK5 _ _ ?_)
  refine WC.ret ?_
  refine bodyQP_ret (.tmpI rfl .nil) ?_
  have he : (rShort xs (.ok a)).2 = .ok (a + (gs (xs.drop a) 0 0).2.1.toNat) := by rw [rShort_ok, if_pos hct]
  exact ⟨_, congrArg (Value.int .i64) (show (gs (xs.drop a) 0 0).1 = (((gs (xs.drop a) 0 0).1.toNat : Nat) : Int) from by omega), he, rShort_le ha he, hS⟩

theorem rd_list (wb w0 : World) (S : List Ent) (p : Nat) (bs : SlV) (xs : List UInt8) (a : Nat) (hb : SlR wb bs.v xs) (hxl : xs.length ≤ 1000000000) (ha : a ≤ xs.length) (hS0 : St wb (rdE p bs a :: S) w0) : RetP Try.prog 83 #[.pointer (some ⟨p, 0, none⟩)] w0 (fun u w' => ∃ (s : SlV) (a' : Nat), u = s.v ∧ (rList xs (.ok a)).2 = .ok a' ∧ a' ≤ xs.length ∧ St wb (ownE s.v 5 (rList xs (.ok a)).1 :: rdE p bs a' :: S) w') (fun v w' => ∃ (e : Int) (a' : Nat), (rList xs (.ok a)).2 = .error e ∧ v = stopV e ∧ St wb (rdE p bs a' :: S) w') := by
  refine RetP.enter (args := [.pointer (some ⟨p, 0, none⟩)]) Try.func83 rfl Try.ntmps83 Try.results83 rfl ?_
  have hS := St.start w0
  replace hS := hS0
  refine WC.seq (fun K1 hK1 => ?_)
  refine WC.region ?_
  refine WL.op rfl (opW.assignV (v := .slice none 0 0) rfl ?_)
  refine WL.nil ?_
  refine thenQ_n (hK1 _ _ ?_)
  refine WC.seq (fun K2 hK2 => ?_)
  refine WC.region ?_
  refine WL.op rfl (opW.moveV (v := .pointer (some ⟨p, 0, none⟩)) rfl ?_)
  refine WL.op rfl (opW.moveV (v := .pointer (some ⟨p, 0, none⟩)) rfl ?_)
  refine WL.opP rfl (opWP.call (rd_short _ _ _ p bs xs a hb hxl ha hS) rfl ?_ ?_)
  · rintro pv w ⟨e, a', he, rfl, hS⟩
    exact ⟨_, rfl, e, a', by simp only [rList, he, rBytes_e], rfl, hS.sub (by repeat (first | with_reducible exact List.nil_sublist _ | with_reducible exact List.Sublist.refl _ | with_reducible refine List.Sublist.cons₂ _ ?_ | with_reducible refine List.Sublist.cons _ ?_))⟩
  rintro _ w ⟨a1, rfl, h1, ha1, hS⟩
  have hlt := rShort_lt xs (.ok a)
  refine WL.opP rfl (opWP.call (bytes_ok _ _ _ p bs xs a1 hb hxl ha1 (rShort xs (.ok a)).1 (by omega) hS) rfl ?_ ?_)
  · rintro pv w ⟨e, a', he, rfl, hS⟩
    exact ⟨_, rfl, e, a', by simp only [rList, h1, he], rfl, hS.sub (by repeat (first | with_reducible exact List.nil_sublist _ | with_reducible exact List.Sublist.refl _ | with_reducible refine List.Sublist.cons₂ _ ?_ | with_reducible refine List.Sublist.cons _ ?_))⟩
  rintro _ w ⟨s6, a2, rfl, h2, hS⟩
  obtain ⟨g1, g2, g3, g4, g5⟩ := rBytes_le ha1 h2
  refine WL.op rfl (opW.call (clip_b _ _ (rBytes xs (rShort xs (.ok a)).1 (.ok a1)).1 (hS.sl (v := s6.v) (xs := (rBytes xs (rShort xs (.ok a)).1 (.ok a1)).1) (by first | exact .h0 | exact .h1 | exact .h2 | exact .h3 | exact .h4 | exact .h5 | exact .h6 | exact .h7 | exact .h8 | exact .h9 | exact .h10 | exact .h11 | exact .h12 | exact .h13 | exact .h14))) rfl ?_)
  rintro v7 w ⟨hv7, hw⟩; replace hS := hS.bel hw
  refine WL.op rfl (opW.assignV (v := v7) rfl ?_)
  refine WL.nil ?_
  refine thenQ_n (hK2 _ _ ?_)
  refine WC.ret ?_
  refine bodyQP_ret (.tmpV (v := v7) rfl .nil) ?_
  subst hv7
  replace hS := hS.cutOwn (v := s6.v) (T := 5) (by first | exact .h0 | exact .h1 | exact .h2 | exact .h3 | exact .h4 | exact .h5 | exact .h6 | exact .h7 | exact .h8 | exact .h9 | exact .h10 | exact .h11 | exact .h12 | exact .h13 | exact .h14)
  obtain ⟨s7, hs7⟩ := (hS.sl (α := UInt8) (by first | exact .h0 | exact .h1 | exact .h2 | exact .h3 | exact .h4 | exact .h5 | exact .h6 | exact .h7 | exact .h8 | exact .h9 | exact .h10 | exact .h11 | exact .h12 | exact .h13 | exact .h14)).asV
  rw [hs7] at hS ⊢
  refine ⟨s7, a2, rfl, ?_, g1, ?_⟩
  · simp only [rList, h1, h2]
  · simp only [rList, h1]; exact hS

theorem rd_key (wb w0 : World) (S : List Ent) (p : Nat) (bs : SlV) (xs : List UInt8) (a : Nat) (hb : SlR wb bs.v xs) (hxl : xs.length ≤ 1000000000) (ha : a ≤ xs.length) (hS0 : St wb (rdE p bs a :: S) w0) : RetP Try.prog 74 #[.pointer (some ⟨p, 0, none⟩)] w0 (fun u w' => ∃ a' : Nat, u = .agg (Enc.enc (rKey xs (.ok a)).1) ∧ (rKey xs (.ok a)).2 = .ok a' ∧ a' ≤ xs.length ∧ St wb (rdE p bs a' :: S) w') (fun v w' => ∃ (e : Int) (a' : Nat), (rKey xs (.ok a)).2 = .error e ∧ v = stopV e ∧ St wb (rdE p bs a' :: S) w') := by
  refine RetP.enter (args := [.pointer (some ⟨p, 0, none⟩)]) Try.func74 rfl Try.ntmps74 Try.results74 rfl ?_
  have hS := St.start w0
  replace hS := hS0
  refine WC.seq (fun K1 hK1 => ?_)
  refine WC.region ?_
  refine WL.op rfl (opW.allocA hS ?_)
  intro b2 w _ hS
  refine WL.nil ?_
  refine thenQ_n (hK1 _ _ ?_)
  refine WC.seq (fun K2 hK2 => ?_)
  refine WC.region ?_
  refine WL.op rfl (opW.moveV (v := .pointer (some ⟨p, 0, none⟩)) rfl ?_)
  refine WL.opP rfl (opWP.call (bytes_ok _ _ _ p bs xs a hb hxl ha 32 (by omega) (hS.pick (by first | exact .h0 | exact .h1 | exact .h2 | exact .h3 | exact .h4 | exact .h5 | exact .h6 | exact .h7 | exact .h8 | exact .h9 | exact .h10 | exact .h11 | exact .h12 | exact .h13 | exact .h14))) rfl ?_ ?_)
  · rintro pv w ⟨e, a', he, rfl, hS⟩
    exact ⟨_, rfl, e, a', by exact he, rfl, hS.sub (by repeat (first | with_reducible exact List.nil_sublist _ | with_reducible exact List.Sublist.refl _ | with_reducible refine List.Sublist.cons₂ _ ?_ | with_reducible refine List.Sublist.cons _ ?_))⟩
  rintro _ w ⟨s4, a', rfl, he, hS⟩
  obtain ⟨h1, h2, h3, h4, h5⟩ := rBytes_le ha he
  have hS4 := hS.sl (v := s4.v) (xs := (rBytes xs 32 (.ok a)).1) (by first | exact .h0 | exact .h1 | exact .h2 | exact .h3 | exact .h4 | exact .h5 | exact .h6 | exact .h7 | exact .h8 | exact .h9 | exact .h10 | exact .h11 | exact .h12 | exact .h13 | exact .h14)
  refine WL.op rfl (opW.arrAt (n := 32) (xs := (rBytes xs 32 (.ok a)).1) rfl hS4 h5 (by omega) ?_)
  refine WL.op rfl (opW.loadV rfl ((hS4.key (n := 31) h5).ldA (Enc.size_eq _)) ?_)
  refine WL.op0 (opW.storeE hS rfl rfl (by first | exact .h0 | exact .h1 | exact .h2 | exact .h3 | exact .h4 | exact .h5 | exact .h6 | exact .h7 | exact .h8 | exact .h9 | exact .h10 | exact .h11 | exact .h12 | exact .h13 | exact .h14) (by first | rfl | exact Enc.size_eq _) ?_)
  intro w hS; replace hS := hS _ (by first | exact .h0 | exact .h1 | exact .h2 | exact .h3 | exact .h4 | exact .h5 | exact .h6 | exact .h7 | exact .h8 | exact .h9 | exact .h10 | exact .h11 | exact .h12 | exact .h13 | exact .h14)
  refine WL.nil ?_
  refine thenQ_n (hK2 _ _ ?_)
  refine WC.ret ?_
  refine bodyQP_ret (.cell (by first | exact hS.ldA (by first | exact .h0 | exact .h1 | exact .h2 | exact .h3 | exact .h4 | exact .h5 | exact .h6 | exact .h7 | exact .h8 | exact .h9 | exact .h10 | exact .h11 | exact .h12 | exact .h13 | exact .h14) (by first | rfl | exact Enc.size_eq _) | exact hS.ld1 (by first | exact .h0 | exact .h1 | exact .h2 | exact .h3 | exact .h4 | exact .h5 | exact .h6 | exact .h7 | exact .h8 | exact .h9 | exact .h10 | exact .h11 | exact .h12 | exact .h13 | exact .h14) rfl) .nil) ?_
  exact ⟨a', rfl, he, h1, hS.sub (by repeat (first | with_reducible exact List.nil_sublist _ | with_reducible exact List.Sublist.refl _ | with_reducible refine List.Sublist.cons₂ _ ?_ | with_reducible refine List.Sublist.cons _ ?_))⟩

theorem in_zero : (joinA [#[.int .u8 0], #[.slice none 0 0], #[.slice none 0 0]]) = Enc.enc (⟨0, ⟨none, 0, 0⟩, ⟨none, 0, 0⟩⟩ : Instr) := by
  simp only [Instr.enc_eq, Instr.parts, enc_vz]; rfl

theorem rd_instr (wb w0 : World) (S : List Ent) (p : Nat) (bs : SlV) (xs : List UInt8) (a : Nat) (hb : SlR wb bs.v xs) (hxl : xs.length ≤ 1000000000) (ha : a ≤ xs.length) (hS0 : St wb (rdE p bs a :: S) w0) : RetP Try.prog 76 #[.pointer (some ⟨p, 0, none⟩)] w0 (fun u w' => ∃ (i : Instr) (a' : Nat), u = .agg (Enc.enc i) ∧ i.program = (rInstr xs (.ok a)).1.1 ∧ (rInstr xs (.ok a)).2 = .ok a' ∧ a' ≤ xs.length ∧ St wb (ownE i.accounts.v 5 (rInstr xs (.ok a)).1.2.1 :: ownE i.data.v 5 (rInstr xs (.ok a)).1.2.2 :: rdE p bs a' :: S) w') (fun v w' => ∃ (e : Int) (a' : Nat), (rInstr xs (.ok a)).2 = .error e ∧ v = stopV e ∧ St wb (rdE p bs a' :: S) w') := by
  refine RetP.enter (args := [.pointer (some ⟨p, 0, none⟩)]) Try.func76 rfl Try.ntmps76 Try.results76 rfl ?_
  have hS := St.start w0
  replace hS := hS0
  refine WC.seq (fun K1 hK1 => ?_)
  refine WC.region ?_
  refine WL.op rfl (opW.allocA hS ?_)
  intro b2 w _ hS
  rw [in_zero] at hS
  refine WL.nil ?_
  refine thenQ_n (hK1 _ _ ?_)
  refine WC.seq (fun K2 hK2 => ?_)
  refine WC.region ?_
  refine WL.op rfl (opW.moveV (v := .pointer (some ⟨p, 0, none⟩)) rfl ?_)
  refine WL.opP rfl (opWP.call (rd_byte _ _ _ p bs xs a hb hxl ha (hS.pick (by first | exact .h0 | exact .h1 | exact .h2 | exact .h3 | exact .h4 | exact .h5 | exact .h6 | exact .h7 | exact .h8 | exact .h9 | exact .h10 | exact .h11 | exact .h12 | exact .h13 | exact .h14))) rfl ?_ ?_)
  · rintro pv w ⟨e, a', he, rfl, hS⟩
    exact ⟨_, rfl, e, a', by simp only [rInstr, he, rList_e], rfl, hS.sub (by repeat (first | with_reducible exact List.nil_sublist _ | with_reducible exact List.Sublist.refl _ | with_reducible refine List.Sublist.cons₂ _ ?_ | with_reducible refine List.Sublist.cons _ ?_))⟩
  rintro _ w ⟨a1, rfl, h1, ha1, hS⟩
  refine WL.op rfl (opW.fieldAddrB rfl ?_)
  refine WL.op0 (opW.storeF (b := b2) (o := 0) (v := (.int .u8 ((rByte xs (.ok a)).1.toNat : Int))) (sz := 1) (cs := Enc.enc (⟨0, ⟨none, 0, 0⟩, ⟨none, 0, 0⟩⟩ : Instr)) (cs' := Enc.enc (⟨(rByte xs (.ok a)).1, ⟨none, 0, 0⟩, ⟨none, 0, 0⟩⟩ : Instr)) hS rfl rfl (by first | exact .h0 | exact .h1 | exact .h2 | exact .h3 | exact .h4 | exact .h5 | exact .h6 | exact .h7 | exact .h8 | exact .h9 | exact .h10 | exact .h11 | exact .h12 | exact .h13 | exact .h14) rfl (by rw [Enc.size_eq]; decide) (one_int _ _) (Instr.set_program (⟨0, ⟨none, 0, 0⟩, ⟨none, 0, 0⟩⟩ : Instr) (rByte xs (.ok a)).1) ?_)
  intro w hS; replace hS := hS _ (by first | exact .h0 | exact .h1 | exact .h2 | exact .h3 | exact .h4 | exact .h5 | exact .h6 | exact .h7 | exact .h8 | exact .h9 | exact .h10 | exact .h11 | exact .h12 | exact .h13 | exact .h14)
  refine WL.nil ?_
  refine thenQ_n (hK2 _ _ ?_)
  refine WC.seq (fun K3 hK3 => ?_)
  refine WC.region ?_
  refine WL.op rfl (opW.moveV (v := .pointer (some ⟨p, 0, none⟩)) rfl ?_)
  refine WL.opP rfl (opWP.call (rd_list _ _ _ p bs xs a1 hb hxl ha1 (hS.pick (by first | exact .h0 | exact .h1 | exact .h2 | exact .h3 | exact .h4 | exact .h5 | exact .h6 | exact .h7 | exact .h8 | exact .h9 | exact .h10 | exact .h11 | exact .h12 | exact .h13 | exact .h14))) rfl ?_ ?_)
  · rintro pv w ⟨e, a', he, rfl, hS⟩
    exact ⟨_, rfl, e, a', by simp only [rInstr, h1, he, rList_e], rfl, hS.sub (by repeat (first | with_reducible exact List.nil_sublist _ | with_reducible exact List.Sublist.refl _ | with_reducible refine List.Sublist.cons₂ _ ?_ | with_reducible refine List.Sublist.cons _ ?_))⟩
  rintro _ w ⟨s7, a2, rfl, h2, ha2, hS⟩
  refine WL.op rfl (opW.fieldAddrB rfl ?_)
  refine WL.op0 (opW.storeF (b := b2) (o := 1) (v := s7.v) (sz := 1) (cs := Enc.enc (⟨(rByte xs (.ok a)).1, ⟨none, 0, 0⟩, ⟨none, 0, 0⟩⟩ : Instr)) (cs' := Enc.enc (⟨(rByte xs (.ok a)).1, s7, ⟨none, 0, 0⟩⟩ : Instr)) hS rfl rfl (by first | exact .h0 | exact .h1 | exact .h2 | exact .h3 | exact .h4 | exact .h5 | exact .h6 | exact .h7 | exact .h8 | exact .h9 | exact .h10 | exact .h11 | exact .h12 | exact .h13 | exact .h14) rfl (by rw [Enc.size_eq]; decide) (Enc.one (α := SlV) s7) (Instr.set_accounts (⟨(rByte xs (.ok a)).1, ⟨none, 0, 0⟩, ⟨none, 0, 0⟩⟩ : Instr) s7) ?_)
  intro w hS; replace hS := hS _ (by first | exact .h0 | exact .h1 | exact .h2 | exact .h3 | exact .h4 | exact .h5 | exact .h6 | exact .h7 | exact .h8 | exact .h9 | exact .h10 | exact .h11 | exact .h12 | exact .h13 | exact .h14)
  refine WL.nil ?_
  refine thenQ_n (hK3 _ _ ?_)
  refine WC.seq (fun K4 hK4 => ?_)
  refine WC.region ?_
  refine WL.op rfl (opW.moveV (v := .pointer (some ⟨p, 0, none⟩)) rfl ?_)
  refine WL.opP rfl (opWP.call (rd_list _ _ _ p bs xs a2 hb hxl ha2 (hS.pick (by first | exact .h0 | exact .h1 | exact .h2 | exact .h3 | exact .h4 | exact .h5 | exact .h6 | exact .h7 | exact .h8 | exact .h9 | exact .h10 | exact .h11 | exact .h12 | exact .h13 | exact .h14))) rfl ?_ ?_)
  · rintro pv w ⟨e, a', he, rfl, hS⟩
    exact ⟨_, rfl, e, a', by simp only [rInstr, h1, h2, he], rfl, hS.sub (by repeat (first | with_reducible exact List.nil_sublist _ | with_reducible exact List.Sublist.refl _ | with_reducible refine List.Sublist.cons₂ _ ?_ | with_reducible refine List.Sublist.cons _ ?_))⟩
  rintro _ w ⟨s10, a3, rfl, h3, ha3, hS⟩
  refine WL.op rfl (opW.fieldAddrB rfl ?_)
  refine WL.op0 (opW.storeF (b := b2) (o := 2) (v := s10.v) (sz := 1) (cs := Enc.enc (⟨(rByte xs (.ok a)).1, s7, ⟨none, 0, 0⟩⟩ : Instr)) (cs' := Enc.enc (⟨(rByte xs (.ok a)).1, s7, s10⟩ : Instr)) hS rfl rfl (by first | exact .h0 | exact .h1 | exact .h2 | exact .h3 | exact .h4 | exact .h5 | exact .h6 | exact .h7 | exact .h8 | exact .h9 | exact .h10 | exact .h11 | exact .h12 | exact .h13 | exact .h14) rfl (by rw [Enc.size_eq]; decide) (Enc.one (α := SlV) s10) (Instr.set_data (⟨(rByte xs (.ok a)).1, s7, ⟨none, 0, 0⟩⟩ : Instr) s10) ?_)
  intro w hS; replace hS := hS _ (by first | exact .h0 | exact .h1 | exact .h2 | exact .h3 | exact .h4 | exact .h5 | exact .h6 | exact .h7 | exact .h8 | exact .h9 | exact .h10 | exact .h11 | exact .h12 | exact .h13 | exact .h14)
  refine WL.nil ?_
  refine thenQ_n (hK4 _ _ ?_)
  refine WC.seq (fun K5 hK5 => ?_)
  refine WC.region ?_
  refine WL.op rfl (opW.loadV rfl (hS.ldA (cs := Enc.enc (⟨(rByte xs (.ok a)).1, s7, s10⟩ : Instr)) (by first | exact .h0 | exact .h1 | exact .h2 | exact .h3 | exact .h4 | exact .h5 | exact .h6 | exact .h7 | exact .h8 | exact .h9 | exact .h10 | exact .h11 | exact .h12 | exact .h13 | exact .h14) (Enc.size_eq _)) ?_)
  refine WL.op0 (opW.storeE hS rfl rfl (by first | exact .h0 | exact .h1 | exact .h2 | exact .h3 | exact .h4 | exact .h5 | exact .h6 | exact .h7 | exact .h8 | exact .h9 | exact .h10 | exact .h11 | exact .h12 | exact .h13 | exact .h14) (by first | rfl | exact Enc.size_eq _) ?_)
  intro w hS; replace hS := hS _ (by first | exact .h0 | exact .h1 | exact .h2 | exact .h3 | exact .h4 | exact .h5 | exact .h6 | exact .h7 | exact .h8 | exact .h9 | exact .h10 | exact .h11 | exact .h12 | exact .h13 | exact .h14)
  refine WL.nil ?_
  refine thenQ_n (hK5 _ _ ?_)
  refine WC.ret ?_
  refine bodyQP_ret (.cell (by first | exact hS.ldA (by first | exact .h0 | exact .h1 | exact .h2 | exact .h3 | exact .h4 | exact .h5 | exact .h6 | exact .h7 | exact .h8 | exact .h9 | exact .h10 | exact .h11 | exact .h12 | exact .h13 | exact .h14) (by first | rfl | exact Enc.size_eq _) | exact hS.ld1 (by first | exact .h0 | exact .h1 | exact .h2 | exact .h3 | exact .h4 | exact .h5 | exact .h6 | exact .h7 | exact .h8 | exact .h9 | exact .h10 | exact .h11 | exact .h12 | exact .h13 | exact .h14) rfl) .nil) ?_
  refine ⟨(⟨(rByte xs (.ok a)).1, s7, s10⟩ : Instr), a3, rfl, rfl, ?_, ha3, ?_⟩
  · simp only [rInstr, h1, h2, h3]
  · have e1 : (rInstr xs (.ok a)).1.2.1 = (rList xs (.ok a1)).1 := by simp only [rInstr, h1]
    have e2 : (rInstr xs (.ok a)).1.2.2 = (rList xs (.ok a2)).1 := by simp only [rInstr, h1, h2]
    rw [e1, e2]
    have hS := (hS.pick (e := ownE s7.v 5 (rList xs (.ok a1)).1) (by first | exact .h0 | exact .h1 | exact .h2 | exact .h3 | exact .h4 | exact .h5 | exact .h6 | exact .h7 | exact .h8 | exact .h9 | exact .h10 | exact .h11 | exact .h12 | exact .h13 | exact .h14))
    exact hS.sub (by repeat (first | with_reducible exact List.nil_sublist _ | with_reducible exact List.Sublist.refl _ | with_reducible refine List.Sublist.cons₂ _ ?_ | with_reducible refine List.Sublist.cons _ ?_))

theorem lk_zero : (joinA [(Array.replicate 32 (.int .u8 0)), #[.slice none 0 0], #[.slice none 0 0]]) = Enc.enc (⟨vz 32, ⟨none, 0, 0⟩, ⟨none, 0, 0⟩⟩ : Lookup) := by
  simp only [Lookup.enc_eq, Lookup.parts, enc_vz]; rfl

theorem rd_lookup (wb w0 : World) (S : List Ent) (p : Nat) (bs : SlV) (xs : List UInt8) (a : Nat) (hb : SlR wb bs.v xs) (hxl : xs.length ≤ 1000000000) (ha : a ≤ xs.length) (hS0 : St wb (rdE p bs a :: S) w0) : RetP Try.prog 78 #[.pointer (some ⟨p, 0, none⟩)] w0 (fun u w' => ∃ (i : Lookup) (a' : Nat), u = .agg (Enc.enc i) ∧ i.table = (rLookup xs (.ok a)).1.1 ∧ (rLookup xs (.ok a)).2 = .ok a' ∧ a' ≤ xs.length ∧ St wb (ownE i.writes.v 5 (rLookup xs (.ok a)).1.2.1 :: ownE i.reads.v 5 (rLookup xs (.ok a)).1.2.2 :: rdE p bs a' :: S) w') (fun v w' => ∃ (e : Int) (a' : Nat), (rLookup xs (.ok a)).2 = .error e ∧ v = stopV e ∧ St wb (rdE p bs a' :: S) w') := by
  refine RetP.enter (args := [.pointer (some ⟨p, 0, none⟩)]) Try.func78 rfl Try.ntmps78 Try.results78 rfl ?_
  have hS := St.start w0
  replace hS := hS0
  refine WC.seq (fun K1 hK1 => ?_)
  refine WC.region ?_
  refine WL.op rfl (opW.allocA hS ?_)
  intro b2 w _ hS
  rw [lk_zero] at hS
  refine WL.nil ?_
  refine thenQ_n (hK1 _ _ ?_)
  refine WC.seq (fun K2 hK2 => ?_)
  refine WC.region ?_
  refine WL.op rfl (opW.moveV (v := .pointer (some ⟨p, 0, none⟩)) rfl ?_)
  refine WL.opP rfl (opWP.call (rd_key _ _ _ p bs xs a hb hxl ha (hS.pick (by first | exact .h0 | exact .h1 | exact .h2 | exact .h3 | exact .h4 | exact .h5 | exact .h6 | exact .h7 | exact .h8 | exact .h9 | exact .h10 | exact .h11 | exact .h12 | exact .h13 | exact .h14))) rfl ?_ ?_)
  · rintro pv w ⟨e, a', he, rfl, hS⟩
    exact ⟨_, rfl, e, a', by simp only [rLookup, he, rList_e], rfl, hS.sub (by repeat (first | with_reducible exact List.nil_sublist _ | with_reducible exact List.Sublist.refl _ | with_reducible refine List.Sublist.cons₂ _ ?_ | with_reducible refine List.Sublist.cons _ ?_))⟩
  rintro _ w ⟨a1, rfl, h1, ha1, hS⟩
  refine WL.op rfl (opW.fieldAddrB rfl ?_)
  refine WL.op0 (opW.storeF (b := b2) (o := 0) (v := (.agg (Enc.enc (rKey xs (.ok a)).1))) (sz := 32) (cs := Enc.enc (⟨vz 32, ⟨none, 0, 0⟩, ⟨none, 0, 0⟩⟩ : Lookup)) (cs' := Enc.enc (⟨(rKey xs (.ok a)).1, ⟨none, 0, 0⟩, ⟨none, 0, 0⟩⟩ : Lookup)) hS rfl rfl (by first | exact .h0 | exact .h1 | exact .h2 | exact .h3 | exact .h4 | exact .h5 | exact .h6 | exact .h7 | exact .h8 | exact .h9 | exact .h10 | exact .h11 | exact .h12 | exact .h13 | exact .h14) (Enc.size_eq _) (by rw [Enc.size_eq]; decide) (Enc.one (α := Vector UInt8 32) _) (Lookup.set_table (⟨vz 32, ⟨none, 0, 0⟩, ⟨none, 0, 0⟩⟩ : Lookup) (rKey xs (.ok a)).1) ?_)
  intro w hS; replace hS := hS _ (by first | exact .h0 | exact .h1 | exact .h2 | exact .h3 | exact .h4 | exact .h5 | exact .h6 | exact .h7 | exact .h8 | exact .h9 | exact .h10 | exact .h11 | exact .h12 | exact .h13 | exact .h14)
  refine WL.nil ?_
  refine thenQ_n (hK2 _ _ ?_)
  refine WC.seq (fun K3 hK3 => ?_)
  refine WC.region ?_
  refine WL.op rfl (opW.moveV (v := .pointer (some ⟨p, 0, none⟩)) rfl ?_)
  refine WL.opP rfl (opWP.call (rd_list _ _ _ p bs xs a1 hb hxl ha1 (hS.pick (by first | exact .h0 | exact .h1 | exact .h2 | exact .h3 | exact .h4 | exact .h5 | exact .h6 | exact .h7 | exact .h8 | exact .h9 | exact .h10 | exact .h11 | exact .h12 | exact .h13 | exact .h14))) rfl ?_ ?_)
  · rintro pv w ⟨e, a', he, rfl, hS⟩
    exact ⟨_, rfl, e, a', by simp only [rLookup, h1, he, rList_e], rfl, hS.sub (by repeat (first | with_reducible exact List.nil_sublist _ | with_reducible exact List.Sublist.refl _ | with_reducible refine List.Sublist.cons₂ _ ?_ | with_reducible refine List.Sublist.cons _ ?_))⟩
  rintro _ w ⟨s7, a2, rfl, h2, ha2, hS⟩
  refine WL.op rfl (opW.fieldAddrB rfl ?_)
  refine WL.op0 (opW.storeF (b := b2) (o := 32) (v := s7.v) (sz := 1) (cs := Enc.enc (⟨(rKey xs (.ok a)).1, ⟨none, 0, 0⟩, ⟨none, 0, 0⟩⟩ : Lookup)) (cs' := Enc.enc (⟨(rKey xs (.ok a)).1, s7, ⟨none, 0, 0⟩⟩ : Lookup)) hS rfl rfl (by first | exact .h0 | exact .h1 | exact .h2 | exact .h3 | exact .h4 | exact .h5 | exact .h6 | exact .h7 | exact .h8 | exact .h9 | exact .h10 | exact .h11 | exact .h12 | exact .h13 | exact .h14) rfl (by rw [Enc.size_eq]; decide) (Enc.one (α := SlV) s7) (Lookup.set_writes (⟨(rKey xs (.ok a)).1, ⟨none, 0, 0⟩, ⟨none, 0, 0⟩⟩ : Lookup) s7) ?_)
  intro w hS; replace hS := hS _ (by first | exact .h0 | exact .h1 | exact .h2 | exact .h3 | exact .h4 | exact .h5 | exact .h6 | exact .h7 | exact .h8 | exact .h9 | exact .h10 | exact .h11 | exact .h12 | exact .h13 | exact .h14)
  refine WL.nil ?_
  refine thenQ_n (hK3 _ _ ?_)
  refine WC.seq (fun K4 hK4 => ?_)
  refine WC.region ?_
  refine WL.op rfl (opW.moveV (v := .pointer (some ⟨p, 0, none⟩)) rfl ?_)
  refine WL.opP rfl (opWP.call (rd_list _ _ _ p bs xs a2 hb hxl ha2 (hS.pick (by first | exact .h0 | exact .h1 | exact .h2 | exact .h3 | exact .h4 | exact .h5 | exact .h6 | exact .h7 | exact .h8 | exact .h9 | exact .h10 | exact .h11 | exact .h12 | exact .h13 | exact .h14))) rfl ?_ ?_)
  · rintro pv w ⟨e, a', he, rfl, hS⟩
    exact ⟨_, rfl, e, a', by simp only [rLookup, h1, h2, he], rfl, hS.sub (by repeat (first | with_reducible exact List.nil_sublist _ | with_reducible exact List.Sublist.refl _ | with_reducible refine List.Sublist.cons₂ _ ?_ | with_reducible refine List.Sublist.cons _ ?_))⟩
  rintro _ w ⟨s10, a3, rfl, h3, ha3, hS⟩
  refine WL.op rfl (opW.fieldAddrB rfl ?_)
  refine WL.op0 (opW.storeF (b := b2) (o := 33) (v := s10.v) (sz := 1) (cs := Enc.enc (⟨(rKey xs (.ok a)).1, s7, ⟨none, 0, 0⟩⟩ : Lookup)) (cs' := Enc.enc (⟨(rKey xs (.ok a)).1, s7, s10⟩ : Lookup)) hS rfl rfl (by first | exact .h0 | exact .h1 | exact .h2 | exact .h3 | exact .h4 | exact .h5 | exact .h6 | exact .h7 | exact .h8 | exact .h9 | exact .h10 | exact .h11 | exact .h12 | exact .h13 | exact .h14) rfl (by rw [Enc.size_eq]; decide) (Enc.one (α := SlV) s10) (Lookup.set_reads (⟨(rKey xs (.ok a)).1, s7, ⟨none, 0, 0⟩⟩ : Lookup) s10) ?_)
  intro w hS; replace hS := hS _ (by first | exact .h0 | exact .h1 | exact .h2 | exact .h3 | exact .h4 | exact .h5 | exact .h6 | exact .h7 | exact .h8 | exact .h9 | exact .h10 | exact .h11 | exact .h12 | exact .h13 | exact .h14)
  refine WL.nil ?_
  refine thenQ_n (hK4 _ _ ?_)
  refine WC.seq (fun K5 hK5 => ?_)
  refine WC.region ?_
  refine WL.op rfl (opW.loadV rfl (hS.ldA (cs := Enc.enc (⟨(rKey xs (.ok a)).1, s7, s10⟩ : Lookup)) (by first | exact .h0 | exact .h1 | exact .h2 | exact .h3 | exact .h4 | exact .h5 | exact .h6 | exact .h7 | exact .h8 | exact .h9 | exact .h10 | exact .h11 | exact .h12 | exact .h13 | exact .h14) (Enc.size_eq _)) ?_)
  refine WL.op0 (opW.storeE hS rfl rfl (by first | exact .h0 | exact .h1 | exact .h2 | exact .h3 | exact .h4 | exact .h5 | exact .h6 | exact .h7 | exact .h8 | exact .h9 | exact .h10 | exact .h11 | exact .h12 | exact .h13 | exact .h14) (by first | rfl | exact Enc.size_eq _) ?_)
  intro w hS; replace hS := hS _ (by first | exact .h0 | exact .h1 | exact .h2 | exact .h3 | exact .h4 | exact .h5 | exact .h6 | exact .h7 | exact .h8 | exact .h9 | exact .h10 | exact .h11 | exact .h12 | exact .h13 | exact .h14)
  refine WL.nil ?_
  refine thenQ_n (hK5 _ _ ?_)
  refine WC.ret ?_
  refine bodyQP_ret (.cell (by first | exact hS.ldA (by first | exact .h0 | exact .h1 | exact .h2 | exact .h3 | exact .h4 | exact .h5 | exact .h6 | exact .h7 | exact .h8 | exact .h9 | exact .h10 | exact .h11 | exact .h12 | exact .h13 | exact .h14) (by first | rfl | exact Enc.size_eq _) | exact hS.ld1 (by first | exact .h0 | exact .h1 | exact .h2 | exact .h3 | exact .h4 | exact .h5 | exact .h6 | exact .h7 | exact .h8 | exact .h9 | exact .h10 | exact .h11 | exact .h12 | exact .h13 | exact .h14) rfl) .nil) ?_
  refine ⟨(⟨(rKey xs (.ok a)).1, s7, s10⟩ : Lookup), a3, rfl, rfl, ?_, ha3, ?_⟩
  · simp only [rLookup, h1, h2, h3]
  · have e1 : (rLookup xs (.ok a)).1.2.1 = (rList xs (.ok a1)).1 := by simp only [rLookup, h1]
    have e2 : (rLookup xs (.ok a)).1.2.2 = (rList xs (.ok a2)).1 := by simp only [rLookup, h1, h2]
    rw [e1, e2]
    have hS := (hS.pick (e := ownE s7.v 5 (rList xs (.ok a1)).1) (by first | exact .h0 | exact .h1 | exact .h2 | exact .h3 | exact .h4 | exact .h5 | exact .h6 | exact .h7 | exact .h8 | exact .h9 | exact .h10 | exact .h11 | exact .h12 | exact .h13 | exact .h14))
    exact hS.sub (by repeat (first | with_reducible exact List.nil_sublist _ | with_reducible exact List.Sublist.refl _ | with_reducible refine List.Sublist.cons₂ _ ?_ | with_reducible refine List.Sublist.cons _ ?_))

end Go.Fer
