/- lives -/
import Derived.Test.YtljdebibekdhdaaH
import Derived.Test.YtljdebibekdhdaaG
import Derived.Test.YtljdebibekdhdaaM
set_option linter.all false
namespace Go.Fer
open Go Go.Proofs Go.RowKit

theorem run_append_zeros {P : Program} {w : World} {t ti ty e : TypeId} {i : TypeInfo} {z : Value} (ht : P.underlying t = some (.slice e)) (hti : P.underlying ti = some (.int .i64)) (hi : P.info? e = some i) (hz : i.zero = some z) (base ub : Option Addr) (sLen sCap n uc : Nat) (old : Array Value)
    (hpos : 0 < n * i.size) (hb : n * i.bytes ≤ 281474976710656) (hn : n ≤ 1000000000) (hold : (Builtin.firstCells i.size sLen (.slice base sLen sCap)).run P w.drew = .ok old w.drew)
    (hc : (Builtin.firstCells i.size n (.slice ub n uc)).run P w = .ok (Builtin.zeroCells z.cells n) w) (hcD : (Builtin.firstCells i.size n (.slice ub n uc)).run P w.drew = .ok (Builtin.zeroCells z.cells n) w.drew)
    (h63 : ((sLen + n : Nat) : Int) ≤ 9223372036854775807) (hfit : sCap < sLen + n → Builtin.nextslicecap (sLen + n) sCap * i.bytes ≤ 281474976710656) :
    (Builtin.append_ #[t, ti] ty #[.slice base sLen sCap, .int .i64 (n : Int)]).run P w = (Builtin.append_ #[t, t] ty #[.slice base sLen sCap, .slice ub n uc]).run P w := by
  have hw : IntKind.i64.wrap (n : Int) = n := by rw [IntKind.wrap_i64]; omega
  have h0 : ¬ ((n : Int) < 0) := by omega
  have hb' : ¬ (281474976710656 < (n : Int) * (i.bytes : Int)) := by rw [← Int.natCast_mul]; omega
  have h63' : ¬ (9223372036854775807 < ((sLen : Int) + (n : Int))) := by omega
  have hne : ¬ (n * i.size = 0) := by omega
  have hne2 : ¬ (n = 0 ∨ i.size = 0) := by rintro (h | h) <;> simp [h] at hpos
  by_cases hn2 : sLen + n ≤ sCap
  · simp [Builtin.append_, run_underlying ht, run_underlying hti, sizeOf, typeInfo, zeroValue, hi, hz, hn2, asInt, asIntOf, hw, h0, hb', hne, hne2, hc, Builtin.lenOf]
  · have h48' : ¬ (281474976710656 < Builtin.nextslicecap (sLen + n) sCap * i.bytes) := by have := hfit (by omega); omega
    simp [Builtin.append_, run_underlying ht, run_underlying hti, sizeOf, typeInfo, zeroValue, hi, hz, hn2, asInt, asIntOf, hw, h0, hb', hne, hne2, hcD, Builtin.lenOf, hold, h63', h48', Question.forced]

theorem first_of {α : Type} [Enc α] {P : Program} {w : World} {v : Value} {ys : List α} (h : SlR w v ys) : (Builtin.firstCells (Enc.sz α) ys.length v).run P w = .ok (flat ys).toArray w := by
  obtain ⟨a, c, rfl, hc1, hc2, hc3, hrow⟩ := h
  cases a with
  | none =>
    have : ys = [] := List.eq_nil_of_length_eq_zero (by have := hc3 rfl; omega)
    subst this
    simp [Builtin.firstCells, flat_nil]
  | some ad =>
    by_cases h0 : 0 < c
    · have hr := hrow ad rfl h0
      have hld := run_loadCells_list (P := P) w ad (flat ys) (by
        intro j u hj
        have h2 := hr.2 j u hj
        have e : ad.add j = ⟨ad.block, ad.off + j, none⟩ := by
          have h1 := hr.1
          obtain ⟨b, o, s⟩ := ad
          simp only at h1
          subst h1
          exact add_spot b o j
        rw [e]; exact h2)
      rw [flat_length] at hld
      simp [Builtin.firstCells, hld]
    · have : ys = [] := List.eq_nil_of_length_eq_zero (by omega)
      subst this
      have hld := run_loadCells_list (P := P) w ad [] (by simp)
      simp [Builtin.firstCells, flat_nil] at hld ⊢
      exact hld
theorem zeroCells_u8 (n : Nat) : Builtin.zeroCells (Value.int .u8 0).cells n = (flat (List.replicate n (0 : UInt8))).toArray := by
  apply Array.ext'
  have h1 : flat (List.replicate n (0 : UInt8)) = List.replicate n (.int .u8 0) := by rw [flat_u8]; simp
  rw [h1]
  simp only [Builtin.zeroCells, Value.cells]
  apply List.ext_getElem?
  intro i
  simp [List.getElem?_replicate]
  by_cases hi : i < n <;> simp [hi, Nat.mod_one]
/-- an append of zeros that are made for it -/
theorem opW.appendZ {P : Program} {f : Fr} {w w0 : World} {S : List Ent} {R : Value → World → Prop} {d : Option Tmp} {T : TypeId} {pos : String} {af : Array Edge} {gd : Option (Nat × Bool)} {x y : Operand} {t ti E n : Nat} {v u : Value} {xs : List UInt8} [ht : SliceT P t E] [hti : IntT P ti .i64] [hz : SizeT P E (Enc.sz UInt8)] [hb : BytesT P E 1] [hzz : ZeroT P E (.int .u8 0)]
    (hS : St w0 S w) (hx : ev f x = v) (ho : Has (ownE v E xs) S) (hy : ev f y = .int .i64 (n : Int)) (hu : SlR w u (List.replicate n (0 : UInt8))) (hn0 : 0 < n) (hl1 : xs.length + n ≤ 1000000000)
    (h : ∀ v' w', (∀ S', Turn (ownE v E xs) (ownE v' E (xs ++ List.replicate n 0)) S S' → St w0 S' w') → R v' w') :
    opW P f ⟨d, .call { callee := .builtin .append, args := #[x, y], argTypes := #[t, ti] }, T, pos, af, gd⟩ w R := by
  obtain ⟨v', w', hr, h1, h2, h3⟩ := run_append_OwnB (P := P) (ty := T) ht hz hb hzz rfl (hS.own ho) hu (by rw [List.length_replicate]; omega) (by rw [List.length_replicate]; simp only [maxLen]; omega)
  obtain ⟨i, hi, hisz, hiby, hiz⟩ : ∃ i, P.info? E = some i ∧ i.size = Enc.sz UInt8 ∧ i.bytes = 1 ∧ i.zero = some (.int .u8 0) := by
    have h1 := hz.out; have h2 := hb.out; have h3 := hzz.out
    cases hi : P.info? E with
    | none => simp [hi] at h1
    | some i => simp [hi] at h1 h2 h3; exact ⟨i, rfl, h1, h2, h3⟩
  have hD : Bel w w.drew := Bel.drawn w (w.drawn + 1)
  have hsv := hS.sl ho
  obtain ⟨bv, cv, hvv⟩ := hsv.eq
  obtain ⟨bu, cu, huu⟩ := hu.eq
  have hcap : capV v ≤ maxLen := by obtain ⟨a, c, e, _, h2, _⟩ := hsv; rw [e]; exact h2
  subst hvv huu
  have hfc : ∀ w1, Bel w w1 → (Builtin.firstCells i.size n (.slice bu (List.replicate n (0 : UInt8)).length cu)).run P w1 = .ok (Builtin.zeroCells (Value.int .u8 0).cells n) w1 := by
    intro w1 hb1
    have := first_of (P := P) (hu.bel hb1)
    rw [List.length_replicate] at this ⊢
    rw [hisz, zeroCells_u8]; exact this
  rw [List.length_replicate] at hfc hr
  have hz2 := run_append_zeros (P := P) (w := w) (ty := T) (t := t) (ti := ti) (e := E) (i := i) (z := .int .u8 0) ht.out hti.out hi hiz bv bu xs.length cv n cu (flat xs).toArray (by rw [hisz]; exact Nat.mul_pos hn0 (by decide)) (by rw [hiby]; omega) (by omega)
    (by rw [hisz]; exact first_of (hsv.bel hD)) (hfc w (Bel.refl w)) (hfc w.drew hD) (by omega) (fun hg => growslice_fits hg (by rw [hiby]; omega))
  rw [← hz2] at hr
  refine opW.of_run (v := v') (w' := w') ?_ (h v' w' fun S' hT => St.turn (by rw [ownE_F]; exact h2) (by rw [ownE_A]; exact h1) (by rw [ownE_F, ownE_F]; exact h3) hS hT)
  simp [execOp, resolve, Go.invoke, builtin, hx, hy, hr]

def onesK : Nat → Vector UInt8 32
  | 0 => vz 32
  | k + 1 => if h : k < 32 then (onesK k).set k 1 h else onesK k
theorem onesK_set {k : Nat} (h : k < 32) : spl (Enc.enc (onesK k)) k #[.int .u8 1] = Enc.enc (onesK (k + 1)) := by
  rw [spl_one _ _ _ (by rw [Enc.size_eq]; exact h)]
  show _ = Enc.enc (if h : k < 32 then (onesK k).set k 1 h else onesK k)
  rw [dif_pos h, enc_vset]
  rfl
@[irreducible] def livC (v : Bool) : MC := ⟨v, ⟨1, 0, 0⟩, [onesK 32], vz 32, [], []⟩
theorem livC_eq (v : Bool) : livC v = ⟨v, ⟨1, 0, 0⟩, [onesK 32], vz 32, [], []⟩ := by unfold livC; rfl
def livW : List UInt8 := (([1, 0, 0, 1] ++ (onesK 32).toList) ++ List.replicate 32 0) ++ [0]
theorem livP0 : putF (livC false) = livW := by rw [livC_eq]; decide
theorem livP1 : putF (livC true) = [128] ++ livW ++ [0] := by rw [livC_eq]; decide
theorem livM (v : Bool) : mayF (livC v) = true := by rw [livC_eq]; cases v <;> decide
theorem livG : getF [129] = (zMC, 0, 4) := by rfl

theorem mg_zero2 : (joinA [#[.bool false], joinA [#[.int .u8 0], #[.int .u8 0], #[.int .u8 0]], #[.slice none 0 0], (Array.replicate 32 (.int .u8 0)), #[.slice none 0 0], #[.slice none 0 0]]) = Enc.enc (⟨false, ⟨0, 0, 0⟩, ⟨none, 0, 0⟩, vz 32, ⟨none, 0, 0⟩, ⟨none, 0, 0⟩⟩ : Message) := by
  simp only [Message.enc_eq, Message.parts, enc_vz, Header.enc_eq, Header.parts]; rfl

set_option maxRecDepth 20000 in
set_option maxHeartbeats 4000000 in
theorem lives_ok (w0 : World) : Ret Try.prog 9 #[] w0 (fun u w' => u = .bool true ∧ Bel w0 w') := by
  refine Ret.enter (args := []) Try.func9 rfl Try.ntmps9 Try.results9 rfl ?_
  have hS := St.start w0
  refine WC.seq (fun K1 hK1 => ?_)
  refine WC.region ?_
  refine WL.op rfl (opW.assignB rfl ?_)
  refine WL.nil ?_
  refine thenQ_n (hK1 _ _ ?_)
  refine WC.seq (fun K2 hK2 => ?_)
  refine WC.region ?_
  refine WL.op rfl (opW.buildE (r := (⟨1, 0, 0⟩ : Header)) (ps := Header.parts (⟨1, 0, 0⟩ : Header)) (Header.enc_eq _) (by first | rfl | (simp only [markK, enc_vset, enc_vz, Header.enc_eq, Header.parts, Instr.enc_eq, Instr.parts, Lookup.enc_eq, Lookup.parts, Message.enc_eq, Message.parts, Reader.enc_eq, Reader.parts, Stop.enc_eq, Stop.parts, Taker.enc_eq, Taker.parts, ShByte.enc_eq, ShByte.parts, ShKey.enc_eq, ShKey.parts, BookS.enc_eq, BookS.parts]; rfl)) (by (repeat' (first | exact trivial | refine And.intro ?_ ?_)) <;> first | rfl | exact Enc.size_eq _ | (simp; done)) ?_)
  refine WL.op rfl (opW.buildVec (k := vz 32) (by first | rfl | (simp only [markK, enc_vset, enc_vz]; rfl)) (by intro p hp; first | (exfalso; simp at hp; done) | (simp only [List.map_cons, List.map_nil, List.mem_cons, List.not_mem_nil, or_false] at hp; rcases hp with rfl | rfl | rfl | rfl <;> exact ⟨by simp, rfl⟩)) ?_)
  refine WL.op rfl (opW.buildSl hS (([vz 32] : List (Vector UInt8 32))) [.agg (Enc.enc (vz 32))] rfl rfl rfl rfl (by decide) ?_)
  intro b13 w hw hS
  refine WL.op rfl (opW.buildE (r := (⟨false, ⟨1, 0, 0⟩, ⟨some ⟨b13, 0, none⟩, 1, 1⟩, vz 32, ⟨none, 0, 0⟩, ⟨none, 0, 0⟩⟩ : Message)) (ps := Message.parts (⟨false, ⟨1, 0, 0⟩, ⟨some ⟨b13, 0, none⟩, 1, 1⟩, vz 32, ⟨none, 0, 0⟩, ⟨none, 0, 0⟩⟩ : Message)) (Message.enc_eq _) (by simp only [enc_vset, enc_vz, Header.enc_eq, Header.parts, Message.parts]; rfl) (by (repeat' (first | exact trivial | refine And.intro ?_ ?_)) <;> first | rfl | exact Enc.size_eq _ | (simp; done)) ?_)
  refine WL.op rfl (opW.allocA hS ?_)
  intro b1 w _ hS
  refine WL.op0 (opW.storeE (r := (⟨false, ⟨1, 0, 0⟩, ⟨some ⟨b13, 0, none⟩, 1, 1⟩, vz 32, ⟨none, 0, 0⟩, ⟨none, 0, 0⟩⟩ : Message)) hS rfl rfl (by first | exact .h0 | exact .h1 | exact .h2 | exact .h3 | exact .h4 | exact .h5 | exact .h6 | exact .h7 | exact .h8 | exact .h9 | exact .h10 | exact .h11 | exact .h12 | exact .h13 | exact .h14) (by rw [mg_zero2]; exact Enc.size_eq _) ?_)
  intro w hS; replace hS := hS _ (by first | exact .h0 | exact .h1 | exact .h2 | exact .h3 | exact .h4 | exact .h5 | exact .h6 | exact .h7 | exact .h8 | exact .h9 | exact .h10 | exact .h11 | exact .h12 | exact .h13 | exact .h14)
  refine WL.nil ?_
  refine thenQ_n (hK2 _ _ ?_)
  refine WC.seq (fun K3 hK3 => ?_)
  refine WC.seq (fun K4 hK4 => ?_)
  refine WC.region ?_
  refine WL.op rfl (opW.assignI rfl ?_)
  refine WL.nil ?_
  refine thenQ_n (hK4 _ _ ?_)
  refine WC.block ?_
  refine WC.loop (fun q f w => ∃ k : Nat, Fits [(1, .pointer (some ⟨b1, 0, none⟩)), (2, .int .i64 (k : Int))] f ∧ St w0 [blkE b1 (Enc.enc (⟨false, ⟨1, 0, 0⟩, ⟨some ⟨b13, 0, none⟩, 1, 1⟩, vz 32, ⟨none, 0, 0⟩, ⟨none, 0, 0⟩⟩ : Message)) 30, ownE (.slice (some ⟨b13, 0, none⟩) 1 1) 53 [onesK k]] w ∧ k ≤ 32 ∧ q = 32 - k) (32) ?_ ?_
  ·
    exact ⟨0, ⟨rfl, rfl, trivial⟩, hS, Nat.zero_le _, rfl⟩
  ·
    rintro q f w ⟨k, hfit, hS, hk0, hm⟩
    refine WC.fits _ hfit (fun g => ?_)
    clear hfit
    refine WC.seq (fun K5 hK5 => ?_)
    refine WC.seq (fun K6 hK6 => ?_)
    refine WC.region ?_
    refine WL.op rfl (opW.moveI rfl ?_)
    refine WL.op rfl (opW.lss rfl rfl ?_)
    refine WL.nil ?_
    refine thenQ_n (hK6 _ _ ?_)
    refine WC.cond _ rfl (fun hc0 => ?_) (fun hc0 => ?_)
    ·
      have hr0 := hc0
      try simp only [decide_eq_true_eq, decide_eq_false_iff_not, Bool.and_eq_true, Bool.or_eq_true, Bool.and_eq_false_iff, Bool.or_eq_false_iff, Bool.not_eq_true', Bool.not_eq_false', Int.not_lt, Int.not_le] at hc0
      have hkl : k < 32 := by omega
      refine WC.skip ?_
      refine thenQ_n (hK5 _ _ ?_)
      refine WC.seq (fun K7 hK7 => ?_)
      refine WC.block ?_
      refine WC.region ?_
      refine WL.op rfl (opW.fieldAddrB rfl ?_)
      refine WL.op rfl (opW.loadV rfl (hS.ld1 (by first | exact .h0 | exact .h1 | exact .h2 | exact .h3 | exact .h4 | exact .h5 | exact .h6 | exact .h7 | exact .h8 | exact .h9 | exact .h10 | exact .h11 | exact .h12 | exact .h13 | exact .h14) (show (Enc.enc (⟨false, ⟨1, 0, 0⟩, ⟨some ⟨b13, 0, none⟩, 1, 1⟩, vz 32, ⟨none, 0, 0⟩, ⟨none, 0, 0⟩⟩ : Message))[4]? = some (.slice (some ⟨b13, 0, none⟩) 1 1) from Message.at_keys (⟨false, ⟨1, 0, 0⟩, ⟨some ⟨b13, 0, none⟩, 1, 1⟩, vz 32, ⟨none, 0, 0⟩, ⟨none, 0, 0⟩⟩ : Message))) ?_)
      refine WL.op rfl (opW.moveI rfl ?_)
      refine WL.op rfl (opW.idxV (xs := [onesK k]) rfl (hS.sl (v := (.slice (some ⟨b13, 0, none⟩) 1 1)) (xs := [onesK k]) (by first | exact .h0 | exact .h1 | exact .h2 | exact .h3 | exact .h4 | exact .h5 | exact .h6 | exact .h7 | exact .h8 | exact .h9 | exact .h10 | exact .h11 | exact .h12 | exact .h13 | exact .h14)) rfl ⟨Int.le_refl 0, (show (0 : Int) < 1 by decide)⟩ ?_)
      refine WL.op rfl (opW.idxArr rfl rfl (by omega) ?_)
      refine WL.op0 (opW.storeOwn (v := (.slice (some ⟨b13, 0, none⟩) 1 1)) (u := .int .u8 1) (sz := 1) (xs := [onesK k]) (i := 0) (off := k) (y' := onesK (k + 1)) hS (by first | exact .h0 | exact .h1 | exact .h2 | exact .h3 | exact .h4 | exact .h5 | exact .h6 | exact .h7 | exact .h8 | exact .h9 | exact .h10 | exact .h11 | exact .h12 | exact .h13 | exact .h14) (show 0 < 1 by decide) (by show Value.pointer (some ⟨b13, 0 + 0 * 32 + k * 1, none⟩) = _; rw [Nat.mul_one]; rfl) rfl rfl (show k + 1 ≤ 32 by omega) (one_int _ _) (onesK_set hkl) ?_)
      intro w hS; replace hS := hS _ (by first | exact .h0 | exact .h1 | exact .h2 | exact .h3 | exact .h4 | exact .h5 | exact .h6 | exact .h7 | exact .h8 | exact .h9 | exact .h10 | exact .h11 | exact .h12 | exact .h13 | exact .h14)
      simp only [List.set_cons_zero] at hS
      refine WL.nil ?_
      refine blockQ_n ?_
      refine thenQ_n (hK7 _ _ ?_)
      refine WC.region ?_
      refine WL.op rfl (opW.moveI rfl ?_)
      refine WL.op rfl (opW.add rfl rfl (wrap_i64 (by omega)) ?_)
      refine WL.op rfl (opW.assignI rfl ?_)
      refine WL.nil ?_
      refine thenQ_n ?_
      exact ⟨32 - (k + 1), by omega, k + 1, ⟨rfl, congrArg (Value.int .i64) (by omega), trivial⟩, hS, by omega, rfl⟩
    ·
      have hr0 := hc0
      try simp only [decide_eq_true_eq, decide_eq_false_iff_not, Bool.and_eq_true, Bool.or_eq_true, Bool.and_eq_false_iff, Bool.or_eq_false_iff, Bool.not_eq_true', Bool.not_eq_false', Int.not_lt, Int.not_le] at hc0
      obtain rfl : k = 32 := by omega
      refine WC.exit ?_
      refine thenQ_e ?_
      refine thenQ_e ?_
      refine blockQ_hit ?_
      refine thenQ_n (hK3 _ _ ?_)
      refine WC.seq (fun K8 hK8 => ?_)
      refine WC.region ?_
      refine WL.op rfl (opW.buildSl hS (([1, 0, 0, 1] : List UInt8)) [.int .u8 1, .int .u8 0, .int .u8 0, .int .u8 1] rfl rfl rfl rfl (by decide) ?_)
      intro b24 w hw hS
      refine WL.op rfl (opW.fieldAddrB rfl ?_)
      refine WL.op rfl (opW.loadV rfl (hS.ld1 (by first | exact .h0 | exact .h1 | exact .h2 | exact .h3 | exact .h4 | exact .h5 | exact .h6 | exact .h7 | exact .h8 | exact .h9 | exact .h10 | exact .h11 | exact .h12 | exact .h13 | exact .h14) (show (Enc.enc (⟨false, ⟨1, 0, 0⟩, ⟨some ⟨b13, 0, none⟩, 1, 1⟩, vz 32, ⟨none, 0, 0⟩, ⟨none, 0, 0⟩⟩ : Message))[4]? = some (.slice (some ⟨b13, 0, none⟩) 1 1) from Message.at_keys (⟨false, ⟨1, 0, 0⟩, ⟨some ⟨b13, 0, none⟩, 1, 1⟩, vz 32, ⟨none, 0, 0⟩, ⟨none, 0, 0⟩⟩ : Message))) ?_)
      refine WL.op rfl (opW.idxV (xs := [onesK 32]) rfl (hS.sl (v := (.slice (some ⟨b13, 0, none⟩) 1 1)) (xs := [onesK 32]) (by first | exact .h0 | exact .h1 | exact .h2 | exact .h3 | exact .h4 | exact .h5 | exact .h6 | exact .h7 | exact .h8 | exact .h9 | exact .h10 | exact .h11 | exact .h12 | exact .h13 | exact .h14)) rfl ⟨Int.le_refl 0, (show (0 : Int) < 1 by decide)⟩ ?_)
      refine WL.op rfl (opW.cutArrO rfl ?_)
      refine WL.op rfl (opW.appendOwn (α := UInt8) (v := (.slice (some ⟨b24, 0, none⟩) 4 4)) (xs := [1, 0, 0, 1]) rfl hS rfl (by first | exact .h0 | exact .h1 | exact .h2 | exact .h3 | exact .h4 | exact .h5 | exact .h6 | exact .h7 | exact .h8 | exact .h9 | exact .h10 | exact .h11 | exact .h12 | exact .h13 | exact .h14) (SlR.ofPt (n := 31) (v := onesK 32) (((hS.sl (v := (.slice (some ⟨b13, 0, none⟩) 1 1)) (xs := [onesK 32]) (by first | exact .h0 | exact .h1 | exact .h2 | exact .h3 | exact .h4 | exact .h5 | exact .h6 | exact .h7 | exact .h8 | exact .h9 | exact .h10 | exact .h11 | exact .h12 | exact .h13 | exact .h14))).isPt (i := 0) (show 0 < 1 by decide)) (by decide)) (by decide) (by decide) ?_)
      intro v29 w hS; replace hS := hS _ (by first | exact .h0 | exact .h1 | exact .h2 | exact .h3 | exact .h4 | exact .h5 | exact .h6 | exact .h7 | exact .h8 | exact .h9 | exact .h10 | exact .h11 | exact .h12 | exact .h13 | exact .h14)
      refine WL.op rfl (opW.assignV (v := v29) rfl ?_)
      refine WL.nil ?_
      refine thenQ_n (hK8 _ _ ?_)
      refine WC.seq (fun K9 hK9 => ?_)
      refine WC.region ?_
      refine WL.op rfl (opW.moveV (v := v29) rfl ?_)
      refine WL.op rfl (opW.appendZ (v := v29) (xs := ([1, 0, 0, 1] ++ (onesK 32).toList)) (n := 32) (u := .slice (some ⟨b1, 5, none⟩) 32 32) hS rfl (by first | exact .h0 | exact .h1 | exact .h2 | exact .h3 | exact .h4 | exact .h5 | exact .h6 | exact .h7 | exact .h8 | exact .h9 | exact .h10 | exact .h11 | exact .h12 | exact .h13 | exact .h14) rfl (SlR.ofPt (n := 31) (v := vz 32) (hS.ptO (cs := Enc.enc (⟨false, ⟨1, 0, 0⟩, ⟨some ⟨b13, 0, none⟩, 1, 1⟩, vz 32, ⟨none, 0, 0⟩, ⟨none, 0, 0⟩⟩ : Message)) (c := Enc.enc (vz 32)) (by first | exact .h0 | exact .h1 | exact .h2 | exact .h3 | exact .h4 | exact .h5 | exact .h6 | exact .h7 | exact .h8 | exact .h9 | exact .h10 | exact .h11 | exact .h12 | exact .h13 | exact .h14) (by rw [Enc.size_eq]; exact Message.ex_recent (⟨false, ⟨1, 0, 0⟩, ⟨some ⟨b13, 0, none⟩, 1, 1⟩, vz 32, ⟨none, 0, 0⟩, ⟨none, 0, 0⟩⟩ : Message))) (by decide)) (by decide) (by decide) ?_)
      intro v31 w hS; replace hS := hS _ (by first | exact .h0 | exact .h1 | exact .h2 | exact .h3 | exact .h4 | exact .h5 | exact .h6 | exact .h7 | exact .h8 | exact .h9 | exact .h10 | exact .h11 | exact .h12 | exact .h13 | exact .h14)
      refine WL.op rfl (opW.buildSl hS (([0] : List UInt8)) [.int .u8 0] rfl rfl rfl rfl (by decide) ?_)
      intro b32 w hw hS
      refine WL.op rfl (opW.appendOwn (α := UInt8) (v := v31) (xs := ([1, 0, 0, 1] ++ (onesK 32).toList) ++ List.replicate 32 0) rfl hS rfl (by first | exact .h0 | exact .h1 | exact .h2 | exact .h3 | exact .h4 | exact .h5 | exact .h6 | exact .h7 | exact .h8 | exact .h9 | exact .h10 | exact .h11 | exact .h12 | exact .h13 | exact .h14) (hS.sl (v := .slice (some ⟨b32, 0, none⟩) 1 1) (xs := [0]) (by first | exact .h0 | exact .h1 | exact .h2 | exact .h3 | exact .h4 | exact .h5 | exact .h6 | exact .h7 | exact .h8 | exact .h9 | exact .h10 | exact .h11 | exact .h12 | exact .h13 | exact .h14)) (by decide) (by decide) ?_)
      intro v33 w hS; replace hS := hS _ (by first | exact .h0 | exact .h1 | exact .h2 | exact .h3 | exact .h4 | exact .h5 | exact .h6 | exact .h7 | exact .h8 | exact .h9 | exact .h10 | exact .h11 | exact .h12 | exact .h13 | exact .h14)
      rw [show ([1, 0, 0, 1] ++ (onesK 32).toList) ++ List.replicate 32 0 ++ [0] = livW from rfl] at hS
      refine WL.op rfl (opW.assignV (v := v33) rfl ?_)
      refine WL.nil ?_
      refine thenQ_n (hK9 _ _ ?_)
      refine WC.seq (fun K10 hK10 => ?_)
      refine WC.region ?_
      refine WL.op rfl (opW.loadV rfl (hS.ldA (cs := Enc.enc (⟨false, ⟨1, 0, 0⟩, ⟨some ⟨b13, 0, none⟩, 1, 1⟩, vz 32, ⟨none, 0, 0⟩, ⟨none, 0, 0⟩⟩ : Message)) (by first | exact .h0 | exact .h1 | exact .h2 | exact .h3 | exact .h4 | exact .h5 | exact .h6 | exact .h7 | exact .h8 | exact .h9 | exact .h10 | exact .h11 | exact .h12 | exact .h13 | exact .h14) (by exact Enc.size_eq _)) ?_)
      refine WL.op rfl (opW.call (put_ok _ (⟨false, ⟨1, 0, 0⟩, ⟨some ⟨b13, 0, none⟩, 1, 1⟩, vz 32, ⟨none, 0, 0⟩, ⟨none, 0, 0⟩⟩ : Message) (livC false) [] [] (by rw [livC_eq]; exact ⟨rfl, rfl, rfl, (hS.sl (v := (.slice (some ⟨b13, 0, none⟩) 1 1)) (xs := [onesK 32]) (by first | exact .h0 | exact .h1 | exact .h2 | exact .h3 | exact .h4 | exact .h5 | exact .h6 | exact .h7 | exact .h8 | exact .h9 | exact .h10 | exact .h11 | exact .h12 | exact .h13 | exact .h14)), SlR.nil _, ⟨rfl, fun i h => by cases h⟩, SlR.nil _, ⟨rfl, fun i h => by cases h⟩⟩) (by rw [livC_eq]; decide)) rfl ?_)
      rintro _ w ⟨v36, e, rfl, hp, hw⟩
      rcases hp with ⟨hp, _⟩ | ⟨_, hn36, rfl⟩
      · rw [livM] at hp; cases hp
      replace hS := hS.newOwn hw hn36.1 hn36.2
      refine WL.op rfl (opW.moveV (v := .tuple #[v36, .int .i64 0]) rfl ?_)
      refine WL.op rfl (opW.extract rfl rfl ?_)
      refine WL.op rfl (opW.extract rfl rfl ?_)
      refine WL.op rfl (opW.assignV (v := v36) rfl ?_)
      refine WL.op rfl (opW.assignI rfl ?_)
      refine WL.nil ?_
      refine thenQ_n (hK10 _ _ ?_)
      refine WC.seq (fun K11 hK11 => ?_)
      refine WC.region ?_
      refine WL.op rfl (opW.fieldAddrB rfl ?_)
      refine WL.op0 (opW.storeF (b := b1) (o := 0) (v := .bool true) (sz := 1) (cs := Enc.enc (⟨false, ⟨1, 0, 0⟩, ⟨some ⟨b13, 0, none⟩, 1, 1⟩, vz 32, ⟨none, 0, 0⟩, ⟨none, 0, 0⟩⟩ : Message)) (cs' := Enc.enc (⟨true, ⟨1, 0, 0⟩, ⟨some ⟨b13, 0, none⟩, 1, 1⟩, vz 32, ⟨none, 0, 0⟩, ⟨none, 0, 0⟩⟩ : Message)) hS rfl rfl (by first | exact .h0 | exact .h1 | exact .h2 | exact .h3 | exact .h4 | exact .h5 | exact .h6 | exact .h7 | exact .h8 | exact .h9 | exact .h10 | exact .h11 | exact .h12 | exact .h13 | exact .h14) rfl (by rw [Enc.size_eq]; decide) (by intro u hu; simp [Value.cells] at hu; subst hu; rfl) (Message.set_v0 (⟨false, ⟨1, 0, 0⟩, ⟨some ⟨b13, 0, none⟩, 1, 1⟩, vz 32, ⟨none, 0, 0⟩, ⟨none, 0, 0⟩⟩ : Message) true) ?_)
      intro w hS; replace hS := hS _ (by first | exact .h0 | exact .h1 | exact .h2 | exact .h3 | exact .h4 | exact .h5 | exact .h6 | exact .h7 | exact .h8 | exact .h9 | exact .h10 | exact .h11 | exact .h12 | exact .h13 | exact .h14)
      refine WL.nil ?_
      refine thenQ_n (hK11 _ _ ?_)
      refine WC.seq (fun K12 hK12 => ?_)
      refine WC.region ?_
      refine WL.op rfl (opW.loadV rfl (hS.ldA (cs := Enc.enc (⟨true, ⟨1, 0, 0⟩, ⟨some ⟨b13, 0, none⟩, 1, 1⟩, vz 32, ⟨none, 0, 0⟩, ⟨none, 0, 0⟩⟩ : Message)) (by first | exact .h0 | exact .h1 | exact .h2 | exact .h3 | exact .h4 | exact .h5 | exact .h6 | exact .h7 | exact .h8 | exact .h9 | exact .h10 | exact .h11 | exact .h12 | exact .h13 | exact .h14) (by exact Enc.size_eq _)) ?_)
      refine WL.op rfl (opW.call (put_ok _ (⟨true, ⟨1, 0, 0⟩, ⟨some ⟨b13, 0, none⟩, 1, 1⟩, vz 32, ⟨none, 0, 0⟩, ⟨none, 0, 0⟩⟩ : Message) (livC true) [] [] (by rw [livC_eq]; exact ⟨rfl, rfl, rfl, (hS.sl (v := (.slice (some ⟨b13, 0, none⟩) 1 1)) (xs := [onesK 32]) (by first | exact .h0 | exact .h1 | exact .h2 | exact .h3 | exact .h4 | exact .h5 | exact .h6 | exact .h7 | exact .h8 | exact .h9 | exact .h10 | exact .h11 | exact .h12 | exact .h13 | exact .h14)), SlR.nil _, ⟨rfl, fun i h => by cases h⟩, SlR.nil _, ⟨rfl, fun i h => by cases h⟩⟩) (by rw [livC_eq]; decide)) rfl ?_)
      rintro _ w ⟨v42, e, rfl, hp, hw⟩
      rcases hp with ⟨hp, _⟩ | ⟨_, hn42, rfl⟩
      · rw [livM] at hp; cases hp
      replace hS := hS.newOwn hw hn42.1 hn42.2
      refine WL.op rfl (opW.moveV (v := .tuple #[v42, .int .i64 0]) rfl ?_)
      refine WL.op rfl (opW.extract rfl rfl ?_)
      refine WL.op rfl (opW.extract rfl rfl ?_)
      refine WL.op rfl (opW.assignV (v := v42) rfl ?_)
      refine WL.op rfl (opW.assignI rfl ?_)
      refine WL.nil ?_
      refine thenQ_n (hK12 _ _ ?_)
      refine WC.seq (fun K13 hK13 => ?_)
      refine WC.region ?_
      refine WL.op rfl (opW.buildSl hS (([129] : List UInt8)) [.int .u8 129] rfl rfl rfl rfl (by decide) ?_)
      intro b46 w hw hS
      refine WL.op rfl (opW.call (get_ok _ ⟨some ⟨b46, 0, none⟩, 1, 1⟩ [129] (hS.sl (v := .slice (some ⟨b46, 0, none⟩) 1 1) (xs := [129]) (by first | exact .h0 | exact .h1 | exact .h2 | exact .h3 | exact .h4 | exact .h5 | exact .h6 | exact .h7 | exact .h8 | exact .h9 | exact .h10 | exact .h11 | exact .h12 | exact .h13 | exact .h14)) (by decide)) rfl ?_)
      rintro _ w ⟨mg, gis, gls, rfl, _, hSg⟩
      replace hS := hS.bel hSg.old
      rw [livG]
      refine WL.op rfl (opW.moveV (v := .tuple #[.agg (Enc.enc mg), .int .i64 0, .int .i64 4]) rfl ?_)
      refine WL.op rfl (opW.extract rfl rfl ?_)
      refine WL.op rfl (opW.extract rfl rfl ?_)
      refine WL.op rfl (opW.extract rfl rfl ?_)
      refine WL.op rfl (opW.allocA hS ?_)
      intro b8 w _ hS
      refine WL.op0 (opW.storeE (r := mg) hS rfl rfl (by first | exact .h0 | exact .h1 | exact .h2 | exact .h3 | exact .h4 | exact .h5 | exact .h6 | exact .h7 | exact .h8 | exact .h9 | exact .h10 | exact .h11 | exact .h12 | exact .h13 | exact .h14) (by rw [mg_zero2]; exact Enc.size_eq _) ?_)
      intro w hS; replace hS := hS _ (by first | exact .h0 | exact .h1 | exact .h2 | exact .h3 | exact .h4 | exact .h5 | exact .h6 | exact .h7 | exact .h8 | exact .h9 | exact .h10 | exact .h11 | exact .h12 | exact .h13 | exact .h14)
      refine WL.op rfl (opW.assignI rfl ?_)
      refine WL.op rfl (opW.assignI rfl ?_)
      refine WL.nil ?_
      refine thenQ_n (hK13 _ _ ?_)
      refine WC.seq (fun K14 hK14 => ?_)
      refine WC.region ?_
      refine WL.op rfl (opW.moveI rfl ?_)
      refine WL.op rfl (opW.boolT rfl (opW.eql rfl rfl ⟨rfl, rfl⟩) ?_)
      refine WL.op rfl (opW.moveB rfl ?_)
      refine WL.gT 53 rfl rfl rfl (WL.op rfl (opW.moveI rfl ?_))
      refine WL.gT 53 rfl rfl rfl (WL.op rfl (opW.boolT rfl (opW.eql rfl rfl ⟨rfl, rfl⟩) ?_))
      refine WL.op rfl (opW.pickT rfl rfl ?_)
      refine WL.op rfl (opW.moveB rfl ?_)
      refine WL.gT 57 rfl rfl rfl (WL.op rfl (opW.moveV (v := v36) rfl ?_))
      refine WL.gT 57 rfl rfl rfl (WL.op rfl (opW.moveV (v := v33) rfl ?_))
      refine WL.gT 57 rfl rfl rfl (WL.op rfl (opW.call (sameBytes_ok _ v36 v33 (putF (livC false)) livW (hS.sl (v := v36) (xs := (putF (livC false))) (by first | exact .h0 | exact .h1 | exact .h2 | exact .h3 | exact .h4 | exact .h5 | exact .h6 | exact .h7 | exact .h8 | exact .h9 | exact .h10 | exact .h11 | exact .h12 | exact .h13 | exact .h14)) (hS.sl (v := v33) (xs := livW) (by first | exact .h0 | exact .h1 | exact .h2 | exact .h3 | exact .h4 | exact .h5 | exact .h6 | exact .h7 | exact .h8 | exact .h9 | exact .h10 | exact .h11 | exact .h12 | exact .h13 | exact .h14))) rfl ?_))
      rintro _ w ⟨rfl, hw⟩; replace hS := hS.bel hw
      rw [decide_eq_true livP0]
      refine WL.op rfl (opW.pickT rfl rfl ?_)
      refine WL.op rfl (opW.moveB rfl ?_)
      refine WL.gT 62 rfl rfl rfl (WL.op rfl (opW.moveV (v := v42) rfl ?_))
      refine WL.gT 62 rfl rfl rfl (WL.op rfl (opW.buildSl hS (([128] : List UInt8)) [.int .u8 128] rfl rfl rfl rfl (by decide) ?_))
      intro b64 w hw hS
      refine WL.gT 62 rfl rfl rfl (WL.op rfl (opW.moveV (v := v33) rfl ?_))
      refine WL.gT 62 rfl rfl rfl (WL.op rfl (opW.appendOwn (α := UInt8) (v := .slice (some ⟨b64, 0, none⟩) 1 1) (xs := [128]) rfl hS rfl (by first | exact .h0 | exact .h1 | exact .h2 | exact .h3 | exact .h4 | exact .h5 | exact .h6 | exact .h7 | exact .h8 | exact .h9 | exact .h10 | exact .h11 | exact .h12 | exact .h13 | exact .h14) (hS.sl (v := v33) (xs := livW) (by first | exact .h0 | exact .h1 | exact .h2 | exact .h3 | exact .h4 | exact .h5 | exact .h6 | exact .h7 | exact .h8 | exact .h9 | exact .h10 | exact .h11 | exact .h12 | exact .h13 | exact .h14)) (by decide) (by decide) ?_))
      intro v66 w hS; replace hS := hS _ (by first | exact .h0 | exact .h1 | exact .h2 | exact .h3 | exact .h4 | exact .h5 | exact .h6 | exact .h7 | exact .h8 | exact .h9 | exact .h10 | exact .h11 | exact .h12 | exact .h13 | exact .h14)
      refine WL.gT 62 rfl rfl rfl (WL.op rfl (opW.buildSl hS (([0] : List UInt8)) [.int .u8 0] rfl rfl rfl rfl (by decide) ?_))
      intro b67 w hw hS
      refine WL.gT 62 rfl rfl rfl (WL.op rfl (opW.appendOwn (α := UInt8) (v := v66) (xs := [128] ++ livW) rfl hS rfl (by first | exact .h0 | exact .h1 | exact .h2 | exact .h3 | exact .h4 | exact .h5 | exact .h6 | exact .h7 | exact .h8 | exact .h9 | exact .h10 | exact .h11 | exact .h12 | exact .h13 | exact .h14) (hS.sl (v := .slice (some ⟨b67, 0, none⟩) 1 1) (xs := [0]) (by first | exact .h0 | exact .h1 | exact .h2 | exact .h3 | exact .h4 | exact .h5 | exact .h6 | exact .h7 | exact .h8 | exact .h9 | exact .h10 | exact .h11 | exact .h12 | exact .h13 | exact .h14)) (by decide) (by decide) ?_))
      intro v68 w hS; replace hS := hS _ (by first | exact .h0 | exact .h1 | exact .h2 | exact .h3 | exact .h4 | exact .h5 | exact .h6 | exact .h7 | exact .h8 | exact .h9 | exact .h10 | exact .h11 | exact .h12 | exact .h13 | exact .h14)
      refine WL.gT 62 rfl rfl rfl (WL.op rfl (opW.call (sameBytes_ok _ v42 v68 (putF (livC true)) ([128] ++ livW ++ [0]) (hS.sl (v := v42) (xs := (putF (livC true))) (by first | exact .h0 | exact .h1 | exact .h2 | exact .h3 | exact .h4 | exact .h5 | exact .h6 | exact .h7 | exact .h8 | exact .h9 | exact .h10 | exact .h11 | exact .h12 | exact .h13 | exact .h14)) (hS.sl (v := v68) (xs := ([128] ++ livW ++ [0])) (by first | exact .h0 | exact .h1 | exact .h2 | exact .h3 | exact .h4 | exact .h5 | exact .h6 | exact .h7 | exact .h8 | exact .h9 | exact .h10 | exact .h11 | exact .h12 | exact .h13 | exact .h14))) rfl ?_))
      rintro _ w ⟨rfl, hw⟩; replace hS := hS.bel hw
      rw [decide_eq_true livP1]
      refine WL.op rfl (opW.pickT rfl rfl ?_)
      refine WL.op rfl (opW.moveB rfl ?_)
      refine WL.gT 71 rfl rfl rfl (WL.op rfl (opW.moveI rfl ?_))
      refine WL.gT 71 rfl rfl rfl (WL.op rfl (opW.boolT rfl (opW.eql rfl rfl ⟨rfl, rfl⟩) ?_))
      refine WL.op rfl (opW.pickT rfl rfl ?_)
      refine WL.op rfl (opW.assignB rfl ?_)
      refine WL.nil ?_
      refine thenQ_n (hK14 _ _ ?_)
      refine WC.ret ?_
      refine bodyQ_ret (.tmpB rfl .nil) ?_
      exact ⟨rfl, hS.old⟩

end Go.Fer
