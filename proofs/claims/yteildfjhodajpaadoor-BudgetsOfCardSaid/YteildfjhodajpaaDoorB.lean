/- told, word -/
import Derived.Test.YteildfjhodajpaaDoorA
set_option linter.all false
namespace Go.Fer
open Go Go.Proofs Go.RowKit

def sysK : Vector UInt8 32 := vz 32
def budK : Vector UInt8 32 := (vz 32).set 0 3
def longN (k : Nat) : Nat := if k = 0 then 4 else 8
def tagN (k : Nat) : Nat := if k = 0 then 2 else 3
def longC : Array Value := #[.int .i64 4, .int .i64 8]
def tagC : Array Value := #[.int .u8 2, .int .u8 3]
theorem long_at {k : Nat} (h : k < 2) : longC[0 + k * 1]? = some (.int .i64 ((longN k : Nat) : Int)) := by
  match k, h with
  | 0, _ => rfl
  | 1, _ => rfl
theorem tag_at {k : Nat} (h : k < 2) : tagC[0 + k * 1]? = some (.int .u8 ((tagN k : Nat) : Int)) := by
  match k, h with
  | 0, _ => rfl
  | 1, _ => rfl
/-- the two tables lie as the program's text lays them -/
def Laid (w : World) : Prop := Pt w (.pointer (some ⟨0, 0, none⟩)) longC ∧ Pt w (.pointer (some ⟨1, 0, none⟩)) tagC
theorem Laid.bel {w w' : World} (h : Laid w) (hb : Bel w w') : Laid w' := ⟨h.1.bel hb, h.2.bel hb⟩
/-- does a word tell of kind k? -/
def isT (b : List UInt8) (k : Nat) : Bool := decide (b.length = longN k + 1) && decide ((b.getD 0 0).toNat = tagN k)
def getT (b : List UInt8) (k : Nat) : Nat := leN ((b.drop 1).take (longN k))
def toldR (b : List UInt8) : Int × Nat := if isT b 0 = true then (0, getT b 0) else if isT b 1 = true then (1, getT b 1) else (-1, 0)
theorem toldR_hit {b : List UInt8} {k : Nat} (hk : k < 2) (hno : ∀ j, j < k → isT b j = false) (h : isT b k = true) : toldR b = ((k : Int), getT b k) := by
  unfold toldR
  match k, hk with
  | 0, _ => rw [if_pos h]; rfl
  | 1, _ => rw [if_neg (by rw [hno 0 (by decide)]; decide), if_pos h]; rfl
theorem toldR_none {b : List UInt8} (hno : ∀ j, j < 2 → isT b j = false) : toldR b = (-1, 0) := by
  unfold toldR
  rw [if_neg (by rw [hno 0 (by decide)]; decide), if_neg (by rw [hno 1 (by decide)]; decide)]
theorem toldR_fst (b : List UInt8) : (toldR b).1 = -1 ∨ (toldR b).1 = 0 ∨ (toldR b).1 = 1 := by
  unfold toldR
  split
  · exact .inr (.inl rfl)
  · split
    · exact .inr (.inr rfl)
    · exact .inl rfl
theorem longN_lt (k : Nat) : 1 ≤ longN k ∧ longN k ≤ 8 := by unfold longN; split <;> omega
theorem getD_zero {b : List UInt8} (h : 0 < b.length) : b[0] = b.getD 0 0 := by simp [List.getD, h]
theorem toldR_lt (b : List UInt8) : (toldR b).2 < 18446744073709551616 := by
  have h : ∀ k, getT b k < 18446744073709551616 := by
    intro k
    have h1 := leN_lt ((b.drop 1).take (longN k))
    have h2 := (longN_lt k).2
    have h3 : 2 ^ (8 * ((b.drop 1).take (longN k)).length) ≤ 2 ^ 64 := Nat.pow_le_pow_right (by decide) (by rw [List.length_take]; omega)
    unfold getT
    omega
  unfold toldR
  split
  · exact h 0
  · split
    · exact h 1
    · decide
def isW (keys : List (Vector UInt8 32)) (p : UInt8) : Bool := decide ((p.toNat : Int) < (keys.length : Int)) && decide (keys.getD p.toNat (vz 32) = budK)
theorem isW_eq (keys : List (Vector UInt8 32)) (p : UInt8) : (decide ((p.toNat : Int) < (keys.length : Int)) && decide (keys.getD p.toNat (vz 32) = budK)) = isW keys p := rfl
structure BS where
  others : Nat
  S : Nat → Option Nat
  bad : Int
def bstep (s : BS) (i : Nat) (w : Bool) (b : List UInt8) : BS :=
  if w = false then { s with others := s.others + 1 } else if 0 ≤ s.bad then s else if (toldR b).1 < 0 ∨ (s.S (toldR b).1.toNat).isSome = true then { s with bad := i } else { s with S := fun j => if j = (toldR b).1.toNat then some (toldR b).2 else s.S j }
def bfold (w : Nat → Bool) (b : Nat → List UInt8) : Nat → BS
  | 0 => ⟨0, fun _ => none, -1⟩
  | n + 1 => bstep (bfold w b n) n (w n) (b n)
def budR (s : BS) : Budget := ⟨min ((s.S 0).getD (s.others * 200000)) 1400000, (s.S 1).getD 0, s.bad⟩
def wAt (keys : List (Vector UInt8 32)) (ins : List Instr) (i : Nat) : Bool := isW keys ((ins.map Instr.program).getD i 0)
theorem wAt_eq {keys : List (Vector UInt8 32)} {ins : List Instr} {i : Nat} (h : i < ins.length) : wAt keys ins i = isW keys ins[i].program := by simp [wAt, List.getD, h]
theorem bstep_not {s : BS} {i : Nat} {b : List UInt8} : bstep s i false b = { s with others := s.others + 1 } := rfl
theorem bstep_bad {s : BS} {i : Nat} {b : List UInt8} (h : 0 ≤ s.bad) : bstep s i true b = s := by unfold bstep; rw [if_neg (by decide), if_pos h]
theorem bstep_new {s : BS} {i : Nat} {b : List UInt8} {kd : Int} {nn : Nat} (h : ¬ 0 ≤ s.bad) (ht : toldR b = (kd, nn)) (h2 : kd < 0 ∨ (s.S kd.toNat).isSome = true) : bstep s i true b = { s with bad := i } := by
  unfold bstep; rw [if_neg (by decide), if_neg h, ht, if_pos h2]
theorem bstep_set {s : BS} {i : Nat} {b : List UInt8} {kn nn : Nat} (h : ¬ 0 ≤ s.bad) (ht : toldR b = ((kn : Int), nn)) (h2 : (s.S kn).isSome = false) : bstep s i true b = { s with S := fun j => if j = kn then some nn else s.S j } := by
  have hn : ¬ ((kn : Int) < 0 ∨ (s.S (kn : Int).toNat).isSome = true) := by
    rintro (h3 | h3)
    · omega
    · rw [show (kn : Int).toNat = kn from rfl, h2] at h3; cases h3
  unfold bstep
  rw [if_neg (by decide), if_neg h, ht, if_neg hn]
  rfl
theorem bstep_others (s : BS) (i : Nat) (w : Bool) (b : List UInt8) : (bstep s i w b).others ≤ s.others + 1 := by
  unfold bstep
  split
  · exact Nat.le_refl _
  · split
    · omega
    · split
      · exact Nat.le_succ _
      · exact Nat.le_succ _
theorem bfold_others (w : Nat → Bool) (b : Nat → List UInt8) : ∀ n, (bfold w b n).others ≤ n
  | 0 => Nat.le_refl _
  | n + 1 => by
    have h1 := bfold_others w b n
    have h2 := bstep_others (bfold w b n) n (w n) (b n)
    show (bstep (bfold w b n) n (w n) (b n)).others ≤ n + 1
    omega
def okS (s : BS) : Prop := (∀ j n, s.S j = some n → n < 18446744073709551616) ∧ -1 ≤ s.bad
theorem bstep_ok {s : BS} {i : Nat} {w : Bool} {b : List UInt8} (h : okS s) : okS (bstep s i w b) := by
  unfold bstep
  split
  · exact h
  · split
    · exact h
    · split
      · exact ⟨h.1, by show (-1 : Int) ≤ (i : Int); omega⟩
      · refine ⟨fun j n hj => ?_, h.2⟩
        have hj : (if j = (toldR b).1.toNat then some (toldR b).2 else s.S j) = some n := hj
        split at hj
        · cases hj; exact toldR_lt b
        · exact h.1 j n hj
theorem bfold_ok (w : Nat → Bool) (b : Nat → List UInt8) : ∀ n, okS (bfold w b n)
  | 0 => ⟨fun j n h => (by cases h), Int.le_refl _⟩
  | n + 1 => bstep_ok (bfold_ok w b n)
def saidC (S : Nat → Option Nat) : Array Value := #[.int .u64 (((S 0).getD 0 : Nat) : Int), .int .u64 (((S 1).getD 0 : Nat) : Int)]
def isC (S : Nat → Option Nat) : Array Value := #[.bool (S 0).isSome, .bool (S 1).isSome]
theorem isC_at (S : Nat → Option Nat) {k : Nat} (h : k < 2) : (isC S)[0 + k * 1]? = some (.bool (S k).isSome) := by
  match k, h with
  | 0, _ => rfl
  | 1, _ => rfl
theorem saidC_set (S : Nat → Option Nat) {k n : Nat} (h : k < 2) : spl (saidC S) (0 + k * 1) #[.int .u64 (n : Int)] = saidC (fun j => if j = k then some n else S j) := by
  match k, h with
  | 0, _ => rfl
  | 1, _ => rfl
theorem isC_set (S : Nat → Option Nat) {k n : Nat} (h : k < 2) : spl (isC S) (0 + k * 1) #[.bool true] = isC (fun j => if j = k then some n else S j) := by
  match k, h with
  | 0, _ => rfl
  | 1, _ => rfl

theorem bud_ok (w0 : World) : Ret Tryd.prog 15 #[] w0 (fun u w' => u = .agg (Enc.enc budK) ∧ Bel w0 w') := by
  refine Ret.enter (args := []) Tryd.func15 rfl Tryd.ntmps15 Tryd.results15 rfl ?_
  have hS := St.start w0
  refine WC.seq (fun K1 hK1 => ?_)
  refine WC.region ?_
  refine WL.op rfl (opW.allocA hS ?_)
  intro b0 w _ hS
  refine WL.nil ?_
  refine thenQ_n (hK1 _ _ ?_)
  refine WC.seq (fun K2 hK2 => ?_)
  refine WC.region ?_
  refine WL.op rfl (opW.buildVec (k := budK) (by first | rfl | (simp only [sysK, budK, enc_vset, enc_vz]; rfl)) (by intro p hp; first | (exfalso; simp at hp; done) | (simp only [List.map_cons, List.map_nil, List.mem_cons, List.not_mem_nil, or_false] at hp; rcases hp with rfl | rfl | rfl | rfl <;> exact ⟨by simp, rfl⟩)) ?_)
  refine WL.op0 (opW.storeE hS rfl rfl (by first | exact .here | exact .there (.here) | exact .there (.there (.here)) | exact .there (.there (.there (.here))) | exact .there (.there (.there (.there (.here)))) | exact .there (.there (.there (.there (.there (.here))))) | exact .there (.there (.there (.there (.there (.there (.here)))))) | exact .there (.there (.there (.there (.there (.there (.there (.here))))))) | exact .there (.there (.there (.there (.there (.there (.there (.there (.here)))))))) | exact .there (.there (.there (.there (.there (.there (.there (.there (.there (.here))))))))) | exact .there (.there (.there (.there (.there (.there (.there (.there (.there (.there (.here)))))))))) | exact .there (.there (.there (.there (.there (.there (.there (.there (.there (.there (.there (.here))))))))))) | exact .there (.there (.there (.there (.there (.there (.there (.there (.there (.there (.there (.there (.here))))))))))))) (by first | rfl | exact Enc.size_eq _) ?_)
  intro w hS; replace hS := hS _ (by first | exact .here | exact .there (.here) | exact .there (.there (.here)) | exact .there (.there (.there (.here))) | exact .there (.there (.there (.there (.here)))) | exact .there (.there (.there (.there (.there (.here))))) | exact .there (.there (.there (.there (.there (.there (.here)))))) | exact .there (.there (.there (.there (.there (.there (.there (.here))))))) | exact .there (.there (.there (.there (.there (.there (.there (.there (.here)))))))) | exact .there (.there (.there (.there (.there (.there (.there (.there (.there (.here))))))))) | exact .there (.there (.there (.there (.there (.there (.there (.there (.there (.there (.here)))))))))) | exact .there (.there (.there (.there (.there (.there (.there (.there (.there (.there (.there (.here))))))))))) | exact .there (.there (.there (.there (.there (.there (.there (.there (.there (.there (.there (.there (.here)))))))))))))
  refine WL.nil ?_
  refine thenQ_n (hK2 _ _ ?_)
  refine WC.ret ?_
  refine bodyQ_ret (.cell (hS.ldA (by first | exact .here | exact .there (.here) | exact .there (.there (.here)) | exact .there (.there (.there (.here))) | exact .there (.there (.there (.there (.here)))) | exact .there (.there (.there (.there (.there (.here))))) | exact .there (.there (.there (.there (.there (.there (.here)))))) | exact .there (.there (.there (.there (.there (.there (.there (.here))))))) | exact .there (.there (.there (.there (.there (.there (.there (.there (.here)))))))) | exact .there (.there (.there (.there (.there (.there (.there (.there (.there (.here))))))))) | exact .there (.there (.there (.there (.there (.there (.there (.there (.there (.there (.here)))))))))) | exact .there (.there (.there (.there (.there (.there (.there (.there (.there (.there (.there (.here))))))))))) | exact .there (.there (.there (.there (.there (.there (.there (.there (.there (.there (.there (.there (.here))))))))))))) (Enc.size_eq budK)) .nil) ?_
  exact ⟨rfl, hS.old⟩

theorem told_ok (w0 : World) (v : Value) (b : List UInt8) (hx : SlR w0 v b) (hld : Laid w0) : Ret Tryd.prog 18 #[v] w0 (fun u w' => u = .tuple #[.int .i64 (toldR b).1, .int .u64 (((toldR b).2 : Nat) : Int)] ∧ Bel w0 w') := by
  refine Ret.enter (args := [v]) Tryd.func18 rfl Tryd.ntmps18 Tryd.results18 rfl ?_
  have hS := St.start w0
  refine WC.seq (fun K1 hK1 => ?_)
  refine WC.region ?_
  refine WL.op rfl (opW.assignI rfl ?_)
  refine WL.op rfl (opW.assignI rfl ?_)
  refine WL.nil ?_
  refine thenQ_n (hK1 _ _ ?_)
  refine WC.seq (fun K2 hK2 => ?_)
  refine WC.seq (fun K3 hK3 => ?_)
  refine WC.region ?_
  refine WL.op rfl (opW.moveI rfl ?_)
  refine WL.nil ?_
  refine thenQ_n (hK3 _ _ ?_)
  refine WC.block ?_
  refine WC.loop (fun q f w => ∃ k : Nat, Fits [(0, v), (7, .int .i64 (k : Int))] f ∧ St w0 [] w ∧ (∀ j, j < k → isT b j = false) ∧ k ≤ 2 ∧ q = 2 - k) (2) ?_ ?_
  ·
    exact ⟨0, ⟨rfl, rfl, trivial⟩, hS, fun j h => by omega, Nat.zero_le _, rfl⟩
  ·
    rintro q f w ⟨k, hfit, hS, hno, hk2, hm⟩
    refine WC.fits _ hfit (fun g => ?_)
    clear hfit
    refine WC.seq (fun K4 hK4 => ?_)
    refine WC.region ?_
    refine WL.op rfl (opW.lss rfl rfl ?_)
    refine WL.nil ?_
    refine thenQ_n (hK4 _ _ ?_)
    refine WC.seq (fun K5 hK5 => ?_)
    refine WC.cond _ rfl (fun hc0 => ?_) (fun hc0 => ?_)
    ·
      have hr0 := hc0
      try simp only [decide_eq_true_eq, decide_eq_false_iff_not, Bool.and_eq_true, Bool.or_eq_true, Bool.and_eq_false_iff, Bool.or_eq_false_iff, Bool.not_eq_true', Bool.not_eq_false', Int.not_lt, Int.not_le] at hc0
      have hkl : k < 2 := by omega
      have hlN := longN_lt k
      have hle := hx.le
      simp only [maxLen] at hle
      refine WC.skip ?_
      refine thenQ_n (hK5 _ _ ?_)
      refine WC.seq (fun K6 hK6 => ?_)
      refine WC.block ?_
      refine WC.seq (fun K7 hK7 => ?_)
      refine WC.region ?_
      refine WL.op rfl (opW.moveI rfl ?_)
      refine WL.op rfl (opW.assignI rfl ?_)
      refine WL.nil ?_
      refine thenQ_n (hK7 _ _ ?_)
      refine WC.seq (fun K8 hK8 => ?_)
      refine WC.draw 16 (.look 0 (.look 1 (.look 2 (.look 3 (.look 4 (.look 5 (.look 6 (.look 7 (.look 8 (.look 9 (.look 10 (.look 11 (.look 12 (.look 13 (.look 14 (.look 15 .nil)))))))))))))))) (by kernel_rfl) (fun _ _ _ h => h) (fun w1 hw1 => ?_)
      replace hS := hS.bel hw1
      have hS1 := hS
      have hT := St.start w1
      refine ML.look rfl rfl rfl (fun w hw => (by have hS := hS1.bel hw; exact opW.moveV (v := v) rfl ⟨rfl, rfl⟩)) ?_
      refine ML.look rfl rfl rfl (fun w hw => (by have hS := hS1.bel hw; exact opW.lenV rfl ((hx.bel hS.old)) ⟨rfl, rfl⟩)) ?_
      refine ML.look rfl rfl rfl (fun w hw => (by have hS := hS1.bel hw; exact opW.moveI rfl ⟨rfl, rfl⟩)) ?_
      refine ML.look rfl rfl rfl (fun w hw => (by have hS := hS1.bel hw; exact opW.idxArr rfl rfl (by omega) ⟨rfl, rfl⟩)) ?_
      refine ML.look rfl rfl rfl (fun w hw => (by have hS := hS1.bel hw; exact opW.loadV rfl ((hld.1.bel hS.old).at1 (long_at (k := k) hkl)) ⟨rfl, rfl⟩)) ?_
      refine ML.look rfl rfl rfl (fun w hw => (by have hS := hS1.bel hw; exact opW.add rfl rfl (show IntKind.i64.wrap _ = ((longN k + 1 : Nat) : Int) from (wrap_i64 (by omega)).trans (by omega)) ⟨rfl, rfl⟩)) ?_
      refine ML.look rfl rfl rfl (fun w hw => (by have hS := hS1.bel hw; exact opW.eql rfl rfl ⟨rfl, rfl⟩)) ?_
      refine ML.look rfl rfl rfl (fun w hw => (by have hS := hS1.bel hw; exact opW.moveB rfl ⟨rfl, rfl⟩)) ?_
      refine ML.lookG (E := v) _ 17 rfl rfl rfl rfl rfl rfl (fun hg18 w hw => (by have hS := hS1.bel hw; exact opW.moveV (v := v) rfl ⟨rfl, rfl⟩)) ?_
      refine ML.lookG (E := (elemP v 0 1)) _ 17 rfl rfl rfl rfl rfl rfl (fun hg19 w hw => (by have hS := hS1.bel hw; have hgx : (b.length : Int) = ((longN k + 1 : Nat) : Int) := (by simpa using hg19); exact opW.idxV (by first | exact gv_of rfl hg19 | rfl) ((hx.bel hS.old)) rfl (by omega) ⟨rfl, rfl⟩)) ?_
      refine ML.lookG (E := (.int .u8 ((b.getD 0 0).toNat : Int))) _ 17 rfl rfl rfl rfl rfl rfl (fun hg20 w hw => (by have hS := hS1.bel hw; exact opW.loadV (by first | exact gv_of rfl hg20 | rfl) ((by have h0 : 0 < b.length := (by have hgx : (b.length : Int) = ((longN k + 1 : Nat) : Int) := (by simpa using hg20); omega); have h2 := (hx.bel hS.old).isPt h0; rw [getD_zero h0] at h2; exact h2.ld rfl)) ⟨rfl, rfl⟩)) ?_
      refine ML.lookG  _ 17 rfl rfl rfl rfl rfl rfl (fun hg21 w hw => (by have hS := hS1.bel hw; exact opW.moveI rfl ⟨rfl, rfl⟩)) ?_
      refine ML.lookG  _ 17 rfl rfl rfl rfl rfl rfl (fun hg22 w hw => (by have hS := hS1.bel hw; exact opW.idxArr rfl (by first | exact gv_of rfl hg22 | rfl) (by omega) ⟨rfl, rfl⟩)) ?_
      refine ML.lookG (E := (.int .u8 ((tagN k : Nat) : Int))) _ 17 rfl rfl rfl rfl rfl rfl (fun hg23 w hw => (by have hS := hS1.bel hw; exact opW.loadV (by first | exact gv_of rfl hg23 | rfl) ((hld.2.bel hS.old).at1 (tag_at (k := k) hkl)) ⟨rfl, rfl⟩)) ?_
      refine ML.lookG  _ 17 rfl rfl rfl rfl rfl rfl (fun hg24 w hw => (by have hS := hS1.bel hw; exact opW.eql (by first | exact gv_of rfl hg24 | rfl) (by first | exact gv_of rfl hg24 | rfl) ⟨rfl, rfl⟩)) ?_
      refine ML.look rfl rfl rfl (fun w hw => (by have hS := hS1.bel hw; exact opW.pickAnd rfl (by first | rfl) rfl ⟨rfl, rfl⟩)) ?_
      refine ML.nil ?_
      refine thenQ_n (hK8 _ _ ?_)
      refine WC.cond _ rfl (fun hc1 => ?_) (fun hc1 => ?_)
      ·
        have hr1 := hc1
        try simp only [decide_eq_true_eq, decide_eq_false_iff_not, Bool.and_eq_true, Bool.or_eq_true, Bool.and_eq_false_iff, Bool.or_eq_false_iff, Bool.not_eq_true', Bool.not_eq_false', Int.not_lt, Int.not_le] at hc1
        have hik : isT b k = true := by
          rw [← hr1]; unfold isT; congr 1
          · rw [Bool.eq_iff_iff, decide_eq_true_eq, decide_eq_true_eq]; omega
          · rw [Bool.eq_iff_iff, decide_eq_true_eq, decide_eq_true_eq]; omega
        have hTR := toldR_hit hkl hno hik
        have hlen : b.length = longN k + 1 := by unfold isT at hik; simp at hik; exact hik.1
        have hcp := hx.cap
        refine WC.seq (fun K9 hK9 => ?_)
        refine WC.draw 11 (.look 0 (.look 1 (.look 2 (.look 3 (.look 4 (.one 5 (.look 6 (.look 7 (.look 8 (.look 9 (.look 10 .nil))))))))))) (by kernel_rfl) (fun _ _ _ h => h) (fun w1 hw1 => ?_)
        replace hS := hS.bel hw1
        have hS1 := hS
        have hT := St.start w1
        refine ML.look rfl rfl rfl (fun w hw => (by have hS := hS1.bel hw; exact opW.moveV (v := v) rfl ⟨rfl, rfl⟩)) ?_
        refine ML.look rfl rfl rfl (fun w hw => (by have hS := hS1.bel hw; exact opW.cutS (l := 1) (h' := b.length) (m := capV v) (hx.bel hS.old) ⟨rfl, Nat.le_refl _⟩ ⟨⟨rfl, rfl⟩, hcp⟩ ⟨⟨_, rfl⟩, by omega⟩ ⟨rfl, rfl⟩)) ?_
        refine ML.look rfl rfl rfl (fun w hw => (by have hS := hS1.bel hw; exact opW.moveI rfl ⟨rfl, rfl⟩)) ?_
        refine ML.look rfl rfl rfl (fun w hw => (by have hS := hS1.bel hw; exact opW.idxArr rfl rfl (by omega) ⟨rfl, rfl⟩)) ?_
        refine ML.look rfl rfl rfl (fun w hw => (by have hS := hS1.bel hw; exact opW.loadV rfl ((hld.1.bel hS.old).at1 (long_at (k := k) hkl)) ⟨rfl, rfl⟩)) ?_
        refine ML.one rfl rfl rfl (opW.call (get_le _ (cutV v 1 b.length (capV v) (Enc.sz UInt8)) (b.drop 1) ((longN k : Nat) : Int) (by have h := (hx.bel hS.old).cut (l := 1) (h := b.length) (m := capV v) (by omega) (Nat.le_refl _) hcp (Nat.le_refl _); rw [List.take_length] at h; exact h)) rfl ?_)
        rintro _ w ⟨rfl, hw⟩; replace hT := hT.bel hw
        rw [getR_ok hlN.1 hlN.2 (by rw [List.length_drop]; omega)]
        refine ⟨hT.old, ?_⟩
        have hS := hS1.merge hT
        try simp only [List.cons_append, List.nil_append] at hS
        refine ML.look rfl rfl rfl (fun w hw => (by have hS := hS1.bel hw; exact opW.moveV (v := .tuple #[.int .u64 ((getT b k : Nat) : Int), .int .i64 0]) rfl ⟨rfl, rfl⟩)) ?_
        refine ML.look rfl rfl rfl (fun w hw => (by have hS := hS1.bel hw; exact opW.extract rfl rfl ⟨rfl, rfl⟩)) ?_
        refine ML.look rfl rfl rfl (fun w hw => (by have hS := hS1.bel hw; exact opW.extract rfl rfl ⟨rfl, rfl⟩)) ?_
        refine ML.look rfl rfl rfl (fun w hw => (by have hS := hS1.bel hw; exact opW.assignI rfl ⟨rfl, rfl⟩)) ?_
        refine ML.look rfl rfl rfl (fun w hw => (by have hS := hS1.bel hw; exact opW.assignI rfl ⟨rfl, rfl⟩)) ?_
        refine ML.nil ?_
        refine thenQ_n (hK9 _ _ ?_)
        refine WC.seq (fun K10 hK10 => ?_)
        refine WC.region ?_
        refine WL.op rfl (opW.moveI rfl ?_)
        refine WL.op rfl (opW.moveI rfl ?_)
        refine WL.op rfl (opW.assignI rfl ?_)
        refine WL.op rfl (opW.assignI rfl ?_)
        refine WL.nil ?_
        refine thenQ_n (hK10 _ _ ?_)
        refine WC.ret ?_
        refine blockQ_r ?_
        refine thenQ_r ?_
        refine thenQ_r ?_
        refine blockQ_r ?_
        refine thenQ_r ?_
        refine bodyQ_ret (.tmpI rfl (.tmpI rfl .nil)) ?_
        rw [hTR]
        exact ⟨rfl, hS.old⟩
      ·
        have hr1 := hc1
        try simp only [decide_eq_true_eq, decide_eq_false_iff_not, Bool.and_eq_true, Bool.or_eq_true, Bool.and_eq_false_iff, Bool.or_eq_false_iff, Bool.not_eq_true', Bool.not_eq_false', Int.not_lt, Int.not_le] at hc1
        have hnk : isT b k = false := by
          rw [← hr1]; unfold isT; congr 1
          · rw [Bool.eq_iff_iff, decide_eq_true_eq, decide_eq_true_eq]; omega
          · rw [Bool.eq_iff_iff, decide_eq_true_eq, decide_eq_true_eq]; omega
        refine WC.skip ?_
        refine blockQ_n ?_
        refine thenQ_n (hK6 _ _ ?_)
        refine WC.region ?_
        refine WL.op rfl (opW.add rfl rfl (wrap_i64 (by omega)) ?_)
        refine WL.op rfl (opW.moveI rfl ?_)
        refine WL.nil ?_
        refine thenQ_n ?_
        exact ⟨2 - (k + 1), by omega, k + 1, ⟨rfl, congrArg (Value.int .i64) (by omega), trivial⟩, hS, (fun j hj => (Nat.lt_or_ge j k).elim (fun h => hno j h) (fun h => (show j = k by omega) ▸ hnk)), by omega, rfl⟩
    ·
      have hr0 := hc0
      try simp only [decide_eq_true_eq, decide_eq_false_iff_not, Bool.and_eq_true, Bool.or_eq_true, Bool.and_eq_false_iff, Bool.or_eq_false_iff, Bool.not_eq_true', Bool.not_eq_false', Int.not_lt, Int.not_le] at hc0
      obtain rfl : k = 2 := by omega
      refine WC.exit ?_
      refine thenQ_e ?_
      refine thenQ_e ?_
      refine blockQ_hit ?_
      refine thenQ_n (hK2 _ _ ?_)
      refine WC.seq (fun K11 hK11 => ?_)
      refine WC.region ?_
      refine WL.op rfl (opW.assignI rfl ?_)
      refine WL.op rfl (opW.assignI rfl ?_)
      refine WL.nil ?_
      refine thenQ_n (hK11 _ _ ?_)
      refine WC.ret ?_
      refine bodyQ_ret (.tmpI rfl (.tmpI rfl .nil)) ?_
      rw [toldR_none hno]
      exact ⟨rfl, hS.old⟩

theorem word_ok (w0 : World) (m : Message) (i : Instr) (keys : List (Vector UInt8 32)) (hk : SlR w0 m.keys.v keys) : Ret Tryd.prog 19 #[.agg (Enc.enc m), .agg (Enc.enc i)] w0 (fun u w' => u = .bool (isW keys i.program) ∧ Bel w0 w') := by
  refine Ret.enter (args := [.agg (Enc.enc m), .agg (Enc.enc i)]) Tryd.func19 rfl Tryd.ntmps19 Tryd.results19 rfl ?_
  have hS := St.start w0
  refine WC.seq (fun K1 hK1 => ?_)
  refine WC.region ?_
  refine WL.op rfl (opW.boxA hS rfl ?_)
  intro b2 w _ hS
  refine WL.op rfl (opW.boxA hS rfl ?_)
  intro b3 w _ hS
  refine WL.op rfl (opW.assignB rfl ?_)
  refine WL.nil ?_
  refine thenQ_n (hK1 _ _ ?_)
  refine WC.seq (fun K2 hK2 => ?_)
  refine WC.draw 18 (.look 0 (.look 1 (.look 2 (.look 3 (.look 4 (.look 5 (.look 6 (.look 7 (.look 8 (.look 9 (.look 10 (.look 11 (.look 12 (.look 13 (.one 14 (.look 15 (.look 16 (.look 17 .nil)))))))))))))))))) (by kernel_rfl) (fun _ _ _ h => h) (fun w1 hw1 => ?_)
  replace hS := hS.bel hw1
  have hS1 := hS
  have hT := St.start w1
  have hlt := u8_lt i.program
  refine ML.look rfl rfl rfl (fun w hw => (by have hS := hS1.bel hw; exact opW.fieldAddrB rfl ⟨rfl, rfl⟩)) ?_
  refine ML.look rfl rfl rfl (fun w hw => (by have hS := hS1.bel hw; exact opW.loadV rfl (hS.ld1 (by first | exact .here | exact .there (.here) | exact .there (.there (.here)) | exact .there (.there (.there (.here))) | exact .there (.there (.there (.there (.here)))) | exact .there (.there (.there (.there (.there (.here))))) | exact .there (.there (.there (.there (.there (.there (.here)))))) | exact .there (.there (.there (.there (.there (.there (.there (.here))))))) | exact .there (.there (.there (.there (.there (.there (.there (.there (.here)))))))) | exact .there (.there (.there (.there (.there (.there (.there (.there (.there (.here))))))))) | exact .there (.there (.there (.there (.there (.there (.there (.there (.there (.there (.here)))))))))) | exact .there (.there (.there (.there (.there (.there (.there (.there (.there (.there (.there (.here))))))))))) | exact .there (.there (.there (.there (.there (.there (.there (.there (.there (.there (.there (.there (.here))))))))))))) (Instr.at_program i)) ⟨rfl, rfl⟩)) ?_
  refine ML.look rfl rfl rfl (fun w hw => (by have hS := hS1.bel hw; exact opW.conv rfl (show IntKind.i64.wrap _ = (i.program.toNat : Int) from wrap_i64 (by omega)) ⟨rfl, rfl⟩)) ?_
  refine ML.look rfl rfl rfl (fun w hw => (by have hS := hS1.bel hw; exact opW.fieldAddrB rfl ⟨rfl, rfl⟩)) ?_
  refine ML.look rfl rfl rfl (fun w hw => (by have hS := hS1.bel hw; exact opW.loadV rfl (hS.ld1 (by first | exact .here | exact .there (.here) | exact .there (.there (.here)) | exact .there (.there (.there (.here))) | exact .there (.there (.there (.there (.here)))) | exact .there (.there (.there (.there (.there (.here))))) | exact .there (.there (.there (.there (.there (.there (.here)))))) | exact .there (.there (.there (.there (.there (.there (.there (.here))))))) | exact .there (.there (.there (.there (.there (.there (.there (.there (.here)))))))) | exact .there (.there (.there (.there (.there (.there (.there (.there (.there (.here))))))))) | exact .there (.there (.there (.there (.there (.there (.there (.there (.there (.there (.here)))))))))) | exact .there (.there (.there (.there (.there (.there (.there (.there (.there (.there (.there (.here))))))))))) | exact .there (.there (.there (.there (.there (.there (.there (.there (.there (.there (.there (.there (.here))))))))))))) (Message.at_keys m)) ⟨rfl, rfl⟩)) ?_
  refine ML.look rfl rfl rfl (fun w hw => (by have hS := hS1.bel hw; exact opW.lenV rfl ((hk.bel hS.old)) ⟨rfl, rfl⟩)) ?_
  refine ML.look rfl rfl rfl (fun w hw => (by have hS := hS1.bel hw; exact opW.lss rfl rfl ⟨rfl, rfl⟩)) ?_
  refine ML.look rfl rfl rfl (fun w hw => (by have hS := hS1.bel hw; exact opW.moveB rfl ⟨rfl, rfl⟩)) ?_
  refine ML.lookG  _ 12 rfl rfl rfl rfl rfl rfl (fun hg13 w hw => (by have hS := hS1.bel hw; exact opW.fieldAddrB rfl ⟨rfl, rfl⟩)) ?_
  refine ML.lookG (E := m.keys.v) _ 12 rfl rfl rfl rfl rfl rfl (fun hg14 w hw => (by have hS := hS1.bel hw; exact opW.loadV (by first | exact gv_of rfl hg14 | rfl) (hS.ld1 (by first | exact .here | exact .there (.here) | exact .there (.there (.here)) | exact .there (.there (.there (.here))) | exact .there (.there (.there (.there (.here)))) | exact .there (.there (.there (.there (.there (.here))))) | exact .there (.there (.there (.there (.there (.there (.here)))))) | exact .there (.there (.there (.there (.there (.there (.there (.here))))))) | exact .there (.there (.there (.there (.there (.there (.there (.there (.here)))))))) | exact .there (.there (.there (.there (.there (.there (.there (.there (.there (.here))))))))) | exact .there (.there (.there (.there (.there (.there (.there (.there (.there (.there (.here)))))))))) | exact .there (.there (.there (.there (.there (.there (.there (.there (.there (.there (.there (.here))))))))))) | exact .there (.there (.there (.there (.there (.there (.there (.there (.there (.there (.there (.there (.here))))))))))))) (Message.at_keys m)) ⟨rfl, rfl⟩)) ?_
  refine ML.lookG  _ 12 rfl rfl rfl rfl rfl rfl (fun hg15 w hw => (by have hS := hS1.bel hw; exact opW.fieldAddrB rfl ⟨rfl, rfl⟩)) ?_
  refine ML.lookG (E := (.int .u8 (i.program.toNat : Int))) _ 12 rfl rfl rfl rfl rfl rfl (fun hg16 w hw => (by have hS := hS1.bel hw; exact opW.loadV (by first | exact gv_of rfl hg16 | rfl) (hS.ld1 (by first | exact .here | exact .there (.here) | exact .there (.there (.here)) | exact .there (.there (.there (.here))) | exact .there (.there (.there (.there (.here)))) | exact .there (.there (.there (.there (.there (.here))))) | exact .there (.there (.there (.there (.there (.there (.here)))))) | exact .there (.there (.there (.there (.there (.there (.there (.here))))))) | exact .there (.there (.there (.there (.there (.there (.there (.there (.here)))))))) | exact .there (.there (.there (.there (.there (.there (.there (.there (.there (.here))))))))) | exact .there (.there (.there (.there (.there (.there (.there (.there (.there (.there (.here)))))))))) | exact .there (.there (.there (.there (.there (.there (.there (.there (.there (.there (.there (.here))))))))))) | exact .there (.there (.there (.there (.there (.there (.there (.there (.there (.there (.there (.there (.here))))))))))))) (Instr.at_program i)) ⟨rfl, rfl⟩)) ?_
  refine ML.lookG (E := (elemP m.keys.v i.program.toNat (Enc.sz (Vector UInt8 32)))) _ 12 rfl rfl rfl rfl rfl rfl (fun hg17 w hw => (by have hS := hS1.bel hw; have hgx : (i.program.toNat : Int) < (keys.length : Int) := (by simpa using hg17); exact opW.idxV (by first | exact gv_of rfl hg17 | rfl) ((hk.bel hS.old)) (by first | exact gv_of rfl hg17 | rfl) (by omega) (k := .u8) (i := (i.program.toNat : Int)) (v := m.keys.v) ⟨rfl, rfl⟩)) ?_
  refine ML.lookG (E := (.agg (Enc.enc (keys.getD i.program.toNat (vz 32))))) _ 12 rfl rfl rfl rfl rfl rfl (fun hg18 w hw => (by have hS := hS1.bel hw; exact opW.loadV (by first | exact gv_of rfl hg18 | rfl) ((by have h0 : i.program.toNat < keys.length := (by have hgx : (i.program.toNat : Int) < (keys.length : Int) := (by simpa using hg18); omega); have h2 := (hk.bel hS.old).isPt h0; rw [show keys[i.program.toNat] = keys.getD i.program.toNat (vz 32) by simp [List.getD, h0]] at h2; exact h2.ldA (Enc.size_eq _))) ⟨rfl, rfl⟩)) ?_
  refine ML.oneG (.agg (Enc.enc budK)) _ 12 hT.old rfl rfl rfl rfl rfl rfl (fun hg19 => opW.call (bud_ok _) rfl (fun _ _ h => h)) (fun w hw => ?_)
  replace hT := hT.bel hw
  have hS := hS1.merge hT
  try simp only [List.cons_append, List.nil_append] at hS
  refine ML.lookG (E := (.bool (decide (keys.getD i.program.toNat (vz 32) = budK)))) _ 12 rfl rfl rfl rfl rfl rfl (fun hg20 w hw => (by have hS := hS1.bel hw; exact opW.eqlE (by first | exact gv_of rfl hg20 | rfl) (by first | exact gv_of rfl hg20 | rfl) ⟨rfl, rfl⟩)) ?_
  refine ML.look rfl rfl rfl (fun w hw => (by have hS := hS1.bel hw; exact opW.pickAnd rfl (by first | rfl) rfl ⟨rfl, rfl⟩)) ?_
  refine ML.look rfl rfl rfl (fun w hw => (by have hS := hS1.bel hw; exact opW.assignB rfl ⟨rfl, rfl⟩)) ?_
  refine ML.nil ?_
  refine thenQ_n (hK2 _ _ ?_)
  refine WC.ret ?_
  refine bodyQ_ret (.tmpB rfl .nil) ?_
  exact ⟨congrArg Value.bool (isW_eq keys i.program), hS.old⟩

end Go.Fer
