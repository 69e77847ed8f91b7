/- takers -/
import Derived.Test.YtljdebibekdhdaaD
import Derived.Test.YtljdebibekdhdaaI
set_option linter.all false
namespace Go.Fer
open Go Go.Proofs Go.RowKit

structure Taker where
  b : SlV
  at_ : Int
  e : Int
def Taker.parts (x : Taker) : List (Array Value) := [#[x.b.v], #[.int .i64 x.at_], #[.int .i64 x.e]]
theorem Taker.sizes (x : Taker) : x.parts.map Array.size = [1, 1, 1] := by
  simp only [Taker.parts, List.map, Enc.size_eq]; rfl
instance : Enc Taker where
  enc x := joinA x.parts
  sz := 3
  pos := by omega
  size_eq x := by rw [joinA_size, Taker.sizes]; rfl
  one x := joinA_one (all_cons (Enc.one (α := SlV) _) (all_cons (one_int _ _) (all_cons (one_int _ _) all_nil)))
theorem Taker.enc_eq (x : Taker) : Enc.enc x = joinA x.parts := rfl
theorem Taker.at_b (x : Taker) : (Enc.enc x)[0]? = some (x.b.v) := joinA_at [] [#[.int .i64 x.at_], #[.int .i64 x.e]] _ (by rw [joinA_size]; simp only [List.map, Enc.size_eq]; rfl)
theorem Taker.at_at_ (x : Taker) : (Enc.enc x)[1]? = some (.int .i64 x.at_) := joinA_at [#[x.b.v]] [#[.int .i64 x.e]] _ (by rw [joinA_size]; simp only [List.map, Enc.size_eq]; rfl)
theorem Taker.at_e (x : Taker) : (Enc.enc x)[2]? = some (.int .i64 x.e) := joinA_at [#[x.b.v], #[.int .i64 x.at_]] [] _ (by rw [joinA_size]; simp only [List.map, Enc.size_eq]; rfl)
theorem Taker.set_b (x : Taker) (v : SlV) : spl (Enc.enc x) 0 #[v.v] = Enc.enc { x with b := v } := by
  have h := spl_join [] [#[.int .i64 x.at_], #[.int .i64 x.e]] (#[x.b.v]) (#[v.v]) (by first | (rw [Enc.size_eq, Enc.size_eq]; done) | rfl)
  rw [show (joinA []).size = 0 from (by rw [joinA_size]; simp only [List.map, Enc.size_eq]; rfl)] at h
  exact h
theorem Taker.set_at_ (x : Taker) (v : Int) : spl (Enc.enc x) 1 #[.int .i64 v] = Enc.enc { x with at_ := v } := by
  have h := spl_join [#[x.b.v]] [#[.int .i64 x.e]] (#[.int .i64 x.at_]) (#[.int .i64 v]) (by first | (rw [Enc.size_eq, Enc.size_eq]; done) | rfl)
  rw [show (joinA [#[x.b.v]]).size = 1 from (by rw [joinA_size]; simp only [List.map, Enc.size_eq]; rfl)] at h
  exact h
theorem Taker.set_e (x : Taker) (v : Int) : spl (Enc.enc x) 2 #[.int .i64 v] = Enc.enc { x with e := v } := by
  have h := spl_join [#[x.b.v], #[.int .i64 x.at_]] [] (#[.int .i64 x.e]) (#[.int .i64 v]) (by first | (rw [Enc.size_eq, Enc.size_eq]; done) | rfl)
  rw [show (joinA [#[x.b.v], #[.int .i64 x.at_]]).size = 2 from (by rw [joinA_size]; simp only [List.map, Enc.size_eq]; rfl)] at h
  exact h
def Taker.ok (w : World) (x : Taker) : Prop := (∃ l : List (UInt8), SlR w x.b.v l ∧ ∀ e ∈ l, True) ∧ (-9223372036854775808 ≤ x.at_ ∧ x.at_ ≤ 9223372036854775807) ∧ (-9223372036854775808 ≤ x.e ∧ x.e ≤ 9223372036854775807)
theorem Taker.ok.bel {w w' : World} {x : Taker} (hb : Bel w w') (h : Taker.ok w x) : Taker.ok w' x := by
  unfold Taker.ok at h ⊢
  obtain ⟨⟨l0, g0⟩, g1, g2⟩ := h
  exact ⟨(⟨_, g0.1.bel hb, fun e he => trivial⟩), (g1), (g2)⟩
theorem rdw_Taker : RdW Try.prog 81 Taker Taker.ok := by
  intro H enc w fuel cs d ps hr
  obtain ⟨hend, fuel', hf⟩ := rdS Try.underlying81 inferInstance hr
  obtain ⟨d0, ps0, h0⟩ := hf 0 _ 34 0 1 rfl rfl rfl inferInstance
  obtain ⟨x0, e0, i0⟩ := rd_slv (α := UInt8) inferInstance rdw_u8 inferInstance h0
  obtain ⟨d1, ps1, h1⟩ := hf 1 _ 3 1 1 rfl rfl rfl inferInstance
  obtain ⟨x1, e1, i1⟩ := rd_i64' inferInstance h1
  obtain ⟨d2, ps2, h2⟩ := hf 2 _ 35 2 1 rfl rfl rfl inferInstance
  obtain ⟨x2, e2, i2⟩ := rd_i64' inferInstance h2
  have k2 := cells_cut e2 hend
  have k1 := cells_cut e1 k2
  have k0 := cells_cut e0 k1
  refine ⟨⟨x0, x1, x2⟩, ?_, ⟨i0, i1, i2⟩⟩
  rw [Taker.enc_eq]; simp only [Taker.parts, joinA_toList_cons, joinA_nil]
  rw [List.drop_zero] at k0; rw [k0]; try simp

/-- a taker, as a reader that goes on -/
def Tk : RS → Nat → Int → Prop
  | .ok x, a, e => a = x ∧ e = 0
  | .error x, _, e => e = x ∧ e ≠ 0
theorem Tk.err {s : RS} {a : Nat} {e : Int} (h : Tk s a e) (he : e ≠ 0) : s = .error e := by
  cases s with
  | ok x => exact absurd h.2 he
  | error x => rw [h.1]
theorem Tk.fine {s : RS} {a : Nat} {e : Int} (h : Tk s a e) (he : e = 0) : s = .ok a := by
  cases s with
  | ok x => rw [h.1]
  | error x => exact absurd he h.2
abbrev tkE (p : Nat) (bs : SlV) (a : Nat) (e : Int) : Ent := blkE p (Enc.enc (⟨bs, (a : Int), e⟩ : Taker)) 81
theorem Turn.self {e : Ent} {S S' : List Ent} (h : Turn e e S S') : S' = S := by
  induction h with
  | here => rfl
  | there h ih => rw [ih]
theorem vecOf_nil : vecOf 32 [] = vz 32 := by unfold vecOf; rw [dif_neg (by decide)]
theorem opW.copyKey {P : Program} {f : Fr} {w w0 : World} {S : List Ent} {R : Value → World → Prop} {d : Option Tmp} {T : TypeId} {pos : String} {af : Array Edge} {gd : Option (Nat × Bool)} {t t' E T' b : Nat} {x y : Operand} {ys : List UInt8} [ht : SliceT P t E] [hs : SizeT P E (Enc.sz UInt8)] (hS : St w0 S w) (hx : ev f x = .slice (some ⟨b, 0, none⟩) 32 32) (he : Has (blkE b (Enc.enc (vz 32)) T') S) (hy : SlR w (ev f y) ys) (hl : ys.length = 32 ∨ ys = [])
    (h : ∀ w', (∀ S', Turn (blkE b (Enc.enc (vz 32)) T') (blkE b (Enc.enc (vecOf 32 ys)) T') S S' → St w0 S' w') → R (.int .i64 (ys.length : Int)) w') : opW P f ⟨d, .call { callee := .builtin .copy, args := #[x, y], argTypes := #[t, t'] }, T, pos, af, gd⟩ w R := by
  rcases hl with hl | rfl
  · refine opW.copyBlk hS hx he hy hl (by omega) (by rw [Enc.size_eq]; exact Nat.le_refl 32) ?_ h
    rw [flat_key (n := 31) hl]
    exact spl_all (by rw [Enc.size_eq, Enc.size_eq])
  · obtain ⟨i, hi, hisz⟩ : ∃ i, P.info? E = some i ∧ i.size = Enc.sz UInt8 := by
      have h1 := hs.out
      cases hi : P.info? E with
      | none => simp [hi] at h1
      | some i => simp [hi] at h1; exact ⟨i, rfl, h1⟩
    obtain ⟨a, c, hu, hc1, hc2, hc3, hrow⟩ := hy
    refine opW.of_run (v := .int .i64 0) (w' := w) ?_ (h w fun S' hT => by rw [vecOf_nil] at hT; rw [hT.self]; exact hS)
    have e1 : (Builtin.firstCells (Enc.sz UInt8) 0 (.slice a 0 c)).run P w = .ok #[] w := by
      cases a with
      | none => simp [Builtin.firstCells]
      | some ad =>
        have hld := run_loadCells_list (P := P) w ad [] (by simp)
        simp [Builtin.firstCells] at hld ⊢
        exact hld
    have hst := run_storeCells_at P b 0 T' [] 0 (Enc.enc (vz 32)) w (hS.blk he) (by simp) (by simp)
    have hst2 : (storeCells ⟨b, 0, none⟩ []).run P w = .ok () w := by simp [storeCells]
    simp only [List.length_nil] at hu
    simp [execOp, resolve, Go.invoke, builtin, hx, hu, Builtin.copy_, run_underlying ht.out, Builtin.lenOf, sizeOf, typeInfo, hi, hisz, goInt, e1, hst2]
theorem rBytes_len (xs : List UInt8) (n : Nat) (s : RS) : (rBytes xs n s).1.length = n ∨ (rBytes xs n s).1 = [] := by
  cases s with
  | error e => exact .inr rfl
  | ok a =>
    rw [rBytes_ok]
    split
    · left; rw [List.length_take, List.length_drop]; omega
    · exact .inr rfl

theorem tk_bytes (wb w0 : World) (S : List Ent) (p : Nat) (bs : SlV) (xs : List UInt8) (a : Nat) (e : Int) (s : RS) (hb : SlR wb bs.v xs) (hxl : xs.length ≤ 1000000000) (ha : a ≤ xs.length) (hs : Tk s a e) (n : Nat) (hn : n ≤ 1000000) (hS0 : St wb (tkE p bs a e :: S) w0) : Ret Try.prog 41 #[.pointer (some ⟨p, 0, none⟩), .int .i64 (n : Int)] w0 (fun u w' => ∃ (sv : SlV) (a' : Nat) (e' : Int), u = sv.v ∧ Tk (rBytes xs n s).2 a' e' ∧ a' ≤ xs.length ∧ St wb (ownE sv.v 5 (rBytes xs n s).1 :: tkE p bs a' e' :: S) w') := by
  refine Ret.enter (args := [.pointer (some ⟨p, 0, none⟩), .int .i64 (n : Int)]) Try.func41 rfl Try.ntmps41 Try.results41 rfl ?_
  have hS := St.start w0
  replace hS := hS0
  have hat : (a : Int) ≤ xs.length := by omega
  refine WC.seq (fun K1 hK1 => ?_)
  refine WC.region ?_
  refine WL.op rfl (opW.assignV (v := .slice none 0 0) rfl ?_)
  refine WL.nil ?_
  refine thenQ_n (hK1 _ _ ?_)
  refine WC.seq (fun K2 hK2 => ?_)
  refine WC.seq (fun K3 hK3 => ?_)
  refine WC.region ?_
  refine WL.op rfl (opW.moveV (v := .pointer (some ⟨p, 0, none⟩)) rfl ?_)
  refine WL.op rfl (opW.nilCheckB rfl ?_)
  refine WL.op rfl (opW.fieldAddrB rfl ?_)
  refine WL.op rfl (opW.loadV rfl (hS.ld1 (by first | exact .h0 | exact .h1 | exact .h2 | exact .h3 | exact .h4 | exact .h5 | exact .h6 | exact .h7 | exact .h8 | exact .h9 | exact .h10 | exact .h11 | exact .h12 | exact .h13 | exact .h14) (show (Enc.enc (⟨bs, (a : Int), e⟩ : Taker))[2]? = some (.int .i64 e) from Taker.at_e _)) ?_)
  refine WL.op rfl (opW.neq rfl rfl ?_)
  refine WL.nil ?_
  refine thenQ_n (hK3 _ _ ?_)
  refine WC.cond _ rfl (fun hc0 => ?_) (fun hc0 => ?_)
  ·
    have hr0 := hc0
    try simp only [decide_eq_true_eq, decide_eq_false_iff_not, Bool.and_eq_true, Bool.or_eq_true, Bool.and_eq_false_iff, Bool.or_eq_false_iff, Bool.not_eq_true', Bool.not_eq_false', Int.not_lt, Int.not_le] at hc0
    have he0 : e ≠ 0 := by simpa using hr0
    obtain rfl := hs.err he0
    refine WC.seq (fun K4 hK4 => ?_)
    refine WC.region ?_
    refine WL.op rfl (opW.assignV (v := .slice none 0 0) rfl ?_)
    refine WL.nil ?_
    refine thenQ_n (hK4 _ _ ?_)
    refine WC.ret ?_
    refine thenQ_r ?_
    refine bodyQ_ret (.tmpV (v := .slice none 0 0) rfl .nil) ?_
    exact ⟨⟨none, 0, 0⟩, a, e, rfl, hs, ha, hS.nilOwn 5⟩
  ·
    have hr0 := hc0
    try simp only [decide_eq_true_eq, decide_eq_false_iff_not, Bool.and_eq_true, Bool.or_eq_true, Bool.and_eq_false_iff, Bool.or_eq_false_iff, Bool.not_eq_true', Bool.not_eq_false', Int.not_lt, Int.not_le] at hc0
    obtain rfl : e = 0 := by simpa using hr0
    obtain rfl := hs.fine rfl
    refine WC.skip ?_
    refine thenQ_n (hK2 _ _ ?_)
    refine WC.seq (fun K5 hK5 => ?_)
    refine WC.seq (fun K6 hK6 => ?_)
    refine WC.draw 12 (.look 0 (.look 1 (.look 2 (.look 3 (.look 4 (.look 5 (.look 6 (.look 7 (.look 8 (.look 9 (.look 10 (.look 11 .nil)))))))))))) (by kernel_rfl) (fun _ _ _ h => h) (fun w1 hw1 => ?_)
    replace hS := hS.bel hw1
    have hS1 := hS
    have hT := St.start w1
    refine ML.look rfl rfl rfl (fun w hw => (by have hS := hS1.bel hw; exact opW.moveI rfl ⟨rfl, rfl⟩)) ?_
    refine ML.look rfl rfl rfl (fun w hw => (by have hS := hS1.bel hw; exact opW.moveV (v := .pointer (some ⟨p, 0, none⟩)) rfl ⟨rfl, rfl⟩)) ?_
    refine ML.look rfl rfl rfl (fun w hw => (by have hS := hS1.bel hw; exact opW.nilCheckB rfl ⟨rfl, rfl⟩)) ?_
    refine ML.look rfl rfl rfl (fun w hw => (by have hS := hS1.bel hw; exact opW.fieldAddrB rfl ⟨rfl, rfl⟩)) ?_
    refine ML.look rfl rfl rfl (fun w hw => (by have hS := hS1.bel hw; exact opW.loadV rfl (hS.ld1 (by first | exact .h0 | exact .h1 | exact .h2 | exact .h3 | exact .h4 | exact .h5 | exact .h6 | exact .h7 | exact .h8 | exact .h9 | exact .h10 | exact .h11 | exact .h12 | exact .h13 | exact .h14) (show (Enc.enc (⟨bs, (a : Int), 0⟩ : Taker))[0]? = some (bs.v) from Taker.at_b _)) ⟨rfl, rfl⟩)) ?_
    refine ML.look rfl rfl rfl (fun w hw => (by have hS := hS1.bel hw; exact opW.lenV rfl ((hb.bel hS.old)) ⟨rfl, rfl⟩)) ?_
    refine ML.look rfl rfl rfl (fun w hw => (by have hS := hS1.bel hw; exact opW.moveV (v := .pointer (some ⟨p, 0, none⟩)) rfl ⟨rfl, rfl⟩)) ?_
    refine ML.look rfl rfl rfl (fun w hw => (by have hS := hS1.bel hw; exact opW.nilCheckB rfl ⟨rfl, rfl⟩)) ?_
    refine ML.look rfl rfl rfl (fun w hw => (by have hS := hS1.bel hw; exact opW.fieldAddrB rfl ⟨rfl, rfl⟩)) ?_
    refine ML.look rfl rfl rfl (fun w hw => (by have hS := hS1.bel hw; exact opW.loadV rfl (hS.ld1 (by first | exact .h0 | exact .h1 | exact .h2 | exact .h3 | exact .h4 | exact .h5 | exact .h6 | exact .h7 | exact .h8 | exact .h9 | exact .h10 | exact .h11 | exact .h12 | exact .h13 | exact .h14) (show (Enc.enc (⟨bs, (a : Int), 0⟩ : Taker))[1]? = some (.int .i64 (a : Int)) from Taker.at_at_ _)) ⟨rfl, rfl⟩)) ?_
    refine ML.look rfl rfl rfl (fun w hw => (by have hS := hS1.bel hw; exact opW.sub rfl rfl (wrap_i64 (by omega)) ⟨rfl, rfl⟩)) ?_
    refine ML.look rfl rfl rfl (fun w hw => (by have hS := hS1.bel hw; exact opW.gtr rfl rfl ⟨rfl, rfl⟩)) ?_
    refine ML.nil ?_
    refine thenQ_n (hK6 _ _ ?_)
    refine WC.cond _ rfl (fun hc1 => ?_) (fun hc1 => ?_)
    ·
      have hr1 := hc1
      try simp only [decide_eq_true_eq, decide_eq_false_iff_not, Bool.and_eq_true, Bool.or_eq_true, Bool.and_eq_false_iff, Bool.or_eq_false_iff, Bool.not_eq_true', Bool.not_eq_false', Int.not_lt, Int.not_le] at hc1
      have hnl : ¬ n ≤ xs.length - a := by omega
      have e1 : rBytes xs n (.ok a) = ([], .error 5) := by rw [rBytes_ok, if_neg hnl]
      refine WC.seq (fun K7 hK7 => ?_)
      refine WC.region ?_
      refine WL.op rfl (opW.moveV (v := .pointer (some ⟨p, 0, none⟩)) rfl ?_)
      refine WL.op rfl (opW.nilCheckB rfl ?_)
      refine WL.op rfl (opW.fieldAddrB rfl ?_)
      refine WL.op0 (opW.storeF (b := p) (o := 2) (v := .int .i64 5) (sz := 1) (cs := Enc.enc (⟨bs, (a : Int), 0⟩ : Taker)) (cs' := Enc.enc (⟨bs, (a : Int), 5⟩ : Taker)) hS rfl rfl (by first | exact .h0 | exact .h1 | exact .h2 | exact .h3 | exact .h4 | exact .h5 | exact .h6 | exact .h7 | exact .h8 | exact .h9 | exact .h10 | exact .h11 | exact .h12 | exact .h13 | exact .h14) rfl (by rw [Enc.size_eq]; decide) (one_int _ _) (Taker.set_e (⟨bs, (a : Int), 0⟩ : Taker) _) ?_)
      intro w hS; replace hS := hS _ (by first | exact .h0 | exact .h1 | exact .h2 | exact .h3 | exact .h4 | exact .h5 | exact .h6 | exact .h7 | exact .h8 | exact .h9 | exact .h10 | exact .h11 | exact .h12 | exact .h13 | exact .h14)
      refine WL.nil ?_
      refine thenQ_n (hK7 _ _ ?_)
      refine WC.seq (fun K8 hK8 => ?_)
      refine WC.region ?_
      refine WL.op rfl (opW.assignV (v := .slice none 0 0) rfl ?_)
      refine WL.nil ?_
      refine thenQ_n (hK8 _ _ ?_)
      refine WC.ret ?_
      refine thenQ_r ?_
      refine bodyQ_ret (.tmpV (v := .slice none 0 0) rfl .nil) ?_
      rw [e1]
      exact ⟨⟨none, 0, 0⟩, a, 5, rfl, ⟨rfl, by decide⟩, ha, hS.nilOwn 5⟩
    ·
      have hr1 := hc1
      try simp only [decide_eq_true_eq, decide_eq_false_iff_not, Bool.and_eq_true, Bool.or_eq_true, Bool.and_eq_false_iff, Bool.or_eq_false_iff, Bool.not_eq_true', Bool.not_eq_false', Int.not_lt, Int.not_le] at hc1
      have hnl : n ≤ xs.length - a := by omega
      have e1 : rBytes xs n (.ok a) = ((xs.drop a).take n, .ok (a + n)) := by rw [rBytes_ok, if_pos hnl]
      refine WC.skip ?_
      refine thenQ_n (hK5 _ _ ?_)
      refine WC.seq (fun K9 hK9 => ?_)
      refine WC.region ?_
      refine WL.op rfl (opW.moveV (v := .pointer (some ⟨p, 0, none⟩)) rfl ?_)
      refine WL.op rfl (opW.moveV (v := .pointer (some ⟨p, 0, none⟩)) rfl ?_)
      refine WL.op rfl (opW.nilCheckB rfl ?_)
      refine WL.op rfl (opW.fieldAddrB rfl ?_)
      refine WL.op rfl (opW.loadV rfl (hS.ld1 (by first | exact .h0 | exact .h1 | exact .h2 | exact .h3 | exact .h4 | exact .h5 | exact .h6 | exact .h7 | exact .h8 | exact .h9 | exact .h10 | exact .h11 | exact .h12 | exact .h13 | exact .h14) (show (Enc.enc (⟨bs, (a : Int), 0⟩ : Taker))[1]? = some (.int .i64 (a : Int)) from Taker.at_at_ _)) ?_)
      refine WL.op rfl (opW.moveI rfl ?_)
      refine WL.op rfl (opW.add rfl rfl (wrap_i64 (by omega)) ?_)
      refine WL.op rfl (opW.nilCheckB rfl ?_)
      refine WL.op rfl (opW.fieldAddrB rfl ?_)
      refine WL.op0 (opW.storeF (b := p) (o := 1) (v := .int .i64 ((a : Int) + (n : Int))) (sz := 1) (cs := Enc.enc (⟨bs, (a : Int), 0⟩ : Taker)) (cs' := Enc.enc (⟨bs, ((a + n : Nat) : Int), 0⟩ : Taker)) hS rfl rfl (by first | exact .h0 | exact .h1 | exact .h2 | exact .h3 | exact .h4 | exact .h5 | exact .h6 | exact .h7 | exact .h8 | exact .h9 | exact .h10 | exact .h11 | exact .h12 | exact .h13 | exact .h14) rfl (by rw [Enc.size_eq]; decide) (one_int _ _) (Taker.set_at_ (⟨bs, (a : Int), 0⟩ : Taker) _) ?_)
      intro w hS; replace hS := hS _ (by first | exact .h0 | exact .h1 | exact .h2 | exact .h3 | exact .h4 | exact .h5 | exact .h6 | exact .h7 | exact .h8 | exact .h9 | exact .h10 | exact .h11 | exact .h12 | exact .h13 | exact .h14)
      refine WL.nil ?_
      refine thenQ_n (hK9 _ _ ?_)
      refine WC.seq (fun K10 hK10 => ?_)
      refine WC.draw 17 (.look 0 (.look 1 (.look 2 (.look 3 (.look 4 (.look 5 (.look 6 (.look 7 (.look 8 (.look 9 (.look 10 (.look 11 (.look 12 (.look 13 (.look 14 (.one 15 (.look 16 .nil))))))))))))))))) (by kernel_rfl) (fun _ _ _ h => h) (fun w1 hw1 => ?_)
      replace hS := hS.bel hw1
      have hS1 := hS
      have hT := St.start w1
      refine ML.look rfl rfl rfl (fun w hw => (by have hS := hS1.bel hw; exact opW.moveV (v := .pointer (some ⟨p, 0, none⟩)) rfl ⟨rfl, rfl⟩)) ?_
      refine ML.look rfl rfl rfl (fun w hw => (by have hS := hS1.bel hw; exact opW.nilCheckB rfl ⟨rfl, rfl⟩)) ?_
      refine ML.look rfl rfl rfl (fun w hw => (by have hS := hS1.bel hw; exact opW.fieldAddrB rfl ⟨rfl, rfl⟩)) ?_
      refine ML.look rfl rfl rfl (fun w hw => (by have hS := hS1.bel hw; exact opW.loadV rfl (hS.ld1 (by first | exact .h0 | exact .h1 | exact .h2 | exact .h3 | exact .h4 | exact .h5 | exact .h6 | exact .h7 | exact .h8 | exact .h9 | exact .h10 | exact .h11 | exact .h12 | exact .h13 | exact .h14) (show (Enc.enc (⟨bs, ((a + n : Nat) : Int), 0⟩ : Taker))[0]? = some (bs.v) from Taker.at_b _)) ⟨rfl, rfl⟩)) ?_
      refine ML.look rfl rfl rfl (fun w hw => (by have hS := hS1.bel hw; exact opW.moveV (v := .pointer (some ⟨p, 0, none⟩)) rfl ⟨rfl, rfl⟩)) ?_
      refine ML.look rfl rfl rfl (fun w hw => (by have hS := hS1.bel hw; exact opW.nilCheckB rfl ⟨rfl, rfl⟩)) ?_
      refine ML.look rfl rfl rfl (fun w hw => (by have hS := hS1.bel hw; exact opW.fieldAddrB rfl ⟨rfl, rfl⟩)) ?_
      refine ML.look rfl rfl rfl (fun w hw => (by have hS := hS1.bel hw; exact opW.loadV rfl (hS.ld1 (by first | exact .h0 | exact .h1 | exact .h2 | exact .h3 | exact .h4 | exact .h5 | exact .h6 | exact .h7 | exact .h8 | exact .h9 | exact .h10 | exact .h11 | exact .h12 | exact .h13 | exact .h14) (show (Enc.enc (⟨bs, ((a + n : Nat) : Int), 0⟩ : Taker))[1]? = some (.int .i64 ((a + n : Nat) : Int)) from Taker.at_at_ _)) ⟨rfl, rfl⟩)) ?_
      refine ML.look rfl rfl rfl (fun w hw => (by have hS := hS1.bel hw; exact opW.moveI rfl ⟨rfl, rfl⟩)) ?_
      refine ML.look rfl rfl rfl (fun w hw => (by have hS := hS1.bel hw; exact opW.sub rfl rfl (sub_back (by omega)) ⟨rfl, rfl⟩)) ?_
      refine ML.look rfl rfl rfl (fun w hw => (by have hS := hS1.bel hw; exact opW.moveV (v := .pointer (some ⟨p, 0, none⟩)) rfl ⟨rfl, rfl⟩)) ?_
      refine ML.look rfl rfl rfl (fun w hw => (by have hS := hS1.bel hw; exact opW.nilCheckB rfl ⟨rfl, rfl⟩)) ?_
      refine ML.look rfl rfl rfl (fun w hw => (by have hS := hS1.bel hw; exact opW.fieldAddrB rfl ⟨rfl, rfl⟩)) ?_
      refine ML.look rfl rfl rfl (fun w hw => (by have hS := hS1.bel hw; exact opW.loadV rfl (hS.ld1 (by first | exact .h0 | exact .h1 | exact .h2 | exact .h3 | exact .h4 | exact .h5 | exact .h6 | exact .h7 | exact .h8 | exact .h9 | exact .h10 | exact .h11 | exact .h12 | exact .h13 | exact .h14) (show (Enc.enc (⟨bs, ((a + n : Nat) : Int), 0⟩ : Taker))[1]? = some (.int .i64 ((a + n : Nat) : Int)) from Taker.at_at_ _)) ⟨rfl, rfl⟩)) ?_
      refine ML.look rfl rfl rfl (fun w hw => (by have hS := hS1.bel hw; exact opW.cutS (hb.bel hS.old) (xs := xs) (l := a) (h' := a + n) (m := capV bs.v) ⟨rfl, Nat.le_refl _⟩ ⟨⟨_, rfl⟩, by have := (hb.bel hS.old).cap; omega⟩ ⟨⟨_, rfl⟩, by omega⟩ ⟨rfl, rfl⟩)) ?_
      refine ML.one rfl rfl rfl (opW.appendNil (α := UInt8) (ys := (xs.drop a).take n) rfl hT rfl (by have h1 := (hb.bel hS.old).cut (l := a) (h := a + n) (m := capV bs.v) (by omega) (by omega) (by have := (hb.bel hS.old).cap; omega) (Nat.le_refl _); rw [List.drop_take, Nat.add_sub_cancel_left] at h1; exact h1) (by rw [List.length_take]; omega) (by rw [List.length_take]; simp only [maxLen]; omega) ?_)
      intro v49 w hw hT
      refine ⟨hT.old, ?_⟩
      have hS := hS1.merge hT
      try simp only [List.cons_append, List.nil_append] at hS
      refine ML.look rfl rfl rfl (fun w hw => (by have hS := hS1.bel hw; exact opW.assignV (v := v49) rfl ⟨rfl, rfl⟩)) ?_
      refine ML.nil ?_
      refine thenQ_n (hK10 _ _ ?_)
      refine WC.ret ?_
      refine bodyQ_ret (.tmpV (v := v49) rfl .nil) ?_
      obtain ⟨s49, rfl⟩ := (hS.sl (v := v49) (xs := (xs.drop a).take n) (by first | exact .h0 | exact .h1 | exact .h2 | exact .h3 | exact .h4 | exact .h5 | exact .h6 | exact .h7 | exact .h8 | exact .h9 | exact .h10 | exact .h11 | exact .h12 | exact .h13 | exact .h14)).asV
      rw [e1]
      exact ⟨s49, a + n, 0, rfl, ⟨rfl, rfl⟩, by omega, hS⟩

theorem tk_byte (wb w0 : World) (S : List Ent) (p : Nat) (bs : SlV) (xs : List UInt8) (a : Nat) (e : Int) (s : RS) (hb : SlR wb bs.v xs) (hxl : xs.length ≤ 1000000000) (ha : a ≤ xs.length) (hs : Tk s a e) (hS0 : St wb (tkE p bs a e :: S) w0) : Ret Try.prog 38 #[.pointer (some ⟨p, 0, none⟩)] w0 (fun u w' => ∃ (a' : Nat) (e' : Int), u = .int .u8 ((rByte xs s).1.toNat : Int) ∧ Tk (rByte xs s).2 a' e' ∧ a' ≤ xs.length ∧ St wb (tkE p bs a' e' :: S) w') := by
  refine Ret.enter (args := [.pointer (some ⟨p, 0, none⟩)]) Try.func38 rfl Try.ntmps38 Try.results38 rfl ?_
  have hS := St.start w0
  replace hS := hS0
  refine WC.seq (fun K1 hK1 => ?_)
  refine WC.region ?_
  refine WL.op rfl (opW.assignI rfl ?_)
  refine WL.nil ?_
  refine thenQ_n (hK1 _ _ ?_)
  refine WC.seq (fun K2 hK2 => ?_)
  refine WC.region ?_
  refine WL.op rfl (opW.moveV (v := .pointer (some ⟨p, 0, none⟩)) rfl ?_)
  refine WL.op rfl (opW.call (tk_bytes _ _ _ p bs xs a e s hb hxl ha hs 1 (by omega) hS) rfl ?_)
  rintro _ w ⟨sv, a', e', rfl, hs', ha', hS⟩
  have hlen := rBytes_len xs 1 s
  refine WL.op rfl (opW.assignV (v := sv.v) rfl ?_)
  refine WL.nil ?_
  refine thenQ_n (hK2 _ _ ?_)
  refine WC.seq (fun K3 hK3 => ?_)
  refine WC.seq (fun K4 hK4 => ?_)
  refine WC.region ?_
  refine WL.op rfl (opW.moveV (v := sv.v) rfl ?_)
  refine WL.op rfl (opW.lenV rfl ((hS.sl (v := sv.v) (xs := (rBytes xs 1 s).1) (by first | exact .h0 | exact .h1 | exact .h2 | exact .h3 | exact .h4 | exact .h5 | exact .h6 | exact .h7 | exact .h8 | exact .h9 | exact .h10 | exact .h11 | exact .h12 | exact .h13 | exact .h14))) ?_)
  refine WL.op rfl (opW.eql rfl rfl ?_)
  refine WL.nil ?_
  refine thenQ_n (hK4 _ _ ?_)
  refine WC.cond _ rfl (fun hc0 => ?_) (fun hc0 => ?_)
  ·
    have hr0 := hc0
    try simp only [decide_eq_true_eq, decide_eq_false_iff_not, Bool.and_eq_true, Bool.or_eq_true, Bool.and_eq_false_iff, Bool.or_eq_false_iff, Bool.not_eq_true', Bool.not_eq_false', Int.not_lt, Int.not_le] at hc0
    have h0 : (rBytes xs 1 s).1 = [] := List.eq_nil_of_length_eq_zero (by omega)
    refine WC.seq (fun K5 hK5 => ?_)
    refine WC.region ?_
    refine WL.op rfl (opW.assignI rfl ?_)
    refine WL.nil ?_
    refine thenQ_n (hK5 _ _ ?_)
    refine WC.ret ?_
    refine thenQ_r ?_
    refine bodyQ_ret (.tmpI rfl .nil) ?_
    refine ⟨a', e', ?_, hs', ha', hS.drop1⟩
    unfold rByte; rw [h0]; rfl
  ·
    have hr0 := hc0
    try simp only [decide_eq_true_eq, decide_eq_false_iff_not, Bool.and_eq_true, Bool.or_eq_true, Bool.and_eq_false_iff, Bool.or_eq_false_iff, Bool.not_eq_true', Bool.not_eq_false', Int.not_lt, Int.not_le] at hc0
    have h0 : 0 < (rBytes xs 1 s).1.length := by omega
    refine WC.skip ?_
    refine thenQ_n (hK3 _ _ ?_)
    refine WC.seq (fun K6 hK6 => ?_)
    refine WC.region ?_
    refine WL.op rfl (opW.moveV (v := sv.v) rfl ?_)
    refine WL.op rfl (opW.idxV rfl ((hS.sl (v := sv.v) (xs := (rBytes xs 1 s).1) (by first | exact .h0 | exact .h1 | exact .h2 | exact .h3 | exact .h4 | exact .h5 | exact .h6 | exact .h7 | exact .h8 | exact .h9 | exact .h10 | exact .h11 | exact .h12 | exact .h13 | exact .h14))) rfl (by omega) ?_)
    refine WL.op rfl (opW.loadV rfl (((hS.sl (v := sv.v) (xs := (rBytes xs 1 s).1) (by first | exact .h0 | exact .h1 | exact .h2 | exact .h3 | exact .h4 | exact .h5 | exact .h6 | exact .h7 | exact .h8 | exact .h9 | exact .h10 | exact .h11 | exact .h12 | exact .h13 | exact .h14)).pt (List.getElem?_eq_getElem h0)).ld rfl) ?_)
    refine WL.op rfl (opW.assignI rfl ?_)
    refine WL.nil ?_
    refine thenQ_n (hK6 _ _ ?_)
    refine WC.ret ?_
    refine bodyQ_ret (.tmpI rfl .nil) ?_
    exact ⟨a', e', congrArg (fun x : UInt8 => Value.int .u8 (x.toNat : Int)) (head0 _ h0), hs', ha', hS.drop1⟩

theorem tk_short (wb w0 : World) (S : List Ent) (p : Nat) (bs : SlV) (xs : List UInt8) (a : Nat) (e : Int) (s : RS) (hb : SlR wb bs.v xs) (hxl : xs.length ≤ 1000000000) (ha : a ≤ xs.length) (hs : Tk s a e) (hS0 : St wb (tkE p bs a e :: S) w0) : Ret Try.prog 39 #[.pointer (some ⟨p, 0, none⟩)] w0 (fun u w' => ∃ (a' : Nat) (e' : Int), u = .int .i64 ((rShort xs s).1 : Int) ∧ Tk (rShort xs s).2 a' e' ∧ a' ≤ xs.length ∧ St wb (tkE p bs a' e' :: S) w') := by
  refine Ret.enter (args := [.pointer (some ⟨p, 0, none⟩)]) Try.func39 rfl Try.ntmps39 Try.results39 rfl ?_
  have hS := St.start w0
  replace hS := hS0
  have hat : (a : Int) ≤ xs.length := by omega
  refine WC.seq (fun K1 hK1 => ?_)
  refine WC.region ?_
  refine WL.op rfl (opW.assignI rfl ?_)
  refine WL.nil ?_
  refine thenQ_n (hK1 _ _ ?_)
  refine WC.seq (fun K2 hK2 => ?_)
  refine WC.seq (fun K3 hK3 => ?_)
  refine WC.region ?_
  refine WL.op rfl (opW.moveV (v := .pointer (some ⟨p, 0, none⟩)) rfl ?_)
  refine WL.op rfl (opW.nilCheckB rfl ?_)
  refine WL.op rfl (opW.fieldAddrB rfl ?_)
  refine WL.op rfl (opW.loadV rfl (hS.ld1 (by first | exact .h0 | exact .h1 | exact .h2 | exact .h3 | exact .h4 | exact .h5 | exact .h6 | exact .h7 | exact .h8 | exact .h9 | exact .h10 | exact .h11 | exact .h12 | exact .h13 | exact .h14) (show (Enc.enc (⟨bs, (a : Int), e⟩ : Taker))[2]? = some (.int .i64 e) from Taker.at_e _)) ?_)
  refine WL.op rfl (opW.neq rfl rfl ?_)
  refine WL.nil ?_
  refine thenQ_n (hK3 _ _ ?_)
  refine WC.cond _ rfl (fun hc0 => ?_) (fun hc0 => ?_)
  ·
    have hr0 := hc0
    try simp only [decide_eq_true_eq, decide_eq_false_iff_not, Bool.and_eq_true, Bool.or_eq_true, Bool.and_eq_false_iff, Bool.or_eq_false_iff, Bool.not_eq_true', Bool.not_eq_false', Int.not_lt, Int.not_le] at hc0
    have he0 : e ≠ 0 := by simpa using hr0
    obtain rfl := hs.err he0
    refine WC.seq (fun K4 hK4 => ?_)
    refine WC.region ?_
    refine WL.op rfl (opW.assignI rfl ?_)
    refine WL.nil ?_
    refine thenQ_n (hK4 _ _ ?_)
    refine WC.ret ?_
    refine thenQ_r ?_
    refine bodyQ_ret (.tmpI rfl .nil) ?_
    exact ⟨a, e, rfl, hs, ha, hS⟩
  ·
    have hr0 := hc0
    try simp only [decide_eq_true_eq, decide_eq_false_iff_not, Bool.and_eq_true, Bool.or_eq_true, Bool.and_eq_false_iff, Bool.or_eq_false_iff, Bool.not_eq_true', Bool.not_eq_false', Int.not_lt, Int.not_le] at hc0
    obtain rfl : e = 0 := by simpa using hr0
    obtain rfl := hs.fine rfl
    refine WC.skip ?_
    refine thenQ_n (hK2 _ _ ?_)
    refine WC.seq (fun K5 hK5 => ?_)
    refine WC.draw 17 (.look 0 (.look 1 (.look 2 (.look 3 (.look 4 (.look 5 (.look 6 (.look 7 (.look 8 (.one 9 (.look 10 (.look 11 (.look 12 (.look 13 (.look 14 (.look 15 (.look 16 .nil))))))))))))))))) (by kernel_rfl) (fun _ _ _ h => h) (fun w1 hw1 => ?_)
    replace hS := hS.bel hw1
    have hS1 := hS
    have hT := St.start w1
    refine ML.look rfl rfl rfl (fun w hw => (by have hS := hS1.bel hw; exact opW.moveV (v := .pointer (some ⟨p, 0, none⟩)) rfl ⟨rfl, rfl⟩)) ?_
    refine ML.look rfl rfl rfl (fun w hw => (by have hS := hS1.bel hw; exact opW.nilCheckB rfl ⟨rfl, rfl⟩)) ?_
    refine ML.look rfl rfl rfl (fun w hw => (by have hS := hS1.bel hw; exact opW.fieldAddrB rfl ⟨rfl, rfl⟩)) ?_
    refine ML.look rfl rfl rfl (fun w hw => (by have hS := hS1.bel hw; exact opW.loadV rfl (hS.ld1 (by first | exact .h0 | exact .h1 | exact .h2 | exact .h3 | exact .h4 | exact .h5 | exact .h6 | exact .h7 | exact .h8 | exact .h9 | exact .h10 | exact .h11 | exact .h12 | exact .h13 | exact .h14) (show (Enc.enc (⟨bs, (a : Int), 0⟩ : Taker))[0]? = some (bs.v) from Taker.at_b _)) ⟨rfl, rfl⟩)) ?_
    refine ML.look rfl rfl rfl (fun w hw => (by have hS := hS1.bel hw; exact opW.moveV (v := .pointer (some ⟨p, 0, none⟩)) rfl ⟨rfl, rfl⟩)) ?_
    refine ML.look rfl rfl rfl (fun w hw => (by have hS := hS1.bel hw; exact opW.nilCheckB rfl ⟨rfl, rfl⟩)) ?_
    refine ML.look rfl rfl rfl (fun w hw => (by have hS := hS1.bel hw; exact opW.fieldAddrB rfl ⟨rfl, rfl⟩)) ?_
    refine ML.look rfl rfl rfl (fun w hw => (by have hS := hS1.bel hw; exact opW.loadV rfl (hS.ld1 (by first | exact .h0 | exact .h1 | exact .h2 | exact .h3 | exact .h4 | exact .h5 | exact .h6 | exact .h7 | exact .h8 | exact .h9 | exact .h10 | exact .h11 | exact .h12 | exact .h13 | exact .h14) (show (Enc.enc (⟨bs, (a : Int), 0⟩ : Taker))[1]? = some (.int .i64 (a : Int)) from Taker.at_at_ _)) ⟨rfl, rfl⟩)) ?_
    refine ML.look rfl rfl rfl (fun w hw => (by have hS := hS1.bel hw; exact opW.cutS (hb.bel hS.old) (xs := xs) (l := a) (h' := xs.length) (m := capV bs.v) ⟨rfl, Nat.le_refl _⟩ ⟨⟨rfl, rfl⟩, (hb.bel hS.old).cap⟩ ⟨⟨_, rfl⟩, by omega⟩ ⟨rfl, rfl⟩)) ?_
    refine ML.one rfl rfl rfl (opW.call (ref_get_short _ _ (xs.drop a) (by have h1 := (hb.bel hS.old).cut (l := a) (h := xs.length) (m := capV bs.v) (by omega) (by omega) (hb.bel hS.old).cap (Nat.le_refl _); rw [List.take_length] at h1; exact h1)) rfl ?_)
    rintro _ w ⟨rfl, hw⟩; replace hT := hT.bel hw
    refine ⟨hT.old, ?_⟩
    have hS := hS1.merge hT
    try simp only [List.cons_append, List.nil_append] at hS
    refine ML.look rfl rfl rfl (fun w hw => (by have hS := hS1.bel hw; exact opW.moveV (v := .tuple #[.int .i64 (gs (xs.drop a) 0 0).1, .int .i64 (gs (xs.drop a) 0 0).2.1, .int .i64 (gs (xs.drop a) 0 0).2.2]) rfl ⟨rfl, rfl⟩)) ?_
    refine ML.look rfl rfl rfl (fun w hw => (by have hS := hS1.bel hw; exact opW.extract rfl rfl ⟨rfl, rfl⟩)) ?_
    refine ML.look rfl rfl rfl (fun w hw => (by have hS := hS1.bel hw; exact opW.extract rfl rfl ⟨rfl, rfl⟩)) ?_
    refine ML.look rfl rfl rfl (fun w hw => (by have hS := hS1.bel hw; exact opW.extract rfl rfl ⟨rfl, rfl⟩)) ?_
    refine ML.look rfl rfl rfl (fun w hw => (by have hS := hS1.bel hw; exact opW.assignI rfl ⟨rfl, rfl⟩)) ?_
    refine ML.look rfl rfl rfl (fun w hw => (by have hS := hS1.bel hw; exact opW.assignI rfl ⟨rfl, rfl⟩)) ?_
    refine ML.look rfl rfl rfl (fun w hw => (by have hS := hS1.bel hw; exact opW.assignI rfl ⟨rfl, rfl⟩)) ?_
    refine ML.nil ?_
    have hgb := gs_bound (xs.drop a) 0 0 (by omega) (by omega)
    rw [List.length_drop] at hgb
    have hge := gs_err0 (xs.drop a) 0 0
    have hgl : a + (gs (xs.drop a) 0 0).2.1.toNat ≤ xs.length := by
      by_cases h : (gs (xs.drop a) 0 0).2.2 = 0
      · have := hgb.2.2.2 h; omega
      · have := hge h; omega
    refine thenQ_n (hK5 _ _ ?_)
    refine WC.seq (fun K6 hK6 => ?_)
    refine WC.region ?_
    refine WL.op rfl (opW.moveV (v := .pointer (some ⟨p, 0, none⟩)) rfl ?_)
    refine WL.op rfl (opW.moveI rfl ?_)
    refine WL.op rfl (opW.nilCheckB rfl ?_)
    refine WL.op rfl (opW.fieldAddrB rfl ?_)
    refine WL.op0 (opW.storeF (b := p) (o := 2) (v := .int .i64 (gs (xs.drop a) 0 0).2.2) (sz := 1) (cs := Enc.enc (⟨bs, (a : Int), 0⟩ : Taker)) (cs' := Enc.enc (⟨bs, (a : Int), (gs (xs.drop a) 0 0).2.2⟩ : Taker)) hS rfl rfl (by first | exact .h0 | exact .h1 | exact .h2 | exact .h3 | exact .h4 | exact .h5 | exact .h6 | exact .h7 | exact .h8 | exact .h9 | exact .h10 | exact .h11 | exact .h12 | exact .h13 | exact .h14) rfl (by rw [Enc.size_eq]; decide) (one_int _ _) (Taker.set_e (⟨bs, (a : Int), 0⟩ : Taker) _) ?_)
    intro w hS; replace hS := hS _ (by first | exact .h0 | exact .h1 | exact .h2 | exact .h3 | exact .h4 | exact .h5 | exact .h6 | exact .h7 | exact .h8 | exact .h9 | exact .h10 | exact .h11 | exact .h12 | exact .h13 | exact .h14)
    refine WL.nil ?_
    refine thenQ_n (hK6 _ _ ?_)
    refine WC.seq (fun K7 hK7 => ?_)
    refine WC.region ?_
    refine WL.op rfl (opW.moveV (v := .pointer (some ⟨p, 0, none⟩)) rfl ?_)
    refine WL.op rfl (opW.moveV (v := .pointer (some ⟨p, 0, none⟩)) rfl ?_)
    refine WL.op rfl (opW.nilCheckB rfl ?_)
    refine WL.op rfl (opW.fieldAddrB rfl ?_)
    refine WL.op rfl (opW.loadV rfl (hS.ld1 (by first | exact .h0 | exact .h1 | exact .h2 | exact .h3 | exact .h4 | exact .h5 | exact .h6 | exact .h7 | exact .h8 | exact .h9 | exact .h10 | exact .h11 | exact .h12 | exact .h13 | exact .h14) (show (Enc.enc (⟨bs, (a : Int), (gs (xs.drop a) 0 0).2.2⟩ : Taker))[1]? = some (.int .i64 (a : Int)) from Taker.at_at_ _)) ?_)
    refine WL.op rfl (opW.moveI rfl ?_)
    refine WL.op rfl (opW.add rfl rfl (wrap_i64 (by omega)) ?_)
    refine WL.op rfl (opW.nilCheckB rfl ?_)
    refine WL.op rfl (opW.fieldAddrB rfl ?_)
    refine WL.op0 (opW.storeF (b := p) (o := 1) (v := .int .i64 ((a : Int) + (gs (xs.drop a) 0 0).2.1)) (sz := 1) (cs := Enc.enc (⟨bs, (a : Int), (gs (xs.drop a) 0 0).2.2⟩ : Taker)) (cs' := Enc.enc (⟨bs, ((a + (gs (xs.drop a) 0 0).2.1.toNat : Nat) : Int), (gs (xs.drop a) 0 0).2.2⟩ : Taker)) hS rfl rfl (by first | exact .h0 | exact .h1 | exact .h2 | exact .h3 | exact .h4 | exact .h5 | exact .h6 | exact .h7 | exact .h8 | exact .h9 | exact .h10 | exact .h11 | exact .h12 | exact .h13 | exact .h14) rfl (by rw [Enc.size_eq]; decide) (one_int _ _) (by rw [show (((a + (gs (xs.drop a) 0 0).2.1.toNat : Nat) : Int)) = (a : Int) + (gs (xs.drop a) 0 0).2.1 from by omega]; exact Taker.set_at_ (⟨bs, (a : Int), (gs (xs.drop a) 0 0).2.2⟩ : Taker) _) ?_)
    intro w hS; replace hS := hS _ (by first | exact .h0 | exact .h1 | exact .h2 | exact .h3 | exact .h4 | exact .h5 | exact .h6 | exact .h7 | exact .h8 | exact .h9 | exact .h10 | exact .h11 | exact .h12 | exact .h13 | exact .h14)
    refine WL.nil ?_
    refine thenQ_n (hK7 _ _ ?_)
    refine WC.seq (fun K8 hK8 => ?_)
    refine WC.region ?_
    refine WL.op rfl (opW.moveI rfl ?_)
    refine WL.op rfl (opW.assignI rfl ?_)
    refine WL.nil ?_
    refine thenQ_n (hK8 _ _ ?_)
    refine WC.ret ?_
    refine bodyQ_ret (.tmpI rfl .nil) ?_
    refine ⟨_, _, congrArg (Value.int .i64) (show (gs (xs.drop a) 0 0).1 = (((gs (xs.drop a) 0 0).1.toNat : Nat) : Int) from by omega), ?_, hgl, hS⟩
    rw [rShort_ok]
    split
    · rename_i h; exact ⟨rfl, h⟩
    · rename_i h; exact ⟨rfl, h⟩

theorem tk_key (wb w0 : World) (S : List Ent) (p : Nat) (bs : SlV) (xs : List UInt8) (a : Nat) (e : Int) (s : RS) (hb : SlR wb bs.v xs) (hxl : xs.length ≤ 1000000000) (ha : a ≤ xs.length) (hs : Tk s a e) (hS0 : St wb (tkE p bs a e :: S) w0) : Ret Try.prog 40 #[.pointer (some ⟨p, 0, none⟩)] w0 (fun u w' => ∃ (a' : Nat) (e' : Int), u = .agg (Enc.enc (rKey xs s).1) ∧ Tk (rKey xs s).2 a' e' ∧ a' ≤ xs.length ∧ St wb (tkE p bs a' e' :: S) w') := by
  refine Ret.enter (args := [.pointer (some ⟨p, 0, none⟩)]) Try.func40 rfl Try.ntmps40 Try.results40 rfl ?_
  have hS := St.start w0
  replace hS := hS0
  refine WC.seq (fun K1 hK1 => ?_)
  refine WC.region ?_
  refine WL.op rfl (opW.allocA hS ?_)
  intro b2 w _ hS
  refine WL.nil ?_
  refine thenQ_n (hK1 _ _ ?_)
  refine WC.seq (fun K2 hK2 => ?_)
  refine WC.region ?_
  refine WL.op rfl (opW.allocA hS ?_)
  intro b3 w _ hS
  rw [← enc_vz] at hS
  refine WL.nil ?_
  refine thenQ_n (hK2 _ _ ?_)
  refine WC.seq (fun K3 hK3 => ?_)
  refine WC.drawI 4 (.look 0 (.look 1 (.one 2 (.one 3 .nil)))) (by kernel_rfl) (fun _ _ _ h => h) (fun w1 hw1 => ?_)
  replace hS := hS.bel hw1
  have hS1 := hS
  refine ⟨fun _ => True, trivial, ?_⟩
  refine ML.look rfl rfl rfl (fun w hw => (by skip; exact opW.cutArrO rfl ⟨rfl, rfl⟩)) ?_
  refine ML.look rfl rfl rfl (fun w hw => (by skip; exact opW.moveV (v := .pointer (some ⟨p, 0, none⟩)) rfl ⟨rfl, rfl⟩)) ?_
  refine ML.one rfl rfl rfl (opW.call (tk_bytes _ _ _ p bs xs a e s hb hxl ha hs 32 (by omega) (hS.pick (by first | exact .h0 | exact .h1 | exact .h2 | exact .h3 | exact .h4 | exact .h5 | exact .h6 | exact .h7 | exact .h8 | exact .h9 | exact .h10 | exact .h11 | exact .h12 | exact .h13 | exact .h14))) rfl ?_)
  rintro _ w ⟨sv, a', e', rfl, hs', ha', hS⟩
  have hlen := rBytes_len xs 32 s
  refine ⟨trivial, ?_⟩
  refine ML.one rfl rfl rfl (opW.copyKey (b := b3) (ys := (rBytes xs 32 s).1) hS rfl (by first | exact .h0 | exact .h1 | exact .h2 | exact .h3 | exact .h4 | exact .h5 | exact .h6 | exact .h7 | exact .h8 | exact .h9 | exact .h10 | exact .h11 | exact .h12 | exact .h13 | exact .h14) (hS.sl (v := sv.v) (xs := (rBytes xs 32 s).1) (by first | exact .h0 | exact .h1 | exact .h2 | exact .h3 | exact .h4 | exact .h5 | exact .h6 | exact .h7 | exact .h8 | exact .h9 | exact .h10 | exact .h11 | exact .h12 | exact .h13 | exact .h14)) hlen ?_)
  intro w hS; replace hS := hS _ (by first | exact .h0 | exact .h1 | exact .h2 | exact .h3 | exact .h4 | exact .h5 | exact .h6 | exact .h7 | exact .h8 | exact .h9 | exact .h10 | exact .h11 | exact .h12 | exact .h13 | exact .h14)
  refine ⟨trivial, ?_⟩
  refine ML.nil ?_
  refine thenQ_n (hK3 _ _ ?_)
  refine WC.seq (fun K4 hK4 => ?_)
  refine WC.region ?_
  refine WL.op rfl (opW.loadV rfl (hS.ldA (cs := Enc.enc (vecOf 32 (rBytes xs 32 s).1)) (by first | exact .h0 | exact .h1 | exact .h2 | exact .h3 | exact .h4 | exact .h5 | exact .h6 | exact .h7 | exact .h8 | exact .h9 | exact .h10 | exact .h11 | exact .h12 | exact .h13 | exact .h14) (Enc.size_eq _)) ?_)
  refine WL.op0 (opW.storeE hS rfl rfl (by first | exact .h0 | exact .h1 | exact .h2 | exact .h3 | exact .h4 | exact .h5 | exact .h6 | exact .h7 | exact .h8 | exact .h9 | exact .h10 | exact .h11 | exact .h12 | exact .h13 | exact .h14) (by first | rfl | exact Enc.size_eq _) ?_)
  intro w hS; replace hS := hS _ (by first | exact .h0 | exact .h1 | exact .h2 | exact .h3 | exact .h4 | exact .h5 | exact .h6 | exact .h7 | exact .h8 | exact .h9 | exact .h10 | exact .h11 | exact .h12 | exact .h13 | exact .h14)
  refine WL.nil ?_
  refine thenQ_n (hK4 _ _ ?_)
  refine WC.ret ?_
  refine bodyQ_ret (.cell (by first | exact hS.ldA (by first | exact .h0 | exact .h1 | exact .h2 | exact .h3 | exact .h4 | exact .h5 | exact .h6 | exact .h7 | exact .h8 | exact .h9 | exact .h10 | exact .h11 | exact .h12 | exact .h13 | exact .h14) (by first | rfl | exact Enc.size_eq _) | exact hS.ld1 (by first | exact .h0 | exact .h1 | exact .h2 | exact .h3 | exact .h4 | exact .h5 | exact .h6 | exact .h7 | exact .h8 | exact .h9 | exact .h10 | exact .h11 | exact .h12 | exact .h13 | exact .h14) rfl) .nil) ?_
  refine ⟨a', e', rfl, hs', ha', ?_⟩
  exact (hS.pick (e := tkE p bs a' e') (by first | exact .h0 | exact .h1 | exact .h2 | exact .h3 | exact .h4 | exact .h5 | exact .h6 | exact .h7 | exact .h8 | exact .h9 | exact .h10 | exact .h11 | exact .h12 | exact .h13 | exact .h14)).sub (by repeat (first | with_reducible exact List.nil_sublist _ | with_reducible exact List.Sublist.refl _ | with_reducible refine List.Sublist.cons₂ _ ?_ | with_reducible refine List.Sublist.cons _ ?_))

end Go.Fer
