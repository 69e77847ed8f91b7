/- the document: takers, Get -/
import Derived.Test.YtmiacbnmifejdaaD
import Derived.Test.YtmiacbnmifejdaaI
import Derived.Test.YtmiacbnmifejdaaG
set_option linter.all false
namespace Go.Fer
open Go Go.Proofs Go.RowKit

structure Taker where
  b : SlV
  at_ : Int
  e : Int
def Taker.parts (x : Taker) : List (Array Value) := [#[x.b.v], #[.int .i64 x.at_], #[.int .i64 x.e]]
theorem Taker.sizes (x : Taker) : x.parts.map Array.size = [1, 1, 1] := by
  simp only [Taker.parts, List.map, Enc.size_eq]; rfl
instance : Enc Taker where
  enc x := joinA x.parts
  sz := 3
  pos := by omega
  size_eq x := by rw [joinA_size, Taker.sizes]; rfl
  one x := joinA_one (all_cons (Enc.one (α := SlV) _) (all_cons (one_int _ _) (all_cons (one_int _ _) all_nil)))
theorem Taker.enc_eq (x : Taker) : Enc.enc x = joinA x.parts := rfl
theorem Taker.at_b (x : Taker) : (Enc.enc x)[0]? = some (x.b.v) := joinA_at [] [#[.int .i64 x.at_], #[.int .i64 x.e]] _ (by rw [joinA_size]; simp only [List.map, Enc.size_eq]; rfl)
theorem Taker.at_at_ (x : Taker) : (Enc.enc x)[1]? = some (.int .i64 x.at_) := joinA_at [#[x.b.v]] [#[.int .i64 x.e]] _ (by rw [joinA_size]; simp only [List.map, Enc.size_eq]; rfl)
theorem Taker.at_e (x : Taker) : (Enc.enc x)[2]? = some (.int .i64 x.e) := joinA_at [#[x.b.v], #[.int .i64 x.at_]] [] _ (by rw [joinA_size]; simp only [List.map, Enc.size_eq]; rfl)
theorem Taker.set_b (x : Taker) (v : SlV) : spl (Enc.enc x) 0 #[v.v] = Enc.enc { x with b := v } := by
  have h := spl_join [] [#[.int .i64 x.at_], #[.int .i64 x.e]] (#[x.b.v]) (#[v.v]) (by first | (rw [Enc.size_eq, Enc.size_eq]; done) | rfl)
  rw [show (joinA []).size = 0 from (by rw [joinA_size]; simp only [List.map, Enc.size_eq]; rfl)] at h
  exact h
theorem Taker.set_at_ (x : Taker) (v : Int) : spl (Enc.enc x) 1 #[.int .i64 v] = Enc.enc { x with at_ := v } := by
  have h := spl_join [#[x.b.v]] [#[.int .i64 x.e]] (#[.int .i64 x.at_]) (#[.int .i64 v]) (by first | (rw [Enc.size_eq, Enc.size_eq]; done) | rfl)
  rw [show (joinA [#[x.b.v]]).size = 1 from (by rw [joinA_size]; simp only [List.map, Enc.size_eq]; rfl)] at h
  exact h
theorem Taker.set_e (x : Taker) (v : Int) : spl (Enc.enc x) 2 #[.int .i64 v] = Enc.enc { x with e := v } := by
  have h := spl_join [#[x.b.v], #[.int .i64 x.at_]] [] (#[.int .i64 x.e]) (#[.int .i64 v]) (by first | (rw [Enc.size_eq, Enc.size_eq]; done) | rfl)
  rw [show (joinA [#[x.b.v], #[.int .i64 x.at_]]).size = 2 from (by rw [joinA_size]; simp only [List.map, Enc.size_eq]; rfl)] at h
  exact h
def Taker.ok (w : World) (x : Taker) : Prop := (∃ l : List (UInt8), SlR w x.b.v l ∧ ∀ e ∈ l, True) ∧ (-9223372036854775808 ≤ x.at_ ∧ x.at_ ≤ 9223372036854775807) ∧ (-9223372036854775808 ≤ x.e ∧ x.e ≤ 9223372036854775807)
theorem Taker.ok.bel {w w' : World} {x : Taker} (hb : Bel w w') (h : Taker.ok w x) : Taker.ok w' x := by
  unfold Taker.ok at h ⊢
  obtain ⟨⟨l0, g0⟩, g1, g2⟩ := h
  exact ⟨(⟨_, g0.1.bel hb, fun e he => trivial⟩), (g1), (g2)⟩
theorem rdw_Taker : RdW Try.prog 111 Taker Taker.ok := by
  intro H enc w fuel cs d ps hr
  obtain ⟨hend, fuel', hf⟩ := rdS Try.underlying111 inferInstance hr
  obtain ⟨d0, ps0, h0⟩ := hf 0 _ 37 0 1 rfl rfl rfl inferInstance
  obtain ⟨x0, e0, i0⟩ := rd_slv (α := UInt8) inferInstance rdw_u8 inferInstance h0
  obtain ⟨d1, ps1, h1⟩ := hf 1 _ 3 1 1 rfl rfl rfl inferInstance
  obtain ⟨x1, e1, i1⟩ := rd_i64' inferInstance h1
  obtain ⟨d2, ps2, h2⟩ := hf 2 _ 38 2 1 rfl rfl rfl inferInstance
  obtain ⟨x2, e2, i2⟩ := rd_i64' inferInstance h2
  have k2 := cells_cut e2 hend
  have k1 := cells_cut e1 k2
  have k0 := cells_cut e0 k1
  refine ⟨⟨x0, x1, x2⟩, ?_, ⟨i0, i1, i2⟩⟩
  rw [Taker.enc_eq]; simp only [Taker.parts, joinA_toList_cons, joinA_nil]
  rw [List.drop_zero] at k0; rw [k0]; try simp

/-- a taker, as a reader that goes on -/
def Tk : RS → Nat → Int → Prop
  | .ok x, a, e => a = x ∧ e = 0
  | .error x, _, e => e = x ∧ e ≠ 0
theorem Tk.err {s : RS} {a : Nat} {e : Int} (h : Tk s a e) (he : e ≠ 0) : s = .error e := by
  cases s with
  | ok x => exact absurd h.2 he
  | error x => rw [h.1]
theorem Tk.fine {s : RS} {a : Nat} {e : Int} (h : Tk s a e) (he : e = 0) : s = .ok a := by
  cases s with
  | ok x => rw [h.1]
  | error x => exact absurd he h.2
abbrev tkE (p : Nat) (bs : SlV) (a : Nat) (e : Int) : Ent := blkE p (Enc.enc (⟨bs, (a : Int), e⟩ : Taker)) 111
theorem Turn.self {e : Ent} {S S' : List Ent} (h : Turn e e S S') : S' = S := by
  induction h with
  | here => rfl
  | there h ih => rw [ih]
theorem vecOf_nil : vecOf 32 [] = vz 32 := by unfold vecOf; rw [dif_neg (by decide)]
theorem opW.copyKey {P : Program} {f : Fr} {w w0 : World} {S : List Ent} {R : Value → World → Prop} {d : Option Tmp} {T : TypeId} {pos : String} {af : Array Edge} {gd : Option (Nat × Bool)} {t t' E T' b : Nat} {x y : Operand} {ys : List UInt8} [ht : SliceT P t E] [hs : SizeT P E (Enc.sz UInt8)] (hS : St w0 S w) (hx : ev f x = .slice (some ⟨b, 0, none⟩) 32 32) (he : Has (blkE b (Enc.enc (vz 32)) T') S) (hy : SlR w (ev f y) ys) (hl : ys.length = 32 ∨ ys = [])
    (h : ∀ w', (∀ S', Turn (blkE b (Enc.enc (vz 32)) T') (blkE b (Enc.enc (vecOf 32 ys)) T') S S' → St w0 S' w') → R (.int .i64 (ys.length : Int)) w') : opW P f ⟨d, .call { callee := .builtin .copy, args := #[x, y], argTypes := #[t, t'] }, T, pos, af, gd⟩ w R := by
  rcases hl with hl | rfl
  · refine opW.copyBlk hS hx he hy hl (by omega) (by rw [Enc.size_eq]; exact Nat.le_refl 32) ?_ h
    rw [flat_key (n := 31) hl]
    exact spl_all (by rw [Enc.size_eq, Enc.size_eq])
  · obtain ⟨i, hi, hisz⟩ : ∃ i, P.info? E = some i ∧ i.size = Enc.sz UInt8 := by
      have h1 := hs.out
      cases hi : P.info? E with
      | none => simp [hi] at h1
      | some i => simp [hi] at h1; exact ⟨i, rfl, h1⟩
    obtain ⟨a, c, hu, hc1, hc2, hc3, hrow⟩ := hy
    refine opW.of_run (v := .int .i64 0) (w' := w) ?_ (h w fun S' hT => by rw [vecOf_nil] at hT; rw [hT.self]; exact hS)
    have e1 : (Builtin.firstCells (Enc.sz UInt8) 0 (.slice a 0 c)).run P w = .ok #[] w := by
      cases a with
      | none => simp [Builtin.firstCells]
      | some ad =>
        have hld := run_loadCells_list (P := P) w ad [] (by simp)
        simp [Builtin.firstCells] at hld ⊢
        exact hld
    have hst := run_storeCells_at P b 0 T' [] 0 (Enc.enc (vz 32)) w (hS.blk he) (by simp) (by simp)
    have hst2 : (storeCells ⟨b, 0, none⟩ []).run P w = .ok () w := by simp [storeCells]
    simp only [List.length_nil] at hu
    simp [execOp, resolve, Go.invoke, builtin, hx, hu, Builtin.copy_, run_underlying ht.out, Builtin.lenOf, sizeOf, typeInfo, hi, hisz, goInt, e1, hst2]
theorem rBytes_len (xs : List UInt8) (n : Nat) (s : RS) : (rBytes xs n s).1.length = n ∨ (rBytes xs n s).1 = [] := by
  cases s with
  | error e => exact .inr rfl
  | ok a =>
    rw [rBytes_ok]
    split
    · left; rw [List.length_take, List.length_drop]; omega
    · exact .inr rfl

theorem tk_bytes (wb w0 : World) (S : List Ent) (p : Nat) (bs : SlV) (xs : List UInt8) (a : Nat) (e : Int) (s : RS) (hb : SlR wb bs.v xs) (hxl : xs.length ≤ 1000000000) (ha : a ≤ xs.length) (hs : Tk s a e) (n : Nat) (hn : n ≤ 1000000) (hS0 : St wb (tkE p bs a e :: S) w0) : Ret Try.prog 66 #[.pointer (some ⟨p, 0, none⟩), .int .i64 (n : Int)] w0 (fun u w' => ∃ (sv : SlV) (a' : Nat) (e' : Int), u = sv.v ∧ Tk (rBytes xs n s).2 a' e' ∧ a' ≤ xs.length ∧ St wb (ownE sv.v 5 (rBytes xs n s).1 :: tkE p bs a' e' :: S) w') := by
  refine Ret.enter (args := [.pointer (some ⟨p, 0, none⟩), .int .i64 (n : Int)]) Try.func66 rfl Try.ntmps66 Try.results66 rfl ?_
  have hS := St.start w0
  replace hS := hS0
  have hat : (a : Int) ≤ xs.length := by omega
  refine WC.seq (fun K1 hK1 => ?_)
  refine WC.region ?_
  refine WL.op rfl (opW.assignV (v := .slice none 0 0) rfl ?_)
  refine WL.nil ?_
  refine thenQ_n (hK1 _ _ ?_)
  refine WC.seq (fun K2 hK2 => ?_)
  refine WC.seq (fun K3 hK3 => ?_)
  refine WC.region ?_
  refine WL.op rfl (opW.moveV (v := .pointer (some ⟨p, 0, none⟩)) rfl ?_)
  refine WL.op rfl (opW.nilCheckB rfl ?_)
  refine WL.op rfl (opW.fieldAddrB rfl ?_)
  refine WL.op rfl (opW.loadV rfl (hS.ld1 (by first | exact .h0 | exact .h1 | exact .h2 | exact .h3 | exact .h4 | exact .h5 | exact .h6 | exact .h7 | exact .h8 | exact .h9 | exact .h10 | exact .h11 | exact .h12 | exact .h13 | exact .h14) (show (Enc.enc (⟨bs, (a : Int), e⟩ : Taker))[2]? = some (.int .i64 e) from Taker.at_e _)) ?_)
  refine WL.op rfl (opW.neq rfl rfl ?_)
  refine WL.nil ?_
  refine thenQ_n (hK3 _ _ ?_)
  refine WC.cond _ rfl (fun hc0 => ?_) (fun hc0 => ?_)
  ·
    have hr0 := hc0
    try simp only [decide_eq_true_eq, decide_eq_false_iff_not, Bool.and_eq_true, Bool.or_eq_true, Bool.and_eq_false_iff, Bool.or_eq_false_iff, Bool.not_eq_true', Bool.not_eq_false', Int.not_lt, Int.not_le] at hc0
    have he0 : e ≠ 0 := by simpa using hr0
    obtain rfl := hs.err he0
    refine WC.seq (fun K4 hK4 => ?_)
    refine WC.region ?_
    refine WL.op rfl (opW.assignV (v := .slice none 0 0) rfl ?_)
    refine WL.nil ?_
    refine thenQ_n (hK4 _ _ ?_)
    refine WC.ret ?_
    refine thenQ_r ?_
    refine bodyQ_ret (.tmpV (v := .slice none 0 0) rfl .nil) ?_
    exact ⟨⟨none, 0, 0⟩, a, e, rfl, hs, ha, hS.nilOwn 5⟩
  ·
    have hr0 := hc0
    try simp only [decide_eq_true_eq, decide_eq_false_iff_not, Bool.and_eq_true, Bool.or_eq_true, Bool.and_eq_false_iff, Bool.or_eq_false_iff, Bool.not_eq_true', Bool.not_eq_false', Int.not_lt, Int.not_le] at hc0
    obtain rfl : e = 0 := by simpa using hr0
    obtain rfl := hs.fine rfl
    refine WC.skip ?_
    refine thenQ_n (hK2 _ _ ?_)
    refine WC.seq (fun K5 hK5 => ?_)
    refine WC.seq (fun K6 hK6 => ?_)
    refine WC.draw 12 (.look 0 (.look 1 (.look 2 (.look 3 (.look 4 (.look 5 (.look 6 (.look 7 (.look 8 (.look 9 (.look 10 (.look 11 .nil)))))))))))) (by kernel_rfl) (fun _ _ _ h => h) (fun w1 hw1 => ?_)
    replace hS := hS.bel hw1
    have hS1 := hS
    have hT := St.start w1
    refine ML.look rfl rfl rfl (fun w hw => (by have hS := hS1.bel hw; exact opW.moveI rfl ⟨rfl, rfl⟩)) ?_
    refine ML.look rfl rfl rfl (fun w hw => (by have hS := hS1.bel hw; exact opW.moveV (v := .pointer (some ⟨p, 0, none⟩)) rfl ⟨rfl, rfl⟩)) ?_
    refine ML.look rfl rfl rfl (fun w hw => (by have hS := hS1.bel hw; exact opW.nilCheckB rfl ⟨rfl, rfl⟩)) ?_
    refine ML.look rfl rfl rfl (fun w hw => (by have hS := hS1.bel hw; exact opW.fieldAddrB rfl ⟨rfl, rfl⟩)) ?_
    refine ML.look rfl rfl rfl (fun w hw => (by have hS := hS1.bel hw; exact opW.loadV rfl (hS.ld1 (by first | exact .h0 | exact .h1 | exact .h2 | exact .h3 | exact .h4 | exact .h5 | exact .h6 | exact .h7 | exact .h8 | exact .h9 | exact .h10 | exact .h11 | exact .h12 | exact .h13 | exact .h14) (show (Enc.enc (⟨bs, (a : Int), 0⟩ : Taker))[0]? = some (bs.v) from Taker.at_b _)) ⟨rfl, rfl⟩)) ?_
    refine ML.look rfl rfl rfl (fun w hw => (by have hS := hS1.bel hw; exact opW.lenV rfl ((hb.bel hS.old)) ⟨rfl, rfl⟩)) ?_
    refine ML.look rfl rfl rfl (fun w hw => (by have hS := hS1.bel hw; exact opW.moveV (v := .pointer (some ⟨p, 0, none⟩)) rfl ⟨rfl, rfl⟩)) ?_
    refine ML.look rfl rfl rfl (fun w hw => (by have hS := hS1.bel hw; exact opW.nilCheckB rfl ⟨rfl, rfl⟩)) ?_
    refine ML.look rfl rfl rfl (fun w hw => (by have hS := hS1.bel hw; exact opW.fieldAddrB rfl ⟨rfl, rfl⟩)) ?_
    refine ML.look rfl rfl rfl (fun w hw => (by have hS := hS1.bel hw; exact opW.loadV rfl (hS.ld1 (by first | exact .h0 | exact .h1 | exact .h2 | exact .h3 | exact .h4 | exact .h5 | exact .h6 | exact .h7 | exact .h8 | exact .h9 | exact .h10 | exact .h11 | exact .h12 | exact .h13 | exact .h14) (show (Enc.enc (⟨bs, (a : Int), 0⟩ : Taker))[1]? = some (.int .i64 (a : Int)) from Taker.at_at_ _)) ⟨rfl, rfl⟩)) ?_
    refine ML.look rfl rfl rfl (fun w hw => (by have hS := hS1.bel hw; exact opW.sub rfl rfl (wrap_i64 (by omega)) ⟨rfl, rfl⟩)) ?_
    refine ML.look rfl rfl rfl (fun w hw => (by have hS := hS1.bel hw; exact opW.gtr rfl rfl ⟨rfl, rfl⟩)) ?_
    refine ML.nil ?_
    refine thenQ_n (hK6 _ _ ?_)
    refine WC.cond _ rfl (fun hc1 => ?_) (fun hc1 => ?_)
    ·
      have hr1 := hc1
      try simp only [decide_eq_true_eq, decide_eq_false_iff_not, Bool.and_eq_true, Bool.or_eq_true, Bool.and_eq_false_iff, Bool.or_eq_false_iff, Bool.not_eq_true', Bool.not_eq_false', Int.not_lt, Int.not_le] at hc1
      have hnl : ¬ n ≤ xs.length - a := by omega
      have e1 : rBytes xs n (.ok a) = ([], .error 5) := by rw [rBytes_ok, if_neg hnl]
      refine WC.seq (fun K7 hK7 => ?_)
      refine WC.region ?_
      refine WL.op rfl (opW.moveV (v := .pointer (some ⟨p, 0, none⟩)) rfl ?_)
      refine WL.op rfl (opW.nilCheckB rfl ?_)
      refine WL.op rfl (opW.fieldAddrB rfl ?_)
      refine WL.op0 (opW.storeF (b := p) (o := 2) (v := .int .i64 5) (sz := 1) (cs := Enc.enc (⟨bs, (a : Int), 0⟩ : Taker)) (cs' := Enc.enc (⟨bs, (a : Int), 5⟩ : Taker)) hS rfl rfl (by first | exact .h0 | exact .h1 | exact .h2 | exact .h3 | exact .h4 | exact .h5 | exact .h6 | exact .h7 | exact .h8 | exact .h9 | exact .h10 | exact .h11 | exact .h12 | exact .h13 | exact .h14) rfl (by rw [Enc.size_eq]; decide) (one_int _ _) (Taker.set_e (⟨bs, (a : Int), 0⟩ : Taker) _) ?_)
      intro w hS; replace hS := hS _ (by first | exact .h0 | exact .h1 | exact .h2 | exact .h3 | exact .h4 | exact .h5 | exact .h6 | exact .h7 | exact .h8 | exact .h9 | exact .h10 | exact .h11 | exact .h12 | exact .h13 | exact .h14)
      refine WL.nil ?_
      refine thenQ_n (hK7 _ _ ?_)
      refine WC.seq (fun K8 hK8 => ?_)
      refine WC.region ?_
      refine WL.op rfl (opW.assignV (v := .slice none 0 0) rfl ?_)
      refine WL.nil ?_
      refine thenQ_n (hK8 _ _ ?_)
      refine WC.ret ?_
      refine thenQ_r ?_
      refine bodyQ_ret (.tmpV (v := .slice none 0 0) rfl .nil) ?_
      rw [e1]
      exact ⟨⟨none, 0, 0⟩, a, 5, rfl, ⟨rfl, by decide⟩, ha, hS.nilOwn 5⟩
    ·
      have hr1 := hc1
      try simp only [decide_eq_true_eq, decide_eq_false_iff_not, Bool.and_eq_true, Bool.or_eq_true, Bool.and_eq_false_iff, Bool.or_eq_false_iff, Bool.not_eq_true', Bool.not_eq_false', Int.not_lt, Int.not_le] at hc1
      have hnl : n ≤ xs.length - a := by omega
      have e1 : rBytes xs n (.ok a) = ((xs.drop a).take n, .ok (a + n)) := by rw [rBytes_ok, if_pos hnl]
      refine WC.skip ?_
      refine thenQ_n (hK5 _ _ ?_)
      refine WC.seq (fun K9 hK9 => ?_)
      refine WC.region ?_
      refine WL.op rfl (opW.moveV (v := .pointer (some ⟨p, 0, none⟩)) rfl ?_)
      refine WL.op rfl (opW.moveV (v := .pointer (some ⟨p, 0, none⟩)) rfl ?_)
      refine WL.op rfl (opW.nilCheckB rfl ?_)
      refine WL.op rfl (opW.fieldAddrB rfl ?_)
      refine WL.op rfl (opW.loadV rfl (hS.ld1 (by first | exact .h0 | exact .h1 | exact .h2 | exact .h3 | exact .h4 | exact .h5 | exact .h6 | exact .h7 | exact .h8 | exact .h9 | exact .h10 | exact .h11 | exact .h12 | exact .h13 | exact .h14) (show (Enc.enc (⟨bs, (a : Int), 0⟩ : Taker))[1]? = some (.int .i64 (a : Int)) from Taker.at_at_ _)) ?_)
      refine WL.op rfl (opW.moveI rfl ?_)
      refine WL.op rfl (opW.add rfl rfl (wrap_i64 (by omega)) ?_)
      refine WL.op rfl (opW.nilCheckB rfl ?_)
      refine WL.op rfl (opW.fieldAddrB rfl ?_)
      refine WL.op0 (opW.storeF (b := p) (o := 1) (v := .int .i64 ((a : Int) + (n : Int))) (sz := 1) (cs := Enc.enc (⟨bs, (a : Int), 0⟩ : Taker)) (cs' := Enc.enc (⟨bs, ((a + n : Nat) : Int), 0⟩ : Taker)) hS rfl rfl (by first | exact .h0 | exact .h1 | exact .h2 | exact .h3 | exact .h4 | exact .h5 | exact .h6 | exact .h7 | exact .h8 | exact .h9 | exact .h10 | exact .h11 | exact .h12 | exact .h13 | exact .h14) rfl (by rw [Enc.size_eq]; decide) (one_int _ _) (Taker.set_at_ (⟨bs, (a : Int), 0⟩ : Taker) _) ?_)
      intro w hS; replace hS := hS _ (by first | exact .h0 | exact .h1 | exact .h2 | exact .h3 | exact .h4 | exact .h5 | exact .h6 | exact .h7 | exact .h8 | exact .h9 | exact .h10 | exact .h11 | exact .h12 | exact .h13 | exact .h14)
      refine WL.nil ?_
      refine thenQ_n (hK9 _ _ ?_)
      refine WC.seq (fun K10 hK10 => ?_)
      refine WC.draw 17 (.look 0 (.look 1 (.look 2 (.look 3 (.look 4 (.look 5 (.look 6 (.look 7 (.look 8 (.look 9 (.look 10 (.look 11 (.look 12 (.look 13 (.look 14 (.one 15 (.look 16 .nil))))))))))))))))) (by kernel_rfl) (fun _ _ _ h => h) (fun w1 hw1 => ?_)
      replace hS := hS.bel hw1
      have hS1 := hS
      have hT := St.start w1
      refine ML.look rfl rfl rfl (fun w hw => (by have hS := hS1.bel hw; exact opW.moveV (v := .pointer (some ⟨p, 0, none⟩)) rfl ⟨rfl, rfl⟩)) ?_
      refine ML.look rfl rfl rfl (fun w hw => (by have hS := hS1.bel hw; exact opW.nilCheckB rfl ⟨rfl, rfl⟩)) ?_
      refine ML.look rfl rfl rfl (fun w hw => (by have hS := hS1.bel hw; exact opW.fieldAddrB rfl ⟨rfl, rfl⟩)) ?_
      refine ML.look rfl rfl rfl (fun w hw => (by have hS := hS1.bel hw; exact opW.loadV rfl (hS.ld1 (by first | exact .h0 | exact .h1 | exact .h2 | exact .h3 | exact .h4 | exact .h5 | exact .h6 | exact .h7 | exact .h8 | exact .h9 | exact .h10 | exact .h11 | exact .h12 | exact .h13 | exact .h14) (show (Enc.enc (⟨bs, ((a + n : Nat) : Int), 0⟩ : Taker))[0]? = some (bs.v) from Taker.at_b _)) ⟨rfl, rfl⟩)) ?_
      refine ML.look rfl rfl rfl (fun w hw => (by have hS := hS1.bel hw; exact opW.moveV (v := .pointer (some ⟨p, 0, none⟩)) rfl ⟨rfl, rfl⟩)) ?_
      refine ML.look rfl rfl rfl (fun w hw => (by have hS := hS1.bel hw; exact opW.nilCheckB rfl ⟨rfl, rfl⟩)) ?_
      refine ML.look rfl rfl rfl (fun w hw => (by have hS := hS1.bel hw; exact opW.fieldAddrB rfl ⟨rfl, rfl⟩)) ?_
      refine ML.look rfl rfl rfl (fun w hw => (by have hS := hS1.bel hw; exact opW.loadV rfl (hS.ld1 (by first | exact .h0 | exact .h1 | exact .h2 | exact .h3 | exact .h4 | exact .h5 | exact .h6 | exact .h7 | exact .h8 | exact .h9 | exact .h10 | exact .h11 | exact .h12 | exact .h13 | exact .h14) (show (Enc.enc (⟨bs, ((a + n : Nat) : Int), 0⟩ : Taker))[1]? = some (.int .i64 ((a + n : Nat) : Int)) from Taker.at_at_ _)) ⟨rfl, rfl⟩)) ?_
      refine ML.look rfl rfl rfl (fun w hw => (by have hS := hS1.bel hw; exact opW.moveI rfl ⟨rfl, rfl⟩)) ?_
      refine ML.look rfl rfl rfl (fun w hw => (by have hS := hS1.bel hw; exact opW.sub rfl rfl (sub_back (by omega)) ⟨rfl, rfl⟩)) ?_
      refine ML.look rfl rfl rfl (fun w hw => (by have hS := hS1.bel hw; exact opW.moveV (v := .pointer (some ⟨p, 0, none⟩)) rfl ⟨rfl, rfl⟩)) ?_
      refine ML.look rfl rfl rfl (fun w hw => (by have hS := hS1.bel hw; exact opW.nilCheckB rfl ⟨rfl, rfl⟩)) ?_
      refine ML.look rfl rfl rfl (fun w hw => (by have hS := hS1.bel hw; exact opW.fieldAddrB rfl ⟨rfl, rfl⟩)) ?_
      refine ML.look rfl rfl rfl (fun w hw => (by have hS := hS1.bel hw; exact opW.loadV rfl (hS.ld1 (by first | exact .h0 | exact .h1 | exact .h2 | exact .h3 | exact .h4 | exact .h5 | exact .h6 | exact .h7 | exact .h8 | exact .h9 | exact .h10 | exact .h11 | exact .h12 | exact .h13 | exact .h14) (show (Enc.enc (⟨bs, ((a + n : Nat) : Int), 0⟩ : Taker))[1]? = some (.int .i64 ((a + n : Nat) : Int)) from Taker.at_at_ _)) ⟨rfl, rfl⟩)) ?_
      refine ML.look rfl rfl rfl (fun w hw => (by have hS := hS1.bel hw; exact opW.cutS (hb.bel hS.old) (xs := xs) (l := a) (h' := a + n) (m := capV bs.v) ⟨rfl, Nat.le_refl _⟩ ⟨⟨_, rfl⟩, by have := (hb.bel hS.old).cap; omega⟩ ⟨⟨_, rfl⟩, by omega⟩ ⟨rfl, rfl⟩)) ?_
      refine ML.one rfl rfl rfl (opW.appendNil (α := UInt8) (ys := (xs.drop a).take n) rfl hT rfl (by have h1 := (hb.bel hS.old).cut (l := a) (h := a + n) (m := capV bs.v) (by omega) (by omega) (by have := (hb.bel hS.old).cap; omega) (Nat.le_refl _); rw [List.drop_take, Nat.add_sub_cancel_left] at h1; exact h1) (by rw [List.length_take]; omega) (by rw [List.length_take]; simp only [maxLen]; omega) ?_)
      intro v49 w hw hT
      refine ⟨hT.old, ?_⟩
      have hS := hS1.merge hT
      try simp only [List.cons_append, List.nil_append] at hS
      refine ML.look rfl rfl rfl (fun w hw => (by have hS := hS1.bel hw; exact opW.assignV (v := v49) rfl ⟨rfl, rfl⟩)) ?_
      refine ML.nil ?_
      refine thenQ_n (hK10 _ _ ?_)
      refine WC.ret ?_
      refine bodyQ_ret (.tmpV (v := v49) rfl .nil) ?_
      obtain ⟨s49, rfl⟩ := (hS.sl (v := v49) (xs := (xs.drop a).take n) (by first | exact .h0 | exact .h1 | exact .h2 | exact .h3 | exact .h4 | exact .h5 | exact .h6 | exact .h7 | exact .h8 | exact .h9 | exact .h10 | exact .h11 | exact .h12 | exact .h13 | exact .h14)).asV
      rw [e1]
      exact ⟨s49, a + n, 0, rfl, ⟨rfl, rfl⟩, by omega, hS⟩

theorem tk_byte (wb w0 : World) (S : List Ent) (p : Nat) (bs : SlV) (xs : List UInt8) (a : Nat) (e : Int) (s : RS) (hb : SlR wb bs.v xs) (hxl : xs.length ≤ 1000000000) (ha : a ≤ xs.length) (hs : Tk s a e) (hS0 : St wb (tkE p bs a e :: S) w0) : Ret Try.prog 63 #[.pointer (some ⟨p, 0, none⟩)] w0 (fun u w' => ∃ (a' : Nat) (e' : Int), u = .int .u8 ((rByte xs s).1.toNat : Int) ∧ Tk (rByte xs s).2 a' e' ∧ a' ≤ xs.length ∧ St wb (tkE p bs a' e' :: S) w') := by
  refine Ret.enter (args := [.pointer (some ⟨p, 0, none⟩)]) Try.func63 rfl Try.ntmps63 Try.results63 rfl ?_
  have hS := St.start w0
  replace hS := hS0
  refine WC.seq (fun K1 hK1 => ?_)
  refine WC.region ?_
  refine WL.op rfl (opW.assignI rfl ?_)
  refine WL.nil ?_
  refine thenQ_n (hK1 _ _ ?_)
  refine WC.seq (fun K2 hK2 => ?_)
  refine WC.region ?_
  refine WL.op rfl (opW.moveV (v := .pointer (some ⟨p, 0, none⟩)) rfl ?_)
  refine WL.op rfl (opW.call (tk_bytes _ _ _ p bs xs a e s hb hxl ha hs 1 (by omega) hS) rfl ?_)
  rintro _ w ⟨sv, a', e', rfl, hs', ha', hS⟩
  have hlen := rBytes_len xs 1 s
  refine WL.op rfl (opW.assignV (v := sv.v) rfl ?_)
  refine WL.nil ?_
  refine thenQ_n (hK2 _ _ ?_)
  refine WC.seq (fun K3 hK3 => ?_)
  refine WC.seq (fun K4 hK4 => ?_)
  refine WC.region ?_
  refine WL.op rfl (opW.moveV (v := sv.v) rfl ?_)
  refine WL.op rfl (opW.lenV rfl ((hS.sl (v := sv.v) (xs := (rBytes xs 1 s).1) (by first | exact .h0 | exact .h1 | exact .h2 | exact .h3 | exact .h4 | exact .h5 | exact .h6 | exact .h7 | exact .h8 | exact .h9 | exact .h10 | exact .h11 | exact .h12 | exact .h13 | exact .h14))) ?_)
  refine WL.op rfl (opW.eql rfl rfl ?_)
  refine WL.nil ?_
  refine thenQ_n (hK4 _ _ ?_)
  refine WC.cond _ rfl (fun hc0 => ?_) (fun hc0 => ?_)
  ·
    have hr0 := hc0
    try simp only [decide_eq_true_eq, decide_eq_false_iff_not, Bool.and_eq_true, Bool.or_eq_true, Bool.and_eq_false_iff, Bool.or_eq_false_iff, Bool.not_eq_true', Bool.not_eq_false', Int.not_lt, Int.not_le] at hc0
    have h0 : (rBytes xs 1 s).1 = [] := List.eq_nil_of_length_eq_zero (by omega)
    refine WC.seq (fun K5 hK5 => ?_)
    refine WC.region ?_
    refine WL.op rfl (opW.assignI rfl ?_)
    refine WL.nil ?_
    refine thenQ_n (hK5 _ _ ?_)
    refine WC.ret ?_
    refine thenQ_r ?_
    refine bodyQ_ret (.tmpI rfl .nil) ?_
    refine ⟨a', e', ?_, hs', ha', hS.drop1⟩
    unfold rByte; rw [h0]; rfl
  ·
    have hr0 := hc0
    try simp only [decide_eq_true_eq, decide_eq_false_iff_not, Bool.and_eq_true, Bool.or_eq_true, Bool.and_eq_false_iff, Bool.or_eq_false_iff, Bool.not_eq_true', Bool.not_eq_false', Int.not_lt, Int.not_le] at hc0
    have h0 : 0 < (rBytes xs 1 s).1.length := by omega
    refine WC.skip ?_
    refine thenQ_n (hK3 _ _ ?_)
    refine WC.seq (fun K6 hK6 => ?_)
    refine WC.region ?_
    refine WL.op rfl (opW.moveV (v := sv.v) rfl ?_)
    refine WL.op rfl (opW.idxV rfl ((hS.sl (v := sv.v) (xs := (rBytes xs 1 s).1) (by first | exact .h0 | exact .h1 | exact .h2 | exact .h3 | exact .h4 | exact .h5 | exact .h6 | exact .h7 | exact .h8 | exact .h9 | exact .h10 | exact .h11 | exact .h12 | exact .h13 | exact .h14))) rfl (by omega) ?_)
    refine WL.op rfl (opW.loadV rfl (((hS.sl (v := sv.v) (xs := (rBytes xs 1 s).1) (by first | exact .h0 | exact .h1 | exact .h2 | exact .h3 | exact .h4 | exact .h5 | exact .h6 | exact .h7 | exact .h8 | exact .h9 | exact .h10 | exact .h11 | exact .h12 | exact .h13 | exact .h14)).pt (List.getElem?_eq_getElem h0)).ld rfl) ?_)
    refine WL.op rfl (opW.assignI rfl ?_)
    refine WL.nil ?_
    refine thenQ_n (hK6 _ _ ?_)
    refine WC.ret ?_
    refine bodyQ_ret (.tmpI rfl .nil) ?_
    exact ⟨a', e', congrArg (fun x : UInt8 => Value.int .u8 (x.toNat : Int)) (head0 _ h0), hs', ha', hS.drop1⟩

theorem tk_short (wb w0 : World) (S : List Ent) (p : Nat) (bs : SlV) (xs : List UInt8) (a : Nat) (e : Int) (s : RS) (hb : SlR wb bs.v xs) (hxl : xs.length ≤ 1000000000) (ha : a ≤ xs.length) (hs : Tk s a e) (hS0 : St wb (tkE p bs a e :: S) w0) : Ret Try.prog 64 #[.pointer (some ⟨p, 0, none⟩)] w0 (fun u w' => ∃ (a' : Nat) (e' : Int), u = .int .i64 ((rShort xs s).1 : Int) ∧ Tk (rShort xs s).2 a' e' ∧ a' ≤ xs.length ∧ St wb (tkE p bs a' e' :: S) w') := by
  refine Ret.enter (args := [.pointer (some ⟨p, 0, none⟩)]) Try.func64 rfl Try.ntmps64 Try.results64 rfl ?_
  have hS := St.start w0
  replace hS := hS0
  have hat : (a : Int) ≤ xs.length := by omega
  refine WC.seq (fun K1 hK1 => ?_)
  refine WC.region ?_
  refine WL.op rfl (opW.assignI rfl ?_)
  refine WL.nil ?_
  refine thenQ_n (hK1 _ _ ?_)
  refine WC.seq (fun K2 hK2 => ?_)
  refine WC.seq (fun K3 hK3 => ?_)
  refine WC.region ?_
  refine WL.op rfl (opW.moveV (v := .pointer (some ⟨p, 0, none⟩)) rfl ?_)
  refine WL.op rfl (opW.nilCheckB rfl ?_)
  refine WL.op rfl (opW.fieldAddrB rfl ?_)
  refine WL.op rfl (opW.loadV rfl (hS.ld1 (by first | exact .h0 | exact .h1 | exact .h2 | exact .h3 | exact .h4 | exact .h5 | exact .h6 | exact .h7 | exact .h8 | exact .h9 | exact .h10 | exact .h11 | exact .h12 | exact .h13 | exact .h14) (show (Enc.enc (⟨bs, (a : Int), e⟩ : Taker))[2]? = some (.int .i64 e) from Taker.at_e _)) ?_)
  refine WL.op rfl (opW.neq rfl rfl ?_)
  refine WL.nil ?_
  refine thenQ_n (hK3 _ _ ?_)
  refine WC.cond _ rfl (fun hc0 => ?_) (fun hc0 => ?_)
  ·
    have hr0 := hc0
    try simp only [decide_eq_true_eq, decide_eq_false_iff_not, Bool.and_eq_true, Bool.or_eq_true, Bool.and_eq_false_iff, Bool.or_eq_false_iff, Bool.not_eq_true', Bool.not_eq_false', Int.not_lt, Int.not_le] at hc0
    have he0 : e ≠ 0 := by simpa using hr0
    obtain rfl := hs.err he0
    refine WC.seq (fun K4 hK4 => ?_)
    refine WC.region ?_
    refine WL.op rfl (opW.assignI rfl ?_)
    refine WL.nil ?_
    refine thenQ_n (hK4 _ _ ?_)
    refine WC.ret ?_
    refine thenQ_r ?_
    refine bodyQ_ret (.tmpI rfl .nil) ?_
    exact ⟨a, e, rfl, hs, ha, hS⟩
  ·
    have hr0 := hc0
    try simp only [decide_eq_true_eq, decide_eq_false_iff_not, Bool.and_eq_true, Bool.or_eq_true, Bool.and_eq_false_iff, Bool.or_eq_false_iff, Bool.not_eq_true', Bool.not_eq_false', Int.not_lt, Int.not_le] at hc0
    obtain rfl : e = 0 := by simpa using hr0
    obtain rfl := hs.fine rfl
    refine WC.skip ?_
    refine thenQ_n (hK2 _ _ ?_)
    refine WC.seq (fun K5 hK5 => ?_)
    refine WC.draw 17 (.look 0 (.look 1 (.look 2 (.look 3 (.look 4 (.look 5 (.look 6 (.look 7 (.look 8 (.one 9 (.look 10 (.look 11 (.look 12 (.look 13 (.look 14 (.look 15 (.look 16 .nil))))))))))))))))) (by kernel_rfl) (fun _ _ _ h => h) (fun w1 hw1 => ?_)
    replace hS := hS.bel hw1
    have hS1 := hS
    have hT := St.start w1
    refine ML.look rfl rfl rfl (fun w hw => (by have hS := hS1.bel hw; exact opW.moveV (v := .pointer (some ⟨p, 0, none⟩)) rfl ⟨rfl, rfl⟩)) ?_
    refine ML.look rfl rfl rfl (fun w hw => (by have hS := hS1.bel hw; exact opW.nilCheckB rfl ⟨rfl, rfl⟩)) ?_
    refine ML.look rfl rfl rfl (fun w hw => (by have hS := hS1.bel hw; exact opW.fieldAddrB rfl ⟨rfl, rfl⟩)) ?_
    refine ML.look rfl rfl rfl (fun w hw => (by have hS := hS1.bel hw; exact opW.loadV rfl (hS.ld1 (by first | exact .h0 | exact .h1 | exact .h2 | exact .h3 | exact .h4 | exact .h5 | exact .h6 | exact .h7 | exact .h8 | exact .h9 | exact .h10 | exact .h11 | exact .h12 | exact .h13 | exact .h14) (show (Enc.enc (⟨bs, (a : Int), 0⟩ : Taker))[0]? = some (bs.v) from Taker.at_b _)) ⟨rfl, rfl⟩)) ?_
    refine ML.look rfl rfl rfl (fun w hw => (by have hS := hS1.bel hw; exact opW.moveV (v := .pointer (some ⟨p, 0, none⟩)) rfl ⟨rfl, rfl⟩)) ?_
    refine ML.look rfl rfl rfl (fun w hw => (by have hS := hS1.bel hw; exact opW.nilCheckB rfl ⟨rfl, rfl⟩)) ?_
    refine ML.look rfl rfl rfl (fun w hw => (by have hS := hS1.bel hw; exact opW.fieldAddrB rfl ⟨rfl, rfl⟩)) ?_
    refine ML.look rfl rfl rfl (fun w hw => (by have hS := hS1.bel hw; exact opW.loadV rfl (hS.ld1 (by first | exact .h0 | exact .h1 | exact .h2 | exact .h3 | exact .h4 | exact .h5 | exact .h6 | exact .h7 | exact .h8 | exact .h9 | exact .h10 | exact .h11 | exact .h12 | exact .h13 | exact .h14) (show (Enc.enc (⟨bs, (a : Int), 0⟩ : Taker))[1]? = some (.int .i64 (a : Int)) from Taker.at_at_ _)) ⟨rfl, rfl⟩)) ?_
    refine ML.look rfl rfl rfl (fun w hw => (by have hS := hS1.bel hw; exact opW.cutS (hb.bel hS.old) (xs := xs) (l := a) (h' := xs.length) (m := capV bs.v) ⟨rfl, Nat.le_refl _⟩ ⟨⟨rfl, rfl⟩, (hb.bel hS.old).cap⟩ ⟨⟨_, rfl⟩, by omega⟩ ⟨rfl, rfl⟩)) ?_
    refine ML.one rfl rfl rfl (opW.call (ref_get_short _ _ (xs.drop a) (by have h1 := (hb.bel hS.old).cut (l := a) (h := xs.length) (m := capV bs.v) (by omega) (by omega) (hb.bel hS.old).cap (Nat.le_refl _); rw [List.take_length] at h1; exact h1)) rfl ?_)
    rintro _ w ⟨rfl, hw⟩; replace hT := hT.bel hw
    refine ⟨hT.old, ?_⟩
    have hS := hS1.merge hT
    try simp only [List.cons_append, List.nil_append] at hS
    refine ML.look rfl rfl rfl (fun w hw => (by have hS := hS1.bel hw; exact opW.moveV (v := .tuple #[.int .i64 (gs (xs.drop a) 0 0).1, .int .i64 (gs (xs.drop a) 0 0).2.1, .int .i64 (gs (xs.drop a) 0 0).2.2]) rfl ⟨rfl, rfl⟩)) ?_
    refine ML.look rfl rfl rfl (fun w hw => (by have hS := hS1.bel hw; exact opW.extract rfl rfl ⟨rfl, rfl⟩)) ?_
    refine ML.look rfl rfl rfl (fun w hw => (by have hS := hS1.bel hw; exact opW.extract rfl rfl ⟨rfl, rfl⟩)) ?_
    refine ML.look rfl rfl rfl (fun w hw => (by have hS := hS1.bel hw; exact opW.extract rfl rfl ⟨rfl, rfl⟩)) ?_
    refine ML.look rfl rfl rfl (fun w hw => (by have hS := hS1.bel hw; exact opW.assignI rfl ⟨rfl, rfl⟩)) ?_
    refine ML.look rfl rfl rfl (fun w hw => (by have hS := hS1.bel hw; exact opW.assignI rfl ⟨rfl, rfl⟩)) ?_
    refine ML.look rfl rfl rfl (fun w hw => (by have hS := hS1.bel hw; exact opW.assignI rfl ⟨rfl, rfl⟩)) ?_
    refine ML.nil ?_
    have hgb := gs_bound (xs.drop a) 0 0 (by omega) (by omega)
    rw [List.length_drop] at hgb
    have hge := gs_err0 (xs.drop a) 0 0
    have hgl : a + (gs (xs.drop a) 0 0).2.1.toNat ≤ xs.length := by
      by_cases h : (gs (xs.drop a) 0 0).2.2 = 0
      · have := hgb.2.2.2 h; omega
      · have := hge h; omega
    refine thenQ_n (hK5 _ _ ?_)
    refine WC.seq (fun K6 hK6 => ?_)
    refine WC.region ?_
    refine WL.op rfl (opW.moveV (v := .pointer (some ⟨p, 0, none⟩)) rfl ?_)
    refine WL.op rfl (opW.moveI rfl ?_)
    refine WL.op rfl (opW.nilCheckB rfl ?_)
    refine WL.op rfl (opW.fieldAddrB rfl ?_)
    refine WL.op0 (opW.storeF (b := p) (o := 2) (v := .int .i64 (gs (xs.drop a) 0 0).2.2) (sz := 1) (cs := Enc.enc (⟨bs, (a : Int), 0⟩ : Taker)) (cs' := Enc.enc (⟨bs, (a : Int), (gs (xs.drop a) 0 0).2.2⟩ : Taker)) hS rfl rfl (by first | exact .h0 | exact .h1 | exact .h2 | exact .h3 | exact .h4 | exact .h5 | exact .h6 | exact .h7 | exact .h8 | exact .h9 | exact .h10 | exact .h11 | exact .h12 | exact .h13 | exact .h14) rfl (by rw [Enc.size_eq]; decide) (one_int _ _) (Taker.set_e (⟨bs, (a : Int), 0⟩ : Taker) _) ?_)
    intro w hS; replace hS := hS _ (by first | exact .h0 | exact .h1 | exact .h2 | exact .h3 | exact .h4 | exact .h5 | exact .h6 | exact .h7 | exact .h8 | exact .h9 | exact .h10 | exact .h11 | exact .h12 | exact .h13 | exact .h14)
    refine WL.nil ?_
    refine thenQ_n (hK6 _ _ ?_)
    refine WC.seq (fun K7 hK7 => ?_)
    refine WC.region ?_
    refine WL.op rfl (opW.moveV (v := .pointer (some ⟨p, 0, none⟩)) rfl ?_)
    refine WL.op rfl (opW.moveV (v := .pointer (some ⟨p, 0, none⟩)) rfl ?_)
    refine WL.op rfl (opW.nilCheckB rfl ?_)
    refine WL.op rfl (opW.fieldAddrB rfl ?_)
    refine WL.op rfl (opW.loadV rfl (hS.ld1 (by first | exact .h0 | exact .h1 | exact .h2 | exact .h3 | exact .h4 | exact .h5 | exact .h6 | exact .h7 | exact .h8 | exact .h9 | exact .h10 | exact .h11 | exact .h12 | exact .h13 | exact .h14) (show (Enc.enc (⟨bs, (a : Int), (gs (xs.drop a) 0 0).2.2⟩ : Taker))[1]? = some (.int .i64 (a : Int)) from Taker.at_at_ _)) ?_)
    refine WL.op rfl (opW.moveI rfl ?_)
    refine WL.op rfl (opW.add rfl rfl (wrap_i64 (by omega)) ?_)
    refine WL.op rfl (opW.nilCheckB rfl ?_)
    refine WL.op rfl (opW.fieldAddrB rfl ?_)
    refine WL.op0 (opW.storeF (b := p) (o := 1) (v := .int .i64 ((a : Int) + (gs (xs.drop a) 0 0).2.1)) (sz := 1) (cs := Enc.enc (⟨bs, (a : Int), (gs (xs.drop a) 0 0).2.2⟩ : Taker)) (cs' := Enc.enc (⟨bs, ((a + (gs (xs.drop a) 0 0).2.1.toNat : Nat) : Int), (gs (xs.drop a) 0 0).2.2⟩ : Taker)) hS rfl rfl (by first | exact .h0 | exact .h1 | exact .h2 | exact .h3 | exact .h4 | exact .h5 | exact .h6 | exact .h7 | exact .h8 | exact .h9 | exact .h10 | exact .h11 | exact .h12 | exact .h13 | exact .h14) rfl (by rw [Enc.size_eq]; decide) (one_int _ _) (by rw [show (((a + (gs (xs.drop a) 0 0).2.1.toNat : Nat) : Int)) = (a : Int) + (gs (xs.drop a) 0 0).2.1 from by omega]; exact Taker.set_at_ (⟨bs, (a : Int), (gs (xs.drop a) 0 0).2.2⟩ : Taker) _) ?_)
    intro w hS; replace hS := hS _ (by first | exact .h0 | exact .h1 | exact .h2 | exact .h3 | exact .h4 | exact .h5 | exact .h6 | exact .h7 | exact .h8 | exact .h9 | exact .h10 | exact .h11 | exact .h12 | exact .h13 | exact .h14)
    refine WL.nil ?_
    refine thenQ_n (hK7 _ _ ?_)
    refine WC.seq (fun K8 hK8 => ?_)
    refine WC.region ?_
    refine WL.op rfl (opW.moveI rfl ?_)
    refine WL.op rfl (opW.assignI rfl ?_)
    refine WL.nil ?_
    refine thenQ_n (hK8 _ _ ?_)
    refine WC.ret ?_
    refine bodyQ_ret (.tmpI rfl .nil) ?_
    refine ⟨_, _, congrArg (Value.int .i64) (show (gs (xs.drop a) 0 0).1 = (((gs (xs.drop a) 0 0).1.toNat : Nat) : Int) from by omega), ?_, hgl, hS⟩
    rw [rShort_ok]
    split
    · rename_i h; exact ⟨rfl, h⟩
    · rename_i h; exact ⟨rfl, h⟩

theorem tk_key (wb w0 : World) (S : List Ent) (p : Nat) (bs : SlV) (xs : List UInt8) (a : Nat) (e : Int) (s : RS) (hb : SlR wb bs.v xs) (hxl : xs.length ≤ 1000000000) (ha : a ≤ xs.length) (hs : Tk s a e) (hS0 : St wb (tkE p bs a e :: S) w0) : Ret Try.prog 65 #[.pointer (some ⟨p, 0, none⟩)] w0 (fun u w' => ∃ (a' : Nat) (e' : Int), u = .agg (Enc.enc (rKey xs s).1) ∧ Tk (rKey xs s).2 a' e' ∧ a' ≤ xs.length ∧ St wb (tkE p bs a' e' :: S) w') := by
  refine Ret.enter (args := [.pointer (some ⟨p, 0, none⟩)]) Try.func65 rfl Try.ntmps65 Try.results65 rfl ?_
  have hS := St.start w0
  replace hS := hS0
  refine WC.seq (fun K1 hK1 => ?_)
  refine WC.region ?_
  refine WL.op rfl (opW.allocA hS ?_)
  intro b2 w _ hS
  refine WL.nil ?_
  refine thenQ_n (hK1 _ _ ?_)
  refine WC.seq (fun K2 hK2 => ?_)
  refine WC.region ?_
  refine WL.op rfl (opW.allocA hS ?_)
  intro b3 w _ hS
  rw [← enc_vz] at hS
  refine WL.nil ?_
  refine thenQ_n (hK2 _ _ ?_)
  refine WC.seq (fun K3 hK3 => ?_)
  refine WC.drawI 4 (.look 0 (.look 1 (.one 2 (.one 3 .nil)))) (by kernel_rfl) (fun _ _ _ h => h) (fun w1 hw1 => ?_)
  replace hS := hS.bel hw1
  have hS1 := hS
  refine ⟨fun _ => True, trivial, ?_⟩
  refine ML.look rfl rfl rfl (fun w hw => (by skip; exact opW.cutArrO rfl ⟨rfl, rfl⟩)) ?_
  refine ML.look rfl rfl rfl (fun w hw => (by skip; exact opW.moveV (v := .pointer (some ⟨p, 0, none⟩)) rfl ⟨rfl, rfl⟩)) ?_
  refine ML.one rfl rfl rfl (opW.call (tk_bytes _ _ _ p bs xs a e s hb hxl ha hs 32 (by omega) (hS.pick (by first | exact .h0 | exact .h1 | exact .h2 | exact .h3 | exact .h4 | exact .h5 | exact .h6 | exact .h7 | exact .h8 | exact .h9 | exact .h10 | exact .h11 | exact .h12 | exact .h13 | exact .h14))) rfl ?_)
  rintro _ w ⟨sv, a', e', rfl, hs', ha', hS⟩
  have hlen := rBytes_len xs 32 s
  refine ⟨trivial, ?_⟩
  refine ML.one rfl rfl rfl (opW.copyKey (b := b3) (ys := (rBytes xs 32 s).1) hS rfl (by first | exact .h0 | exact .h1 | exact .h2 | exact .h3 | exact .h4 | exact .h5 | exact .h6 | exact .h7 | exact .h8 | exact .h9 | exact .h10 | exact .h11 | exact .h12 | exact .h13 | exact .h14) (hS.sl (v := sv.v) (xs := (rBytes xs 32 s).1) (by first | exact .h0 | exact .h1 | exact .h2 | exact .h3 | exact .h4 | exact .h5 | exact .h6 | exact .h7 | exact .h8 | exact .h9 | exact .h10 | exact .h11 | exact .h12 | exact .h13 | exact .h14)) hlen ?_)
  intro w hS; replace hS := hS _ (by first | exact .h0 | exact .h1 | exact .h2 | exact .h3 | exact .h4 | exact .h5 | exact .h6 | exact .h7 | exact .h8 | exact .h9 | exact .h10 | exact .h11 | exact .h12 | exact .h13 | exact .h14)
  refine ⟨trivial, ?_⟩
  refine ML.nil ?_
  refine thenQ_n (hK3 _ _ ?_)
  refine WC.seq (fun K4 hK4 => ?_)
  refine WC.region ?_
  refine WL.op rfl (opW.loadV rfl (hS.ldA (cs := Enc.enc (vecOf 32 (rBytes xs 32 s).1)) (by first | exact .h0 | exact .h1 | exact .h2 | exact .h3 | exact .h4 | exact .h5 | exact .h6 | exact .h7 | exact .h8 | exact .h9 | exact .h10 | exact .h11 | exact .h12 | exact .h13 | exact .h14) (Enc.size_eq _)) ?_)
  refine WL.op0 (opW.storeE hS rfl rfl (by first | exact .h0 | exact .h1 | exact .h2 | exact .h3 | exact .h4 | exact .h5 | exact .h6 | exact .h7 | exact .h8 | exact .h9 | exact .h10 | exact .h11 | exact .h12 | exact .h13 | exact .h14) (by first | rfl | exact Enc.size_eq _) ?_)
  intro w hS; replace hS := hS _ (by first | exact .h0 | exact .h1 | exact .h2 | exact .h3 | exact .h4 | exact .h5 | exact .h6 | exact .h7 | exact .h8 | exact .h9 | exact .h10 | exact .h11 | exact .h12 | exact .h13 | exact .h14)
  refine WL.nil ?_
  refine thenQ_n (hK4 _ _ ?_)
  refine WC.ret ?_
  refine bodyQ_ret (.cell (by first | exact hS.ldA (by first | exact .h0 | exact .h1 | exact .h2 | exact .h3 | exact .h4 | exact .h5 | exact .h6 | exact .h7 | exact .h8 | exact .h9 | exact .h10 | exact .h11 | exact .h12 | exact .h13 | exact .h14) (by first | rfl | exact Enc.size_eq _) | exact hS.ld1 (by first | exact .h0 | exact .h1 | exact .h2 | exact .h3 | exact .h4 | exact .h5 | exact .h6 | exact .h7 | exact .h8 | exact .h9 | exact .h10 | exact .h11 | exact .h12 | exact .h13 | exact .h14) rfl) .nil) ?_
  refine ⟨a', e', rfl, hs', ha', ?_⟩
  exact (hS.pick (e := tkE p bs a' e') (by first | exact .h0 | exact .h1 | exact .h2 | exact .h3 | exact .h4 | exact .h5 | exact .h6 | exact .h7 | exact .h8 | exact .h9 | exact .h10 | exact .h11 | exact .h12 | exact .h13 | exact .h14)).sub (by repeat (first | with_reducible exact List.nil_sublist _ | with_reducible exact List.Sublist.refl _ | with_reducible refine List.Sublist.cons₂ _ ?_ | with_reducible refine List.Sublist.cons _ ?_))

theorem zGot : GotM (⟨false, ⟨0, 0, 0⟩, ⟨none, 0, 0⟩, vz 32, ⟨none, 0, 0⟩, ⟨none, 0, 0⟩⟩ : Message) [] [] zMC := ⟨rfl, rfl, rfl, rfl, rfl, rfl, rfl, (show (0 : Nat) < 65536 by decide), (show (0 : Nat) < 65536 by decide), (show (0 : Nat) < 65536 by decide)⟩
theorem zGotL {w0 w : World} (hS : St w0 [] w) : St w0 (gotL (⟨false, ⟨0, 0, 0⟩, ⟨none, 0, 0⟩, vz 32, ⟨none, 0, 0⟩, ⟨none, 0, 0⟩⟩ : Message) [] [] zMC) w :=
  St.nilOwn ((St.nilOwn (hS.b2New) 92).b2New.nilOwn 90) 58

theorem rFirst_any {xs : List UInt8} {s : RS} (h : ∀ a, (rByte xs s).2 = .ok a → ¬ 128 < (rByte xs s).1.toNat) : rFirst xs s = if (rByte xs s).1.toNat = 128 then (((rByte xs (rByte xs s).2).1, true), (rByte xs (rByte xs s).2).2) else (((rByte xs s).1, false), (rByte xs s).2) := by
  unfold rFirst
  cases h2 : (rByte xs s).2 with
  | error e => simp only [h2]
  | ok a => simp only [h2, if_neg (h a h2)]
theorem rMany_zero {α : Type} (one : RS → α × RS) (s : RS) : rMany one 0 s = ([], s) := rfl
theorem rMany_end {α : Type} {one : RS → α × RS} {n k : Nat} {s0 s : RS} {l : List α} (hM : rMany one n s0 = (l ++ (rMany one (n - k) s).1, (rMany one (n - k) s).2)) (h : n ≤ k ∨ ∃ e, s = .error e) : rMany one n s0 = (l, s) := by
  rw [hM]
  rcases h with h | ⟨e, rfl⟩
  · rw [show n - k = 0 by omega, rMany_zero, List.append_nil]
  · rw [rMany_e, List.append_nil]
theorem rMany_next {α : Type} {one : RS → α × RS} {n k a : Nat} {s0 : RS} {l : List α} (hM : rMany one n s0 = (l ++ (rMany one (n - k) (.ok a)).1, (rMany one (n - k) (.ok a)).2)) (h : k < n) : rMany one n s0 = ((l ++ [(one (.ok a)).1]) ++ (rMany one (n - (k + 1)) (one (.ok a)).2).1, (rMany one (n - (k + 1)) (one (.ok a)).2).2) := by
  rw [hM, show n - k = (n - (k + 1)) + 1 by omega, rMany_succ, List.append_assoc]; rfl

set_option maxRecDepth 20000 in
set_option maxHeartbeats 8000000 in
theorem rget_ok (w0 : World) (sx : SlV) (xs : List UInt8) (hx : SlR w0 sx.v xs) (hxl : xs.length ≤ 1000000000) : Ret Try.prog 47 #[sx.v] w0 (gotR w0 xs) := by
  refine Ret.enter (args := [sx.v]) Try.func47 rfl Try.ntmps47 Try.results47 rfl ?_
  have hS := St.start w0
  refine WC.seq (fun K1 hK1 => ?_)
  refine WC.region ?_
  refine WL.op rfl (opW.allocA hS ?_)
  intro b2 w _ hS
  refine WL.op rfl (opW.assignI rfl ?_)
  refine WL.op rfl (opW.assignI rfl ?_)
  rw [mg_zero] at hS
  refine WL.nil ?_
  refine thenQ_n (hK1 _ _ ?_)
  refine WC.seq (fun K2 hK2 => ?_)
  refine WC.region ?_
  refine WL.op rfl (opW.moveV (v := sx.v) rfl ?_)
  refine WL.op rfl (opW.buildE (r := (⟨sx, ((0 : Nat) : Int), 0⟩ : Taker)) (ps := Taker.parts (⟨sx, ((0 : Nat) : Int), 0⟩ : Taker)) (Taker.enc_eq _) (by first | rfl | (simp only [enc_vset, enc_vz, Header.enc_eq, Header.parts, Instr.enc_eq, Instr.parts, Lookup.enc_eq, Lookup.parts, Message.enc_eq, Message.parts, Tx.enc_eq, Tx.parts, Reader.enc_eq, Reader.parts, Stop.enc_eq, Stop.parts, Taker.enc_eq, Taker.parts]; rfl)) (by (repeat' (first | exact trivial | refine And.intro ?_ ?_)) <;> first | rfl | exact Enc.size_eq _ | (simp; done)) ?_)
  refine WL.op rfl (opW.boxA hS rfl ?_)
  intro b16 w _ hS
  refine WL.op rfl (opW.assignV (v := .pointer (some ⟨b16, 0, none⟩)) rfl ?_)
  refine WL.nil ?_
  refine thenQ_n (hK2 _ _ ?_)
  refine WC.seq (fun K3 hK3 => ?_)
  refine WC.region ?_
  refine WL.op rfl (opW.buildE (r := (⟨false, ⟨0, 0, 0⟩, ⟨none, 0, 0⟩, vz 32, ⟨none, 0, 0⟩, ⟨none, 0, 0⟩⟩ : Message)) (ps := Message.parts (⟨false, ⟨0, 0, 0⟩, ⟨none, 0, 0⟩, vz 32, ⟨none, 0, 0⟩, ⟨none, 0, 0⟩⟩ : Message)) (Message.enc_eq _) (by first | (simp only [enc_vset, enc_vz, Header.enc_eq, Header.parts, Instr.enc_eq, Instr.parts, Lookup.enc_eq, Lookup.parts, Message.enc_eq, Message.parts, Tx.enc_eq, Tx.parts, Reader.enc_eq, Reader.parts, Stop.enc_eq, Stop.parts, Taker.enc_eq, Taker.parts]; rfl) | rfl) (by (repeat' (first | exact trivial | refine And.intro ?_ ?_)) <;> first | rfl | exact Enc.size_eq _ | (simp; done)) ?_)
  refine WL.op rfl (opW.allocA hS ?_)
  intro b6 w _ hS
  refine WL.op0 (opW.storeE (r := (⟨false, ⟨0, 0, 0⟩, ⟨none, 0, 0⟩, vz 32, ⟨none, 0, 0⟩, ⟨none, 0, 0⟩⟩ : Message)) hS rfl rfl (by first | exact .h0 | exact .h1 | exact .h2 | exact .h3 | exact .h4 | exact .h5 | exact .h6 | exact .h7 | exact .h8 | exact .h9 | exact .h10 | exact .h11 | exact .h12 | exact .h13 | exact .h14) rfl ?_)
  intro w hS; replace hS := hS _ (by first | exact .h0 | exact .h1 | exact .h2 | exact .h3 | exact .h4 | exact .h5 | exact .h6 | exact .h7 | exact .h8 | exact .h9 | exact .h10 | exact .h11 | exact .h12 | exact .h13 | exact .h14)
  refine WL.nil ?_
  refine thenQ_n (hK3 _ _ ?_)
  refine WC.seq (fun K4 hK4 => ?_)
  refine WC.region ?_
  refine WL.op rfl (opW.moveV (v := .pointer (some ⟨b16, 0, none⟩)) rfl ?_)
  refine WL.op rfl (opW.call (tk_byte _ _ _ b16 sx xs 0 0 (.ok 0) hx hxl (Nat.zero_le _) ⟨rfl, rfl⟩ (hS.pick (by first | exact .h0 | exact .h1 | exact .h2 | exact .h3 | exact .h4 | exact .h5 | exact .h6 | exact .h7 | exact .h8 | exact .h9 | exact .h10 | exact .h11 | exact .h12 | exact .h13 | exact .h14))) rfl ?_)
  rintro _ w ⟨a1, e1, rfl, T1, ha1, hS⟩
  refine WL.op rfl (opW.assignI rfl ?_)
  refine WL.nil ?_
  refine thenQ_n (hK4 _ _ ?_)
  refine WC.seq (fun K5 hK5 => ?_)
  refine WC.seq (fun K6 hK6 => ?_)
  refine WC.region ?_
  refine WL.op rfl (opW.moveV (v := .pointer (some ⟨b16, 0, none⟩)) rfl ?_)
  refine WL.op rfl (opW.nilCheckB rfl ?_)
  refine WL.op rfl (opW.fieldAddrB rfl ?_)
  refine WL.op rfl (opW.loadV rfl (hS.ld1 (by first | exact .h0 | exact .h1 | exact .h2 | exact .h3 | exact .h4 | exact .h5 | exact .h6 | exact .h7 | exact .h8 | exact .h9 | exact .h10 | exact .h11 | exact .h12 | exact .h13 | exact .h14) (show (Enc.enc (⟨sx, ((a1 : Nat) : Int), e1⟩ : Taker))[2]? = some (.int .i64 (e1)) from Taker.at_e _)) ?_)
  refine WL.op rfl (opW.eql rfl rfl ?_)
  refine WL.op rfl (opW.moveB rfl ?_)
  refine WL.gd _ 25 _ rfl rfl rfl rfl (fun hg26 => opW.moveI rfl ⟨rfl, Bel.refl _⟩) (fun w hw => ?_)
  replace hS := hS.bel hw
  refine WL.gd _ 25 _ rfl rfl rfl rfl (fun hg27 => opW.gtr (by first | exact gv_of rfl hg27 | rfl) rfl ⟨rfl, Bel.refl _⟩) (fun w hw => ?_)
  replace hS := hS.bel hw
  refine WL.op rfl (opW.pickAnd rfl (by first | rfl) rfl ?_)
  refine WL.nil ?_
  refine thenQ_n (hK6 _ _ ?_)
  refine WC.cond _ rfl (fun hc0 => ?_) (fun hc0 => ?_)
  ·
    have hr0 := hc0
    try simp only [decide_eq_true_eq, decide_eq_false_iff_not, Bool.and_eq_true, Bool.or_eq_true, Bool.and_eq_false_iff, Bool.or_eq_false_iff, Bool.not_eq_true', Bool.not_eq_false', Int.not_lt, Int.not_le] at hc0
    obtain ⟨he1, hgt⟩ : e1 = 0 ∧ 128 < (rByte xs (.ok 0)).1.toNat := by constructor <;> omega
    have hq := T1.fine he1
    have hgt2 : getF xs = (zMC, 0, 4) := by unfold getF; rw [rMsg_e (rFirst_e2 hq hgt)]
    refine WC.seq (fun K7 hK7 => ?_)
    refine WC.region ?_
    refine WL.op rfl (opW.buildE (r := (⟨false, ⟨0, 0, 0⟩, ⟨none, 0, 0⟩, vz 32, ⟨none, 0, 0⟩, ⟨none, 0, 0⟩⟩ : Message)) (ps := Message.parts (⟨false, ⟨0, 0, 0⟩, ⟨none, 0, 0⟩, vz 32, ⟨none, 0, 0⟩, ⟨none, 0, 0⟩⟩ : Message)) (Message.enc_eq _) (by first | (simp only [enc_vset, enc_vz, Header.enc_eq, Header.parts, Instr.enc_eq, Instr.parts, Lookup.enc_eq, Lookup.parts, Message.enc_eq, Message.parts, Tx.enc_eq, Tx.parts, Reader.enc_eq, Reader.parts, Stop.enc_eq, Stop.parts, Taker.enc_eq, Taker.parts]; rfl) | rfl) (by (repeat' (first | exact trivial | refine And.intro ?_ ?_)) <;> first | rfl | exact Enc.size_eq _ | (simp; done)) ?_)
    refine WL.op0 (opW.storeE (r := (⟨false, ⟨0, 0, 0⟩, ⟨none, 0, 0⟩, vz 32, ⟨none, 0, 0⟩, ⟨none, 0, 0⟩⟩ : Message)) hS rfl rfl (by first | exact .h0 | exact .h1 | exact .h2 | exact .h3 | exact .h4 | exact .h5 | exact .h6 | exact .h7 | exact .h8 | exact .h9 | exact .h10 | exact .h11 | exact .h12 | exact .h13 | exact .h14) (by exact Enc.size_eq _) ?_)
    intro w hS; replace hS := hS _ (by first | exact .h0 | exact .h1 | exact .h2 | exact .h3 | exact .h4 | exact .h5 | exact .h6 | exact .h7 | exact .h8 | exact .h9 | exact .h10 | exact .h11 | exact .h12 | exact .h13 | exact .h14)
    refine WL.op rfl (opW.assignI rfl ?_)
    refine WL.op rfl (opW.assignI rfl ?_)
    refine WL.nil ?_
    refine thenQ_n (hK7 _ _ ?_)
    refine WC.ret ?_
    refine thenQ_r ?_
    refine bodyQ_ret (.cell (by exact hS.ldA (by first | exact .h0 | exact .h1 | exact .h2 | exact .h3 | exact .h4 | exact .h5 | exact .h6 | exact .h7 | exact .h8 | exact .h9 | exact .h10 | exact .h11 | exact .h12 | exact .h13 | exact .h14) (by exact Enc.size_eq _)) (.tmpI rfl (.tmpI rfl .nil))) ?_
    refine ⟨(⟨false, ⟨0, 0, 0⟩, ⟨none, 0, 0⟩, vz 32, ⟨none, 0, 0⟩, ⟨none, 0, 0⟩⟩ : Message), [], [], by rw [hgt2]; rfl, by rw [hgt2]; exact zGot, ?_⟩
    rw [hgt2]
    exact zGotL (hS.sub (List.nil_sublist _))
  ·
    have hr0 := hc0
    try simp only [decide_eq_true_eq, decide_eq_false_iff_not, Bool.and_eq_true, Bool.or_eq_true, Bool.and_eq_false_iff, Bool.or_eq_false_iff, Bool.not_eq_true', Bool.not_eq_false', Int.not_lt, Int.not_le] at hc0
    have hfa := rFirst_any (xs := xs) (s := .ok 0) (fun a h => by
      have h2 : e1 = 0 := by rw [h] at T1; exact T1.2
      rcases hc0 with h3 | h3 <;> omega)
    refine WC.skip ?_
    refine thenQ_n (hK5 _ _ ?_)
    refine WC.mid (fun f w => ∃ (x0 : UInt8) (v0 : Bool) (s2 : RS) (a2 : Nat) (e2 : Int), Fits [(2, .pointer (some ⟨b2, 0, none⟩)), (5, .pointer (some ⟨b16, 0, none⟩)), (6, .pointer (some ⟨b6, 0, none⟩)), (7, .int .u8 ((x0).toNat : Int))] f ∧ St w0 [blkE b6 (Enc.enc (⟨v0, ⟨0, 0, 0⟩, ⟨none, 0, 0⟩, vz 32, ⟨none, 0, 0⟩, ⟨none, 0, 0⟩⟩ : Message)) 31, tkE b16 sx a2 e2, blkE b2 (Enc.enc (⟨false, ⟨0, 0, 0⟩, ⟨none, 0, 0⟩, vz 32, ⟨none, 0, 0⟩, ⟨none, 0, 0⟩⟩ : Message)) 31] w ∧ rFirst xs (.ok 0) = ((x0, v0), s2) ∧ Tk s2 a2 e2 ∧ a2 ≤ xs.length) ?_ ?_
    ·
      refine WC.seq (fun K8 hK8 => ?_)
      refine WC.region ?_
      refine WL.op rfl (opW.moveI rfl ?_)
      refine WL.op rfl (opW.eql rfl rfl ?_)
      refine WL.nil ?_
      refine thenQ_n (hK8 _ _ ?_)
      refine WC.cond _ rfl (fun hc1 => ?_) (fun hc1 => ?_)
      ·
        have hr1 := hc1
        try simp only [decide_eq_true_eq, decide_eq_false_iff_not, Bool.and_eq_true, Bool.or_eq_true, Bool.and_eq_false_iff, Bool.or_eq_false_iff, Bool.not_eq_true', Bool.not_eq_false', Int.not_lt, Int.not_le] at hc1
        have h128 : (rByte xs (.ok 0)).1.toNat = 128 := by omega
        rw [if_pos h128] at hfa
        refine WC.seq (fun K9 hK9 => ?_)
        refine WC.region ?_
        refine WL.op rfl (opW.fieldAddrB rfl ?_)
        refine WL.op0 (opW.storeF (b := b6) (o := 0) (v := .bool true) (sz := 1) (cs := Enc.enc (⟨false, ⟨0, 0, 0⟩, ⟨none, 0, 0⟩, vz 32, ⟨none, 0, 0⟩, ⟨none, 0, 0⟩⟩ : Message)) (cs' := Enc.enc (⟨true, ⟨0, 0, 0⟩, ⟨none, 0, 0⟩, vz 32, ⟨none, 0, 0⟩, ⟨none, 0, 0⟩⟩ : Message)) hS rfl rfl (by first | exact .h0 | exact .h1 | exact .h2 | exact .h3 | exact .h4 | exact .h5 | exact .h6 | exact .h7 | exact .h8 | exact .h9 | exact .h10 | exact .h11 | exact .h12 | exact .h13 | exact .h14) rfl (by rw [Enc.size_eq]; decide) (by intro u hu; simp [Value.cells] at hu; subst hu; rfl) (Message.set_v0 (⟨false, ⟨0, 0, 0⟩, ⟨none, 0, 0⟩, vz 32, ⟨none, 0, 0⟩, ⟨none, 0, 0⟩⟩ : Message) true) ?_)
        intro w hS; replace hS := hS _ (by first | exact .h0 | exact .h1 | exact .h2 | exact .h3 | exact .h4 | exact .h5 | exact .h6 | exact .h7 | exact .h8 | exact .h9 | exact .h10 | exact .h11 | exact .h12 | exact .h13 | exact .h14)
        refine WL.nil ?_
        refine thenQ_n (hK9 _ _ ?_)
        refine WC.region ?_
        refine WL.op rfl (opW.moveV (v := .pointer (some ⟨b16, 0, none⟩)) rfl ?_)
        refine WL.op rfl (opW.call (tk_byte _ _ _ b16 sx xs a1 e1 (rByte xs (.ok 0)).2 hx hxl ha1 T1 (hS.pick (by first | exact .h0 | exact .h1 | exact .h2 | exact .h3 | exact .h4 | exact .h5 | exact .h6 | exact .h7 | exact .h8 | exact .h9 | exact .h10 | exact .h11 | exact .h12 | exact .h13 | exact .h14))) rfl ?_)
        rintro _ w ⟨a2, e2, rfl, T2, ha2, hS⟩
        replace hS := hS.pick (e := blkE b6 (Enc.enc (⟨true, ⟨0, 0, 0⟩, ⟨none, 0, 0⟩, vz 32, ⟨none, 0, 0⟩, ⟨none, 0, 0⟩⟩ : Message)) 31) (by first | exact .h0 | exact .h1 | exact .h2 | exact .h3 | exact .h4 | exact .h5 | exact .h6 | exact .h7 | exact .h8 | exact .h9 | exact .h10 | exact .h11 | exact .h12 | exact .h13 | exact .h14)
        refine WL.op rfl (opW.assignI rfl ?_)
        refine WL.nil ?_
        refine thenQ_n ?_
        exact ⟨_, _, _, _, _, ⟨rfl, rfl, rfl, rfl, trivial⟩, hS, hfa, T2, ha2⟩
      ·
        have hr1 := hc1
        try simp only [decide_eq_true_eq, decide_eq_false_iff_not, Bool.and_eq_true, Bool.or_eq_true, Bool.and_eq_false_iff, Bool.or_eq_false_iff, Bool.not_eq_true', Bool.not_eq_false', Int.not_lt, Int.not_le] at hc1
        have h128 : ¬ (rByte xs (.ok 0)).1.toNat = 128 := by omega
        rw [if_neg h128] at hfa
        replace hS := hS.pick (e := blkE b6 (Enc.enc (⟨false, ⟨0, 0, 0⟩, ⟨none, 0, 0⟩, vz 32, ⟨none, 0, 0⟩, ⟨none, 0, 0⟩⟩ : Message)) 31) (by first | exact .h0 | exact .h1 | exact .h2 | exact .h3 | exact .h4 | exact .h5 | exact .h6 | exact .h7 | exact .h8 | exact .h9 | exact .h10 | exact .h11 | exact .h12 | exact .h13 | exact .h14)
        have T2 := T1
        have ha2 := ha1
        refine WC.skip ?_
        refine thenQ_n ?_
        exact ⟨_, _, _, _, _, ⟨rfl, rfl, rfl, rfl, trivial⟩, hS, hfa, T2, ha2⟩
    ·
      rintro f w ⟨x0, v0, s2, a2, e2, hfit, hS, hg, T2, ha2⟩
      refine WC.fits _ hfit (fun g => ?_)
      clear hfit
      refine WC.seq (fun K10 hK10 => ?_)
      refine WC.region ?_
      refine WL.op rfl (opW.moveI rfl ?_)
      refine WL.op rfl (opW.fieldAddrB rfl ?_)
      refine WL.op rfl (opW.fieldAddrB rfl ?_)
      refine WL.op0 (opW.storeF (b := b6) (o := 1) (v := .int .u8 ((x0).toNat : Int)) (sz := 1) (cs := Enc.enc (⟨v0, ⟨0, 0, 0⟩, ⟨none, 0, 0⟩, vz 32, ⟨none, 0, 0⟩, ⟨none, 0, 0⟩⟩ : Message)) (cs' := Enc.enc (⟨v0, ⟨x0, 0, 0⟩, ⟨none, 0, 0⟩, vz 32, ⟨none, 0, 0⟩, ⟨none, 0, 0⟩⟩ : Message)) hS rfl rfl (by first | exact .h0 | exact .h1 | exact .h2 | exact .h3 | exact .h4 | exact .h5 | exact .h6 | exact .h7 | exact .h8 | exact .h9 | exact .h10 | exact .h11 | exact .h12 | exact .h13 | exact .h14) rfl (by rw [Enc.size_eq]; decide) (one_int _ _) (Message.set_h0 (⟨v0, ⟨0, 0, 0⟩, ⟨none, 0, 0⟩, vz 32, ⟨none, 0, 0⟩, ⟨none, 0, 0⟩⟩ : Message) x0) ?_)
      intro w hS; replace hS := hS _ (by first | exact .h0 | exact .h1 | exact .h2 | exact .h3 | exact .h4 | exact .h5 | exact .h6 | exact .h7 | exact .h8 | exact .h9 | exact .h10 | exact .h11 | exact .h12 | exact .h13 | exact .h14)
      refine WL.nil ?_
      refine thenQ_n (hK10 _ _ ?_)
      refine WC.seq (fun K11 hK11 => ?_)
      refine WC.region ?_
      refine WL.op rfl (opW.moveV (v := .pointer (some ⟨b16, 0, none⟩)) rfl ?_)
      refine WL.op rfl (opW.call (tk_byte _ _ _ b16 sx xs a2 e2 s2 hx hxl ha2 T2 (hS.pick (by first | exact .h0 | exact .h1 | exact .h2 | exact .h3 | exact .h4 | exact .h5 | exact .h6 | exact .h7 | exact .h8 | exact .h9 | exact .h10 | exact .h11 | exact .h12 | exact .h13 | exact .h14))) rfl ?_)
      rintro _ w ⟨a3, e3, rfl, T3, ha3, hS⟩
      generalize q3 : (rByte xs s2).2 = s3 at T3
      refine WL.op rfl (opW.fieldAddrB rfl ?_)
      refine WL.op rfl (opW.fieldAddrB rfl ?_)
      refine WL.op0 (opW.storeF (b := b6) (o := 2) (v := .int .u8 (((rByte xs s2).1).toNat : Int)) (sz := 1) (cs := Enc.enc (⟨v0, ⟨x0, 0, 0⟩, ⟨none, 0, 0⟩, vz 32, ⟨none, 0, 0⟩, ⟨none, 0, 0⟩⟩ : Message)) (cs' := Enc.enc (⟨v0, ⟨x0, (rByte xs s2).1, 0⟩, ⟨none, 0, 0⟩, vz 32, ⟨none, 0, 0⟩, ⟨none, 0, 0⟩⟩ : Message)) hS rfl rfl (by first | exact .h0 | exact .h1 | exact .h2 | exact .h3 | exact .h4 | exact .h5 | exact .h6 | exact .h7 | exact .h8 | exact .h9 | exact .h10 | exact .h11 | exact .h12 | exact .h13 | exact .h14) rfl (by rw [Enc.size_eq]; decide) (one_int _ _) (Message.set_h1 (⟨v0, ⟨x0, 0, 0⟩, ⟨none, 0, 0⟩, vz 32, ⟨none, 0, 0⟩, ⟨none, 0, 0⟩⟩ : Message) (rByte xs s2).1) ?_)
      intro w hS; replace hS := hS _ (by first | exact .h0 | exact .h1 | exact .h2 | exact .h3 | exact .h4 | exact .h5 | exact .h6 | exact .h7 | exact .h8 | exact .h9 | exact .h10 | exact .h11 | exact .h12 | exact .h13 | exact .h14)
      refine WL.nil ?_
      refine thenQ_n (hK11 _ _ ?_)
      refine WC.seq (fun K12 hK12 => ?_)
      refine WC.region ?_
      refine WL.op rfl (opW.moveV (v := .pointer (some ⟨b16, 0, none⟩)) rfl ?_)
      refine WL.op rfl (opW.call (tk_byte _ _ _ b16 sx xs a3 e3 s3 hx hxl ha3 T3 (hS.pick (by first | exact .h0 | exact .h1 | exact .h2 | exact .h3 | exact .h4 | exact .h5 | exact .h6 | exact .h7 | exact .h8 | exact .h9 | exact .h10 | exact .h11 | exact .h12 | exact .h13 | exact .h14))) rfl ?_)
      rintro _ w ⟨a4, e4, rfl, T4, ha4, hS⟩
      generalize q4 : (rByte xs s3).2 = s4 at T4
      refine WL.op rfl (opW.fieldAddrB rfl ?_)
      refine WL.op rfl (opW.fieldAddrB rfl ?_)
      refine WL.op0 (opW.storeF (b := b6) (o := 3) (v := .int .u8 (((rByte xs s3).1).toNat : Int)) (sz := 1) (cs := Enc.enc (⟨v0, ⟨x0, (rByte xs s2).1, 0⟩, ⟨none, 0, 0⟩, vz 32, ⟨none, 0, 0⟩, ⟨none, 0, 0⟩⟩ : Message)) (cs' := Enc.enc (⟨v0, ⟨x0, (rByte xs s2).1, (rByte xs s3).1⟩, ⟨none, 0, 0⟩, vz 32, ⟨none, 0, 0⟩, ⟨none, 0, 0⟩⟩ : Message)) hS rfl rfl (by first | exact .h0 | exact .h1 | exact .h2 | exact .h3 | exact .h4 | exact .h5 | exact .h6 | exact .h7 | exact .h8 | exact .h9 | exact .h10 | exact .h11 | exact .h12 | exact .h13 | exact .h14) rfl (by rw [Enc.size_eq]; decide) (one_int _ _) (Message.set_h2 (⟨v0, ⟨x0, (rByte xs s2).1, 0⟩, ⟨none, 0, 0⟩, vz 32, ⟨none, 0, 0⟩, ⟨none, 0, 0⟩⟩ : Message) (rByte xs s3).1) ?_)
      intro w hS; replace hS := hS _ (by first | exact .h0 | exact .h1 | exact .h2 | exact .h3 | exact .h4 | exact .h5 | exact .h6 | exact .h7 | exact .h8 | exact .h9 | exact .h10 | exact .h11 | exact .h12 | exact .h13 | exact .h14)
      refine WL.nil ?_
      refine thenQ_n (hK12 _ _ ?_)
      refine WC.seq (fun K13 hK13 => ?_)
      refine WC.region ?_
      refine WL.op rfl (opW.moveV (v := .pointer (some ⟨b16, 0, none⟩)) rfl ?_)
      refine WL.op rfl (opW.call (tk_short _ _ _ b16 sx xs a4 e4 s4 hx hxl ha4 T4 (hS.pick (by first | exact .h0 | exact .h1 | exact .h2 | exact .h3 | exact .h4 | exact .h5 | exact .h6 | exact .h7 | exact .h8 | exact .h9 | exact .h10 | exact .h11 | exact .h12 | exact .h13 | exact .h14))) rfl ?_)
      rintro _ w ⟨a5, e5, rfl, T5, ha5, hS⟩
      generalize q5 : (rShort xs s4).2 = s5 at T5
      have hltK := rShort_lt xs s4
      replace hS := hS.pick (e := blkE b6 (Enc.enc (⟨v0, ⟨x0, (rByte xs s2).1, (rByte xs s3).1⟩, ⟨none, 0, 0⟩, vz 32, ⟨none, 0, 0⟩, ⟨none, 0, 0⟩⟩ : Message)) 31) (by first | exact .h0 | exact .h1 | exact .h2 | exact .h3 | exact .h4 | exact .h5 | exact .h6 | exact .h7 | exact .h8 | exact .h9 | exact .h10 | exact .h11 | exact .h12 | exact .h13 | exact .h14)
      refine WL.op rfl (opW.assignI rfl ?_)
      refine WL.nil ?_
      refine thenQ_n (hK13 _ _ ?_)
      refine WC.seq (fun K14 hK14 => ?_)
      refine WC.seq (fun K15 hK15 => ?_)
      refine WC.region ?_
      refine WL.op rfl (opW.assignI rfl ?_)
      refine WL.nil ?_
      refine thenQ_n (hK15 _ _ ?_)
      refine WC.block ?_
      refine WC.loop (fun q f w => ∃ (kK aK : Nat) (eK : Int) (sK : RS) (lK : List (Vector UInt8 32)) (vK : SlV), Fits [(2, .pointer (some ⟨b2, 0, none⟩)), (5, .pointer (some ⟨b16, 0, none⟩)), (6, .pointer (some ⟨b6, 0, none⟩)), (8, .int .i64 ((rShort xs s4).1 : Int)), (9, .int .i64 (kK : Int))] f ∧ St w0 [blkE b6 (Enc.enc (⟨v0, ⟨x0, (rByte xs s2).1, (rByte xs s3).1⟩, vK, vz 32, ⟨none, 0, 0⟩, ⟨none, 0, 0⟩⟩ : Message)) 31, tkE b16 sx aK eK, ownE vK.v 58 lK, blkE b2 (Enc.enc (⟨false, ⟨0, 0, 0⟩, ⟨none, 0, 0⟩, vz 32, ⟨none, 0, 0⟩, ⟨none, 0, 0⟩⟩ : Message)) 31] w ∧ Tk sK aK eK ∧ aK ≤ xs.length ∧ kK ≤ (rShort xs s4).1 ∧ lK.length = kK ∧ rMany (rKey xs) (rShort xs s4).1 s5 = (lK ++ (rMany (rKey xs) ((rShort xs s4).1 - kK) sK).1, (rMany (rKey xs) ((rShort xs s4).1 - kK) sK).2) ∧ q = (rShort xs s4).1 - kK) ((rShort xs s4).1) ?_ ?_
      ·
        exact ⟨0, a5, e5, s5, [], ⟨none, 0, 0⟩, ⟨rfl, rfl, rfl, rfl, rfl, trivial⟩, ((hS.nilOwn (α := Vector UInt8 32) 58).pick (e := tkE b16 sx a5 e5) (by first | exact .h0 | exact .h1 | exact .h2 | exact .h3 | exact .h4 | exact .h5 | exact .h6 | exact .h7 | exact .h8 | exact .h9 | exact .h10 | exact .h11 | exact .h12 | exact .h13 | exact .h14)).pick (e := blkE b6 (Enc.enc (⟨v0, ⟨x0, (rByte xs s2).1, (rByte xs s3).1⟩, ⟨none, 0, 0⟩, vz 32, ⟨none, 0, 0⟩, ⟨none, 0, 0⟩⟩ : Message)) 31) (by first | exact .h0 | exact .h1 | exact .h2 | exact .h3 | exact .h4 | exact .h5 | exact .h6 | exact .h7 | exact .h8 | exact .h9 | exact .h10 | exact .h11 | exact .h12 | exact .h13 | exact .h14), T5, ha5, Nat.zero_le _, rfl, rfl, rfl⟩
      ·
        rintro q f w ⟨kK, aK, eK, sK, lK, vK, hfit, hS, TK1, haK, hkK, hlK, hMK, hm⟩
        refine WC.fits _ hfit (fun g => ?_)
        clear hfit
        refine WC.seq (fun K16 hK16 => ?_)
        refine WC.seq (fun K17 hK17 => ?_)
        refine WC.region ?_
        refine WL.op rfl (opW.moveI rfl ?_)
        refine WL.op rfl (opW.moveI rfl ?_)
        refine WL.op rfl (opW.lss rfl rfl ?_)
        refine WL.op rfl (opW.moveB rfl ?_)
        refine WL.gd _ 51 _ rfl rfl rfl rfl (fun hg52 => opW.moveV (v := .pointer (some ⟨b16, 0, none⟩)) rfl ⟨rfl, Bel.refl _⟩) (fun w hw => ?_)
        replace hS := hS.bel hw
        refine WL.gd _ 51 _ rfl rfl rfl rfl (fun hg53 => opW.nilCheckB (by first | exact gv_of rfl hg53 | rfl) ⟨rfl, Bel.refl _⟩) (fun w hw => ?_)
        replace hS := hS.bel hw
        refine WL.gd _ 51 _ rfl rfl rfl rfl (fun hg54 => opW.fieldAddrB (by first | exact gv_of rfl hg54 | rfl) ⟨rfl, Bel.refl _⟩) (fun w hw => ?_)
        replace hS := hS.bel hw
        refine WL.gd _ 51 (.int .i64 eK) rfl rfl rfl rfl (fun hg55 => ?_) (fun w hw => ?_)
        · refine opW.loadV (by first | exact gv_of rfl hg55 | rfl) (hS.ld1 (by first | exact .h0 | exact .h1 | exact .h2 | exact .h3 | exact .h4 | exact .h5 | exact .h6 | exact .h7 | exact .h8 | exact .h9 | exact .h10 | exact .h11 | exact .h12 | exact .h13 | exact .h14) (show (Enc.enc (⟨sx, ((aK : Nat) : Int), eK⟩ : Taker))[2]? = some (.int .i64 (eK)) from Taker.at_e _)) ⟨rfl, Bel.refl _⟩
        replace hS := hS.bel hw
        refine WL.gd _ 51 _ rfl rfl rfl rfl (fun hg56 => opW.eql (by first | exact gv_of rfl hg56 | rfl) rfl ⟨rfl, Bel.refl _⟩) (fun w hw => ?_)
        replace hS := hS.bel hw
        refine WL.op rfl (opW.pickAnd rfl (by first | rfl) rfl ?_)
        refine WL.nil ?_
        refine thenQ_n (hK17 _ _ ?_)
        refine WC.cond _ rfl (fun hc2 => ?_) (fun hc2 => ?_)
        ·
          have hr2 := hc2
          try simp only [decide_eq_true_eq, decide_eq_false_iff_not, Bool.and_eq_true, Bool.or_eq_true, Bool.and_eq_false_iff, Bool.or_eq_false_iff, Bool.not_eq_true', Bool.not_eq_false', Int.not_lt, Int.not_le] at hc2
          obtain ⟨hkN, rfl⟩ := hc2
          obtain rfl := TK1.fine rfl
          refine WC.skip ?_
          refine thenQ_n (hK16 _ _ ?_)
          refine WC.seq (fun K18 hK18 => ?_)
          refine WC.block ?_
          refine WC.drawI 6 (.look 0 (.look 1 (.look 2 (.one 3 (.one 4 (.one 5 (.one 6 (.one 7 .nil)))))))) (by kernel_rfl) (fun _ _ _ h => h) (fun w1 hw1 => ?_)
          replace hS := hS.bel hw1
          have hS1 := hS
          refine ⟨fun w' => Ld Try.prog 25 w' (.pointer (some ⟨b6, 4, none⟩)) vK.v, hS.ld1 (by first | exact .h0 | exact .h1 | exact .h2 | exact .h3 | exact .h4 | exact .h5 | exact .h6 | exact .h7 | exact .h8 | exact .h9 | exact .h10 | exact .h11 | exact .h12 | exact .h13 | exact .h14) (Message.at_keys (⟨v0, ⟨x0, (rByte xs s2).1, (rByte xs s3).1⟩, vK, vz 32, ⟨none, 0, 0⟩, ⟨none, 0, 0⟩⟩ : Message)), ?_⟩
          refine ML.look rfl rfl rfl (fun w hw => (by skip; exact opW.fieldAddrB rfl ⟨rfl, rfl⟩)) ?_
          refine ML.look rfl rfl rfl (fun w hw => (by skip; exact opW.loadV rfl (hw) ⟨rfl, rfl⟩)) ?_
          refine ML.look rfl rfl rfl (fun w hw => (by skip; exact opW.moveV (v := .pointer (some ⟨b16, 0, none⟩)) rfl ⟨rfl, rfl⟩)) ?_
          refine ML.one rfl rfl rfl (opW.call (tk_key _ _ _ b16 sx xs aK 0 (.ok aK) hx hxl haK TK1 (hS.pick (by first | exact .h0 | exact .h1 | exact .h2 | exact .h3 | exact .h4 | exact .h5 | exact .h6 | exact .h7 | exact .h8 | exact .h9 | exact .h10 | exact .h11 | exact .h12 | exact .h13 | exact .h14))) rfl ?_)
          rintro _ w ⟨a6, e6, rfl, T6, ha6, hS⟩
          refine ⟨hS.ld1 (by first | exact .h0 | exact .h1 | exact .h2 | exact .h3 | exact .h4 | exact .h5 | exact .h6 | exact .h7 | exact .h8 | exact .h9 | exact .h10 | exact .h11 | exact .h12 | exact .h13 | exact .h14) (Message.at_keys (⟨v0, ⟨x0, (rByte xs s2).1, (rByte xs s3).1⟩, vK, vz 32, ⟨none, 0, 0⟩, ⟨none, 0, 0⟩⟩ : Message)), ?_⟩
          refine ML.one rfl rfl rfl (opW.buildSl hS (([(rKey xs (.ok aK)).1] : List (Vector UInt8 32))) [.agg (Enc.enc (rKey xs (.ok aK)).1)] rfl rfl rfl rfl (by decide) ?_)
          intro b64 w hw hS
          refine ⟨hS.ld1 (by first | exact .h0 | exact .h1 | exact .h2 | exact .h3 | exact .h4 | exact .h5 | exact .h6 | exact .h7 | exact .h8 | exact .h9 | exact .h10 | exact .h11 | exact .h12 | exact .h13 | exact .h14) (Message.at_keys (⟨v0, ⟨x0, (rByte xs s2).1, (rByte xs s3).1⟩, vK, vz 32, ⟨none, 0, 0⟩, ⟨none, 0, 0⟩⟩ : Message)), ?_⟩
          refine ML.one rfl rfl rfl (opW.appendOwn (α := Vector UInt8 32) (v := vK.v) (xs := lK) rfl hS rfl (by first | exact .h0 | exact .h1 | exact .h2 | exact .h3 | exact .h4 | exact .h5 | exact .h6 | exact .h7 | exact .h8 | exact .h9 | exact .h10 | exact .h11 | exact .h12 | exact .h13 | exact .h14) (hS.sl (v := .slice (some ⟨b64, 0, none⟩) 1 1) (xs := [(rKey xs (.ok aK)).1]) (by first | exact .h0 | exact .h1 | exact .h2 | exact .h3 | exact .h4 | exact .h5 | exact .h6 | exact .h7 | exact .h8 | exact .h9 | exact .h10 | exact .h11 | exact .h12 | exact .h13 | exact .h14)) (by simp only [List.length_cons, List.length_nil]; omega) (by simp only [List.length_cons, List.length_nil, maxLen]; omega) ?_)
          intro v65 w hS; replace hS := hS _ (by first | exact .h0 | exact .h1 | exact .h2 | exact .h3 | exact .h4 | exact .h5 | exact .h6 | exact .h7 | exact .h8 | exact .h9 | exact .h10 | exact .h11 | exact .h12 | exact .h13 | exact .h14)
          obtain ⟨s65, rfl⟩ := (hS.sl (v := v65) (xs := lK ++ [(rKey xs (.ok aK)).1]) (by first | exact .h0 | exact .h1 | exact .h2 | exact .h3 | exact .h4 | exact .h5 | exact .h6 | exact .h7 | exact .h8 | exact .h9 | exact .h10 | exact .h11 | exact .h12 | exact .h13 | exact .h14)).asV
          refine ⟨hS.ld1 (by first | exact .h0 | exact .h1 | exact .h2 | exact .h3 | exact .h4 | exact .h5 | exact .h6 | exact .h7 | exact .h8 | exact .h9 | exact .h10 | exact .h11 | exact .h12 | exact .h13 | exact .h14) (Message.at_keys (⟨v0, ⟨x0, (rByte xs s2).1, (rByte xs s3).1⟩, vK, vz 32, ⟨none, 0, 0⟩, ⟨none, 0, 0⟩⟩ : Message)), ?_⟩
          refine ML.put1 rfl rfl rfl rfl (opW.fieldAddrB rfl ?_)
          refine ML.put0 rfl rfl rfl (opW.storeF (b := b6) (o := 4) (v := s65.v) (sz := 1) (cs := Enc.enc (⟨v0, ⟨x0, (rByte xs s2).1, (rByte xs s3).1⟩, vK, vz 32, ⟨none, 0, 0⟩, ⟨none, 0, 0⟩⟩ : Message)) (cs' := Enc.enc (⟨v0, ⟨x0, (rByte xs s2).1, (rByte xs s3).1⟩, s65, vz 32, ⟨none, 0, 0⟩, ⟨none, 0, 0⟩⟩ : Message)) hS rfl rfl (by first | exact .h0 | exact .h1 | exact .h2 | exact .h3 | exact .h4 | exact .h5 | exact .h6 | exact .h7 | exact .h8 | exact .h9 | exact .h10 | exact .h11 | exact .h12 | exact .h13 | exact .h14) rfl (by rw [Enc.size_eq]; decide) (Enc.one (α := SlV) s65) (Message.set_keys (⟨v0, ⟨x0, (rByte xs s2).1, (rByte xs s3).1⟩, vK, vz 32, ⟨none, 0, 0⟩, ⟨none, 0, 0⟩⟩ : Message) s65) ?_)
          intro w hS; replace hS := hS _ (by first | exact .h0 | exact .h1 | exact .h2 | exact .h3 | exact .h4 | exact .h5 | exact .h6 | exact .h7 | exact .h8 | exact .h9 | exact .h10 | exact .h11 | exact .h12 | exact .h13 | exact .h14)
          refine ML.nil ?_
          refine blockQ_n ?_
          refine thenQ_n (hK18 _ _ ?_)
          refine WC.region ?_
          refine WL.op rfl (opW.moveI rfl ?_)
          refine WL.op rfl (opW.add rfl rfl (wrap_i64 (by omega)) ?_)
          refine WL.op rfl (opW.assignI rfl ?_)
          refine WL.nil ?_
          refine thenQ_n ?_
          exact ⟨(rShort xs s4).1 - (kK + 1), by omega, kK + 1, a6, e6, _, lK ++ [(rKey xs (.ok aK)).1], s65, ⟨rfl, rfl, rfl, rfl, congrArg (Value.int .i64) (by omega), trivial⟩, (((hS.pick (e := ownE s65.v 58 (lK ++ [(rKey xs (.ok aK)).1])) (by first | exact .h0 | exact .h1 | exact .h2 | exact .h3 | exact .h4 | exact .h5 | exact .h6 | exact .h7 | exact .h8 | exact .h9 | exact .h10 | exact .h11 | exact .h12 | exact .h13 | exact .h14)).pick (e := tkE b16 sx a6 e6) (by first | exact .h0 | exact .h1 | exact .h2 | exact .h3 | exact .h4 | exact .h5 | exact .h6 | exact .h7 | exact .h8 | exact .h9 | exact .h10 | exact .h11 | exact .h12 | exact .h13 | exact .h14)).pick (e := blkE b6 (Enc.enc (⟨v0, ⟨x0, (rByte xs s2).1, (rByte xs s3).1⟩, s65, vz 32, ⟨none, 0, 0⟩, ⟨none, 0, 0⟩⟩ : Message)) 31) (by first | exact .h0 | exact .h1 | exact .h2 | exact .h3 | exact .h4 | exact .h5 | exact .h6 | exact .h7 | exact .h8 | exact .h9 | exact .h10 | exact .h11 | exact .h12 | exact .h13 | exact .h14)).sub (by repeat (first | with_reducible exact List.nil_sublist _ | with_reducible exact List.Sublist.refl _ | with_reducible refine List.Sublist.cons₂ _ ?_ | with_reducible refine List.Sublist.cons _ ?_)), T6, ha6, by omega, by rw [List.length_append, hlK]; rfl, rMany_next hMK (by omega), rfl⟩
        ·
          have hr2 := hc2
          try simp only [decide_eq_true_eq, decide_eq_false_iff_not, Bool.and_eq_true, Bool.or_eq_true, Bool.and_eq_false_iff, Bool.or_eq_false_iff, Bool.not_eq_true', Bool.not_eq_false', Int.not_lt, Int.not_le] at hc2
          have hKA : rAll xs (rKey xs) s4 = (lK, sK) := by
            unfold rAll
            rw [q5]
            refine rMany_end hMK ?_
            rcases hc2 with h | h
            · left; omega
            · right; exact ⟨_, TK1.err h⟩
          refine WC.exit ?_
          refine thenQ_e ?_
          refine thenQ_e ?_
          refine blockQ_hit ?_
          refine thenQ_n (hK14 _ _ ?_)
          refine WC.seq (fun K19 hK19 => ?_)
          refine WC.region ?_
          refine WL.op rfl (opW.moveV (v := .pointer (some ⟨b16, 0, none⟩)) rfl ?_)
          refine WL.op rfl (opW.call (tk_key _ _ _ b16 sx xs aK eK sK hx hxl haK TK1 (hS.pick (by first | exact .h0 | exact .h1 | exact .h2 | exact .h3 | exact .h4 | exact .h5 | exact .h6 | exact .h7 | exact .h8 | exact .h9 | exact .h10 | exact .h11 | exact .h12 | exact .h13 | exact .h14))) rfl ?_)
          rintro _ w ⟨a7, e7, rfl, T7, ha7, hS⟩
          generalize q7 : (rKey xs sK).2 = s7 at T7
          refine WL.op rfl (opW.fieldAddrB rfl ?_)
          refine WL.op0 (opW.storeF (b := b6) (o := 5) (v := .agg (Enc.enc (rKey xs sK).1)) (sz := 32) (cs := Enc.enc (⟨v0, ⟨x0, (rByte xs s2).1, (rByte xs s3).1⟩, vK, vz 32, ⟨none, 0, 0⟩, ⟨none, 0, 0⟩⟩ : Message)) (cs' := Enc.enc (⟨v0, ⟨x0, (rByte xs s2).1, (rByte xs s3).1⟩, vK, (rKey xs sK).1, ⟨none, 0, 0⟩, ⟨none, 0, 0⟩⟩ : Message)) hS rfl rfl (by first | exact .h0 | exact .h1 | exact .h2 | exact .h3 | exact .h4 | exact .h5 | exact .h6 | exact .h7 | exact .h8 | exact .h9 | exact .h10 | exact .h11 | exact .h12 | exact .h13 | exact .h14) (Enc.size_eq _) (by rw [Enc.size_eq]; decide) (Enc.one (α := Vector UInt8 32) _) (Message.set_recent (⟨v0, ⟨x0, (rByte xs s2).1, (rByte xs s3).1⟩, vK, vz 32, ⟨none, 0, 0⟩, ⟨none, 0, 0⟩⟩ : Message) (rKey xs sK).1) ?_)
          intro w hS; replace hS := hS _ (by first | exact .h0 | exact .h1 | exact .h2 | exact .h3 | exact .h4 | exact .h5 | exact .h6 | exact .h7 | exact .h8 | exact .h9 | exact .h10 | exact .h11 | exact .h12 | exact .h13 | exact .h14)
          refine WL.nil ?_
          refine thenQ_n (hK19 _ _ ?_)
          refine WC.seq (fun K20 hK20 => ?_)
          refine WC.region ?_
          refine WL.op rfl (opW.moveV (v := .pointer (some ⟨b16, 0, none⟩)) rfl ?_)
          refine WL.op rfl (opW.call (tk_short _ _ _ b16 sx xs a7 e7 s7 hx hxl ha7 T7 (hS.pick (by first | exact .h0 | exact .h1 | exact .h2 | exact .h3 | exact .h4 | exact .h5 | exact .h6 | exact .h7 | exact .h8 | exact .h9 | exact .h10 | exact .h11 | exact .h12 | exact .h13 | exact .h14))) rfl ?_)
          rintro _ w ⟨a8, e8, rfl, T8, ha8, hS⟩
          generalize q8 : (rShort xs s7).2 = s8 at T8
          have hltI := rShort_lt xs s7
          replace hS := hS.pick (e := blkE b6 (Enc.enc (⟨v0, ⟨x0, (rByte xs s2).1, (rByte xs s3).1⟩, vK, (rKey xs sK).1, ⟨none, 0, 0⟩, ⟨none, 0, 0⟩⟩ : Message)) 31) (by first | exact .h0 | exact .h1 | exact .h2 | exact .h3 | exact .h4 | exact .h5 | exact .h6 | exact .h7 | exact .h8 | exact .h9 | exact .h10 | exact .h11 | exact .h12 | exact .h13 | exact .h14)
          refine WL.op rfl (opW.assignI rfl ?_)
          refine WL.nil ?_
          refine thenQ_n (hK20 _ _ ?_)
          refine WC.seq (fun K21 hK21 => ?_)
          refine WC.seq (fun K22 hK22 => ?_)
          refine WC.region ?_
          refine WL.op rfl (opW.assignI rfl ?_)
          refine WL.nil ?_
          refine thenQ_n (hK22 _ _ ?_)
          refine WC.block ?_
          refine WC.loop (fun q f w => ∃ (kI aI : Nat) (eI : Int) (sI : RS) (lI : List (UInt8 × List UInt8 × List UInt8)) (isI : List Instr) (vI : SlV), Fits [(2, .pointer (some ⟨b2, 0, none⟩)), (5, .pointer (some ⟨b16, 0, none⟩)), (6, .pointer (some ⟨b6, 0, none⟩)), (8, .int .i64 ((rShort xs s7).1 : Int)), (10, .int .i64 (kI : Int))] f ∧ St w0 [blkE b6 (Enc.enc (⟨v0, ⟨x0, (rByte xs s2).1, (rByte xs s3).1⟩, vK, (rKey xs sK).1, vI, ⟨none, 0, 0⟩⟩ : Message)) 31, tkE b16 sx aI eI, ownE vI.v 90 isI, b2E (zipI isI lI), ownE vK.v 58 lK, blkE b2 (Enc.enc (⟨false, ⟨0, 0, 0⟩, ⟨none, 0, 0⟩, vz 32, ⟨none, 0, 0⟩, ⟨none, 0, 0⟩⟩ : Message)) 31] w ∧ Tk sI aI eI ∧ aI ≤ xs.length ∧ kI ≤ (rShort xs s7).1 ∧ lI.length = kI ∧ isI.length = lI.length ∧ isI.map (·.program) = lI.map (·.1) ∧ rMany (rInstr xs) (rShort xs s7).1 s8 = (lI ++ (rMany (rInstr xs) ((rShort xs s7).1 - kI) sI).1, (rMany (rInstr xs) ((rShort xs s7).1 - kI) sI).2) ∧ q = (rShort xs s7).1 - kI) ((rShort xs s7).1) ?_ ?_
          ·
            exact ⟨0, a8, e8, s8, [], [], ⟨none, 0, 0⟩, ⟨rfl, rfl, rfl, rfl, rfl, trivial⟩, ((hS.b2New.nilOwn (α := Instr) 90).pick (e := tkE b16 sx a8 e8) (by first | exact .h0 | exact .h1 | exact .h2 | exact .h3 | exact .h4 | exact .h5 | exact .h6 | exact .h7 | exact .h8 | exact .h9 | exact .h10 | exact .h11 | exact .h12 | exact .h13 | exact .h14)).pick (e := blkE b6 (Enc.enc (⟨v0, ⟨x0, (rByte xs s2).1, (rByte xs s3).1⟩, vK, (rKey xs sK).1, ⟨none, 0, 0⟩, ⟨none, 0, 0⟩⟩ : Message)) 31) (by first | exact .h0 | exact .h1 | exact .h2 | exact .h3 | exact .h4 | exact .h5 | exact .h6 | exact .h7 | exact .h8 | exact .h9 | exact .h10 | exact .h11 | exact .h12 | exact .h13 | exact .h14), T8, ha8, Nat.zero_le _, rfl, rfl, rfl, rfl, rfl⟩
          ·
            rintro q f w ⟨kI, aI, eI, sI, lI, isI, vI, hfit, hS, TI1, haI, hkI, hlI, hisI, hipI, hMI, hm⟩
            refine WC.fits _ hfit (fun g => ?_)
            clear hfit
            refine WC.seq (fun K23 hK23 => ?_)
            refine WC.seq (fun K24 hK24 => ?_)
            refine WC.region ?_
            refine WL.op rfl (opW.moveI rfl ?_)
            refine WL.op rfl (opW.moveI rfl ?_)
            refine WL.op rfl (opW.lss rfl rfl ?_)
            refine WL.op rfl (opW.moveB rfl ?_)
            refine WL.gd _ 75 _ rfl rfl rfl rfl (fun hg76 => opW.moveV (v := .pointer (some ⟨b16, 0, none⟩)) rfl ⟨rfl, Bel.refl _⟩) (fun w hw => ?_)
            replace hS := hS.bel hw
            refine WL.gd _ 75 _ rfl rfl rfl rfl (fun hg77 => opW.nilCheckB (by first | exact gv_of rfl hg77 | rfl) ⟨rfl, Bel.refl _⟩) (fun w hw => ?_)
            replace hS := hS.bel hw
            refine WL.gd _ 75 _ rfl rfl rfl rfl (fun hg78 => opW.fieldAddrB (by first | exact gv_of rfl hg78 | rfl) ⟨rfl, Bel.refl _⟩) (fun w hw => ?_)
            replace hS := hS.bel hw
            refine WL.gd _ 75 (.int .i64 eI) rfl rfl rfl rfl (fun hg79 => ?_) (fun w hw => ?_)
            · refine opW.loadV (by first | exact gv_of rfl hg79 | rfl) (hS.ld1 (by first | exact .h0 | exact .h1 | exact .h2 | exact .h3 | exact .h4 | exact .h5 | exact .h6 | exact .h7 | exact .h8 | exact .h9 | exact .h10 | exact .h11 | exact .h12 | exact .h13 | exact .h14) (show (Enc.enc (⟨sx, ((aI : Nat) : Int), eI⟩ : Taker))[2]? = some (.int .i64 (eI)) from Taker.at_e _)) ⟨rfl, Bel.refl _⟩
            replace hS := hS.bel hw
            refine WL.gd _ 75 _ rfl rfl rfl rfl (fun hg80 => opW.eql (by first | exact gv_of rfl hg80 | rfl) rfl ⟨rfl, Bel.refl _⟩) (fun w hw => ?_)
            replace hS := hS.bel hw
            refine WL.op rfl (opW.pickAnd rfl (by first | rfl) rfl ?_)
            refine WL.nil ?_
            refine thenQ_n (hK24 _ _ ?_)
            refine WC.cond _ rfl (fun hc3 => ?_) (fun hc3 => ?_)
            ·
              have hr3 := hc3
              try simp only [decide_eq_true_eq, decide_eq_false_iff_not, Bool.and_eq_true, Bool.or_eq_true, Bool.and_eq_false_iff, Bool.or_eq_false_iff, Bool.not_eq_true', Bool.not_eq_false', Int.not_lt, Int.not_le] at hc3
              obtain ⟨hkN, rfl⟩ := hc3
              obtain rfl := TI1.fine rfl
              refine WC.skip ?_
              refine thenQ_n (hK23 _ _ ?_)
              refine WC.seq (fun K25 hK25 => ?_)
              refine WC.block ?_
              refine WC.seq (fun K26 hK26 => ?_)
              refine WC.region ?_
              refine WL.op rfl (opW.moveV (v := .pointer (some ⟨b16, 0, none⟩)) rfl ?_)
              refine WL.op rfl (opW.call (tk_byte _ _ _ b16 sx xs aI 0 (.ok aI) hx hxl haI TI1 (hS.pick (by first | exact .h0 | exact .h1 | exact .h2 | exact .h3 | exact .h4 | exact .h5 | exact .h6 | exact .h7 | exact .h8 | exact .h9 | exact .h10 | exact .h11 | exact .h12 | exact .h13 | exact .h14))) rfl ?_)
              rintro _ w ⟨c1, d1, rfl, U1, hc1', hS⟩
              generalize p1 : (rByte xs (.ok aI)).2 = g1 at U1
              refine WL.op rfl (opW.buildE (r := (⟨(rByte xs (.ok aI)).1, ⟨none, 0, 0⟩, ⟨none, 0, 0⟩⟩ : Instr)) (ps := Instr.parts (⟨(rByte xs (.ok aI)).1, ⟨none, 0, 0⟩, ⟨none, 0, 0⟩⟩ : Instr)) (Instr.enc_eq _) (by first | rfl | (simp only [enc_vset, enc_vz, Header.enc_eq, Header.parts, Instr.enc_eq, Instr.parts, Lookup.enc_eq, Lookup.parts, Message.enc_eq, Message.parts, Tx.enc_eq, Tx.parts, Reader.enc_eq, Reader.parts, Stop.enc_eq, Stop.parts, Taker.enc_eq, Taker.parts]; rfl)) (by (repeat' (first | exact trivial | refine And.intro ?_ ?_)) <;> first | rfl | exact Enc.size_eq _ | (simp; done)) ?_)
              refine WL.op rfl (opW.allocA hS ?_)
              intro b11 w _ hS
              refine WL.op0 (opW.storeE (r := (⟨(rByte xs (.ok aI)).1, ⟨none, 0, 0⟩, ⟨none, 0, 0⟩⟩ : Instr)) hS rfl rfl (by first | exact .h0 | exact .h1 | exact .h2 | exact .h3 | exact .h4 | exact .h5 | exact .h6 | exact .h7 | exact .h8 | exact .h9 | exact .h10 | exact .h11 | exact .h12 | exact .h13 | exact .h14) rfl ?_)
              intro w hS; replace hS := hS _ (by first | exact .h0 | exact .h1 | exact .h2 | exact .h3 | exact .h4 | exact .h5 | exact .h6 | exact .h7 | exact .h8 | exact .h9 | exact .h10 | exact .h11 | exact .h12 | exact .h13 | exact .h14)
              refine WL.nil ?_
              refine thenQ_n (hK26 _ _ ?_)
              refine WC.seq (fun K27 hK27 => ?_)
              refine WC.region ?_
              refine WL.op rfl (opW.moveV (v := .pointer (some ⟨b16, 0, none⟩)) rfl ?_)
              refine WL.op rfl (opW.moveV (v := .pointer (some ⟨b16, 0, none⟩)) rfl ?_)
              refine WL.op rfl (opW.call (tk_short _ _ _ b16 sx xs c1 d1 g1 hx hxl hc1' U1 (hS.pick (by first | exact .h0 | exact .h1 | exact .h2 | exact .h3 | exact .h4 | exact .h5 | exact .h6 | exact .h7 | exact .h8 | exact .h9 | exact .h10 | exact .h11 | exact .h12 | exact .h13 | exact .h14))) rfl ?_)
              rintro _ w ⟨c2, d2, rfl, U2, hc2', hS⟩
              have hl1 := rShort_lt xs g1
              refine WL.op rfl (opW.call (tk_bytes _ _ _ b16 sx xs c2 d2 (rShort xs g1).2 hx hxl hc2' U2 (rShort xs g1).1 (by omega) (hS.pick (by first | exact .h0 | exact .h1 | exact .h2 | exact .h3 | exact .h4 | exact .h5 | exact .h6 | exact .h7 | exact .h8 | exact .h9 | exact .h10 | exact .h11 | exact .h12 | exact .h13 | exact .h14))) rfl ?_)
              rintro _ w ⟨y1, c3, d3, rfl, U3, hc3', hS⟩
              generalize p2 : (rBytes xs (rShort xs g1).1 (rShort xs g1).2).2 = g2 at U3
              refine WL.op rfl (opW.fieldAddrB rfl ?_)
              refine WL.op0 (opW.storeF (b := b11) (o := 1) (v := y1.v) (sz := 1) (cs := Enc.enc (⟨(rByte xs (.ok aI)).1, ⟨none, 0, 0⟩, ⟨none, 0, 0⟩⟩ : Instr)) (cs' := Enc.enc (⟨(rByte xs (.ok aI)).1, y1, ⟨none, 0, 0⟩⟩ : Instr)) hS rfl rfl (by first | exact .h0 | exact .h1 | exact .h2 | exact .h3 | exact .h4 | exact .h5 | exact .h6 | exact .h7 | exact .h8 | exact .h9 | exact .h10 | exact .h11 | exact .h12 | exact .h13 | exact .h14) rfl (by rw [Enc.size_eq]; decide) (Enc.one (α := SlV) y1) (Instr.set_accounts (⟨(rByte xs (.ok aI)).1, ⟨none, 0, 0⟩, ⟨none, 0, 0⟩⟩ : Instr) y1) ?_)
              intro w hS; replace hS := hS _ (by first | exact .h0 | exact .h1 | exact .h2 | exact .h3 | exact .h4 | exact .h5 | exact .h6 | exact .h7 | exact .h8 | exact .h9 | exact .h10 | exact .h11 | exact .h12 | exact .h13 | exact .h14)
              refine WL.nil ?_
              refine thenQ_n (hK27 _ _ ?_)
              refine WC.seq (fun K28 hK28 => ?_)
              refine WC.region ?_
              refine WL.op rfl (opW.moveV (v := .pointer (some ⟨b16, 0, none⟩)) rfl ?_)
              refine WL.op rfl (opW.moveV (v := .pointer (some ⟨b16, 0, none⟩)) rfl ?_)
              refine WL.op rfl (opW.call (tk_short _ _ _ b16 sx xs c3 d3 g2 hx hxl hc3' U3 (hS.pick (by first | exact .h0 | exact .h1 | exact .h2 | exact .h3 | exact .h4 | exact .h5 | exact .h6 | exact .h7 | exact .h8 | exact .h9 | exact .h10 | exact .h11 | exact .h12 | exact .h13 | exact .h14))) rfl ?_)
              rintro _ w ⟨c4, d4, rfl, U4, hc4', hS⟩
              have hl2 := rShort_lt xs g2
              refine WL.op rfl (opW.call (tk_bytes _ _ _ b16 sx xs c4 d4 (rShort xs g2).2 hx hxl hc4' U4 (rShort xs g2).1 (by omega) (hS.pick (by first | exact .h0 | exact .h1 | exact .h2 | exact .h3 | exact .h4 | exact .h5 | exact .h6 | exact .h7 | exact .h8 | exact .h9 | exact .h10 | exact .h11 | exact .h12 | exact .h13 | exact .h14))) rfl ?_)
              rintro _ w ⟨y2, ae, ee, rfl, Te, hae, hS⟩
              have heI : (rInstr xs (.ok aI)).2 = (rBytes xs (rShort xs g2).1 (rShort xs g2).2).2 := by simp only [rInstr, rList, p1, p2]
              have hv1 : (rInstr xs (.ok aI)).1.2.1 = (rBytes xs (rShort xs g1).1 (rShort xs g1).2).1 := by simp only [rInstr, rList, p1]
              have hv2 : (rInstr xs (.ok aI)).1.2.2 = (rBytes xs (rShort xs g2).1 (rShort xs g2).2).1 := by simp only [rInstr, rList, p1, p2]
              refine WL.op rfl (opW.fieldAddrB rfl ?_)
              refine WL.op0 (opW.storeF (b := b11) (o := 2) (v := y2.v) (sz := 1) (cs := Enc.enc (⟨(rByte xs (.ok aI)).1, y1, ⟨none, 0, 0⟩⟩ : Instr)) (cs' := Enc.enc (⟨(rByte xs (.ok aI)).1, y1, y2⟩ : Instr)) hS rfl rfl (by first | exact .h0 | exact .h1 | exact .h2 | exact .h3 | exact .h4 | exact .h5 | exact .h6 | exact .h7 | exact .h8 | exact .h9 | exact .h10 | exact .h11 | exact .h12 | exact .h13 | exact .h14) rfl (by rw [Enc.size_eq]; decide) (Enc.one (α := SlV) y2) (Instr.set_data (⟨(rByte xs (.ok aI)).1, y1, ⟨none, 0, 0⟩⟩ : Instr) y2) ?_)
              intro w hS; replace hS := hS _ (by first | exact .h0 | exact .h1 | exact .h2 | exact .h3 | exact .h4 | exact .h5 | exact .h6 | exact .h7 | exact .h8 | exact .h9 | exact .h10 | exact .h11 | exact .h12 | exact .h13 | exact .h14)
              refine WL.nil ?_
              refine thenQ_n (hK28 _ _ ?_)
              refine WC.region ?_
              refine WL.op rfl (opW.fieldAddrB rfl ?_)
              refine WL.op rfl (opW.loadV rfl (hS.ld1 (by first | exact .h0 | exact .h1 | exact .h2 | exact .h3 | exact .h4 | exact .h5 | exact .h6 | exact .h7 | exact .h8 | exact .h9 | exact .h10 | exact .h11 | exact .h12 | exact .h13 | exact .h14) (Message.at_instrs (⟨v0, ⟨x0, (rByte xs s2).1, (rByte xs s3).1⟩, vK, (rKey xs sK).1, vI, ⟨none, 0, 0⟩⟩ : Message))) ?_)
              refine WL.op rfl (opW.loadV rfl (hS.ldA (cs := Enc.enc (⟨(rByte xs (.ok aI)).1, y1, y2⟩ : Instr)) (by first | exact .h0 | exact .h1 | exact .h2 | exact .h3 | exact .h4 | exact .h5 | exact .h6 | exact .h7 | exact .h8 | exact .h9 | exact .h10 | exact .h11 | exact .h12 | exact .h13 | exact .h14) (by exact Enc.size_eq _)) ?_)
              refine WL.op rfl (opW.buildSl hS (([((⟨(rByte xs (.ok aI)).1, y1, y2⟩ : Instr))] : List Instr)) [.agg (Enc.enc (⟨(rByte xs (.ok aI)).1, y1, y2⟩ : Instr))] rfl rfl rfl rfl (by decide) ?_)
              intro b100 w hw hS
              refine WL.op rfl (opW.appendOwn (α := Instr) (v := vI.v) (xs := isI) rfl hS rfl (by first | exact .h0 | exact .h1 | exact .h2 | exact .h3 | exact .h4 | exact .h5 | exact .h6 | exact .h7 | exact .h8 | exact .h9 | exact .h10 | exact .h11 | exact .h12 | exact .h13 | exact .h14) (hS.sl (v := .slice (some ⟨b100, 0, none⟩) 1 1) (xs := [((⟨(rByte xs (.ok aI)).1, y1, y2⟩ : Instr))]) (by first | exact .h0 | exact .h1 | exact .h2 | exact .h3 | exact .h4 | exact .h5 | exact .h6 | exact .h7 | exact .h8 | exact .h9 | exact .h10 | exact .h11 | exact .h12 | exact .h13 | exact .h14)) (by simp only [List.length_cons, List.length_nil]; omega) (by simp only [List.length_cons, List.length_nil, maxLen]; omega) ?_)
              intro vn w hS; replace hS := hS _ (by first | exact .h0 | exact .h1 | exact .h2 | exact .h3 | exact .h4 | exact .h5 | exact .h6 | exact .h7 | exact .h8 | exact .h9 | exact .h10 | exact .h11 | exact .h12 | exact .h13 | exact .h14)
              obtain ⟨sn, rfl⟩ := (hS.sl (v := vn) (xs := isI ++ [((⟨(rByte xs (.ok aI)).1, y1, y2⟩ : Instr))]) (by first | exact .h0 | exact .h1 | exact .h2 | exact .h3 | exact .h4 | exact .h5 | exact .h6 | exact .h7 | exact .h8 | exact .h9 | exact .h10 | exact .h11 | exact .h12 | exact .h13 | exact .h14)).asV
              rw [← hv1, ← hv2] at hS
              replace hS := St.b2Add (p := ((y1, (rInstr xs (.ok aI)).1.2.1), (y2, (rInstr xs (.ok aI)).1.2.2))) (l := zipI isI lI) (((hS.pick (e := b2E (zipI isI lI)) (by first | exact .h0 | exact .h1 | exact .h2 | exact .h3 | exact .h4 | exact .h5 | exact .h6 | exact .h7 | exact .h8 | exact .h9 | exact .h10 | exact .h11 | exact .h12 | exact .h13 | exact .h14)).pick (e := ownE y2.v 5 (rInstr xs (.ok aI)).1.2.2) (by first | exact .h0 | exact .h1 | exact .h2 | exact .h3 | exact .h4 | exact .h5 | exact .h6 | exact .h7 | exact .h8 | exact .h9 | exact .h10 | exact .h11 | exact .h12 | exact .h13 | exact .h14)).pick (e := ownE y1.v 5 (rInstr xs (.ok aI)).1.2.1) (by first | exact .h0 | exact .h1 | exact .h2 | exact .h3 | exact .h4 | exact .h5 | exact .h6 | exact .h7 | exact .h8 | exact .h9 | exact .h10 | exact .h11 | exact .h12 | exact .h13 | exact .h14))
              rw [show zipI isI lI ++ [((y1, (rInstr xs (.ok aI)).1.2.1), (y2, (rInstr xs (.ok aI)).1.2.2))] = zipI (isI ++ [((⟨(rByte xs (.ok aI)).1, y1, y2⟩ : Instr))]) (lI ++ [(rInstr xs (.ok aI)).1]) from (zipI_snoc hisI ((⟨(rByte xs (.ok aI)).1, y1, y2⟩ : Instr)) (rInstr xs (.ok aI)).1).symm] at hS
              refine WL.op rfl (opW.fieldAddrB rfl ?_)
              refine WL.op0 (opW.storeF (b := b6) (o := 37) (v := sn.v) (sz := 1) (cs := Enc.enc (⟨v0, ⟨x0, (rByte xs s2).1, (rByte xs s3).1⟩, vK, (rKey xs sK).1, vI, ⟨none, 0, 0⟩⟩ : Message)) (cs' := Enc.enc (⟨v0, ⟨x0, (rByte xs s2).1, (rByte xs s3).1⟩, vK, (rKey xs sK).1, sn, ⟨none, 0, 0⟩⟩ : Message)) hS rfl rfl (by first | exact .h0 | exact .h1 | exact .h2 | exact .h3 | exact .h4 | exact .h5 | exact .h6 | exact .h7 | exact .h8 | exact .h9 | exact .h10 | exact .h11 | exact .h12 | exact .h13 | exact .h14) rfl (by rw [Enc.size_eq]; decide) (Enc.one (α := SlV) sn) (Message.set_instrs (⟨v0, ⟨x0, (rByte xs s2).1, (rByte xs s3).1⟩, vK, (rKey xs sK).1, vI, ⟨none, 0, 0⟩⟩ : Message) sn) ?_)
              intro w hS; replace hS := hS _ (by first | exact .h0 | exact .h1 | exact .h2 | exact .h3 | exact .h4 | exact .h5 | exact .h6 | exact .h7 | exact .h8 | exact .h9 | exact .h10 | exact .h11 | exact .h12 | exact .h13 | exact .h14)
              refine WL.nil ?_
              refine blockQ_n ?_
              refine thenQ_n (hK25 _ _ ?_)
              refine WC.region ?_
              refine WL.op rfl (opW.moveI rfl ?_)
              refine WL.op rfl (opW.add rfl rfl (wrap_i64 (by omega)) ?_)
              refine WL.op rfl (opW.assignI rfl ?_)
              refine WL.nil ?_
              refine thenQ_n ?_
              rw [← heI] at Te
              exact ⟨(rShort xs s7).1 - (kI + 1), by omega, kI + 1, ae, ee, _, lI ++ [(rInstr xs (.ok aI)).1], isI ++ [((⟨(rByte xs (.ok aI)).1, y1, y2⟩ : Instr))], sn, ⟨rfl, rfl, rfl, rfl, congrArg (Value.int .i64) (by omega), trivial⟩, (((hS.pick (e := ownE sn.v 90 (isI ++ [((⟨(rByte xs (.ok aI)).1, y1, y2⟩ : Instr))])) (by first | exact .h0 | exact .h1 | exact .h2 | exact .h3 | exact .h4 | exact .h5 | exact .h6 | exact .h7 | exact .h8 | exact .h9 | exact .h10 | exact .h11 | exact .h12 | exact .h13 | exact .h14)).pick (e := tkE b16 sx ae ee) (by first | exact .h0 | exact .h1 | exact .h2 | exact .h3 | exact .h4 | exact .h5 | exact .h6 | exact .h7 | exact .h8 | exact .h9 | exact .h10 | exact .h11 | exact .h12 | exact .h13 | exact .h14)).pick (e := blkE b6 (Enc.enc (⟨v0, ⟨x0, (rByte xs s2).1, (rByte xs s3).1⟩, vK, (rKey xs sK).1, sn, ⟨none, 0, 0⟩⟩ : Message)) 31) (by first | exact .h0 | exact .h1 | exact .h2 | exact .h3 | exact .h4 | exact .h5 | exact .h6 | exact .h7 | exact .h8 | exact .h9 | exact .h10 | exact .h11 | exact .h12 | exact .h13 | exact .h14)).sub (by repeat (first | with_reducible exact List.nil_sublist _ | with_reducible exact List.Sublist.refl _ | with_reducible refine List.Sublist.cons₂ _ ?_ | with_reducible refine List.Sublist.cons _ ?_)), Te, hae, by omega, by rw [List.length_append, hlI]; rfl, by rw [List.length_append, List.length_append, hisI]; rfl, by rw [List.map_append, List.map_append, hipI]; rfl, rMany_next hMI (by omega), rfl⟩
            ·
              have hr3 := hc3
              try simp only [decide_eq_true_eq, decide_eq_false_iff_not, Bool.and_eq_true, Bool.or_eq_true, Bool.and_eq_false_iff, Bool.or_eq_false_iff, Bool.not_eq_true', Bool.not_eq_false', Int.not_lt, Int.not_le] at hc3
              have hIA : rAll xs (rInstr xs) s7 = (lI, sI) := by
                unfold rAll
                rw [q8]
                refine rMany_end hMI ?_
                rcases hc3 with h | h
                · left; omega
                · right; exact ⟨_, TI1.err h⟩
              refine WC.exit ?_
              refine thenQ_e ?_
              refine thenQ_e ?_
              refine blockQ_hit ?_
              refine thenQ_n (hK21 _ _ ?_)
              refine WC.mid (fun f w => ∃ (m : Message) (is : List Instr) (ls : List Lookup) (cc : MC) (s : RS) (a : Nat) (e : Int), Fits [(2, .pointer (some ⟨b2, 0, none⟩)), (5, .pointer (some ⟨b16, 0, none⟩)), (6, .pointer (some ⟨b6, 0, none⟩))] f ∧ St w0 (blkE b6 (Enc.enc m) 31 :: tkE b16 sx a e :: (gotL m is ls cc ++ [blkE b2 (Enc.enc (⟨false, ⟨0, 0, 0⟩, ⟨none, 0, 0⟩, vz 32, ⟨none, 0, 0⟩, ⟨none, 0, 0⟩⟩ : Message)) 31])) w ∧ rMsg xs (.ok 0) = (cc, s) ∧ GotM m is ls cc ∧ Tk s a e ∧ a ≤ xs.length) ?_ ?_
              ·
                refine WC.seq (fun K29 hK29 => ?_)
                refine WC.region ?_
                refine WL.op rfl (opW.fieldAddrB rfl ?_)
                refine WL.op rfl (opW.loadV rfl (hS.ld1 (by first | exact .h0 | exact .h1 | exact .h2 | exact .h3 | exact .h4 | exact .h5 | exact .h6 | exact .h7 | exact .h8 | exact .h9 | exact .h10 | exact .h11 | exact .h12 | exact .h13 | exact .h14) (Message.at_v0 (⟨v0, ⟨x0, (rByte xs s2).1, (rByte xs s3).1⟩, vK, (rKey xs sK).1, vI, ⟨none, 0, 0⟩⟩ : Message))) ?_)
                refine WL.nil ?_
                refine thenQ_n (hK29 _ _ ?_)
                refine WC.cond _ rfl (fun hc4 => ?_) (fun hc4 => ?_)
                ·
                  have hr4 := hc4
                  try simp only [decide_eq_true_eq, decide_eq_false_iff_not, Bool.and_eq_true, Bool.or_eq_true, Bool.and_eq_false_iff, Bool.or_eq_false_iff, Bool.not_eq_true', Bool.not_eq_false', Int.not_lt, Int.not_le] at hc4
                  subst hr4
                  refine WC.seq (fun K30 hK30 => ?_)
                  refine WC.region ?_
                  refine WL.op rfl (opW.moveV (v := .pointer (some ⟨b16, 0, none⟩)) rfl ?_)
                  refine WL.op rfl (opW.call (tk_short _ _ _ b16 sx xs aI eI sI hx hxl haI TI1 (hS.pick (by first | exact .h0 | exact .h1 | exact .h2 | exact .h3 | exact .h4 | exact .h5 | exact .h6 | exact .h7 | exact .h8 | exact .h9 | exact .h10 | exact .h11 | exact .h12 | exact .h13 | exact .h14))) rfl ?_)
                  rintro _ w ⟨a9, e9, rfl, T9, ha9, hS⟩
                  generalize q9 : (rShort xs sI).2 = s9 at T9
                  have hltL := rShort_lt xs sI
                  replace hS := hS.pick (e := blkE b6 (Enc.enc (⟨true, ⟨x0, (rByte xs s2).1, (rByte xs s3).1⟩, vK, (rKey xs sK).1, vI, ⟨none, 0, 0⟩⟩ : Message)) 31) (by first | exact .h0 | exact .h1 | exact .h2 | exact .h3 | exact .h4 | exact .h5 | exact .h6 | exact .h7 | exact .h8 | exact .h9 | exact .h10 | exact .h11 | exact .h12 | exact .h13 | exact .h14)
                  refine WL.op rfl (opW.assignI rfl ?_)
                  refine WL.nil ?_
                  refine thenQ_n (hK30 _ _ ?_)
                  refine WC.seq (fun K31 hK31 => ?_)
                  refine WC.region ?_
                  refine WL.op rfl (opW.assignI rfl ?_)
                  refine WL.nil ?_
                  refine thenQ_n (hK31 _ _ ?_)
                  refine WC.block ?_
                  refine WC.loop (fun q f w => ∃ (kL aL : Nat) (eL : Int) (sL : RS) (lL : List (Vector UInt8 32 × List UInt8 × List UInt8)) (isL : List Lookup) (vL : SlV), Fits [(2, .pointer (some ⟨b2, 0, none⟩)), (5, .pointer (some ⟨b16, 0, none⟩)), (6, .pointer (some ⟨b6, 0, none⟩)), (8, .int .i64 ((rShort xs sI).1 : Int)), (12, .int .i64 (kL : Int))] f ∧ St w0 [blkE b6 (Enc.enc (⟨true, ⟨x0, (rByte xs s2).1, (rByte xs s3).1⟩, vK, (rKey xs sK).1, vI, vL⟩ : Message)) 31, tkE b16 sx aL eL, ownE vL.v 92 isL, b2E (zipL isL lL), ownE vI.v 90 isI, b2E (zipI isI lI), ownE vK.v 58 lK, blkE b2 (Enc.enc (⟨false, ⟨0, 0, 0⟩, ⟨none, 0, 0⟩, vz 32, ⟨none, 0, 0⟩, ⟨none, 0, 0⟩⟩ : Message)) 31] w ∧ Tk sL aL eL ∧ aL ≤ xs.length ∧ kL ≤ (rShort xs sI).1 ∧ lL.length = kL ∧ isL.length = lL.length ∧ isL.map (·.table) = lL.map (·.1) ∧ rMany (rLookup xs) (rShort xs sI).1 s9 = (lL ++ (rMany (rLookup xs) ((rShort xs sI).1 - kL) sL).1, (rMany (rLookup xs) ((rShort xs sI).1 - kL) sL).2) ∧ q = (rShort xs sI).1 - kL) ((rShort xs sI).1) ?_ ?_
                  ·
                    exact ⟨0, a9, e9, s9, [], [], ⟨none, 0, 0⟩, ⟨rfl, rfl, rfl, rfl, rfl, trivial⟩, ((hS.b2New.nilOwn (α := Lookup) 92).pick (e := tkE b16 sx a9 e9) (by first | exact .h0 | exact .h1 | exact .h2 | exact .h3 | exact .h4 | exact .h5 | exact .h6 | exact .h7 | exact .h8 | exact .h9 | exact .h10 | exact .h11 | exact .h12 | exact .h13 | exact .h14)).pick (e := blkE b6 (Enc.enc (⟨true, ⟨x0, (rByte xs s2).1, (rByte xs s3).1⟩, vK, (rKey xs sK).1, vI, ⟨none, 0, 0⟩⟩ : Message)) 31) (by first | exact .h0 | exact .h1 | exact .h2 | exact .h3 | exact .h4 | exact .h5 | exact .h6 | exact .h7 | exact .h8 | exact .h9 | exact .h10 | exact .h11 | exact .h12 | exact .h13 | exact .h14), T9, ha9, Nat.zero_le _, rfl, rfl, rfl, rfl, rfl⟩
                  ·
                    rintro q f w ⟨kL, aL, eL, sL, lL, isL, vL, hfit, hS, TL1, haL, hkL, hlL, hisL, hipL, hML, hm⟩
                    refine WC.fits _ hfit (fun g => ?_)
                    clear hfit
                    refine WC.seq (fun K32 hK32 => ?_)
                    refine WC.seq (fun K33 hK33 => ?_)
                    refine WC.region ?_
                    refine WL.op rfl (opW.moveI rfl ?_)
                    refine WL.op rfl (opW.moveI rfl ?_)
                    refine WL.op rfl (opW.lss rfl rfl ?_)
                    refine WL.op rfl (opW.moveB rfl ?_)
                    refine WL.gd _ 110 _ rfl rfl rfl rfl (fun hg111 => opW.moveV (v := .pointer (some ⟨b16, 0, none⟩)) rfl ⟨rfl, Bel.refl _⟩) (fun w hw => ?_)
                    replace hS := hS.bel hw
                    refine WL.gd _ 110 _ rfl rfl rfl rfl (fun hg112 => opW.nilCheckB (by first | exact gv_of rfl hg112 | rfl) ⟨rfl, Bel.refl _⟩) (fun w hw => ?_)
                    replace hS := hS.bel hw
                    refine WL.gd _ 110 _ rfl rfl rfl rfl (fun hg113 => opW.fieldAddrB (by first | exact gv_of rfl hg113 | rfl) ⟨rfl, Bel.refl _⟩) (fun w hw => ?_)
                    replace hS := hS.bel hw
                    refine WL.gd _ 110 (.int .i64 eL) rfl rfl rfl rfl (fun hg114 => ?_) (fun w hw => ?_)
                    · refine opW.loadV (by first | exact gv_of rfl hg114 | rfl) (hS.ld1 (by first | exact .h0 | exact .h1 | exact .h2 | exact .h3 | exact .h4 | exact .h5 | exact .h6 | exact .h7 | exact .h8 | exact .h9 | exact .h10 | exact .h11 | exact .h12 | exact .h13 | exact .h14) (show (Enc.enc (⟨sx, ((aL : Nat) : Int), eL⟩ : Taker))[2]? = some (.int .i64 (eL)) from Taker.at_e _)) ⟨rfl, Bel.refl _⟩
                    replace hS := hS.bel hw
                    refine WL.gd _ 110 _ rfl rfl rfl rfl (fun hg115 => opW.eql (by first | exact gv_of rfl hg115 | rfl) rfl ⟨rfl, Bel.refl _⟩) (fun w hw => ?_)
                    replace hS := hS.bel hw
                    refine WL.op rfl (opW.pickAnd rfl (by first | rfl) rfl ?_)
                    refine WL.nil ?_
                    refine thenQ_n (hK33 _ _ ?_)
                    refine WC.cond _ rfl (fun hc5 => ?_) (fun hc5 => ?_)
                    ·
                      have hr5 := hc5
                      try simp only [decide_eq_true_eq, decide_eq_false_iff_not, Bool.and_eq_true, Bool.or_eq_true, Bool.and_eq_false_iff, Bool.or_eq_false_iff, Bool.not_eq_true', Bool.not_eq_false', Int.not_lt, Int.not_le] at hc5
                      obtain ⟨hkN, rfl⟩ := hc5
                      obtain rfl := TL1.fine rfl
                      refine WC.skip ?_
                      refine thenQ_n (hK32 _ _ ?_)
                      refine WC.seq (fun K34 hK34 => ?_)
                      refine WC.block ?_
                      refine WC.seq (fun K35 hK35 => ?_)
                      refine WC.region ?_
                      refine WL.op rfl (opW.moveV (v := .pointer (some ⟨b16, 0, none⟩)) rfl ?_)
                      refine WL.op rfl (opW.call (tk_key _ _ _ b16 sx xs aL 0 (.ok aL) hx hxl haL TL1 (hS.pick (by first | exact .h0 | exact .h1 | exact .h2 | exact .h3 | exact .h4 | exact .h5 | exact .h6 | exact .h7 | exact .h8 | exact .h9 | exact .h10 | exact .h11 | exact .h12 | exact .h13 | exact .h14))) rfl ?_)
                      rintro _ w ⟨c1, d1, rfl, U1, hc1', hS⟩
                      generalize p1 : (rKey xs (.ok aL)).2 = g1 at U1
                      refine WL.op rfl (opW.buildE (r := (⟨(rKey xs (.ok aL)).1, ⟨none, 0, 0⟩, ⟨none, 0, 0⟩⟩ : Lookup)) (ps := Lookup.parts (⟨(rKey xs (.ok aL)).1, ⟨none, 0, 0⟩, ⟨none, 0, 0⟩⟩ : Lookup)) (Lookup.enc_eq _) (by first | (simp only [enc_vset, enc_vz, Header.enc_eq, Header.parts, Instr.enc_eq, Instr.parts, Lookup.enc_eq, Lookup.parts, Message.enc_eq, Message.parts, Tx.enc_eq, Tx.parts, Reader.enc_eq, Reader.parts, Stop.enc_eq, Stop.parts, Taker.enc_eq, Taker.parts]; rfl) | rfl) (by (repeat' (first | exact trivial | refine And.intro ?_ ?_)) <;> first | rfl | exact Enc.size_eq _ | (simp; done)) ?_)
                      refine WL.op rfl (opW.allocA hS ?_)
                      intro b13 w _ hS
                      refine WL.op0 (opW.storeE (r := (⟨(rKey xs (.ok aL)).1, ⟨none, 0, 0⟩, ⟨none, 0, 0⟩⟩ : Lookup)) hS rfl rfl (by first | exact .h0 | exact .h1 | exact .h2 | exact .h3 | exact .h4 | exact .h5 | exact .h6 | exact .h7 | exact .h8 | exact .h9 | exact .h10 | exact .h11 | exact .h12 | exact .h13 | exact .h14) rfl ?_)
                      intro w hS; replace hS := hS _ (by first | exact .h0 | exact .h1 | exact .h2 | exact .h3 | exact .h4 | exact .h5 | exact .h6 | exact .h7 | exact .h8 | exact .h9 | exact .h10 | exact .h11 | exact .h12 | exact .h13 | exact .h14)
                      refine WL.nil ?_
                      refine thenQ_n (hK35 _ _ ?_)
                      refine WC.seq (fun K36 hK36 => ?_)
                      refine WC.region ?_
                      refine WL.op rfl (opW.moveV (v := .pointer (some ⟨b16, 0, none⟩)) rfl ?_)
                      refine WL.op rfl (opW.moveV (v := .pointer (some ⟨b16, 0, none⟩)) rfl ?_)
                      refine WL.op rfl (opW.call (tk_short _ _ _ b16 sx xs c1 d1 g1 hx hxl hc1' U1 (hS.pick (by first | exact .h0 | exact .h1 | exact .h2 | exact .h3 | exact .h4 | exact .h5 | exact .h6 | exact .h7 | exact .h8 | exact .h9 | exact .h10 | exact .h11 | exact .h12 | exact .h13 | exact .h14))) rfl ?_)
                      rintro _ w ⟨c2, d2, rfl, U2, hc2', hS⟩
                      have hl1 := rShort_lt xs g1
                      refine WL.op rfl (opW.call (tk_bytes _ _ _ b16 sx xs c2 d2 (rShort xs g1).2 hx hxl hc2' U2 (rShort xs g1).1 (by omega) (hS.pick (by first | exact .h0 | exact .h1 | exact .h2 | exact .h3 | exact .h4 | exact .h5 | exact .h6 | exact .h7 | exact .h8 | exact .h9 | exact .h10 | exact .h11 | exact .h12 | exact .h13 | exact .h14))) rfl ?_)
                      rintro _ w ⟨y1, c3, d3, rfl, U3, hc3', hS⟩
                      generalize p2 : (rBytes xs (rShort xs g1).1 (rShort xs g1).2).2 = g2 at U3
                      refine WL.op rfl (opW.fieldAddrB rfl ?_)
                      refine WL.op0 (opW.storeF (b := b13) (o := 32) (v := y1.v) (sz := 1) (cs := Enc.enc (⟨(rKey xs (.ok aL)).1, ⟨none, 0, 0⟩, ⟨none, 0, 0⟩⟩ : Lookup)) (cs' := Enc.enc (⟨(rKey xs (.ok aL)).1, y1, ⟨none, 0, 0⟩⟩ : Lookup)) hS rfl rfl (by first | exact .h0 | exact .h1 | exact .h2 | exact .h3 | exact .h4 | exact .h5 | exact .h6 | exact .h7 | exact .h8 | exact .h9 | exact .h10 | exact .h11 | exact .h12 | exact .h13 | exact .h14) rfl (by rw [Enc.size_eq]; decide) (Enc.one (α := SlV) y1) (Lookup.set_writes (⟨(rKey xs (.ok aL)).1, ⟨none, 0, 0⟩, ⟨none, 0, 0⟩⟩ : Lookup) y1) ?_)
                      intro w hS; replace hS := hS _ (by first | exact .h0 | exact .h1 | exact .h2 | exact .h3 | exact .h4 | exact .h5 | exact .h6 | exact .h7 | exact .h8 | exact .h9 | exact .h10 | exact .h11 | exact .h12 | exact .h13 | exact .h14)
                      refine WL.nil ?_
                      refine thenQ_n (hK36 _ _ ?_)
                      refine WC.seq (fun K37 hK37 => ?_)
                      refine WC.region ?_
                      refine WL.op rfl (opW.moveV (v := .pointer (some ⟨b16, 0, none⟩)) rfl ?_)
                      refine WL.op rfl (opW.moveV (v := .pointer (some ⟨b16, 0, none⟩)) rfl ?_)
                      refine WL.op rfl (opW.call (tk_short _ _ _ b16 sx xs c3 d3 g2 hx hxl hc3' U3 (hS.pick (by first | exact .h0 | exact .h1 | exact .h2 | exact .h3 | exact .h4 | exact .h5 | exact .h6 | exact .h7 | exact .h8 | exact .h9 | exact .h10 | exact .h11 | exact .h12 | exact .h13 | exact .h14))) rfl ?_)
                      rintro _ w ⟨c4, d4, rfl, U4, hc4', hS⟩
                      have hl2 := rShort_lt xs g2
                      refine WL.op rfl (opW.call (tk_bytes _ _ _ b16 sx xs c4 d4 (rShort xs g2).2 hx hxl hc4' U4 (rShort xs g2).1 (by omega) (hS.pick (by first | exact .h0 | exact .h1 | exact .h2 | exact .h3 | exact .h4 | exact .h5 | exact .h6 | exact .h7 | exact .h8 | exact .h9 | exact .h10 | exact .h11 | exact .h12 | exact .h13 | exact .h14))) rfl ?_)
                      rintro _ w ⟨y2, ae, ee, rfl, Te, hae, hS⟩
                      have heL : (rLookup xs (.ok aL)).2 = (rBytes xs (rShort xs g2).1 (rShort xs g2).2).2 := by simp only [rLookup, rList, p1, p2]
                      have hv1 : (rLookup xs (.ok aL)).1.2.1 = (rBytes xs (rShort xs g1).1 (rShort xs g1).2).1 := by simp only [rLookup, rList, p1]
                      have hv2 : (rLookup xs (.ok aL)).1.2.2 = (rBytes xs (rShort xs g2).1 (rShort xs g2).2).1 := by simp only [rLookup, rList, p1, p2]
                      refine WL.op rfl (opW.fieldAddrB rfl ?_)
                      refine WL.op0 (opW.storeF (b := b13) (o := 33) (v := y2.v) (sz := 1) (cs := Enc.enc (⟨(rKey xs (.ok aL)).1, y1, ⟨none, 0, 0⟩⟩ : Lookup)) (cs' := Enc.enc (⟨(rKey xs (.ok aL)).1, y1, y2⟩ : Lookup)) hS rfl rfl (by first | exact .h0 | exact .h1 | exact .h2 | exact .h3 | exact .h4 | exact .h5 | exact .h6 | exact .h7 | exact .h8 | exact .h9 | exact .h10 | exact .h11 | exact .h12 | exact .h13 | exact .h14) rfl (by rw [Enc.size_eq]; decide) (Enc.one (α := SlV) y2) (Lookup.set_reads (⟨(rKey xs (.ok aL)).1, y1, ⟨none, 0, 0⟩⟩ : Lookup) y2) ?_)
                      intro w hS; replace hS := hS _ (by first | exact .h0 | exact .h1 | exact .h2 | exact .h3 | exact .h4 | exact .h5 | exact .h6 | exact .h7 | exact .h8 | exact .h9 | exact .h10 | exact .h11 | exact .h12 | exact .h13 | exact .h14)
                      refine WL.nil ?_
                      refine thenQ_n (hK37 _ _ ?_)
                      refine WC.region ?_
                      refine WL.op rfl (opW.fieldAddrB rfl ?_)
                      refine WL.op rfl (opW.loadV rfl (hS.ld1 (by first | exact .h0 | exact .h1 | exact .h2 | exact .h3 | exact .h4 | exact .h5 | exact .h6 | exact .h7 | exact .h8 | exact .h9 | exact .h10 | exact .h11 | exact .h12 | exact .h13 | exact .h14) (Message.at_lookups (⟨true, ⟨x0, (rByte xs s2).1, (rByte xs s3).1⟩, vK, (rKey xs sK).1, vI, vL⟩ : Message))) ?_)
                      refine WL.op rfl (opW.loadV rfl (hS.ldA (cs := Enc.enc (⟨(rKey xs (.ok aL)).1, y1, y2⟩ : Lookup)) (by first | exact .h0 | exact .h1 | exact .h2 | exact .h3 | exact .h4 | exact .h5 | exact .h6 | exact .h7 | exact .h8 | exact .h9 | exact .h10 | exact .h11 | exact .h12 | exact .h13 | exact .h14) (by exact Enc.size_eq _)) ?_)
                      refine WL.op rfl (opW.buildSl hS (([((⟨(rKey xs (.ok aL)).1, y1, y2⟩ : Lookup))] : List Lookup)) [.agg (Enc.enc (⟨(rKey xs (.ok aL)).1, y1, y2⟩ : Lookup))] rfl rfl rfl rfl (by decide) ?_)
                      intro b135 w hw hS
                      refine WL.op rfl (opW.appendOwn (α := Lookup) (v := vL.v) (xs := isL) rfl hS rfl (by first | exact .h0 | exact .h1 | exact .h2 | exact .h3 | exact .h4 | exact .h5 | exact .h6 | exact .h7 | exact .h8 | exact .h9 | exact .h10 | exact .h11 | exact .h12 | exact .h13 | exact .h14) (hS.sl (v := .slice (some ⟨b135, 0, none⟩) 1 1) (xs := [((⟨(rKey xs (.ok aL)).1, y1, y2⟩ : Lookup))]) (by first | exact .h0 | exact .h1 | exact .h2 | exact .h3 | exact .h4 | exact .h5 | exact .h6 | exact .h7 | exact .h8 | exact .h9 | exact .h10 | exact .h11 | exact .h12 | exact .h13 | exact .h14)) (by simp only [List.length_cons, List.length_nil]; omega) (by simp only [List.length_cons, List.length_nil, maxLen]; omega) ?_)
                      intro vn w hS; replace hS := hS _ (by first | exact .h0 | exact .h1 | exact .h2 | exact .h3 | exact .h4 | exact .h5 | exact .h6 | exact .h7 | exact .h8 | exact .h9 | exact .h10 | exact .h11 | exact .h12 | exact .h13 | exact .h14)
                      obtain ⟨sn, rfl⟩ := (hS.sl (v := vn) (xs := isL ++ [((⟨(rKey xs (.ok aL)).1, y1, y2⟩ : Lookup))]) (by first | exact .h0 | exact .h1 | exact .h2 | exact .h3 | exact .h4 | exact .h5 | exact .h6 | exact .h7 | exact .h8 | exact .h9 | exact .h10 | exact .h11 | exact .h12 | exact .h13 | exact .h14)).asV
                      rw [← hv1, ← hv2] at hS
                      replace hS := St.b2Add (p := ((y1, (rLookup xs (.ok aL)).1.2.1), (y2, (rLookup xs (.ok aL)).1.2.2))) (l := zipL isL lL) (((hS.pick (e := b2E (zipL isL lL)) (by first | exact .h0 | exact .h1 | exact .h2 | exact .h3 | exact .h4 | exact .h5 | exact .h6 | exact .h7 | exact .h8 | exact .h9 | exact .h10 | exact .h11 | exact .h12 | exact .h13 | exact .h14)).pick (e := ownE y2.v 5 (rLookup xs (.ok aL)).1.2.2) (by first | exact .h0 | exact .h1 | exact .h2 | exact .h3 | exact .h4 | exact .h5 | exact .h6 | exact .h7 | exact .h8 | exact .h9 | exact .h10 | exact .h11 | exact .h12 | exact .h13 | exact .h14)).pick (e := ownE y1.v 5 (rLookup xs (.ok aL)).1.2.1) (by first | exact .h0 | exact .h1 | exact .h2 | exact .h3 | exact .h4 | exact .h5 | exact .h6 | exact .h7 | exact .h8 | exact .h9 | exact .h10 | exact .h11 | exact .h12 | exact .h13 | exact .h14))
                      rw [show zipL isL lL ++ [((y1, (rLookup xs (.ok aL)).1.2.1), (y2, (rLookup xs (.ok aL)).1.2.2))] = zipL (isL ++ [((⟨(rKey xs (.ok aL)).1, y1, y2⟩ : Lookup))]) (lL ++ [(rLookup xs (.ok aL)).1]) from (zipL_snoc hisL ((⟨(rKey xs (.ok aL)).1, y1, y2⟩ : Lookup)) (rLookup xs (.ok aL)).1).symm] at hS
                      refine WL.op rfl (opW.fieldAddrB rfl ?_)
                      refine WL.op0 (opW.storeF (b := b6) (o := 38) (v := sn.v) (sz := 1) (cs := Enc.enc (⟨true, ⟨x0, (rByte xs s2).1, (rByte xs s3).1⟩, vK, (rKey xs sK).1, vI, vL⟩ : Message)) (cs' := Enc.enc (⟨true, ⟨x0, (rByte xs s2).1, (rByte xs s3).1⟩, vK, (rKey xs sK).1, vI, sn⟩ : Message)) hS rfl rfl (by first | exact .h0 | exact .h1 | exact .h2 | exact .h3 | exact .h4 | exact .h5 | exact .h6 | exact .h7 | exact .h8 | exact .h9 | exact .h10 | exact .h11 | exact .h12 | exact .h13 | exact .h14) rfl (by rw [Enc.size_eq]; decide) (Enc.one (α := SlV) sn) (Message.set_lookups (⟨true, ⟨x0, (rByte xs s2).1, (rByte xs s3).1⟩, vK, (rKey xs sK).1, vI, vL⟩ : Message) sn) ?_)
                      intro w hS; replace hS := hS _ (by first | exact .h0 | exact .h1 | exact .h2 | exact .h3 | exact .h4 | exact .h5 | exact .h6 | exact .h7 | exact .h8 | exact .h9 | exact .h10 | exact .h11 | exact .h12 | exact .h13 | exact .h14)
                      refine WL.nil ?_
                      refine blockQ_n ?_
                      refine thenQ_n (hK34 _ _ ?_)
                      refine WC.region ?_
                      refine WL.op rfl (opW.moveI rfl ?_)
                      refine WL.op rfl (opW.add rfl rfl (wrap_i64 (by omega)) ?_)
                      refine WL.op rfl (opW.assignI rfl ?_)
                      refine WL.nil ?_
                      refine thenQ_n ?_
                      rw [← heL] at Te
                      exact ⟨(rShort xs sI).1 - (kL + 1), by omega, kL + 1, ae, ee, _, lL ++ [(rLookup xs (.ok aL)).1], isL ++ [((⟨(rKey xs (.ok aL)).1, y1, y2⟩ : Lookup))], sn, ⟨rfl, rfl, rfl, rfl, congrArg (Value.int .i64) (by omega), trivial⟩, (((hS.pick (e := ownE sn.v 92 (isL ++ [((⟨(rKey xs (.ok aL)).1, y1, y2⟩ : Lookup))])) (by first | exact .h0 | exact .h1 | exact .h2 | exact .h3 | exact .h4 | exact .h5 | exact .h6 | exact .h7 | exact .h8 | exact .h9 | exact .h10 | exact .h11 | exact .h12 | exact .h13 | exact .h14)).pick (e := tkE b16 sx ae ee) (by first | exact .h0 | exact .h1 | exact .h2 | exact .h3 | exact .h4 | exact .h5 | exact .h6 | exact .h7 | exact .h8 | exact .h9 | exact .h10 | exact .h11 | exact .h12 | exact .h13 | exact .h14)).pick (e := blkE b6 (Enc.enc (⟨true, ⟨x0, (rByte xs s2).1, (rByte xs s3).1⟩, vK, (rKey xs sK).1, vI, sn⟩ : Message)) 31) (by first | exact .h0 | exact .h1 | exact .h2 | exact .h3 | exact .h4 | exact .h5 | exact .h6 | exact .h7 | exact .h8 | exact .h9 | exact .h10 | exact .h11 | exact .h12 | exact .h13 | exact .h14)).sub (by repeat (first | with_reducible exact List.nil_sublist _ | with_reducible exact List.Sublist.refl _ | with_reducible refine List.Sublist.cons₂ _ ?_ | with_reducible refine List.Sublist.cons _ ?_)), Te, hae, by omega, by rw [List.length_append, hlL]; rfl, by rw [List.length_append, List.length_append, hisL]; rfl, by rw [List.map_append, List.map_append, hipL]; rfl, rMany_next hML (by omega), rfl⟩
                    ·
                      have hr5 := hc5
                      try simp only [decide_eq_true_eq, decide_eq_false_iff_not, Bool.and_eq_true, Bool.or_eq_true, Bool.and_eq_false_iff, Bool.or_eq_false_iff, Bool.not_eq_true', Bool.not_eq_false', Int.not_lt, Int.not_le] at hc5
                      have hLA : rAll xs (rLookup xs) sI = (lL, sL) := by
                        unfold rAll
                        rw [q9]
                        refine rMany_end hML ?_
                        rcases hc5 with h | h
                        · left; omega
                        · right; exact ⟨_, TL1.err h⟩
                      have e0 : rMsg xs (.ok 0) = ((⟨true, ⟨x0, (rByte xs s2).1, (rByte xs s3).1⟩, lK, (rKey xs sK).1, lI, lL⟩ : MC), sL) := by simp only [rMsg, hg, q3, q4, hKA, q7, hIA, hLA, if_true]
                      have hgo : St w0 (blkE b6 (Enc.enc (⟨true, ⟨x0, (rByte xs s2).1, (rByte xs s3).1⟩, vK, (rKey xs sK).1, vI, vL⟩ : Message)) 31 :: tkE b16 sx aL eL :: (gotL (⟨true, ⟨x0, (rByte xs s2).1, (rByte xs s3).1⟩, vK, (rKey xs sK).1, vI, vL⟩ : Message) isI isL (⟨true, ⟨x0, (rByte xs s2).1, (rByte xs s3).1⟩, lK, (rKey xs sK).1, lI, lL⟩ : MC) ++ [blkE b2 (Enc.enc (⟨false, ⟨0, 0, 0⟩, ⟨none, 0, 0⟩, vz 32, ⟨none, 0, 0⟩, ⟨none, 0, 0⟩⟩ : Message)) 31])) w := by
                        unfold gotL
                        show St w0 [blkE b6 (Enc.enc (⟨true, ⟨x0, (rByte xs s2).1, (rByte xs s3).1⟩, vK, (rKey xs sK).1, vI, vL⟩ : Message)) 31, tkE b16 sx aL eL, ownE vK.v 58 lK, ownE vI.v 90 isI, b2E (zipI isI lI), ownE vL.v 92 isL, b2E (zipL isL lL), blkE b2 (Enc.enc (⟨false, ⟨0, 0, 0⟩, ⟨none, 0, 0⟩, vz 32, ⟨none, 0, 0⟩, ⟨none, 0, 0⟩⟩ : Message)) 31] w
                        replace hS := hS.pick (e := blkE b2 (Enc.enc (⟨false, ⟨0, 0, 0⟩, ⟨none, 0, 0⟩, vz 32, ⟨none, 0, 0⟩, ⟨none, 0, 0⟩⟩ : Message)) 31) (by first | exact .h0 | exact .h1 | exact .h2 | exact .h3 | exact .h4 | exact .h5 | exact .h6 | exact .h7 | exact .h8 | exact .h9 | exact .h10 | exact .h11 | exact .h12 | exact .h13 | exact .h14)
                        replace hS := hS.pick (e := b2E (zipL isL lL)) (by first | exact .h0 | exact .h1 | exact .h2 | exact .h3 | exact .h4 | exact .h5 | exact .h6 | exact .h7 | exact .h8 | exact .h9 | exact .h10 | exact .h11 | exact .h12 | exact .h13 | exact .h14)
                        replace hS := hS.pick (e := ownE vL.v 92 isL) (by first | exact .h0 | exact .h1 | exact .h2 | exact .h3 | exact .h4 | exact .h5 | exact .h6 | exact .h7 | exact .h8 | exact .h9 | exact .h10 | exact .h11 | exact .h12 | exact .h13 | exact .h14)
                        replace hS := hS.pick (e := b2E (zipI isI lI)) (by first | exact .h0 | exact .h1 | exact .h2 | exact .h3 | exact .h4 | exact .h5 | exact .h6 | exact .h7 | exact .h8 | exact .h9 | exact .h10 | exact .h11 | exact .h12 | exact .h13 | exact .h14)
                        replace hS := hS.pick (e := ownE vI.v 90 isI) (by first | exact .h0 | exact .h1 | exact .h2 | exact .h3 | exact .h4 | exact .h5 | exact .h6 | exact .h7 | exact .h8 | exact .h9 | exact .h10 | exact .h11 | exact .h12 | exact .h13 | exact .h14)
                        replace hS := hS.pick (e := ownE vK.v 58 lK) (by first | exact .h0 | exact .h1 | exact .h2 | exact .h3 | exact .h4 | exact .h5 | exact .h6 | exact .h7 | exact .h8 | exact .h9 | exact .h10 | exact .h11 | exact .h12 | exact .h13 | exact .h14)
                        replace hS := hS.pick (e := tkE b16 sx aL eL) (by first | exact .h0 | exact .h1 | exact .h2 | exact .h3 | exact .h4 | exact .h5 | exact .h6 | exact .h7 | exact .h8 | exact .h9 | exact .h10 | exact .h11 | exact .h12 | exact .h13 | exact .h14)
                        replace hS := hS.pick (e := blkE b6 (Enc.enc (⟨true, ⟨x0, (rByte xs s2).1, (rByte xs s3).1⟩, vK, (rKey xs sK).1, vI, vL⟩ : Message)) 31) (by first | exact .h0 | exact .h1 | exact .h2 | exact .h3 | exact .h4 | exact .h5 | exact .h6 | exact .h7 | exact .h8 | exact .h9 | exact .h10 | exact .h11 | exact .h12 | exact .h13 | exact .h14)
                        exact hS.sub (by repeat (first | with_reducible exact List.nil_sublist _ | with_reducible exact List.Sublist.refl _ | with_reducible refine List.Sublist.cons₂ _ ?_ | with_reducible refine List.Sublist.cons _ ?_))
                      have hgm : GotM (⟨true, ⟨x0, (rByte xs s2).1, (rByte xs s3).1⟩, vK, (rKey xs sK).1, vI, vL⟩ : Message) isI isL (⟨true, ⟨x0, (rByte xs s2).1, (rByte xs s3).1⟩, lK, (rKey xs sK).1, lI, lL⟩ : MC) := ⟨rfl, rfl, rfl, hisI, hipI, hisL, hipL, (show lK.length < 65536 by omega), (show lI.length < 65536 by omega), (show lL.length < 65536 by omega)⟩
                      have hTT := TL1
                      have haa := haL
                      refine WC.exit ?_
                      refine thenQ_e ?_
                      refine thenQ_e ?_
                      refine blockQ_hit ?_
                      refine thenQ_n ?_
                      exact ⟨_, _, _, _, _, _, _, ⟨rfl, rfl, rfl, trivial⟩, hgo, e0, hgm, hTT, haa⟩
                ·
                  have hr4 := hc4
                  try simp only [decide_eq_true_eq, decide_eq_false_iff_not, Bool.and_eq_true, Bool.or_eq_true, Bool.and_eq_false_iff, Bool.or_eq_false_iff, Bool.not_eq_true', Bool.not_eq_false', Int.not_lt, Int.not_le] at hc4
                  subst hr4
                  have e0 : rMsg xs (.ok 0) = ((⟨false, ⟨x0, (rByte xs s2).1, (rByte xs s3).1⟩, lK, (rKey xs sK).1, lI, []⟩ : MC), sI) := by simp only [rMsg, hg, q3, q4, hKA, q7, hIA, Bool.false_eq_true, if_false]
                  replace hS := (hS.b2New).nilOwn (α := Lookup) 92
                  have hgo : St w0 (blkE b6 (Enc.enc (⟨false, ⟨x0, (rByte xs s2).1, (rByte xs s3).1⟩, vK, (rKey xs sK).1, vI, ⟨none, 0, 0⟩⟩ : Message)) 31 :: tkE b16 sx aI eI :: (gotL (⟨false, ⟨x0, (rByte xs s2).1, (rByte xs s3).1⟩, vK, (rKey xs sK).1, vI, ⟨none, 0, 0⟩⟩ : Message) isI [] (⟨false, ⟨x0, (rByte xs s2).1, (rByte xs s3).1⟩, lK, (rKey xs sK).1, lI, []⟩ : MC) ++ [blkE b2 (Enc.enc (⟨false, ⟨0, 0, 0⟩, ⟨none, 0, 0⟩, vz 32, ⟨none, 0, 0⟩, ⟨none, 0, 0⟩⟩ : Message)) 31])) w := by
                    unfold gotL
                    show St w0 [blkE b6 (Enc.enc (⟨false, ⟨x0, (rByte xs s2).1, (rByte xs s3).1⟩, vK, (rKey xs sK).1, vI, ⟨none, 0, 0⟩⟩ : Message)) 31, tkE b16 sx aI eI, ownE vK.v 58 lK, ownE vI.v 90 isI, b2E (zipI isI lI), ownE (α := Lookup) (.slice none 0 0) 92 [], b2E [], blkE b2 (Enc.enc (⟨false, ⟨0, 0, 0⟩, ⟨none, 0, 0⟩, vz 32, ⟨none, 0, 0⟩, ⟨none, 0, 0⟩⟩ : Message)) 31] w
                    replace hS := hS.pick (e := blkE b2 (Enc.enc (⟨false, ⟨0, 0, 0⟩, ⟨none, 0, 0⟩, vz 32, ⟨none, 0, 0⟩, ⟨none, 0, 0⟩⟩ : Message)) 31) (by first | exact .h0 | exact .h1 | exact .h2 | exact .h3 | exact .h4 | exact .h5 | exact .h6 | exact .h7 | exact .h8 | exact .h9 | exact .h10 | exact .h11 | exact .h12 | exact .h13 | exact .h14)
                    replace hS := hS.pick (e := b2E []) (by first | exact .h0 | exact .h1 | exact .h2 | exact .h3 | exact .h4 | exact .h5 | exact .h6 | exact .h7 | exact .h8 | exact .h9 | exact .h10 | exact .h11 | exact .h12 | exact .h13 | exact .h14)
                    replace hS := hS.pick (e := ownE (α := Lookup) (.slice none 0 0) 92 []) (by first | exact .h0 | exact .h1 | exact .h2 | exact .h3 | exact .h4 | exact .h5 | exact .h6 | exact .h7 | exact .h8 | exact .h9 | exact .h10 | exact .h11 | exact .h12 | exact .h13 | exact .h14)
                    replace hS := hS.pick (e := b2E (zipI isI lI)) (by first | exact .h0 | exact .h1 | exact .h2 | exact .h3 | exact .h4 | exact .h5 | exact .h6 | exact .h7 | exact .h8 | exact .h9 | exact .h10 | exact .h11 | exact .h12 | exact .h13 | exact .h14)
                    replace hS := hS.pick (e := ownE vI.v 90 isI) (by first | exact .h0 | exact .h1 | exact .h2 | exact .h3 | exact .h4 | exact .h5 | exact .h6 | exact .h7 | exact .h8 | exact .h9 | exact .h10 | exact .h11 | exact .h12 | exact .h13 | exact .h14)
                    replace hS := hS.pick (e := ownE vK.v 58 lK) (by first | exact .h0 | exact .h1 | exact .h2 | exact .h3 | exact .h4 | exact .h5 | exact .h6 | exact .h7 | exact .h8 | exact .h9 | exact .h10 | exact .h11 | exact .h12 | exact .h13 | exact .h14)
                    replace hS := hS.pick (e := tkE b16 sx aI eI) (by first | exact .h0 | exact .h1 | exact .h2 | exact .h3 | exact .h4 | exact .h5 | exact .h6 | exact .h7 | exact .h8 | exact .h9 | exact .h10 | exact .h11 | exact .h12 | exact .h13 | exact .h14)
                    replace hS := hS.pick (e := blkE b6 (Enc.enc (⟨false, ⟨x0, (rByte xs s2).1, (rByte xs s3).1⟩, vK, (rKey xs sK).1, vI, ⟨none, 0, 0⟩⟩ : Message)) 31) (by first | exact .h0 | exact .h1 | exact .h2 | exact .h3 | exact .h4 | exact .h5 | exact .h6 | exact .h7 | exact .h8 | exact .h9 | exact .h10 | exact .h11 | exact .h12 | exact .h13 | exact .h14)
                    exact hS.sub (by repeat (first | with_reducible exact List.nil_sublist _ | with_reducible exact List.Sublist.refl _ | with_reducible refine List.Sublist.cons₂ _ ?_ | with_reducible refine List.Sublist.cons _ ?_))
                  have hgm : GotM (⟨false, ⟨x0, (rByte xs s2).1, (rByte xs s3).1⟩, vK, (rKey xs sK).1, vI, ⟨none, 0, 0⟩⟩ : Message) isI [] (⟨false, ⟨x0, (rByte xs s2).1, (rByte xs s3).1⟩, lK, (rKey xs sK).1, lI, []⟩ : MC) := ⟨rfl, rfl, rfl, hisI, hipI, rfl, rfl, (show lK.length < 65536 by omega), (show lI.length < 65536 by omega), (show (0 : Nat) < 65536 by decide)⟩
                  have hTT := TI1
                  have haa := haI
                  refine WC.skip ?_
                  refine thenQ_n ?_
                  exact ⟨_, _, _, _, _, _, _, ⟨rfl, rfl, rfl, trivial⟩, hgo, e0, hgm, hTT, haa⟩
              ·
                rintro f w ⟨m, is, ls, cc, s, a, e, hfit, hS, e0, hgm, hTT, haa⟩
                refine WC.fits _ hfit (fun g => ?_)
                clear hfit
                unfold gotL at hS
                simp only [List.cons_append, List.nil_append] at hS
                refine WC.seq (fun K38 hK38 => ?_)
                refine WC.seq (fun K39 hK39 => ?_)
                refine WC.region ?_
                refine WL.op rfl (opW.moveV (v := .pointer (some ⟨b16, 0, none⟩)) rfl ?_)
                refine WL.op rfl (opW.nilCheckB rfl ?_)
                refine WL.op rfl (opW.fieldAddrB rfl ?_)
                refine WL.op rfl (opW.loadV rfl (hS.ld1 (by first | exact .h0 | exact .h1 | exact .h2 | exact .h3 | exact .h4 | exact .h5 | exact .h6 | exact .h7 | exact .h8 | exact .h9 | exact .h10 | exact .h11 | exact .h12 | exact .h13 | exact .h14) (show (Enc.enc (⟨sx, ((a : Nat) : Int), e⟩ : Taker))[2]? = some (.int .i64 e) from Taker.at_e _)) ?_)
                refine WL.op rfl (opW.neq rfl rfl ?_)
                refine WL.nil ?_
                refine thenQ_n (hK39 _ _ ?_)
                refine WC.cond _ rfl (fun hc6 => ?_) (fun hc6 => ?_)
                ·
                  have hr6 := hc6
                  try simp only [decide_eq_true_eq, decide_eq_false_iff_not, Bool.and_eq_true, Bool.or_eq_true, Bool.and_eq_false_iff, Bool.or_eq_false_iff, Bool.not_eq_true', Bool.not_eq_false', Int.not_lt, Int.not_le] at hc6
                  have he0 : e ≠ 0 := by simpa using hr6
                  obtain rfl := hTT.err he0
                  have hgt : getF xs = (zMC, 0, e) := by unfold getF; rw [e0]
                  refine WC.seq (fun K40 hK40 => ?_)
                  refine WC.drawI 8 (.look 0 (.look 1 (.look 2 (.look 3 (.look 4 (.one 5 (.look 6 (.look 7 .nil)))))))) (by kernel_rfl) (fun _ _ _ h => h) (fun w1 hw1 => ?_)
                  replace hS := hS.bel hw1
                  have hS1 := hS
                  refine ⟨fun w' => Ld Try.prog 38 w' (.pointer (some ⟨b16, 2, none⟩)) (.int .i64 e), hS.ld1 (by first | exact .h0 | exact .h1 | exact .h2 | exact .h3 | exact .h4 | exact .h5 | exact .h6 | exact .h7 | exact .h8 | exact .h9 | exact .h10 | exact .h11 | exact .h12 | exact .h13 | exact .h14) (show (Enc.enc (⟨sx, ((a : Nat) : Int), e⟩ : Taker))[2]? = some (.int .i64 e) from Taker.at_e _), ?_⟩
                  refine ML.look rfl rfl rfl (fun w hw => (by skip; exact opW.buildE (r := (⟨false, ⟨0, 0, 0⟩, ⟨none, 0, 0⟩, vz 32, ⟨none, 0, 0⟩, ⟨none, 0, 0⟩⟩ : Message)) (ps := Message.parts (⟨false, ⟨0, 0, 0⟩, ⟨none, 0, 0⟩, vz 32, ⟨none, 0, 0⟩, ⟨none, 0, 0⟩⟩ : Message)) (Message.enc_eq _) (by first | (simp only [enc_vset, enc_vz, Header.enc_eq, Header.parts, Instr.enc_eq, Instr.parts, Lookup.enc_eq, Lookup.parts, Message.enc_eq, Message.parts, Tx.enc_eq, Tx.parts, Reader.enc_eq, Reader.parts, Stop.enc_eq, Stop.parts, Taker.enc_eq, Taker.parts]; rfl) | rfl) (by (repeat' (first | exact trivial | refine And.intro ?_ ?_)) <;> first | rfl | exact Enc.size_eq _ | (simp; done)) ⟨rfl, rfl⟩)) ?_
                  refine ML.look rfl rfl rfl (fun w hw => (by skip; exact opW.moveV (v := .pointer (some ⟨b16, 0, none⟩)) rfl ⟨rfl, rfl⟩)) ?_
                  refine ML.look rfl rfl rfl (fun w hw => (by skip; exact opW.nilCheckB rfl ⟨rfl, rfl⟩)) ?_
                  refine ML.look rfl rfl rfl (fun w hw => (by skip; exact opW.fieldAddrB rfl ⟨rfl, rfl⟩)) ?_
                  refine ML.look rfl rfl rfl (fun w hw => (by skip; exact opW.loadV rfl (hw) ⟨rfl, rfl⟩)) ?_
                  refine ML.one0 rfl rfl (opW.storeE (r := (⟨false, ⟨0, 0, 0⟩, ⟨none, 0, 0⟩, vz 32, ⟨none, 0, 0⟩, ⟨none, 0, 0⟩⟩ : Message)) hS rfl rfl (by first | exact .h0 | exact .h1 | exact .h2 | exact .h3 | exact .h4 | exact .h5 | exact .h6 | exact .h7 | exact .h8 | exact .h9 | exact .h10 | exact .h11 | exact .h12 | exact .h13 | exact .h14) (by exact Enc.size_eq _) ?_)
                  intro w hS; replace hS := hS _ (by first | exact .h0 | exact .h1 | exact .h2 | exact .h3 | exact .h4 | exact .h5 | exact .h6 | exact .h7 | exact .h8 | exact .h9 | exact .h10 | exact .h11 | exact .h12 | exact .h13 | exact .h14)
                  refine ⟨hS.ld1 (by first | exact .h0 | exact .h1 | exact .h2 | exact .h3 | exact .h4 | exact .h5 | exact .h6 | exact .h7 | exact .h8 | exact .h9 | exact .h10 | exact .h11 | exact .h12 | exact .h13 | exact .h14) (show (Enc.enc (⟨sx, ((a : Nat) : Int), e⟩ : Taker))[2]? = some (.int .i64 e) from Taker.at_e _), ?_⟩
                  refine ML.look rfl rfl rfl (fun w hw => (by skip; exact opW.assignI rfl ⟨rfl, rfl⟩)) ?_
                  refine ML.look rfl rfl rfl (fun w hw => (by skip; exact opW.assignI rfl ⟨rfl, rfl⟩)) ?_
                  refine ML.nil ?_
                  refine thenQ_n (hK40 _ _ ?_)
                  refine WC.ret ?_
                  refine thenQ_r ?_
                  refine bodyQ_ret (.cell (by exact hS.ldA (by first | exact .h0 | exact .h1 | exact .h2 | exact .h3 | exact .h4 | exact .h5 | exact .h6 | exact .h7 | exact .h8 | exact .h9 | exact .h10 | exact .h11 | exact .h12 | exact .h13 | exact .h14) (by exact Enc.size_eq _)) (.tmpI rfl (.tmpI rfl .nil))) ?_
                  refine ⟨(⟨false, ⟨0, 0, 0⟩, ⟨none, 0, 0⟩, vz 32, ⟨none, 0, 0⟩, ⟨none, 0, 0⟩⟩ : Message), [], [], by rw [hgt]; rfl, by rw [hgt]; exact zGot, ?_⟩
                  rw [hgt]
                  exact zGotL (hS.sub (List.nil_sublist _))
                ·
                  have hr6 := hc6
                  try simp only [decide_eq_true_eq, decide_eq_false_iff_not, Bool.and_eq_true, Bool.or_eq_true, Bool.and_eq_false_iff, Bool.or_eq_false_iff, Bool.not_eq_true', Bool.not_eq_false', Int.not_lt, Int.not_le] at hc6
                  obtain rfl : e = 0 := by simpa using hr6
                  obtain rfl := hTT.fine rfl
                  have hgt : getF xs = (cc, a, 0) := by unfold getF; rw [e0]
                  refine WC.skip ?_
                  refine thenQ_n (hK38 _ _ ?_)
                  refine WC.seq (fun K41 hK41 => ?_)
                  refine WC.drawI 8 (.look 0 (.look 1 (.look 2 (.look 3 (.look 4 (.one 5 (.look 6 (.look 7 .nil)))))))) (by kernel_rfl) (fun _ _ _ h => h) (fun w1 hw1 => ?_)
                  replace hS := hS.bel hw1
                  have hS1 := hS
                  refine ⟨fun w' => Ld Try.prog 31 w' (.pointer (some ⟨b6, 0, none⟩)) (.agg (Enc.enc m)) ∧ Ld Try.prog 3 w' (.pointer (some ⟨b16, 1, none⟩)) (.int .i64 ((a : Nat) : Int)), ⟨hS.ldA (cs := Enc.enc m) (by first | exact .h0 | exact .h1 | exact .h2 | exact .h3 | exact .h4 | exact .h5 | exact .h6 | exact .h7 | exact .h8 | exact .h9 | exact .h10 | exact .h11 | exact .h12 | exact .h13 | exact .h14) (by exact Enc.size_eq _), hS.ld1 (by first | exact .h0 | exact .h1 | exact .h2 | exact .h3 | exact .h4 | exact .h5 | exact .h6 | exact .h7 | exact .h8 | exact .h9 | exact .h10 | exact .h11 | exact .h12 | exact .h13 | exact .h14) (show (Enc.enc (⟨sx, ((a : Nat) : Int), 0⟩ : Taker))[1]? = some (.int .i64 ((a : Nat) : Int)) from Taker.at_at_ _)⟩, ?_⟩
                  refine ML.look rfl rfl rfl (fun w hw => (by skip; exact opW.loadV rfl (hw.1) ⟨rfl, rfl⟩)) ?_
                  refine ML.look rfl rfl rfl (fun w hw => (by skip; exact opW.moveV (v := .pointer (some ⟨b16, 0, none⟩)) rfl ⟨rfl, rfl⟩)) ?_
                  refine ML.look rfl rfl rfl (fun w hw => (by skip; exact opW.nilCheckB rfl ⟨rfl, rfl⟩)) ?_
                  refine ML.look rfl rfl rfl (fun w hw => (by skip; exact opW.fieldAddrB rfl ⟨rfl, rfl⟩)) ?_
                  refine ML.look rfl rfl rfl (fun w hw => (by skip; exact opW.loadV rfl (hw.2) ⟨rfl, rfl⟩)) ?_
                  refine ML.one0 rfl rfl (opW.storeE (r := m) hS rfl rfl (by first | exact .h0 | exact .h1 | exact .h2 | exact .h3 | exact .h4 | exact .h5 | exact .h6 | exact .h7 | exact .h8 | exact .h9 | exact .h10 | exact .h11 | exact .h12 | exact .h13 | exact .h14) (by exact Enc.size_eq _) ?_)
                  intro w hS; replace hS := hS _ (by first | exact .h0 | exact .h1 | exact .h2 | exact .h3 | exact .h4 | exact .h5 | exact .h6 | exact .h7 | exact .h8 | exact .h9 | exact .h10 | exact .h11 | exact .h12 | exact .h13 | exact .h14)
                  refine ⟨⟨hS.ldA (cs := Enc.enc m) (by first | exact .h0 | exact .h1 | exact .h2 | exact .h3 | exact .h4 | exact .h5 | exact .h6 | exact .h7 | exact .h8 | exact .h9 | exact .h10 | exact .h11 | exact .h12 | exact .h13 | exact .h14) (by exact Enc.size_eq _), hS.ld1 (by first | exact .h0 | exact .h1 | exact .h2 | exact .h3 | exact .h4 | exact .h5 | exact .h6 | exact .h7 | exact .h8 | exact .h9 | exact .h10 | exact .h11 | exact .h12 | exact .h13 | exact .h14) (show (Enc.enc (⟨sx, ((a : Nat) : Int), 0⟩ : Taker))[1]? = some (.int .i64 ((a : Nat) : Int)) from Taker.at_at_ _)⟩, ?_⟩
                  refine ML.look rfl rfl rfl (fun w hw => (by skip; exact opW.assignI rfl ⟨rfl, rfl⟩)) ?_
                  refine ML.look rfl rfl rfl (fun w hw => (by skip; exact opW.assignI rfl ⟨rfl, rfl⟩)) ?_
                  refine ML.nil ?_
                  refine thenQ_n (hK41 _ _ ?_)
                  refine WC.ret ?_
                  refine bodyQ_ret (.cell (by exact hS.ldA (by first | exact .h0 | exact .h1 | exact .h2 | exact .h3 | exact .h4 | exact .h5 | exact .h6 | exact .h7 | exact .h8 | exact .h9 | exact .h10 | exact .h11 | exact .h12 | exact .h13 | exact .h14) (by exact Enc.size_eq _)) (.tmpI rfl (.tmpI rfl .nil))) ?_
                  refine ⟨m, is, ls, by rw [hgt]; rfl, by rw [hgt]; exact hgm, ?_⟩
                  rw [hgt]
                  unfold gotL
                  exact hS.sub (by repeat (first | with_reducible exact List.nil_sublist _ | with_reducible exact List.Sublist.refl _ | with_reducible refine List.Sublist.cons₂ _ ?_ | with_reducible refine List.Sublist.cons _ ?_))

end Go.Fer
