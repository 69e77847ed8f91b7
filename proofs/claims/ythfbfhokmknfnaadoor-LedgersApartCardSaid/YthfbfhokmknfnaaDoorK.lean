/- the programs -/
import Derived.Test.YthfbfhokmknfnaaDoorA
set_option linter.all false
namespace Go.Fer
open Go Go.Proofs Go.RowKit

theorem indexI_ok (w0 : World) (v fv : Value) (xs : List Instr) (p : Instr → Bool) (hx : SlR w0 v xs) (hf : ∀ w, Bel w0 w → ∀ c : Instr, c ∈ xs → FnV Tryd.prog fv [.agg (Enc.enc c)] w (fun u w' => u = .bool (p c) ∧ Bel w w')) : Ret Tryd.prog 51 #[v, fv] w0 (fun u w' => ∃ n : Int, u = .int .i64 n ∧ decide (0 ≤ n) = xs.any p ∧ Bel w0 w') := by
 refine Ret.enter (args := [v, fv]) Tryd.func51 rfl Tryd.ntmps51 Tryd.results51 rfl ?_
 have hS := St.start w0
 refine WC.seq (fun K1 hK1 => ?_)
 refine WC.region ?_
 refine WL.op rfl (opW.assignI rfl ?_)
 refine WL.nil ?_
 refine thenQ_n (hK1 _ _ ?_)
 refine WC.seq (fun K2 hK2 => ?_)
 refine WC.seq (fun K3 hK3 => ?_)
 refine WC.region ?_
 refine WL.op rfl (opW.moveV (v := v) rfl ?_)
 refine WL.op rfl (opW.lenV rfl ((hx.bel hS.old)) ?_)
 refine WL.op rfl (opW.moveI rfl ?_)
 refine WL.nil ?_
 refine thenQ_n (hK3 _ _ ?_)
 refine WC.block ?_
 refine WC.loop (fun q f w => ∃ k : Nat, Fits [(0, v), (1, fv), (7, .int .i64 (xs.length : Int)), (8, .int .i64 (k : Int))] f ∧ St w0 [] w ∧ (∀ j (h : j < xs.length), j < k → p xs[j] = false) ∧ k ≤ xs.length ∧ q = xs.length - k) (xs.length) ?_ ?_
 ·
  exact ⟨0, ⟨rfl, rfl, rfl, rfl, trivial⟩, hS, fun j _ h => absurd h (by omega), Nat.zero_le _, rfl⟩
 ·
  rintro q f w ⟨k, hfit, hS, hno, hk0, hm⟩
  refine WC.fits _ hfit (fun g => ?_)
  clear hfit
  refine WC.seq (fun K4 hK4 => ?_)
  refine WC.region ?_
  refine WL.op rfl (opW.lss rfl rfl ?_)
  refine WL.nil ?_
  refine thenQ_n (hK4 _ _ ?_)
  refine WC.seq (fun K5 hK5 => ?_)
  refine WC.cond _ rfl (fun hc0 => ?_) (fun hc0 => ?_)
  ·
   have hr0 := hc0
   try simp only [sq1,sq2,sq3,sq4,sq5,sq6,sq7,sq8,sq9,sq0] at hc0
   have hkl : k < xs.length := by omega
   have hle := hx.le
   simp only [maxLen] at hle
   refine WC.skip ?_
   refine thenQ_n (hK5 _ _ ?_)
   refine WC.seq (fun K6 hK6 => ?_)
   refine WC.block ?_
   refine WC.seq (fun K7 hK7 => ?_)
   refine WC.region ?_
   refine WL.op rfl (opW.moveI rfl ?_)
   refine WL.op rfl (opW.assignI rfl ?_)
   refine WL.nil ?_
   refine thenQ_n (hK7 _ _ ?_)
   refine WC.seq (fun K8 hK8 => ?_)
   refine WC.region ?_
   refine WL.op rfl (opW.moveV (v := fv) rfl ?_)
   refine WL.op rfl (opW.moveV (v := v) rfl ?_)
   refine WL.op rfl (opW.moveI rfl ?_)
   refine WL.op rfl (opW.idxV rfl ((hx.bel hS.old)) rfl (by omega) ?_)
   refine WL.op rfl (opW.loadV rfl (((hx.bel hS.old).isPt hkl).ldA (Enc.size_eq xs[k])) ?_)
   refine WL.op rfl (opW.callV rfl (hf _ hS.old xs[k] (List.getElem_mem hkl)) rfl ?_)
   rintro _ w ⟨rfl, hw⟩; replace hS := hS.bel hw
   refine WL.nil ?_
   refine thenQ_n (hK8 _ _ ?_)
   refine WC.cond _ rfl (fun hc1 => ?_) (fun hc1 => ?_)
   ·
    have hr1 := hc1
    try simp only [sq1,sq2,sq3,sq4,sq5,sq6,sq7,sq8,sq9,sq0] at hc1
    refine WC.seq (fun K9 hK9 => ?_)
    refine WC.region ?_
    refine WL.op rfl (opW.moveI rfl ?_)
    refine WL.op rfl (opW.assignI rfl ?_)
    refine WL.nil ?_
    refine thenQ_n (hK9 _ _ ?_)
    refine WC.ret ?_
    refine blockQ_r ?_
    refine thenQ_r ?_
    refine thenQ_r ?_
    refine blockQ_r ?_
    refine thenQ_r ?_
    refine bodyQ_ret (.tmpI rfl .nil) ?_
    exact ⟨_, rfl, by rw [List.any_eq_true.2 ⟨xs[k], List.getElem_mem hkl, hr1⟩]; exact decide_eq_true (by omega), hS.old⟩
   ·
    have hr1 := hc1
    try simp only [sq1,sq2,sq3,sq4,sq5,sq6,sq7,sq8,sq9,sq0] at hc1
    refine WC.skip ?_
    refine blockQ_n ?_
    refine thenQ_n (hK6 _ _ ?_)
    refine WC.region ?_
    refine WL.op rfl (opW.add rfl rfl (wrap_i64 (by omega)) ?_)
    refine WL.op rfl (opW.moveI rfl ?_)
    refine WL.nil ?_
    refine thenQ_n ?_
    exact ⟨xs.length - (k + 1), by omega, k + 1, ⟨rfl, rfl, rfl, congrArg (Value.int .i64) (by omega), trivial⟩, hS, fun j h1 h2 => (by rcases Nat.lt_or_ge j k with h | h; exact hno j h1 h; obtain rfl : j = k := (by omega); exact hr1), by omega, rfl⟩
  ·
   have hr0 := hc0
   try simp only [sq1,sq2,sq3,sq4,sq5,sq6,sq7,sq8,sq9,sq0] at hc0
   refine WC.exit ?_
   refine thenQ_e ?_
   refine thenQ_e ?_
   refine blockQ_hit ?_
   refine thenQ_n (hK2 _ _ ?_)
   refine WC.seq (fun K10 hK10 => ?_)
   refine WC.region ?_
   refine WL.op rfl (opW.assignI rfl ?_)
   refine WL.nil ?_
   refine thenQ_n (hK10 _ _ ?_)
   refine WC.ret ?_
   refine bodyQ_ret (.tmpI rfl .nil) ?_
   refine ⟨_, rfl, ?_, hS.old⟩
   rw [List.any_eq_false.2 (fun c hc => by obtain ⟨j, hj, rfl⟩ := List.getElem_of_mem hc; rw [hno j hj (by omega)]; decide)]
   rfl

theorem containsI_ok (w0 : World) (v fv : Value) (xs : List Instr) (p : Instr → Bool) (hx : SlR w0 v xs) (hf : ∀ w, Bel w0 w → ∀ c : Instr, c ∈ xs → FnV Tryd.prog fv [.agg (Enc.enc c)] w (fun u w' => u = .bool (p c) ∧ Bel w w')) : Ret Tryd.prog 40 #[v, fv] w0 (fun u w' => u = .bool (xs.any p) ∧ Bel w0 w') := by
 refine Ret.enter (args := [v, fv]) Tryd.func40 rfl Tryd.ntmps40 Tryd.results40 rfl ?_
 have hS := St.start w0
 refine WC.seq (fun K1 hK1 => ?_)
 refine WC.region ?_
 refine WL.op rfl (opW.assignB rfl ?_)
 refine WL.nil ?_
 refine thenQ_n (hK1 _ _ ?_)
 refine WC.seq (fun K2 hK2 => ?_)
 refine WC.region ?_
 refine WL.op rfl (opW.moveV (v := v) rfl ?_)
 refine WL.op rfl (opW.moveV (v := fv) rfl ?_)
 refine WL.op rfl (opW.call (indexI_ok _ v fv xs p (hx.bel hS.old) (fun w h c => hf w (hS.old.trans h) c)) rfl ?_)
 rintro _ w ⟨n, rfl, hn, hw⟩; replace hS := hS.bel hw
 refine WL.op rfl (opW.geq rfl rfl ?_)
 refine WL.op rfl (opW.assignB rfl ?_)
 refine WL.nil ?_
 refine thenQ_n (hK2 _ _ ?_)
 refine WC.ret ?_
 refine bodyQ_ret (.tmpB rfl .nil) ?_
 exact ⟨congrArg Value.bool hn, hS.old⟩

theorem beyondR_ok (w0 : World) (b : Nat) (rv : Value) (r : List Role) (c : Instr) (hp : Pt w0 (.pointer (some ⟨b, 41, none⟩)) #[rv]) (hr : SlR w0 rv r) : Ret Tryd.prog 39 #[.agg (Enc.enc c), .pointer (some ⟨b, 0, none⟩)] w0 (fun u w' => u = .bool (decide ((r.length : Int) ≤ (c.program.toNat : Int))) ∧ Bel w0 w') := by
 refine Ret.enter (args := [.agg (Enc.enc c), .pointer (some ⟨b, 0, none⟩)]) Tryd.func39 rfl Tryd.ntmps39 Tryd.results39 rfl ?_
 have hS := St.start w0
 refine WC.seq (fun K1 hK1 => ?_)
 refine WC.region ?_
 refine WL.op rfl (opW.boxA hS rfl ?_)
 intro b2 w _ hS
 refine WL.op rfl (opW.assignB rfl ?_)
 refine WL.nil ?_
 refine thenQ_n (hK1 _ _ ?_)
 refine WC.seq (fun K2 hK2 => ?_)
 refine WC.region ?_
 refine WL.op rfl (opW.fieldAddrB rfl ?_)
 refine WL.op rfl (opW.loadV rfl (hS.ld1 (cs := Enc.enc c) (by first | exact .h0 | exact .h1 | exact .h2 | exact .h3 | exact .h4 | exact .h5 | exact .h6 | exact .h7 | exact .h8 | exact .h9 | exact .h10 | exact .h11 | exact .h12 | exact .h13 | exact .h14) (Instr.at_program c)) ?_)
 refine WL.op rfl (opW.conv rfl (wrap_i64 (by have := u8_lt c.program; omega)) ?_)
 refine WL.op rfl (opW.fieldAddrB rfl ?_)
 refine WL.op rfl (opW.loadV rfl ((hp.bel hS.old).ld rfl) ?_)
 refine WL.op rfl (opW.lenV rfl ((hr.bel hS.old)) ?_)
 refine WL.op rfl (opW.geq rfl rfl ?_)
 refine WL.op rfl (opW.assignB rfl ?_)
 refine WL.nil ?_
 refine thenQ_n (hK2 _ _ ?_)
 refine WC.ret ?_
 refine bodyQ_ret (.tmpB rfl .nil) ?_
 exact ⟨rfl, hS.old⟩

theorem progB_ok (w0 : World) (xp : Value) (c : Instr) : Ret Tryd.prog 58 #[xp, .agg (Enc.enc c)] w0 (fun u w' => u = .nilIface ∧ Bel w0 w') := by
 refine Ret.enter (args := [xp, .agg (Enc.enc c)]) Tryd.func58 rfl Tryd.ntmps58 Tryd.results58 rfl ?_
 have hS := St.start w0
 refine WC.seq (fun K1 hK1 => ?_)
 refine WC.region ?_
 refine WL.op rfl (opW.boxA hS rfl ?_)
 intro b3 w _ hS
 refine WL.op rfl (opW.assignV rfl ?_)
 refine WL.nil ?_
 refine thenQ_n (hK1 _ _ ?_)
 refine WC.seq (fun K2 hK2 => ?_)
 refine WC.region ?_
 refine WL.op rfl (opW.assignV rfl ?_)
 refine WL.nil ?_
 refine thenQ_n (hK2 _ _ ?_)
 refine WC.ret ?_
 refine bodyQ_ret (.tmp .nil) ?_
 exact ⟨rfl, hS.old⟩

section
variable {P : Program} {f : Fr} {w : World} {R : Value → World → Prop} {d : Option Tmp} {T : TypeId} {pos : String} {af : Array Edge} {gd : Option (Nat × Bool)}
theorem opW.ifaceI {s : TypeId} {k : IntKind} {x : Operand} {v : Value} [ha : IntT P s k] (hx : ev f x = v) (h : R (.iface s v) w) : opW P f ⟨d, .makeInterface s x, T, pos, af, gd⟩ w R := by
 refine opW.of_run (v := .iface s v) (w' := w) ?_ h
 have h1 : P.concrete s = true := by
  have h2 := ha.out
  unfold Program.concrete
  simp [h2]
 simp [Go.execOp, hx, run_makeInterface, h1]
end

theorem progS_ok (wb w0 : World) (S : List Ent) (p : Nat) (x : Running) (c : Instr) (l : List Account) (r : List Role) (ats dt : List UInt8) (hS0 : St wb (blkE p (Enc.enc x) 107 :: ownE x.l.v 64 l :: S) w0) (hr : SlR wb x.r.roles.v r) (ha : SlR wb c.accounts.v ats) (hd : SlR wb c.data.v dt) (hlb : l.length ≤ 100000) (hlw : ∀ y ∈ l, okW y) : Ret Tryd.prog 59 #[.pointer (some ⟨p, 0, none⟩), .agg (Enc.enc c)] w0 (fun u w' => ((doF l r ats dt).1 ≠ 0 ∧ u = .iface 33 (.int .i64 (doF l r ats dt).1) ∧ St wb (blkE p (Enc.enc x) 107 :: ownE x.l.v 64 l :: S) w') ∨ ((doF l r ats dt).1 = 0 ∧ u = .nilIface ∧ ∃ s2 : SlV, St wb (blkE p (Enc.enc ({ x with l := s2, space := (x.space + (doF l r ats dt).2.1) % 18446744073709551616 } : Running)) 107 :: ownE s2.v 64 (doF l r ats dt).2.2 :: S) w')) := by
 refine Ret.enter (args := [.pointer (some ⟨p, 0, none⟩), .agg (Enc.enc c)]) Tryd.func59 rfl Tryd.ntmps59 Tryd.results59 rfl ?_
 have hS := St.start w0
 replace hS := hS0
 refine WC.seq (fun K1 hK1 => ?_)
 refine WC.region ?_
 refine WL.op rfl (opW.boxA hS rfl ?_)
 intro b3 w _ hS
 refine WL.op rfl (opW.assignV rfl ?_)
 refine WL.nil ?_
 refine thenQ_n (hK1 _ _ ?_)
 refine WC.seq (fun K2 hK2 => ?_)
 refine WC.draw 18 (.look 0 (.look 1 (.look 2 (.look 3 (.look 4 (.look 5 (.look 6 (.look 7 (.look 8 (.look 9 (.one 10 (.look 11 (.look 12 (.look 13 (.look 14 (.look 15 (.look 16 (.look 17 .nil)))))))))))))))))) (by kernel_rfl) (fun _ _ _ h => h) (fun w1 hw1 => ?_)
 replace hS := hS.bel hw1
 have hS1 := hS
 have hT := St.start w1
 refine ML.look rfl rfl rfl (fun w hw => (by have hS := hS1.bel hw; exact opW.moveV (v := .pointer (some ⟨p, 0, none⟩)) rfl ⟨rfl, rfl⟩)) ?_
 refine ML.look rfl rfl rfl (fun w hw => (by have hS := hS1.bel hw; exact opW.nilCheckB rfl ⟨rfl, rfl⟩)) ?_
 refine ML.look rfl rfl rfl (fun w hw => (by have hS := hS1.bel hw; exact opW.fieldAddrB rfl ⟨rfl, rfl⟩)) ?_
 refine ML.look rfl rfl rfl (fun w hw => (by have hS := hS1.bel hw; exact opW.loadV rfl (hS.ld1 (b := p) (cs := Enc.enc x) (by first | exact .h0 | exact .h1 | exact .h2 | exact .h3 | exact .h4 | exact .h5 | exact .h6 | exact .h7 | exact .h8 | exact .h9 | exact .h10 | exact .h11 | exact .h12 | exact .h13 | exact .h14) (Running.at_l x)) ⟨rfl, rfl⟩)) ?_
 refine ML.look rfl rfl rfl (fun w hw => (by have hS := hS1.bel hw; exact opW.moveV (v := .pointer (some ⟨p, 0, none⟩)) rfl ⟨rfl, rfl⟩)) ?_
 refine ML.look rfl rfl rfl (fun w hw => (by have hS := hS1.bel hw; exact opW.nilCheckB rfl ⟨rfl, rfl⟩)) ?_
 refine ML.look rfl rfl rfl (fun w hw => (by have hS := hS1.bel hw; exact opW.fieldAddrB rfl ⟨rfl, rfl⟩)) ?_
 refine ML.look rfl rfl rfl (fun w hw => (by have hS := hS1.bel hw; exact opW.fieldAddrB rfl ⟨rfl, rfl⟩)) ?_
 refine ML.look rfl rfl rfl (fun w hw => (by have hS := hS1.bel hw; exact opW.loadV rfl (hS.ld1 (b := p) (cs := Enc.enc x) (by first | exact .h0 | exact .h1 | exact .h2 | exact .h3 | exact .h4 | exact .h5 | exact .h6 | exact .h7 | exact .h8 | exact .h9 | exact .h10 | exact .h11 | exact .h12 | exact .h13 | exact .h14) (Running.at_r_roles x)) ⟨rfl, rfl⟩)) ?_
 refine ML.look rfl rfl rfl (fun w hw => (by have hS := hS1.bel hw; exact opW.loadV rfl (hS.ldA (b := b3) (cs := Enc.enc c) (by first | exact .h0 | exact .h1 | exact .h2 | exact .h3 | exact .h4 | exact .h5 | exact .h6 | exact .h7 | exact .h8 | exact .h9 | exact .h10 | exact .h11 | exact .h12 | exact .h13 | exact .h14) (Enc.size_eq c)) ⟨rfl, rfl⟩)) ?_
 refine ML.one rfl rfl rfl (opW.call (do_ok _ x.l.v x.r.roles.v c l r ats dt (hS.sl (v := x.l.v) (xs := l) (by first | exact .h0 | exact .h1 | exact .h2 | exact .h3 | exact .h4 | exact .h5 | exact .h6 | exact .h7 | exact .h8 | exact .h9 | exact .h10 | exact .h11 | exact .h12 | exact .h13 | exact .h14)) (hr.bel (hS1.old.trans hT.old)) (ha.bel (hS1.old.trans hT.old)) (hd.bel (hS1.old.trans hT.old)) hlb hlw) rfl ?_)
 rintro _ w ⟨v19, rfl, hn19, hw⟩; replace hT := hT.newOwn hw hn19.1 hn19.2
 refine ⟨hT.old, ?_⟩
 have hS := hS1.merge hT
 try simp only [List.cons_append, List.nil_append] at hS
 refine ML.look rfl rfl rfl (fun w hw => (by have hS := hS1.bel hw; exact opW.moveV (v := .tuple #[v19, .int .u64 ((doF l r ats dt).2.1 : Int), .int .i64 (doF l r ats dt).1]) rfl ⟨rfl, rfl⟩)) ?_
 refine ML.look rfl rfl rfl (fun w hw => (by have hS := hS1.bel hw; exact opW.extract rfl rfl ⟨rfl, rfl⟩)) ?_
 refine ML.look rfl rfl rfl (fun w hw => (by have hS := hS1.bel hw; exact opW.extract rfl rfl ⟨rfl, rfl⟩)) ?_
 refine ML.look rfl rfl rfl (fun w hw => (by have hS := hS1.bel hw; exact opW.extract rfl rfl ⟨rfl, rfl⟩)) ?_
 refine ML.look rfl rfl rfl (fun w hw => (by have hS := hS1.bel hw; exact opW.assignV rfl ⟨rfl, rfl⟩)) ?_
 refine ML.look rfl rfl rfl (fun w hw => (by have hS := hS1.bel hw; exact opW.assignI rfl ⟨rfl, rfl⟩)) ?_
 refine ML.look rfl rfl rfl (fun w hw => (by have hS := hS1.bel hw; exact opW.assignI rfl ⟨rfl, rfl⟩)) ?_
 refine ML.nil ?_
 refine thenQ_n (hK2 _ _ ?_)
 refine WC.seq (fun K3 hK3 => ?_)
 refine WC.seq (fun K4 hK4 => ?_)
 refine WC.region ?_
 refine WL.op rfl (opW.moveI rfl ?_)
 refine WL.op rfl (opW.neq rfl rfl ?_)
 refine WL.nil ?_
 refine thenQ_n (hK4 _ _ ?_)
 refine WC.cond _ rfl (fun hc0 => ?_) (fun hc0 => ?_)
 ·
  have hr0 := hc0
  try simp only [sq1,sq2,sq3,sq4,sq5,sq6,sq7,sq8,sq9,sq0] at hc0
  have he : (doF l r ats dt).1 ≠ 0 := by simpa using hr0
  refine WC.seq (fun K5 hK5 => ?_)
  refine WC.region ?_
  refine WL.op rfl (opW.moveI rfl ?_)
  refine WL.op rfl (opW.ifaceI rfl ?_)
  refine WL.op rfl (opW.assignV (v := .iface 33 (.int .i64 (doF l r ats dt).1)) rfl ?_)
  refine WL.nil ?_
  refine thenQ_n (hK5 _ _ ?_)
  refine WC.ret ?_
  refine thenQ_r ?_
  refine bodyQ_ret (.tmpV (v := .iface 33 (.int .i64 (doF l r ats dt).1)) rfl .nil) ?_
  exact .inl ⟨he, rfl, ((hS.pick (e := ownE x.l.v 64 l) (by first | exact .h0 | exact .h1 | exact .h2 | exact .h3 | exact .h4 | exact .h5 | exact .h6 | exact .h7 | exact .h8 | exact .h9 | exact .h10 | exact .h11 | exact .h12 | exact .h13 | exact .h14)).pick (e := blkE p (Enc.enc x) 107) (by first | exact .h0 | exact .h1 | exact .h2 | exact .h3 | exact .h4 | exact .h5 | exact .h6 | exact .h7 | exact .h8 | exact .h9 | exact .h10 | exact .h11 | exact .h12 | exact .h13 | exact .h14)).sub (by repeat with_reducible first | exact su1 _ | exact su2 _ | refine su3 ?_ | refine su4 ?_)⟩
 ·
  have hr0 := hc0
  try simp only [sq1,sq2,sq3,sq4,sq5,sq6,sq7,sq8,sq9,sq0] at hc0
  have he : (doF l r ats dt).1 = 0 := by simpa using hr0
  obtain ⟨s19, rfl⟩ := (hS.sl (v := v19) (xs := (doF l r ats dt).2.2) (by first | exact .h0 | exact .h1 | exact .h2 | exact .h3 | exact .h4 | exact .h5 | exact .h6 | exact .h7 | exact .h8 | exact .h9 | exact .h10 | exact .h11 | exact .h12 | exact .h13 | exact .h14)).asV
  refine WC.skip ?_
  refine thenQ_n (hK3 _ _ ?_)
  refine WC.seq (fun K6 hK6 => ?_)
  refine WC.region ?_
  refine WL.op rfl (opW.moveV (v := .pointer (some ⟨p, 0, none⟩)) rfl ?_)
  refine WL.op rfl (opW.moveV (v := .pointer (some ⟨p, 0, none⟩)) rfl ?_)
  refine WL.op rfl (opW.moveV rfl ?_)
  refine WL.op rfl (opW.moveV (v := .pointer (some ⟨p, 0, none⟩)) rfl ?_)
  refine WL.op rfl (opW.nilCheckB rfl ?_)
  refine WL.op rfl (opW.fieldAddrB rfl ?_)
  refine WL.op rfl (opW.loadV rfl (hS.ld1 (b := p) (cs := Enc.enc x) (by first | exact .h0 | exact .h1 | exact .h2 | exact .h3 | exact .h4 | exact .h5 | exact .h6 | exact .h7 | exact .h8 | exact .h9 | exact .h10 | exact .h11 | exact .h12 | exact .h13 | exact .h14) (Running.at_space x)) ?_)
  refine WL.op rfl (opW.moveI rfl ?_)
  refine WL.op rfl (opW.add rfl rfl ((show IntKind.u64.wrap _ = ((((x.space + (doF l r ats dt).2.1) % 18446744073709551616) : Nat) : Int) from by rw [IntKind.wrap_u64]; omega)) ?_)
  refine WL.op rfl (opW.nilCheckB rfl ?_)
  refine WL.op rfl (opW.fieldAddrB rfl ?_)
  refine WL.op0 (opW.storeF (b := p) (o := 48) (v := s19.v) (sz := 1) (cs := Enc.enc x) (cs' := Enc.enc ({ x with l := s19 } : Running)) hS rfl rfl (by first | exact .h0 | exact .h1 | exact .h2 | exact .h3 | exact .h4 | exact .h5 | exact .h6 | exact .h7 | exact .h8 | exact .h9 | exact .h10 | exact .h11 | exact .h12 | exact .h13 | exact .h14) rfl (by rw [Enc.size_eq]; decide) (Enc.one (α := SlV) s19) (Running.set_l x s19) ?_)
  intro w hS; replace hS := hS _ (by first | exact .h0 | exact .h1 | exact .h2 | exact .h3 | exact .h4 | exact .h5 | exact .h6 | exact .h7 | exact .h8 | exact .h9 | exact .h10 | exact .h11 | exact .h12 | exact .h13 | exact .h14)
  refine WL.op rfl (opW.nilCheckB rfl ?_)
  refine WL.op rfl (opW.fieldAddrB rfl ?_)
  refine WL.op0 (opW.storeF (b := p) (o := 50) (v := .int .u64 ((((x.space + (doF l r ats dt).2.1) % 18446744073709551616) : Nat) : Int)) (sz := 1) (cs := Enc.enc ({ x with l := s19 } : Running)) (cs' := Enc.enc ({ x with l := s19, space := ((x.space + (doF l r ats dt).2.1) % 18446744073709551616) } : Running)) hS rfl rfl (by first | exact .h0 | exact .h1 | exact .h2 | exact .h3 | exact .h4 | exact .h5 | exact .h6 | exact .h7 | exact .h8 | exact .h9 | exact .h10 | exact .h11 | exact .h12 | exact .h13 | exact .h14) rfl (by rw [Enc.size_eq]; decide) (one_int _ _) (Running.set_space ({ x with l := s19 } : Running) ((x.space + (doF l r ats dt).2.1) % 18446744073709551616)) ?_)
  intro w hS; replace hS := hS _ (by first | exact .h0 | exact .h1 | exact .h2 | exact .h3 | exact .h4 | exact .h5 | exact .h6 | exact .h7 | exact .h8 | exact .h9 | exact .h10 | exact .h11 | exact .h12 | exact .h13 | exact .h14)
  refine WL.nil ?_
  refine thenQ_n (hK6 _ _ ?_)
  refine WC.seq (fun K7 hK7 => ?_)
  refine WC.region ?_
  refine WL.op rfl (opW.assignV rfl ?_)
  refine WL.nil ?_
  refine thenQ_n (hK7 _ _ ?_)
  refine WC.ret ?_
  refine bodyQ_ret (.tmp .nil) ?_
  exact .inr ⟨he, rfl, s19, ((hS.pick (e := ownE s19.v 64 (doF l r ats dt).2.2) (by first | exact .h0 | exact .h1 | exact .h2 | exact .h3 | exact .h4 | exact .h5 | exact .h6 | exact .h7 | exact .h8 | exact .h9 | exact .h10 | exact .h11 | exact .h12 | exact .h13 | exact .h14)).pick (e := blkE p (Enc.enc ({ x with l := s19, space := ((x.space + (doF l r ats dt).2.1) % 18446744073709551616) } : Running)) 107) (by first | exact .h0 | exact .h1 | exact .h2 | exact .h3 | exact .h4 | exact .h5 | exact .h6 | exact .h7 | exact .h8 | exact .h9 | exact .h10 | exact .h11 | exact .h12 | exact .h13 | exact .h14)).sub (by repeat with_reducible first | exact su1 _ | exact su2 _ | refine su3 ?_ | refine su4 ?_)⟩

theorem ML.forkO {P : Program} {n nh : Nat} {I : World → Prop} {ops : Array Oper} {Q : Exit → Fr → World → Prop} {f : Fr} {w : World} {ri rj : Sched} {i j : Nat} {di dj : Option Nat} {opi opj : Op} {Ti Tj : TypeId} {posi posj : String} {afi afj : Array Edge}
  (hi : ops[i]? = some ⟨di, opi, Ti, posi, afi, none⟩) (hj : ops[j]? = some ⟨dj, opj, Tj, posj, afj, none⟩) (hdi : di.all (fun x => Nat.blt x n) = true) (hdj : dj.all (fun x => Nat.blt x n) = true)
  (h1 : opW P f ⟨di, opi, Ti, posi, afi, none⟩ w (fun v w' => I w' ∧ ML P n ops nh I Q ri (putO f di v) w'))
  (h2 : opW P f ⟨dj, opj, Tj, posj, afj, none⟩ w (fun v w' => I w' ∧ ML P n ops nh I Q rj (putO f dj v) w')) : ML P n ops nh I Q (.fork i j ri rj) f w := by
 have hdi : ∀ x, di = some x → x < n := by intro x hx; subst hx; simpa using hdi
 have hdj : ∀ x, dj = some x → x < n := by intro x hx; subst hx; simpa using hdj
 unfold ML at h1 h2 ⊢
 intro listed a hsel hok hinv ha hnp
 simp only [mixOk, Bool.and_eq_true, decide_eq_true_eq] at hok
 obtain ⟨⟨⟨⟨⟨g1, g2⟩, g3⟩, g4⟩, g5⟩, g6⟩ := hok
 have hho : headOk .any ops nh listed := (hinv.resolve_right (fun h => by cases h)).1
 have hri : i ∈ Region.ready .any ops listed := by rw [g3]; simp
 have hrj : j ∈ Region.ready .any ops listed := by rw [g3]; simp
 refine ⟨fun h0 => (by rw [g3] at h0; cases h0), fun x hx => ?_⟩
 rw [g3] at hx
 rcases List.mem_cons.1 hx with rfl | hx
 ·unfold wpOp
  simp only [hi, Region.wanted, if_true]
  exact .inl (wp_of_opW ha h1 fun v w' ⟨hI, hk⟩ => ⟨fun _ _ => hI, hk _ _ hsel g5 (.inl ⟨hho.set hri g1, hI⟩) (ha.put (dst := di) hdi v) hnp⟩)
 ·obtain rfl : x = j := by simpa using hx
  unfold wpOp
  simp only [hj, Region.wanted, if_true]
  refine .inl (wp_of_opW ha h2 fun v w' ⟨hI, hk⟩ => ⟨fun _ _ => hI, ?_⟩)
  show wpAnyB P .any ops nh I _ (ways ri) _ _ _
  rw [g4]
  exact hk _ _ hsel g6 (.inl ⟨hho.set hrj g2, hI⟩) (ha.put (dst := dj) hdj v) hnp

def budK : Key := (vz 32).set 0 3
theorem bud_ne : budK ≠ sysK := by decide +kernel
def progBV : Value := .func (.func 58) #[] #[]
def progSV : Value := .func (.func 59) #[] #[]
/-- the program that a key names -/
def progF (k : Key) : Option Value := if k = budK then some progBV else if k = sysK then some progSV else none
theorem progK1 (k : Key) : aget k (aput sysK progSV (aput budK progBV [])) = progF k := by
 rw [aget_aput, aget_aput]
 unfold progF aget
 split
 ·next h => subst h; rw [if_neg (fun e => bud_ne e.symm)]
 ·rfl
theorem progK2 (k : Key) : aget k (aput budK progBV (aput sysK progSV [])) = progF k := by
 rw [aget_aput, aget_aput]
 rfl

theorem bud_ok (w0 : World) : Ret Tryd.prog 57 #[] w0 (fun u w' => u = .agg (Enc.enc budK) ∧ Bel w0 w') := by
 refine Ret.enter (args := []) Tryd.func57 rfl Tryd.ntmps57 Tryd.results57 rfl ?_
 have hS := St.start w0
 refine WC.seq (fun K1 hK1 => ?_)
 refine WC.region ?_
 refine WL.op rfl (opW.allocA hS ?_)
 intro b0 w _ hS
 refine WL.nil ?_
 refine thenQ_n (hK1 _ _ ?_)
 refine WC.seq (fun K2 hK2 => ?_)
 refine WC.region ?_
 refine WL.op rfl (opW.buildVec (k := budK) (by first | rfl | (simp only [sysK, az, budK, enc_vset, enc_vz]; rfl)) (by intro p hp; first | (exfalso; simp at hp; done) | (simp only [List.map_cons, List.map_nil, List.mem_cons, List.not_mem_nil, or_false] at hp; rcases hp with rfl | rfl | rfl | rfl <;> exact ⟨by simp, rfl⟩)) ?_)
 refine WL.op0 (opW.storeE hS rfl rfl (by first | exact .h0 | exact .h1 | exact .h2 | exact .h3 | exact .h4 | exact .h5 | exact .h6 | exact .h7 | exact .h8 | exact .h9 | exact .h10 | exact .h11 | exact .h12 | exact .h13 | exact .h14) (by first | rfl | exact Enc.size_eq _) ?_)
 intro w hS; replace hS := hS _ (by first | exact .h0 | exact .h1 | exact .h2 | exact .h3 | exact .h4 | exact .h5 | exact .h6 | exact .h7 | exact .h8 | exact .h9 | exact .h10 | exact .h11 | exact .h12 | exact .h13 | exact .h14)
 refine WL.nil ?_
 refine thenQ_n (hK2 _ _ ?_)
 refine WC.ret ?_
 refine bodyQ_ret (.cell (hS.ldA (by first | exact .h0 | exact .h1 | exact .h2 | exact .h3 | exact .h4 | exact .h5 | exact .h6 | exact .h7 | exact .h8 | exact .h9 | exact .h10 | exact .h11 | exact .h12 | exact .h13 | exact .h14) (Enc.size_eq budK)) .nil) ?_
 exact ⟨rfl, hS.old⟩

theorem programs_ok (w0 : World) : Ret Tryd.prog 52 #[] w0 (fun u w' => ∃ kvs : List (Key × Value), (∀ k, aget k kvs = progF k) ∧ NewM w0 w' u idV kvs ∧ Bel w0 w') := by
 refine Ret.enter (args := []) Tryd.func52 rfl Tryd.ntmps52 Tryd.results52 rfl ?_
 have hS := St.start w0
 refine WC.seq (fun K1 hK1 => ?_)
 refine WC.region ?_
 refine WL.op rfl (opW.assignV rfl ?_)
 refine WL.nil ?_
 refine thenQ_n (hK1 _ _ ?_)
 refine WC.seq (fun K2 hK2 => ?_)
 refine WC.draw 7 (.fork 0 1 (.one 1 (.fork 2 3 (.one 3 (.one 4 (.look 5 (.look 6 .nil)))) (.fork 2 4 (.one 4 (.look 5 (.look 6 .nil))) (.one 2 (.look 5 (.look 6 .nil)))))) (.fork 0 3 (.fork 2 3 (.one 3 (.one 4 (.look 5 (.look 6 .nil)))) (.fork 2 4 (.one 4 (.look 5 (.look 6 .nil))) (.one 2 (.look 5 (.look 6 .nil))))) (.one 0 (.fork 2 4 (.one 4 (.look 5 (.look 6 .nil))) (.one 2 (.look 5 (.look 6 .nil))))))) (by kernel_rfl) (fun _ _ _ h => h) (fun w1 hw1 => ?_)
 replace hS := hS.bel hw1
 have hS1 := hS
 have hT := St.start w1
 refine ML.fork rfl rfl rfl rfl ?_ ?_ 
 ·refine opW.makeMap Key (idV : Value → Value) hT ?_
  intro r1 w hw hT
  refine ⟨hT.old, ?_⟩
  have hS := hS1.merge hT
  try simp only [List.cons_append, List.nil_append] at hS
  refine ML.one rfl rfl rfl (opW.call (bud_ok _) rfl ?_)
  rintro _ w ⟨rfl, hw⟩; replace hT := hT.bel hw
  refine ⟨hT.old, ?_⟩
  have hS := hS1.merge hT
  try simp only [List.cons_append, List.nil_append] at hS
  refine ML.forkO rfl rfl rfl rfl ?_ ?_
  ·refine opW.insert (κ := Key) (ν := Value) (k := budK) (v := progBV) (vv := idV) hT (by first | exact .h0 | exact .h1 | exact .h2 | exact .h3 | exact .h4 | exact .h5 | exact .h6 | exact .h7 | exact .h8 | exact .h9 | exact .h10 | exact .h11 | exact .h12 | exact .h13 | exact .h14) rfl rfl rfl ?_
   intro w hT; replace hT := hT _ (by first | exact .h0 | exact .h1 | exact .h2 | exact .h3 | exact .h4 | exact .h5 | exact .h6 | exact .h7 | exact .h8 | exact .h9 | exact .h10 | exact .h11 | exact .h12 | exact .h13 | exact .h14)
   refine ⟨hT.old, ?_⟩
   simp only [putO]
   have hS := hS1.merge hT
   try simp only [List.cons_append, List.nil_append] at hS
   refine ML.one rfl rfl rfl (opW.call (sys_ok _) rfl ?_)
   rintro _ w ⟨rfl, hw⟩; replace hT := hT.bel hw
   refine ⟨hT.old, ?_⟩
   have hS := hS1.merge hT
   try simp only [List.cons_append, List.nil_append] at hS
   refine ML.one0 rfl rfl (opW.insert (κ := Key) (ν := Value) (k := sysK) (v := progSV) (vv := idV) hT (by first | exact .h0 | exact .h1 | exact .h2 | exact .h3 | exact .h4 | exact .h5 | exact .h6 | exact .h7 | exact .h8 | exact .h9 | exact .h10 | exact .h11 | exact .h12 | exact .h13 | exact .h14) rfl rfl rfl ?_)
   intro w hT; replace hT := hT _ (by first | exact .h0 | exact .h1 | exact .h2 | exact .h3 | exact .h4 | exact .h5 | exact .h6 | exact .h7 | exact .h8 | exact .h9 | exact .h10 | exact .h11 | exact .h12 | exact .h13 | exact .h14)
   refine ⟨hT.old, ?_⟩
   have hS := hS1.merge hT
   try simp only [List.cons_append, List.nil_append] at hS
   refine ML.look rfl rfl rfl (fun w hw => (by have hS := hS1.bel hw; exact opW.moveV (v := .map (some r1)) rfl ⟨rfl, rfl⟩)) ?_
   refine ML.look rfl rfl rfl (fun w hw => (by have hS := hS1.bel hw; exact opW.assignV (v := .map (some r1)) rfl ⟨rfl, rfl⟩)) ?_
   refine ML.nil ?_
   refine thenQ_n (hK2 _ _ ?_)
   refine WC.ret ?_
   refine bodyQ_ret (.tmpV (v := .map (some r1)) rfl .nil) ?_
   first | exact ⟨_, progK1, hS.map_new (by first | exact .h0 | exact .h1 | exact .h2 | exact .h3 | exact .h4 | exact .h5 | exact .h6 | exact .h7 | exact .h8 | exact .h9 | exact .h10 | exact .h11 | exact .h12 | exact .h13 | exact .h14), hS.old⟩ | exact ⟨_, progK2, hS.map_new (by first | exact .h0 | exact .h1 | exact .h2 | exact .h3 | exact .h4 | exact .h5 | exact .h6 | exact .h7 | exact .h8 | exact .h9 | exact .h10 | exact .h11 | exact .h12 | exact .h13 | exact .h14), hS.old⟩
  ·refine opW.call (sys_ok _) rfl ?_
   rintro _ w ⟨rfl, hw⟩; replace hT := hT.bel hw
   refine ⟨hT.old, ?_⟩
   simp only [putO]
   have hS := hS1.merge hT
   try simp only [List.cons_append, List.nil_append] at hS
   refine ML.forkO rfl rfl rfl rfl ?_ ?_
   ·refine opW.insert (κ := Key) (ν := Value) (k := budK) (v := progBV) (vv := idV) hT (by first | exact .h0 | exact .h1 | exact .h2 | exact .h3 | exact .h4 | exact .h5 | exact .h6 | exact .h7 | exact .h8 | exact .h9 | exact .h10 | exact .h11 | exact .h12 | exact .h13 | exact .h14) rfl rfl rfl ?_
    intro w hT; replace hT := hT _ (by first | exact .h0 | exact .h1 | exact .h2 | exact .h3 | exact .h4 | exact .h5 | exact .h6 | exact .h7 | exact .h8 | exact .h9 | exact .h10 | exact .h11 | exact .h12 | exact .h13 | exact .h14)
    refine ⟨hT.old, ?_⟩
    simp only [putO]
    have hS := hS1.merge hT
    try simp only [List.cons_append, List.nil_append] at hS
    refine ML.one0 rfl rfl (opW.insert (κ := Key) (ν := Value) (k := sysK) (v := progSV) (vv := idV) hT (by first | exact .h0 | exact .h1 | exact .h2 | exact .h3 | exact .h4 | exact .h5 | exact .h6 | exact .h7 | exact .h8 | exact .h9 | exact .h10 | exact .h11 | exact .h12 | exact .h13 | exact .h14) rfl rfl rfl ?_)
    intro w hT; replace hT := hT _ (by first | exact .h0 | exact .h1 | exact .h2 | exact .h3 | exact .h4 | exact .h5 | exact .h6 | exact .h7 | exact .h8 | exact .h9 | exact .h10 | exact .h11 | exact .h12 | exact .h13 | exact .h14)
    refine ⟨hT.old, ?_⟩
    have hS := hS1.merge hT
    try simp only [List.cons_append, List.nil_append] at hS
    refine ML.look rfl rfl rfl (fun w hw => (by have hS := hS1.bel hw; exact opW.moveV (v := .map (some r1)) rfl ⟨rfl, rfl⟩)) ?_
    refine ML.look rfl rfl rfl (fun w hw => (by have hS := hS1.bel hw; exact opW.assignV (v := .map (some r1)) rfl ⟨rfl, rfl⟩)) ?_
    refine ML.nil ?_
    refine thenQ_n (hK2 _ _ ?_)
    refine WC.ret ?_
    refine bodyQ_ret (.tmpV (v := .map (some r1)) rfl .nil) ?_
    first | exact ⟨_, progK1, hS.map_new (by first | exact .h0 | exact .h1 | exact .h2 | exact .h3 | exact .h4 | exact .h5 | exact .h6 | exact .h7 | exact .h8 | exact .h9 | exact .h10 | exact .h11 | exact .h12 | exact .h13 | exact .h14), hS.old⟩ | exact ⟨_, progK2, hS.map_new (by first | exact .h0 | exact .h1 | exact .h2 | exact .h3 | exact .h4 | exact .h5 | exact .h6 | exact .h7 | exact .h8 | exact .h9 | exact .h10 | exact .h11 | exact .h12 | exact .h13 | exact .h14), hS.old⟩
   ·refine opW.insert (κ := Key) (ν := Value) (k := sysK) (v := progSV) (vv := idV) hT (by first | exact .h0 | exact .h1 | exact .h2 | exact .h3 | exact .h4 | exact .h5 | exact .h6 | exact .h7 | exact .h8 | exact .h9 | exact .h10 | exact .h11 | exact .h12 | exact .h13 | exact .h14) rfl rfl rfl ?_
    intro w hT; replace hT := hT _ (by first | exact .h0 | exact .h1 | exact .h2 | exact .h3 | exact .h4 | exact .h5 | exact .h6 | exact .h7 | exact .h8 | exact .h9 | exact .h10 | exact .h11 | exact .h12 | exact .h13 | exact .h14)
    refine ⟨hT.old, ?_⟩
    simp only [putO]
    have hS := hS1.merge hT
    try simp only [List.cons_append, List.nil_append] at hS
    refine ML.one0 rfl rfl (opW.insert (κ := Key) (ν := Value) (k := budK) (v := progBV) (vv := idV) hT (by first | exact .h0 | exact .h1 | exact .h2 | exact .h3 | exact .h4 | exact .h5 | exact .h6 | exact .h7 | exact .h8 | exact .h9 | exact .h10 | exact .h11 | exact .h12 | exact .h13 | exact .h14) rfl rfl rfl ?_)
    intro w hT; replace hT := hT _ (by first | exact .h0 | exact .h1 | exact .h2 | exact .h3 | exact .h4 | exact .h5 | exact .h6 | exact .h7 | exact .h8 | exact .h9 | exact .h10 | exact .h11 | exact .h12 | exact .h13 | exact .h14)
    refine ⟨hT.old, ?_⟩
    have hS := hS1.merge hT
    try simp only [List.cons_append, List.nil_append] at hS
    refine ML.look rfl rfl rfl (fun w hw => (by have hS := hS1.bel hw; exact opW.moveV (v := .map (some r1)) rfl ⟨rfl, rfl⟩)) ?_
    refine ML.look rfl rfl rfl (fun w hw => (by have hS := hS1.bel hw; exact opW.assignV (v := .map (some r1)) rfl ⟨rfl, rfl⟩)) ?_
    refine ML.nil ?_
    refine thenQ_n (hK2 _ _ ?_)
    refine WC.ret ?_
    refine bodyQ_ret (.tmpV (v := .map (some r1)) rfl .nil) ?_
    first | exact ⟨_, progK1, hS.map_new (by first | exact .h0 | exact .h1 | exact .h2 | exact .h3 | exact .h4 | exact .h5 | exact .h6 | exact .h7 | exact .h8 | exact .h9 | exact .h10 | exact .h11 | exact .h12 | exact .h13 | exact .h14), hS.old⟩ | exact ⟨_, progK2, hS.map_new (by first | exact .h0 | exact .h1 | exact .h2 | exact .h3 | exact .h4 | exact .h5 | exact .h6 | exact .h7 | exact .h8 | exact .h9 | exact .h10 | exact .h11 | exact .h12 | exact .h13 | exact .h14), hS.old⟩
 ·refine opW.call (bud_ok _) rfl ?_
  rintro _ w ⟨rfl, hw⟩; replace hT := hT.bel hw
  refine ⟨hT.old, ?_⟩
  have hS := hS1.merge hT
  try simp only [List.cons_append, List.nil_append] at hS
  refine ML.fork rfl rfl rfl rfl ?_ ?_ 
  ·refine opW.makeMap Key (idV : Value → Value) hT ?_
   intro r1 w hw hT
   refine ⟨hT.old, ?_⟩
   have hS := hS1.merge hT
   try simp only [List.cons_append, List.nil_append] at hS
   refine ML.forkO rfl rfl rfl rfl ?_ ?_
   ·refine opW.insert (κ := Key) (ν := Value) (k := budK) (v := progBV) (vv := idV) hT (by first | exact .h0 | exact .h1 | exact .h2 | exact .h3 | exact .h4 | exact .h5 | exact .h6 | exact .h7 | exact .h8 | exact .h9 | exact .h10 | exact .h11 | exact .h12 | exact .h13 | exact .h14) rfl rfl rfl ?_
    intro w hT; replace hT := hT _ (by first | exact .h0 | exact .h1 | exact .h2 | exact .h3 | exact .h4 | exact .h5 | exact .h6 | exact .h7 | exact .h8 | exact .h9 | exact .h10 | exact .h11 | exact .h12 | exact .h13 | exact .h14)
    refine ⟨hT.old, ?_⟩
    simp only [putO]
    have hS := hS1.merge hT
    try simp only [List.cons_append, List.nil_append] at hS
    refine ML.one rfl rfl rfl (opW.call (sys_ok _) rfl ?_)
    rintro _ w ⟨rfl, hw⟩; replace hT := hT.bel hw
    refine ⟨hT.old, ?_⟩
    have hS := hS1.merge hT
    try simp only [List.cons_append, List.nil_append] at hS
    refine ML.one0 rfl rfl (opW.insert (κ := Key) (ν := Value) (k := sysK) (v := progSV) (vv := idV) hT (by first | exact .h0 | exact .h1 | exact .h2 | exact .h3 | exact .h4 | exact .h5 | exact .h6 | exact .h7 | exact .h8 | exact .h9 | exact .h10 | exact .h11 | exact .h12 | exact .h13 | exact .h14) rfl rfl rfl ?_)
    intro w hT; replace hT := hT _ (by first | exact .h0 | exact .h1 | exact .h2 | exact .h3 | exact .h4 | exact .h5 | exact .h6 | exact .h7 | exact .h8 | exact .h9 | exact .h10 | exact .h11 | exact .h12 | exact .h13 | exact .h14)
    refine ⟨hT.old, ?_⟩
    have hS := hS1.merge hT
    try simp only [List.cons_append, List.nil_append] at hS
    refine ML.look rfl rfl rfl (fun w hw => (by have hS := hS1.bel hw; exact opW.moveV (v := .map (some r1)) rfl ⟨rfl, rfl⟩)) ?_
    refine ML.look rfl rfl rfl (fun w hw => (by have hS := hS1.bel hw; exact opW.assignV (v := .map (some r1)) rfl ⟨rfl, rfl⟩)) ?_
    refine ML.nil ?_
    refine thenQ_n (hK2 _ _ ?_)
    refine WC.ret ?_
    refine bodyQ_ret (.tmpV (v := .map (some r1)) rfl .nil) ?_
    first | exact ⟨_, progK1, hS.map_new (by first | exact .h0 | exact .h1 | exact .h2 | exact .h3 | exact .h4 | exact .h5 | exact .h6 | exact .h7 | exact .h8 | exact .h9 | exact .h10 | exact .h11 | exact .h12 | exact .h13 | exact .h14), hS.old⟩ | exact ⟨_, progK2, hS.map_new (by first | exact .h0 | exact .h1 | exact .h2 | exact .h3 | exact .h4 | exact .h5 | exact .h6 | exact .h7 | exact .h8 | exact .h9 | exact .h10 | exact .h11 | exact .h12 | exact .h13 | exact .h14), hS.old⟩
   ·refine opW.call (sys_ok _) rfl ?_
    rintro _ w ⟨rfl, hw⟩; replace hT := hT.bel hw
    refine ⟨hT.old, ?_⟩
    simp only [putO]
    have hS := hS1.merge hT
    try simp only [List.cons_append, List.nil_append] at hS
    refine ML.forkO rfl rfl rfl rfl ?_ ?_
    ·refine opW.insert (κ := Key) (ν := Value) (k := budK) (v := progBV) (vv := idV) hT (by first | exact .h0 | exact .h1 | exact .h2 | exact .h3 | exact .h4 | exact .h5 | exact .h6 | exact .h7 | exact .h8 | exact .h9 | exact .h10 | exact .h11 | exact .h12 | exact .h13 | exact .h14) rfl rfl rfl ?_
     intro w hT; replace hT := hT _ (by first | exact .h0 | exact .h1 | exact .h2 | exact .h3 | exact .h4 | exact .h5 | exact .h6 | exact .h7 | exact .h8 | exact .h9 | exact .h10 | exact .h11 | exact .h12 | exact .h13 | exact .h14)
     refine ⟨hT.old, ?_⟩
     simp only [putO]
     have hS := hS1.merge hT
     try simp only [List.cons_append, List.nil_append] at hS
     refine ML.one0 rfl rfl (opW.insert (κ := Key) (ν := Value) (k := sysK) (v := progSV) (vv := idV) hT (by first | exact .h0 | exact .h1 | exact .h2 | exact .h3 | exact .h4 | exact .h5 | exact .h6 | exact .h7 | exact .h8 | exact .h9 | exact .h10 | exact .h11 | exact .h12 | exact .h13 | exact .h14) rfl rfl rfl ?_)
     intro w hT; replace hT := hT _ (by first | exact .h0 | exact .h1 | exact .h2 | exact .h3 | exact .h4 | exact .h5 | exact .h6 | exact .h7 | exact .h8 | exact .h9 | exact .h10 | exact .h11 | exact .h12 | exact .h13 | exact .h14)
     refine ⟨hT.old, ?_⟩
     have hS := hS1.merge hT
     try simp only [List.cons_append, List.nil_append] at hS
     refine ML.look rfl rfl rfl (fun w hw => (by have hS := hS1.bel hw; exact opW.moveV (v := .map (some r1)) rfl ⟨rfl, rfl⟩)) ?_
     refine ML.look rfl rfl rfl (fun w hw => (by have hS := hS1.bel hw; exact opW.assignV (v := .map (some r1)) rfl ⟨rfl, rfl⟩)) ?_
     refine ML.nil ?_
     refine thenQ_n (hK2 _ _ ?_)
     refine WC.ret ?_
     refine bodyQ_ret (.tmpV (v := .map (some r1)) rfl .nil) ?_
     first | exact ⟨_, progK1, hS.map_new (by first | exact .h0 | exact .h1 | exact .h2 | exact .h3 | exact .h4 | exact .h5 | exact .h6 | exact .h7 | exact .h8 | exact .h9 | exact .h10 | exact .h11 | exact .h12 | exact .h13 | exact .h14), hS.old⟩ | exact ⟨_, progK2, hS.map_new (by first | exact .h0 | exact .h1 | exact .h2 | exact .h3 | exact .h4 | exact .h5 | exact .h6 | exact .h7 | exact .h8 | exact .h9 | exact .h10 | exact .h11 | exact .h12 | exact .h13 | exact .h14), hS.old⟩
    ·refine opW.insert (κ := Key) (ν := Value) (k := sysK) (v := progSV) (vv := idV) hT (by first | exact .h0 | exact .h1 | exact .h2 | exact .h3 | exact .h4 | exact .h5 | exact .h6 | exact .h7 | exact .h8 | exact .h9 | exact .h10 | exact .h11 | exact .h12 | exact .h13 | exact .h14) rfl rfl rfl ?_
     intro w hT; replace hT := hT _ (by first | exact .h0 | exact .h1 | exact .h2 | exact .h3 | exact .h4 | exact .h5 | exact .h6 | exact .h7 | exact .h8 | exact .h9 | exact .h10 | exact .h11 | exact .h12 | exact .h13 | exact .h14)
     refine ⟨hT.old, ?_⟩
     simp only [putO]
     have hS := hS1.merge hT
     try simp only [List.cons_append, List.nil_append] at hS
     refine ML.one0 rfl rfl (opW.insert (κ := Key) (ν := Value) (k := budK) (v := progBV) (vv := idV) hT (by first | exact .h0 | exact .h1 | exact .h2 | exact .h3 | exact .h4 | exact .h5 | exact .h6 | exact .h7 | exact .h8 | exact .h9 | exact .h10 | exact .h11 | exact .h12 | exact .h13 | exact .h14) rfl rfl rfl ?_)
     intro w hT; replace hT := hT _ (by first | exact .h0 | exact .h1 | exact .h2 | exact .h3 | exact .h4 | exact .h5 | exact .h6 | exact .h7 | exact .h8 | exact .h9 | exact .h10 | exact .h11 | exact .h12 | exact .h13 | exact .h14)
     refine ⟨hT.old, ?_⟩
     have hS := hS1.merge hT
     try simp only [List.cons_append, List.nil_append] at hS
     refine ML.look rfl rfl rfl (fun w hw => (by have hS := hS1.bel hw; exact opW.moveV (v := .map (some r1)) rfl ⟨rfl, rfl⟩)) ?_
     refine ML.look rfl rfl rfl (fun w hw => (by have hS := hS1.bel hw; exact opW.assignV (v := .map (some r1)) rfl ⟨rfl, rfl⟩)) ?_
     refine ML.nil ?_
     refine thenQ_n (hK2 _ _ ?_)
     refine WC.ret ?_
     refine bodyQ_ret (.tmpV (v := .map (some r1)) rfl .nil) ?_
     first | exact ⟨_, progK1, hS.map_new (by first | exact .h0 | exact .h1 | exact .h2 | exact .h3 | exact .h4 | exact .h5 | exact .h6 | exact .h7 | exact .h8 | exact .h9 | exact .h10 | exact .h11 | exact .h12 | exact .h13 | exact .h14), hS.old⟩ | exact ⟨_, progK2, hS.map_new (by first | exact .h0 | exact .h1 | exact .h2 | exact .h3 | exact .h4 | exact .h5 | exact .h6 | exact .h7 | exact .h8 | exact .h9 | exact .h10 | exact .h11 | exact .h12 | exact .h13 | exact .h14), hS.old⟩
  ·refine opW.call (sys_ok _) rfl ?_
   rintro _ w ⟨rfl, hw⟩; replace hT := hT.bel hw
   refine ⟨hT.old, ?_⟩
   have hS := hS1.merge hT
   try simp only [List.cons_append, List.nil_append] at hS
   refine ML.one rfl rfl rfl (opW.makeMap Key (idV : Value → Value) hT ?_)
   intro r1 w hw hT
   refine ⟨hT.old, ?_⟩
   have hS := hS1.merge hT
   try simp only [List.cons_append, List.nil_append] at hS
   refine ML.forkO rfl rfl rfl rfl ?_ ?_
   ·refine opW.insert (κ := Key) (ν := Value) (k := budK) (v := progBV) (vv := idV) hT (by first | exact .h0 | exact .h1 | exact .h2 | exact .h3 | exact .h4 | exact .h5 | exact .h6 | exact .h7 | exact .h8 | exact .h9 | exact .h10 | exact .h11 | exact .h12 | exact .h13 | exact .h14) rfl rfl rfl ?_
    intro w hT; replace hT := hT _ (by first | exact .h0 | exact .h1 | exact .h2 | exact .h3 | exact .h4 | exact .h5 | exact .h6 | exact .h7 | exact .h8 | exact .h9 | exact .h10 | exact .h11 | exact .h12 | exact .h13 | exact .h14)
    refine ⟨hT.old, ?_⟩
    simp only [putO]
    have hS := hS1.merge hT
    try simp only [List.cons_append, List.nil_append] at hS
    refine ML.one0 rfl rfl (opW.insert (κ := Key) (ν := Value) (k := sysK) (v := progSV) (vv := idV) hT (by first | exact .h0 | exact .h1 | exact .h2 | exact .h3 | exact .h4 | exact .h5 | exact .h6 | exact .h7 | exact .h8 | exact .h9 | exact .h10 | exact .h11 | exact .h12 | exact .h13 | exact .h14) rfl rfl rfl ?_)
    intro w hT; replace hT := hT _ (by first | exact .h0 | exact .h1 | exact .h2 | exact .h3 | exact .h4 | exact .h5 | exact .h6 | exact .h7 | exact .h8 | exact .h9 | exact .h10 | exact .h11 | exact .h12 | exact .h13 | exact .h14)
    refine ⟨hT.old, ?_⟩
    have hS := hS1.merge hT
    try simp only [List.cons_append, List.nil_append] at hS
    refine ML.look rfl rfl rfl (fun w hw => (by have hS := hS1.bel hw; exact opW.moveV (v := .map (some r1)) rfl ⟨rfl, rfl⟩)) ?_
    refine ML.look rfl rfl rfl (fun w hw => (by have hS := hS1.bel hw; exact opW.assignV (v := .map (some r1)) rfl ⟨rfl, rfl⟩)) ?_
    refine ML.nil ?_
    refine thenQ_n (hK2 _ _ ?_)
    refine WC.ret ?_
    refine bodyQ_ret (.tmpV (v := .map (some r1)) rfl .nil) ?_
    first | exact ⟨_, progK1, hS.map_new (by first | exact .h0 | exact .h1 | exact .h2 | exact .h3 | exact .h4 | exact .h5 | exact .h6 | exact .h7 | exact .h8 | exact .h9 | exact .h10 | exact .h11 | exact .h12 | exact .h13 | exact .h14), hS.old⟩ | exact ⟨_, progK2, hS.map_new (by first | exact .h0 | exact .h1 | exact .h2 | exact .h3 | exact .h4 | exact .h5 | exact .h6 | exact .h7 | exact .h8 | exact .h9 | exact .h10 | exact .h11 | exact .h12 | exact .h13 | exact .h14), hS.old⟩
   ·refine opW.insert (κ := Key) (ν := Value) (k := sysK) (v := progSV) (vv := idV) hT (by first | exact .h0 | exact .h1 | exact .h2 | exact .h3 | exact .h4 | exact .h5 | exact .h6 | exact .h7 | exact .h8 | exact .h9 | exact .h10 | exact .h11 | exact .h12 | exact .h13 | exact .h14) rfl rfl rfl ?_
    intro w hT; replace hT := hT _ (by first | exact .h0 | exact .h1 | exact .h2 | exact .h3 | exact .h4 | exact .h5 | exact .h6 | exact .h7 | exact .h8 | exact .h9 | exact .h10 | exact .h11 | exact .h12 | exact .h13 | exact .h14)
    refine ⟨hT.old, ?_⟩
    simp only [putO]
    have hS := hS1.merge hT
    try simp only [List.cons_append, List.nil_append] at hS
    refine ML.one0 rfl rfl (opW.insert (κ := Key) (ν := Value) (k := budK) (v := progBV) (vv := idV) hT (by first | exact .h0 | exact .h1 | exact .h2 | exact .h3 | exact .h4 | exact .h5 | exact .h6 | exact .h7 | exact .h8 | exact .h9 | exact .h10 | exact .h11 | exact .h12 | exact .h13 | exact .h14) rfl rfl rfl ?_)
    intro w hT; replace hT := hT _ (by first | exact .h0 | exact .h1 | exact .h2 | exact .h3 | exact .h4 | exact .h5 | exact .h6 | exact .h7 | exact .h8 | exact .h9 | exact .h10 | exact .h11 | exact .h12 | exact .h13 | exact .h14)
    refine ⟨hT.old, ?_⟩
    have hS := hS1.merge hT
    try simp only [List.cons_append, List.nil_append] at hS
    refine ML.look rfl rfl rfl (fun w hw => (by have hS := hS1.bel hw; exact opW.moveV (v := .map (some r1)) rfl ⟨rfl, rfl⟩)) ?_
    refine ML.look rfl rfl rfl (fun w hw => (by have hS := hS1.bel hw; exact opW.assignV (v := .map (some r1)) rfl ⟨rfl, rfl⟩)) ?_
    refine ML.nil ?_
    refine thenQ_n (hK2 _ _ ?_)
    refine WC.ret ?_
    refine bodyQ_ret (.tmpV (v := .map (some r1)) rfl .nil) ?_
    first | exact ⟨_, progK1, hS.map_new (by first | exact .h0 | exact .h1 | exact .h2 | exact .h3 | exact .h4 | exact .h5 | exact .h6 | exact .h7 | exact .h8 | exact .h9 | exact .h10 | exact .h11 | exact .h12 | exact .h13 | exact .h14), hS.old⟩ | exact ⟨_, progK2, hS.map_new (by first | exact .h0 | exact .h1 | exact .h2 | exact .h3 | exact .h4 | exact .h5 | exact .h6 | exact .h7 | exact .h8 | exact .h9 | exact .h10 | exact .h11 | exact .h12 | exact .h13 | exact .h14), hS.old⟩

end Go.Fer
