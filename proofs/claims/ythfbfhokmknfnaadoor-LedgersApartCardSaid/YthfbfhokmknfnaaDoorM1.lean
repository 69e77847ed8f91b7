/- the document's store, how long it is; the stores of some accounts -/
import Derived.Test.YthfbfhokmknfnaaDoorN2
set_option linter.all false
namespace Go.Fer
open Go Go.Proofs Go.RowKit

def FitO (zs : List (Array Value)) : List (Nat × Value) → Prop
 | [] => True
 | (i, v) :: r => i < zs.length ∧ v.cells.size = (zs.getD i #[]).size ∧ FitO zs r
theorem fitO_set {zs : List (Array Value)} {i : Nat} {v : Array Value} (h : v.size = (zs.getD i #[]).size) : ∀ {r : List (Nat × Value)}, FitO zs r → FitO (zs.set i v) r
 | [], _ => trivial
 | (j, u) :: r, ⟨h1, h2, h3⟩ => by
  refine ⟨by rw [List.length_set]; exact h1, ?_, fitO_set h h3⟩
  rw [h2]
  simp only [List.getD_eq_getElem?_getD, List.getElem?_set]
  by_cases hij : i = j
  ·subst hij
   rw [if_pos rfl, if_pos h1]
   simp only [List.getD_eq_getElem?_getD] at h
   exact h.symm
  ·rw [if_neg hij]
theorem fitO : ∀ {parts : List (Nat × Value)} {zs : List (Array Value)}, FitO zs parts → partsFit zs parts
 | [], _, _ => trivial
 | (_, _) :: _, _, ⟨h1, h2, h3⟩ => ⟨h1, h2, fitO (fitO_set h2 h3)⟩

structure RSt where
 l : SlV
def RSt.parts (x : RSt) : List (Array Value) := [#[x.l.v]]
theorem RSt.sizes (x : RSt) : x.parts.map Array.size = [1] := by
 simp only [RSt.parts, List.map, Enc.size_eq]; rfl
instance : Enc RSt where
 enc x := joinA x.parts
 sz := 1
 pos := by omega
 size_eq x := by rw [joinA_size, RSt.sizes]; rfl
 one x := joinA_one (all_cons (Enc.one (α := SlV) _) all_nil)
theorem RSt.enc_eq (x : RSt) : Enc.enc x = joinA x.parts := rfl
theorem RSt.at_l (x : RSt) : (Enc.enc x)[0]? = some (x.l.v) := joinA_at [] [] _ (by rw [joinA_size]; simp only [List.map, Enc.size_eq]; rfl)
theorem RSt.set_l (x : RSt) (v : SlV) : spl (Enc.enc x) 0 #[v.v] = Enc.enc { x with l := v } := by
 have h := spl_join [] [] (#[x.l.v]) (#[v.v]) (by first | (rw [Enc.size_eq, Enc.size_eq]; done) | rfl)
 rw [show (joinA []).size = 0 from (by rw [joinA_size]; simp only [List.map, Enc.size_eq]; rfl)] at h
 exact h
def RSt.ok (w : World) (x : RSt) : Prop := (∃ l : List (Holding), SlR w x.l.v l ∧ ∀ e ∈ l, Holding.ok w e)
theorem RSt.ok.bel {w w' : World} {x : RSt} (hb : Bel w w') (h : RSt.ok w x) : RSt.ok w' x := by
 unfold RSt.ok at h ⊢
 obtain ⟨l0, g0⟩ := h
 exact (⟨_, g0.1.bel hb, fun e he => (Holding.ok.bel hb (g0.2 e he))⟩)
theorem rdw_RSt : RdW Tryd.prog 80 RSt RSt.ok := by
 intro H enc w fuel cs d ps hr
 obtain ⟨hend, fuel', hf⟩ := rdS Tryd.underlying80 inferInstance hr
 obtain ⟨d0, ps0, h0⟩ := hf 0 _ 22 0 1 rfl rfl rfl inferInstance
 obtain ⟨x0, e0, i0⟩ := rd_slv (α := Holding) inferInstance rdw_Holding inferInstance h0
 have k0 := cells_cut e0 hend
 refine ⟨⟨x0⟩, ?_, i0⟩
 rw [RSt.enc_eq]; simp only [RSt.parts, joinA_toList_cons, joinA_nil]
 rw [List.drop_zero] at k0; rw [k0]; try simp

theorem key_ex (k : Key) : (Enc.enc k).extract 0 (0 + 32) = Enc.enc k := by
 have h : (Enc.enc k).size = 32 := Enc.size_eq k
 rw [show 0 + 32 = (Enc.enc k).size by omega]
 exact Array.extract_size
section
variable {P : Program} {f : Fr} {w : World} {R : Value → World → Prop} {d : Option Tmp} {T : TypeId} {pos : String} {af : Array Edge} {gd : Option (Nat × Bool)}
theorem opW.convKey {s t e b o o' off : Nat} {x : Operand} {cs : Array Value} {k : Key} [hs : SliceT P s e] [he : IntT P e .u8] [ht : StrT P t] (hx : ev f x = .slice (some ⟨b, o, none⟩) 32 32) (hp : Pt w (.pointer (some ⟨b, o', none⟩)) cs) (ho : o = o' + off) (hc : cs.extract off (off + 32) = Enc.enc k) (hz : off + 32 ≤ cs.size)
  (h : R (.string ⟨k.toList.toArray⟩) w) : opW P f ⟨d, .convert s t x, T, pos, af, gd⟩ w R := by
 refine opW.of_run (v := .string ⟨k.toList.toArray⟩) (w' := w) ?_ h
 have hk : k.toList.length = 32 := by simp
 have hr := Go.run_convert_bytes_back (P := P) w s t e ⟨b, o, none⟩ 32 k.toList hs.out he.out ht.out (fun j hj => by
  obtain ⟨b', o2, hb, hq⟩ := hp
  cases hb
  have h1 : (Enc.enc k)[j]? = some (.int .u8 (k.toList[j].toNat : Int)) := by
   rw [enc_vec]
   simp
   exact ⟨k[j], Vector.getElem?_eq_getElem (by rw [hk] at hj; exact hj), rfl⟩
  rw [← hc] at h1
  have h2 : cs[off + j]? = some (.int .u8 (k.toList[j].toNat : Int)) := by
   rw [Array.getElem?_extract] at h1
   split at h1
   ·exact h1
   ·cases h1
  have := hq (off + j) _ h2
  subst ho
  simp only [Addr.add]
  rw [Nat.add_assoc]
  split
  ·next h0 => subst h0; simpa using this
  ·exact this)
 rw [hk] at hr
 simp only [execOp, hx, Sem.run_bind, hr, Result.andThen_ok, Sem.run_pure]
def gtrB (a b : Key) : Bool := !(Op.bytesLess (⟨a.toList.toArray⟩ : ByteArray).toList (⟨b.toList.toArray⟩ : ByteArray).toList || (⟨a.toList.toArray⟩ : ByteArray).toList == (⟨b.toList.toArray⟩ : ByteArray).toList)
theorem opW.gtrS {s t : TypeId} {x y : Operand} {a b : Key} (hx : ev f x = .string ⟨a.toList.toArray⟩) (hy : ev f y = .string ⟨b.toList.toArray⟩) (h : R (.bool (gtrB a b)) w) : opW P f ⟨d, .binOp .gtr s x y t, T, pos, af, gd⟩ w R := by
 refine opW.of_run (v := .bool (gtrB a b)) (w' := w) ?_ h
 have he : ∀ u v : Value, (eqGuard .gtr s x y u v).run P w = .ok () w := fun u v => by unfold eqGuard; rfl
 have hb : (binOp .gtr s (.string ⟨a.toList.toArray⟩) (.string ⟨b.toList.toArray⟩)).run P w = .ok (.bool (gtrB a b)) w := by simp [binOp, Op.stringOp, gtrB]
 simp only [execOp, hx, hy, Sem.run_bind, he, Result.andThen_ok, hb, Sem.run_pure]
end

instance : StrT Tryd.prog 9 := ⟨Tryd.underlying9⟩

set_option maxHeartbeats 600000 in
theorem rput13 (wb w0 : World) (S : List Ent) (q : Nat) (s : SlV) (xs : List Holding) (k0 : Key) (a : Account) (hS0 : St wb (blkE q (Enc.enc (RSt.mk s)) 80 :: ownE s.v 66 xs :: S) w0) (hx : xs.length ≤ 100000) : Ret Tryd.prog 24 #[.pointer (some ⟨q, 0, none⟩), .agg (Enc.enc k0), .agg (Enc.enc a)] w0 (fun _ w' => ∃ (s2 : SlV) (xs2 : List Holding), xs2.length ≤ xs.length + 1 ∧ St wb (blkE q (Enc.enc (RSt.mk s2)) 80 :: ownE s2.v 66 xs2 :: S) w') := by
  refine Ret.enter (args := [.pointer (some ⟨q, 0, none⟩), .agg (Enc.enc k0), .agg (Enc.enc a)]) Tryd.func24 rfl Tryd.ntmps24 Tryd.results24 rfl ?_
  have hS := St.start w0
  replace hS := hS0
  refine WC.seq (fun K1 hK1 => ?_)
  refine WC.region ?_
  refine WL.op rfl (opW.boxA hS rfl ?_)
  intro b4 w _ hS
  refine WL.op rfl (opW.boxA hS rfl ?_)
  intro b5 w _ hS
  refine WL.nil ?_
  refine thenQ_n (hK1 _ _ ?_)
  refine WC.seq (fun K2 hK2 => ?_)
  refine WC.region ?_
  refine WL.op rfl (opW.assignV (v := .slice none 0 0) rfl ?_)
  refine WL.nil ?_
  refine thenQ_n (hK2 _ _ ?_)
  refine WC.seq (fun K3 hK3 => ?_)
  refine WC.region ?_
  refine WL.op rfl (opW.loadV rfl (hS.ldA (b := b5) (cs := Enc.enc a) (by repeat constructor) (Enc.size_eq a)) ?_)
  refine WL.op rfl (opW.buildE (r := az) (ps := Account.parts az) (Account.enc_eq _) (by exact azParts) (by exact trivial) ?_)
  refine WL.op rfl (opW.eqlE rfl rfl ?_)
  refine WL.op rfl (opW.assignB rfl ?_)
  refine WL.nil ?_
  refine thenQ_n (hK3 _ _ ?_)
  refine WC.seq (fun K4 hK4 => ?_)
  refine WC.seq (fun K5 hK5 => ?_)
  refine WC.region ?_
  refine WL.op rfl (opW.assignI rfl ?_)
  refine WL.nil ?_
  refine thenQ_n (hK5 _ _ ?_)
  refine WC.block ?_
  refine WC.loop (fun m f w => ∃ (k : Nat) (v6 : Value) (out : List Holding) (b : Bool), Fits [(0, .pointer (some ⟨q, 0, none⟩)), (4, .pointer (some ⟨b4, 0, none⟩)), (5, .pointer (some ⟨b5, 0, none⟩)), (6, v6), (7, .bool b), (8, .int .i64 (k : Int))] f ∧ St wb (ownE v6 66 out :: blkE q (Enc.enc (RSt.mk s)) 80 :: ownE s.v 66 xs :: blkE b4 (Enc.enc k0) 57 :: blkE b5 (Enc.enc a) 64 :: S) w ∧ out.length ≤ k + (if b = true then 1 else 0) ∧ k ≤ xs.length ∧ m = xs.length - k) (xs.length) ?_ ?_
  ·
    exact ⟨0, .slice none 0 0, [], _, ⟨rfl, rfl, rfl, rfl, rfl, rfl, trivial⟩, (show St wb (ownE (.slice none 0 0) 66 ([] : List Holding) :: blkE q (Enc.enc (RSt.mk s)) 80 :: ownE s.v 66 xs :: blkE b4 (Enc.enc k0) 57 :: blkE b5 (Enc.enc a) 64 :: S) w from ((((hS.pick (e := blkE b5 (Enc.enc a) 64) (by repeat constructor)).pick (e := blkE b4 (Enc.enc k0) 57) (by repeat constructor)).pick (e := ownE s.v 66 xs) (by repeat constructor)).pick (e := blkE q (Enc.enc (RSt.mk s)) 80) (by repeat constructor)).nilOwn 66), Nat.zero_le _, Nat.zero_le _, rfl⟩
  ·
    rintro m f w ⟨k, v6, out, b, hfit, hS, hln, hk0, hm⟩
    refine WC.fits _ hfit (fun g => ?_)
    clear hfit
    refine WC.seq (fun K6 hK6 => ?_)
    refine WC.seq (fun K7 hK7 => ?_)
    refine WC.region ?_
    refine WL.op rfl (opW.moveI rfl ?_)
    refine WL.op rfl (opW.moveV (v := .pointer (some ⟨q, 0, none⟩)) rfl ?_)
    refine WL.op rfl (opW.nilCheckB rfl ?_)
    refine WL.op rfl (opW.fieldAddrB rfl ?_)
    refine WL.op rfl (opW.loadV rfl (hS.ld1 (b := q) (cs := Enc.enc (RSt.mk s)) (by repeat constructor) (RSt.at_l (RSt.mk s))) ?_)
    refine WL.op rfl (opW.lenV rfl ((hS.sl (v := s.v) (xs := xs) (by repeat constructor))) ?_)
    refine WL.op rfl (opW.lss rfl rfl ?_)
    refine WL.nil ?_
    refine thenQ_n (hK7 _ _ ?_)
    refine WC.cond _ rfl (fun hc0 => ?_) (fun hc0 => ?_)
    ·
      have hr0 := hc0
      try simp only [sq1,sq2,sq3,sq4,sq5,sq6,sq7,sq8,sq9,sq0] at hc0
      have hkl : k < xs.length := by omega
      have h1 : (if b = true then 1 else 0) ≤ 1 := by split <;> omega
      obtain ⟨g, n, c, hg⟩ : ∃ g n c, s.v = .slice (some ⟨g, 0, none⟩) n c := by
        have ho := hS.own (v := s.v) (xs := xs) (by repeat constructor)
        rcases ho with ⟨_, rfl⟩ | ⟨g, cap, cur, h, _⟩
        · simp at hkl
        · exact ⟨g, _, cap, h⟩
      have hge : ptrAdd (elemP s.v k (Enc.sz Holding)) 0 = (.pointer (some ⟨g, 0 + k * 66 + 0, none⟩)) := by rw [hg]; rfl
      have hge2 : (elemP s.v k (Enc.sz Holding)) = (.pointer (some ⟨g, 0 + k * 66, none⟩)) := by rw [hg]; rfl
      refine WC.skip ?_
      refine thenQ_n (hK6 _ _ ?_)
      refine WC.seq (fun K8 hK8 => ?_)
      refine WC.block ?_
      refine WC.mid (fun f w => ∃ (w6 : Value) (out2 : List Holding) (b2 : Bool), Fits [(0, .pointer (some ⟨q, 0, none⟩)), (4, .pointer (some ⟨b4, 0, none⟩)), (5, .pointer (some ⟨b5, 0, none⟩)), (6, w6), (7, .bool b2), (8, .int .i64 (k : Int))] f ∧ St wb (ownE w6 66 out2 :: blkE q (Enc.enc (RSt.mk s)) 80 :: ownE s.v 66 xs :: blkE b4 (Enc.enc k0) 57 :: blkE b5 (Enc.enc a) 64 :: S) w ∧ out2.length ≤ k + (if b2 = true then 1 else 0)) ?_ ?_
      ·
        refine WC.seq (fun K9 hK9 => ?_)
        refine WC.draw 16 (.look 0 (.look 1 (.look 2 (.look 3 (.look 4 (.look 5 (.look 6 (.look 7 (.look 8 (.look 9 (.look 10 (.look 11 (.look 12 (.look 13 (.look 14 (.look 15 .nil)))))))))))))))) (by kernel_rfl) (fun _ _ _ h => h) (fun w1 hw1 => ?_)
        replace hS := hS.bel hw1
        have hS1 := hS
        have hT := St.start w1
        refine ML.look rfl rfl rfl (fun w hw => (by have hS := hS1.bel hw; exact opW.moveB rfl ⟨rfl, rfl⟩)) ?_
        refine ML.look rfl rfl rfl (fun w hw => (by have hS := hS1.bel hw; exact opW.not rfl ⟨rfl, rfl⟩)) ?_
        refine ML.look rfl rfl rfl (fun w hw => (by have hS := hS1.bel hw; exact opW.moveB rfl ⟨rfl, rfl⟩)) ?_
        refine ML.lookG  _ 23 rfl rfl rfl rfl rfl rfl (fun hg24 w hw => (by have hS := hS1.bel hw; exact opW.moveV (v := .pointer (some ⟨q, 0, none⟩)) rfl ⟨rfl, rfl⟩)) ?_
        refine ML.lookG  _ 23 rfl rfl rfl rfl rfl rfl (fun hg25 w hw => (by have hS := hS1.bel hw; exact opW.nilCheckB (by first | exact gv_of rfl hg25 | rfl) ⟨rfl, rfl⟩)) ?_
        refine ML.lookG  _ 23 rfl rfl rfl rfl rfl rfl (fun hg26 w hw => (by have hS := hS1.bel hw; exact opW.fieldAddrB (by first | exact gv_of rfl hg26 | rfl) ⟨rfl, rfl⟩)) ?_
        refine ML.lookG (E := s.v) _ 23 rfl rfl rfl rfl rfl rfl (fun hg27 w hw => (by have hS := hS1.bel hw; exact opW.loadV (by first | exact gv_of rfl hg27 | rfl) (hS.ld1 (b := q) (cs := Enc.enc (RSt.mk s)) (by repeat constructor) (RSt.at_l (RSt.mk s))) ⟨rfl, rfl⟩)) ?_
        refine ML.lookG  _ 23 rfl rfl rfl rfl rfl rfl (fun hg28 w hw => (by have hS := hS1.bel hw; exact opW.moveI rfl ⟨rfl, rfl⟩)) ?_
        refine ML.lookG (E := (elemP s.v k (Enc.sz Holding))) _ 23 rfl rfl rfl rfl rfl rfl (fun hg29 w hw => (by have hS := hS1.bel hw; exact opW.idxV (k := .i64) (i := (k : Int)) (v := s.v) (gv_of rfl hg29) (hS.sl (v := s.v) (xs := xs) (by repeat constructor)) (gv_of rfl hg29) (by omega) ⟨rfl, rfl⟩)) ?_
        refine ML.lookG (E := (ptrAdd (elemP s.v k (Enc.sz Holding)) 0)) _ 23 rfl rfl rfl rfl rfl rfl (fun hg30 w hw => (by have hS := hS1.bel hw; exact opW.fieldAddr (by first | exact gv_of rfl hg30 | rfl) ((hS.sl (v := s.v) (xs := xs) (by repeat constructor)).isP hkl) ⟨rfl, rfl⟩)) ?_
        refine ML.lookG (E := .slice (some ⟨g, 0 + k * 66 + 0, none⟩) 32 32) _ 23 rfl rfl rfl rfl rfl rfl (fun hg31 w hw => (by have hS := hS1.bel hw; exact opW.cutArrO ((gv_of rfl hg31).trans hge) ⟨rfl, rfl⟩)) ?_
        refine ML.lookG (E := .string ⟨xs[k].key.toList.toArray⟩) _ 23 rfl rfl rfl rfl rfl rfl (fun hg32 w hw => (by have hS := hS1.bel hw; exact opW.convKey (k := xs[k].key) (cs := Enc.enc xs[k]) (o' := 0 + k * 66) (off := 0) (gv_of (by first | exact gv_of rfl hg32 | rfl) hg32) (hge2 ▸ (hS.sl (v := s.v) (xs := xs) (by repeat constructor)).isPt hkl) rfl (Holding.ex_key _) (by rw [Enc.size_eq]; decide) ⟨rfl, rfl⟩)) ?_
        refine ML.lookG (E := .slice (some ⟨b4, 0, none⟩) 32 32) _ 23 rfl rfl rfl rfl rfl rfl (fun hg33 w hw => (by have hS := hS1.bel hw; exact opW.cutArrO rfl ⟨rfl, rfl⟩)) ?_
        refine ML.lookG (E := .string ⟨k0.toList.toArray⟩) _ 23 rfl rfl rfl rfl rfl rfl (fun hg34 w hw => (by have hS := hS1.bel hw; exact opW.convKey (k := k0) (cs := Enc.enc k0) (o' := 0) (off := 0) (gv_of (by first | exact gv_of rfl hg34 | rfl) hg34) (hS.pt (b := b4) (cs := Enc.enc k0) (by repeat constructor)) rfl (key_ex k0) (by rw [Enc.size_eq]; decide) ⟨rfl, rfl⟩)) ?_
        refine ML.lookG (E := .bool (gtrB xs[k].key k0)) _ 23 rfl rfl rfl rfl rfl rfl (fun hg35 w hw => (by have hS := hS1.bel hw; exact opW.gtrS (a := xs[k].key) (b := k0) (gv_of rfl hg35) (gv_of rfl hg35) ⟨rfl, rfl⟩)) ?_
        refine ML.look rfl rfl rfl (fun w hw => (by have hS := hS1.bel hw; exact opW.pickAnd rfl (by first | rfl) rfl ⟨rfl, rfl⟩)) ?_
        refine ML.nil ?_
        refine thenQ_n (hK9 _ _ ?_)
        refine WC.cond _ rfl (fun hc1 => ?_) (fun hc1 => ?_)
        ·
          have hr1 := hc1
          try simp only [sq1,sq2,sq3,sq4,sq5,sq6,sq7,sq8,sq9,sq0] at hc1
          have hbf : b = false := by cases b with | false => rfl | true => simp at hr1
          have hln1 : out.length ≤ k := by rw [hbf] at hln; simpa using hln
          refine WC.seq (fun K10 hK10 => ?_)
          refine WC.region ?_
          refine WL.op rfl (opW.moveV (v := v6) rfl ?_)
          refine WL.op rfl (opW.loadV rfl (hS.ldA (b := b4) (cs := Enc.enc k0) (by repeat constructor) (Enc.size_eq k0)) ?_)
          refine WL.op rfl (opW.loadV rfl (hS.ldA (b := b5) (cs := Enc.enc a) (by repeat constructor) (Enc.size_eq a)) ?_)
          refine WL.op rfl (opW.buildE (r := (⟨k0, a⟩ : Holding)) (ps := Holding.parts (⟨k0, a⟩ : Holding)) (Holding.enc_eq _) (by exact rfl) (by exact fitO ⟨by decide, Enc.size_eq k0, by decide, Enc.size_eq a, trivial⟩) ?_)
          refine WL.op rfl (opW.buildSl hS (([(⟨k0, a⟩ : Holding)] : List Holding)) [.agg (Enc.enc (⟨k0, a⟩ : Holding))] rfl rfl rfl rfl (by decide) ?_)
          intro b41 w hw hS
          refine WL.op rfl (opW.appendOwn (α := Holding) (v := v6) (xs := out) (ys := [(⟨k0, a⟩ : Holding)]) rfl hS rfl (by repeat constructor) (hS.sl (v := .slice (some ⟨b41, 0, none⟩) 1 1) (xs := ([(⟨k0, a⟩ : Holding)] : List Holding)) (by repeat constructor)) (by simp only [List.length_cons, List.length_nil]; omega) (by simp only [maxLen, List.length_cons, List.length_nil]; omega) ?_)
          intro v42 w hS; replace hS := hS _ (by repeat constructor)
          refine WL.op rfl (opW.assignV (v := v42) rfl ?_)
          refine WL.nil ?_
          refine thenQ_n (hK10 _ _ ?_)
          refine WC.region ?_
          refine WL.op rfl (opW.assignB rfl ?_)
          refine WL.nil ?_
          refine thenQ_n ?_
          first
            | exact ⟨v42, out ++ [(⟨k0, a⟩ : Holding)], true, ⟨rfl, rfl, rfl, rfl, rfl, rfl, trivial⟩, ((((((hS.pick (e := blkE b5 (Enc.enc a) 64) (by repeat constructor)).pick (e := blkE b4 (Enc.enc k0) 57) (by repeat constructor)).pick (e := ownE s.v 66 xs) (by repeat constructor)).pick (e := blkE q (Enc.enc (RSt.mk s)) 80) (by repeat constructor)).pick (e := ownE v42 66 (out ++ [(⟨k0, a⟩ : Holding)])) (by repeat constructor)).sub (by repeat with_reducible first | exact su1 _ | exact su2 _ | refine su3 ?_ | refine su4 ?_)), (by simp only [List.length_append, List.length_cons, List.length_nil, if_true]; omega)⟩
            | exact ⟨v6, out, b, ⟨rfl, rfl, rfl, rfl, rfl, rfl, trivial⟩, ((((((hS.pick (e := blkE b5 (Enc.enc a) 64) (by repeat constructor)).pick (e := blkE b4 (Enc.enc k0) 57) (by repeat constructor)).pick (e := ownE s.v 66 xs) (by repeat constructor)).pick (e := blkE q (Enc.enc (RSt.mk s)) 80) (by repeat constructor)).pick (e := ownE v6 66 out) (by repeat constructor)).sub (by repeat with_reducible first | exact su1 _ | exact su2 _ | refine su3 ?_ | refine su4 ?_)), hln⟩
        ·
          have hr1 := hc1
          try simp only [sq1,sq2,sq3,sq4,sq5,sq6,sq7,sq8,sq9,sq0] at hc1
          refine WC.skip ?_
          refine thenQ_n ?_
          first
            | exact ⟨v42, out ++ [(⟨k0, a⟩ : Holding)], true, ⟨rfl, rfl, rfl, rfl, rfl, rfl, trivial⟩, ((((((hS.pick (e := blkE b5 (Enc.enc a) 64) (by repeat constructor)).pick (e := blkE b4 (Enc.enc k0) 57) (by repeat constructor)).pick (e := ownE s.v 66 xs) (by repeat constructor)).pick (e := blkE q (Enc.enc (RSt.mk s)) 80) (by repeat constructor)).pick (e := ownE v42 66 (out ++ [(⟨k0, a⟩ : Holding)])) (by repeat constructor)).sub (by repeat with_reducible first | exact su1 _ | exact su2 _ | refine su3 ?_ | refine su4 ?_)), (by simp only [List.length_append, List.length_cons, List.length_nil, if_true]; omega)⟩
            | exact ⟨v6, out, b, ⟨rfl, rfl, rfl, rfl, rfl, rfl, trivial⟩, ((((((hS.pick (e := blkE b5 (Enc.enc a) 64) (by repeat constructor)).pick (e := blkE b4 (Enc.enc k0) 57) (by repeat constructor)).pick (e := ownE s.v 66 xs) (by repeat constructor)).pick (e := blkE q (Enc.enc (RSt.mk s)) 80) (by repeat constructor)).pick (e := ownE v6 66 out) (by repeat constructor)).sub (by repeat with_reducible first | exact su1 _ | exact su2 _ | refine su3 ?_ | refine su4 ?_)), hln⟩
      ·
        rintro f w ⟨w6, out2, b2, hfit, hS, hln2⟩
        refine WC.fits _ hfit (fun g => ?_)
        clear hfit
        have h2 : (if b2 = true then 1 else 0) ≤ 1 := by split <;> omega
        refine WC.seq (fun K11 hK11 => ?_)
        refine WC.draw 10 (.look 0 (.look 1 (.look 2 (.look 3 (.look 4 (.look 5 (.look 6 (.look 7 (.look 8 (.look 9 .nil)))))))))) (by kernel_rfl) (fun _ _ _ h => h) (fun w1 hw1 => ?_)
        replace hS := hS.bel hw1
        have hS1 := hS
        have hT := St.start w1
        refine ML.look rfl rfl rfl (fun w hw => (by have hS := hS1.bel hw; exact opW.moveV (v := .pointer (some ⟨q, 0, none⟩)) rfl ⟨rfl, rfl⟩)) ?_
        refine ML.look rfl rfl rfl (fun w hw => (by have hS := hS1.bel hw; exact opW.nilCheckB rfl ⟨rfl, rfl⟩)) ?_
        refine ML.look rfl rfl rfl (fun w hw => (by have hS := hS1.bel hw; exact opW.fieldAddrB rfl ⟨rfl, rfl⟩)) ?_
        refine ML.look rfl rfl rfl (fun w hw => (by have hS := hS1.bel hw; exact opW.loadV rfl (hS.ld1 (b := q) (cs := Enc.enc (RSt.mk s)) (by repeat constructor) (RSt.at_l (RSt.mk s))) ⟨rfl, rfl⟩)) ?_
        refine ML.look rfl rfl rfl (fun w hw => (by have hS := hS1.bel hw; exact opW.moveI rfl ⟨rfl, rfl⟩)) ?_
        refine ML.look rfl rfl rfl (fun w hw => (by have hS := hS1.bel hw; exact opW.idxV rfl ((hS.sl (v := s.v) (xs := xs) (by repeat constructor))) rfl (by omega) ⟨rfl, rfl⟩)) ?_
        refine ML.look rfl rfl rfl (fun w hw => (by have hS := hS1.bel hw; exact opW.fieldAddr rfl ((hS.sl (v := s.v) (xs := xs) (by repeat constructor)).isP hkl) ⟨rfl, rfl⟩)) ?_
        refine ML.look rfl rfl rfl (fun w hw => (by have hS := hS1.bel hw; exact opW.loadV rfl (Ld.ptA ((hS.sl (v := s.v) (xs := xs) (by repeat constructor)).isPt hkl) 0 (Holding.ex_key _) (by rw [Enc.size_eq]; decide)) ⟨rfl, rfl⟩)) ?_
        refine ML.look rfl rfl rfl (fun w hw => (by have hS := hS1.bel hw; exact opW.loadV rfl (hS.ldA (b := b4) (cs := Enc.enc k0) (by repeat constructor) (Enc.size_eq k0)) ⟨rfl, rfl⟩)) ?_
        refine ML.look rfl rfl rfl (fun w hw => (by have hS := hS1.bel hw; exact opW.neqE rfl rfl ⟨rfl, rfl⟩)) ?_
        refine ML.nil ?_
        refine thenQ_n (hK11 _ _ ?_)
        refine WC.cond _ rfl (fun hc2 => ?_) (fun hc2 => ?_)
        ·
          have hr2 := hc2
          try simp only [sq1,sq2,sq3,sq4,sq5,sq6,sq7,sq8,sq9,sq0] at hc2
          refine WC.region ?_
          refine WL.op rfl (opW.moveV (v := w6) rfl ?_)
          refine WL.op rfl (opW.moveV (v := .pointer (some ⟨q, 0, none⟩)) rfl ?_)
          refine WL.op rfl (opW.nilCheckB rfl ?_)
          refine WL.op rfl (opW.fieldAddrB rfl ?_)
          refine WL.op rfl (opW.loadV rfl (hS.ld1 (b := q) (cs := Enc.enc (RSt.mk s)) (by repeat constructor) (RSt.at_l (RSt.mk s))) ?_)
          refine WL.op rfl (opW.moveI rfl ?_)
          refine WL.op rfl (opW.idxV rfl ((hS.sl (v := s.v) (xs := xs) (by repeat constructor))) rfl (by omega) ?_)
          refine WL.op rfl (opW.loadV rfl (((hS.sl (v := s.v) (xs := xs) (by repeat constructor)).isPt hkl).ldA (Enc.size_eq xs[k])) ?_)
          refine WL.op rfl (opW.buildSl hS (([xs[k]] : List Holding)) [.agg (Enc.enc xs[k])] rfl rfl rfl rfl (by decide) ?_)
          intro b61 w hw hS
          refine WL.op rfl (opW.appendOwn (α := Holding) (v := w6) (xs := out2) (ys := [xs[k]]) rfl hS rfl (by repeat constructor) (hS.sl (v := .slice (some ⟨b61, 0, none⟩) 1 1) (xs := ([xs[k]] : List Holding)) (by repeat constructor)) (by simp only [List.length_cons, List.length_nil]; omega) (by simp only [maxLen, List.length_cons, List.length_nil]; omega) ?_)
          intro v62 w hS; replace hS := hS _ (by repeat constructor)
          refine WL.op rfl (opW.assignV (v := v62) rfl ?_)
          refine WL.nil ?_
          refine blockQ_n ?_
          refine thenQ_n (hK8 _ _ ?_)
          refine WC.region ?_
          refine WL.op rfl (opW.moveI rfl ?_)
          refine WL.op rfl (opW.add rfl rfl (wrap_i64 (by omega)) ?_)
          refine WL.op rfl (opW.assignI rfl ?_)
          refine WL.nil ?_
          refine thenQ_n ?_
          first
            | exact ⟨xs.length - (k + 1), by omega, k + 1, v62, out2 ++ [xs[k]], b2, ⟨rfl, rfl, rfl, rfl, rfl, congrArg (Value.int .i64) (by omega), trivial⟩, ((((((hS.pick (e := blkE b5 (Enc.enc a) 64) (by repeat constructor)).pick (e := blkE b4 (Enc.enc k0) 57) (by repeat constructor)).pick (e := ownE s.v 66 xs) (by repeat constructor)).pick (e := blkE q (Enc.enc (RSt.mk s)) 80) (by repeat constructor)).pick (e := ownE v62 66 (out2 ++ [xs[k]])) (by repeat constructor)).sub (by repeat with_reducible first | exact su1 _ | exact su2 _ | refine su3 ?_ | refine su4 ?_)), (by simp only [List.length_append, List.length_cons, List.length_nil]; omega), by omega, rfl⟩
            | exact ⟨xs.length - (k + 1), by omega, k + 1, w6, out2, b2, ⟨rfl, rfl, rfl, rfl, rfl, congrArg (Value.int .i64) (by omega), trivial⟩, ((((((hS.pick (e := blkE b5 (Enc.enc a) 64) (by repeat constructor)).pick (e := blkE b4 (Enc.enc k0) 57) (by repeat constructor)).pick (e := ownE s.v 66 xs) (by repeat constructor)).pick (e := blkE q (Enc.enc (RSt.mk s)) 80) (by repeat constructor)).pick (e := ownE w6 66 out2) (by repeat constructor)).sub (by repeat with_reducible first | exact su1 _ | exact su2 _ | refine su3 ?_ | refine su4 ?_)), by omega, by omega, rfl⟩
        ·
          have hr2 := hc2
          try simp only [sq1,sq2,sq3,sq4,sq5,sq6,sq7,sq8,sq9,sq0] at hc2
          refine WC.skip ?_
          refine blockQ_n ?_
          refine thenQ_n (hK8 _ _ ?_)
          refine WC.region ?_
          refine WL.op rfl (opW.moveI rfl ?_)
          refine WL.op rfl (opW.add rfl rfl (wrap_i64 (by omega)) ?_)
          refine WL.op rfl (opW.assignI rfl ?_)
          refine WL.nil ?_
          refine thenQ_n ?_
          first
            | exact ⟨xs.length - (k + 1), by omega, k + 1, v62, out2 ++ [xs[k]], b2, ⟨rfl, rfl, rfl, rfl, rfl, congrArg (Value.int .i64) (by omega), trivial⟩, ((((((hS.pick (e := blkE b5 (Enc.enc a) 64) (by repeat constructor)).pick (e := blkE b4 (Enc.enc k0) 57) (by repeat constructor)).pick (e := ownE s.v 66 xs) (by repeat constructor)).pick (e := blkE q (Enc.enc (RSt.mk s)) 80) (by repeat constructor)).pick (e := ownE v62 66 (out2 ++ [xs[k]])) (by repeat constructor)).sub (by repeat with_reducible first | exact su1 _ | exact su2 _ | refine su3 ?_ | refine su4 ?_)), (by simp only [List.length_append, List.length_cons, List.length_nil]; omega), by omega, rfl⟩
            | exact ⟨xs.length - (k + 1), by omega, k + 1, w6, out2, b2, ⟨rfl, rfl, rfl, rfl, rfl, congrArg (Value.int .i64) (by omega), trivial⟩, ((((((hS.pick (e := blkE b5 (Enc.enc a) 64) (by repeat constructor)).pick (e := blkE b4 (Enc.enc k0) 57) (by repeat constructor)).pick (e := ownE s.v 66 xs) (by repeat constructor)).pick (e := blkE q (Enc.enc (RSt.mk s)) 80) (by repeat constructor)).pick (e := ownE w6 66 out2) (by repeat constructor)).sub (by repeat with_reducible first | exact su1 _ | exact su2 _ | refine su3 ?_ | refine su4 ?_)), by omega, by omega, rfl⟩
    ·
      have hr0 := hc0
      try simp only [sq1,sq2,sq3,sq4,sq5,sq6,sq7,sq8,sq9,sq0] at hc0
      have h1 : (if b = true then 1 else 0) ≤ 1 := by split <;> omega
      refine WC.exit ?_
      refine thenQ_e ?_
      refine thenQ_e ?_
      refine blockQ_hit ?_
      refine thenQ_n (hK4 _ _ ?_)
      refine WC.mid (fun f w => ∃ (sw : SlV) (out2 : List Holding), Fits [(0, .pointer (some ⟨q, 0, none⟩)), (6, sw.v)] f ∧ St wb (ownE sw.v 66 out2 :: blkE q (Enc.enc (RSt.mk s)) 80 :: ownE s.v 66 xs :: S) w ∧ out2.length ≤ xs.length + 1) ?_ ?_
      ·
        refine WC.seq (fun K12 hK12 => ?_)
        refine WC.region ?_
        refine WL.op rfl (opW.moveB rfl ?_)
        refine WL.op rfl (opW.not rfl ?_)
        refine WL.nil ?_
        refine thenQ_n (hK12 _ _ ?_)
        refine WC.cond _ rfl (fun hc3 => ?_) (fun hc3 => ?_)
        ·
          have hr3 := hc3
          try simp only [sq1,sq2,sq3,sq4,sq5,sq6,sq7,sq8,sq9,sq0] at hc3
          have hbf : b = false := by simpa using hr3
          have hln1 : out.length ≤ k := by rw [hbf] at hln; simpa using hln
          have hle : k ≤ xs.length := hk0
          refine WC.region ?_
          refine WL.op rfl (opW.moveV (v := v6) rfl ?_)
          refine WL.op rfl (opW.loadV rfl (hS.ldA (b := b4) (cs := Enc.enc k0) (by repeat constructor) (Enc.size_eq k0)) ?_)
          refine WL.op rfl (opW.loadV rfl (hS.ldA (b := b5) (cs := Enc.enc a) (by repeat constructor) (Enc.size_eq a)) ?_)
          refine WL.op rfl (opW.buildE (r := (⟨k0, a⟩ : Holding)) (ps := Holding.parts (⟨k0, a⟩ : Holding)) (Holding.enc_eq _) (by exact rfl) (by exact fitO ⟨by decide, Enc.size_eq k0, by decide, Enc.size_eq a, trivial⟩) ?_)
          refine WL.op rfl (opW.buildSl hS (([(⟨k0, a⟩ : Holding)] : List Holding)) [.agg (Enc.enc (⟨k0, a⟩ : Holding))] rfl rfl rfl rfl (by decide) ?_)
          intro b69 w hw hS
          refine WL.op rfl (opW.appendOwn (α := Holding) (v := v6) (xs := out) (ys := [(⟨k0, a⟩ : Holding)]) rfl hS rfl (by repeat constructor) (hS.sl (v := .slice (some ⟨b69, 0, none⟩) 1 1) (xs := ([(⟨k0, a⟩ : Holding)] : List Holding)) (by repeat constructor)) (by simp only [List.length_cons, List.length_nil]; omega) (by simp only [maxLen, List.length_cons, List.length_nil]; omega) ?_)
          intro v70 w hS; replace hS := hS _ (by repeat constructor)
          refine WL.op rfl (opW.assignV (v := v70) rfl ?_)
          refine WL.nil ?_
          refine thenQ_n ?_
          first
            | (obtain ⟨sw, rfl⟩ := (hS.sl (v := v70) (xs := out ++ [(⟨k0, a⟩ : Holding)]) (by repeat constructor)).asV
               exact ⟨sw, out ++ [(⟨k0, a⟩ : Holding)], ⟨rfl, rfl, trivial⟩, ((((hS.pick (e := ownE s.v 66 xs) (by repeat constructor)).pick (e := blkE q (Enc.enc (RSt.mk s)) 80) (by repeat constructor)).pick (e := ownE sw.v 66 (out ++ [(⟨k0, a⟩ : Holding)])) (by repeat constructor)).sub (by repeat with_reducible first | exact su1 _ | exact su2 _ | refine su3 ?_ | refine su4 ?_)), (by simp only [List.length_append, List.length_cons, List.length_nil]; omega)⟩)
            | (obtain ⟨sw, rfl⟩ := (hS.sl (v := v6) (xs := out) (by repeat constructor)).asV
               exact ⟨sw, out, ⟨rfl, rfl, trivial⟩, ((((hS.pick (e := ownE s.v 66 xs) (by repeat constructor)).pick (e := blkE q (Enc.enc (RSt.mk s)) 80) (by repeat constructor)).pick (e := ownE sw.v 66 out) (by repeat constructor)).sub (by repeat with_reducible first | exact su1 _ | exact su2 _ | refine su3 ?_ | refine su4 ?_)), by omega⟩)
        ·
          have hr3 := hc3
          try simp only [sq1,sq2,sq3,sq4,sq5,sq6,sq7,sq8,sq9,sq0] at hc3
          refine WC.skip ?_
          refine thenQ_n ?_
          first
            | (obtain ⟨sw, rfl⟩ := (hS.sl (v := v70) (xs := out ++ [(⟨k0, a⟩ : Holding)]) (by repeat constructor)).asV
               exact ⟨sw, out ++ [(⟨k0, a⟩ : Holding)], ⟨rfl, rfl, trivial⟩, ((((hS.pick (e := ownE s.v 66 xs) (by repeat constructor)).pick (e := blkE q (Enc.enc (RSt.mk s)) 80) (by repeat constructor)).pick (e := ownE sw.v 66 (out ++ [(⟨k0, a⟩ : Holding)])) (by repeat constructor)).sub (by repeat with_reducible first | exact su1 _ | exact su2 _ | refine su3 ?_ | refine su4 ?_)), (by simp only [List.length_append, List.length_cons, List.length_nil]; omega)⟩)
            | (obtain ⟨sw, rfl⟩ := (hS.sl (v := v6) (xs := out) (by repeat constructor)).asV
               exact ⟨sw, out, ⟨rfl, rfl, trivial⟩, ((((hS.pick (e := ownE s.v 66 xs) (by repeat constructor)).pick (e := blkE q (Enc.enc (RSt.mk s)) 80) (by repeat constructor)).pick (e := ownE sw.v 66 out) (by repeat constructor)).sub (by repeat with_reducible first | exact su1 _ | exact su2 _ | refine su3 ?_ | refine su4 ?_)), by omega⟩)
      ·
        rintro f w ⟨sw, out2, hfit, hS, hl2⟩
        refine WC.fits _ hfit (fun g => ?_)
        clear hfit
        refine WC.region ?_
        refine WL.op rfl (opW.moveV (v := .pointer (some ⟨q, 0, none⟩)) rfl ?_)
        refine WL.op rfl (opW.moveV (v := sw.v) rfl ?_)
        refine WL.op rfl (opW.nilCheckB rfl ?_)
        refine WL.op rfl (opW.fieldAddrB rfl ?_)
        refine WL.op0 (opW.storeF (b := q) (o := 0) (v := sw.v) (sz := 1) (cs := Enc.enc (RSt.mk s)) (cs' := Enc.enc (RSt.mk sw)) hS rfl rfl (by repeat constructor) rfl (by rw [Enc.size_eq]; decide) (Enc.one (α := SlV) sw) (RSt.set_l (RSt.mk s) sw) ?_)
        intro w hS; replace hS := hS _ (by repeat constructor)
        refine WL.nil ?_
        refine bodyQ_end .nil ?_
        exact ⟨sw, out2, hl2, (((hS.pick (e := ownE sw.v 66 out2) (by repeat constructor)).pick (e := blkE q (Enc.enc (RSt.mk sw)) 80) (by repeat constructor)).sub (by repeat with_reducible first | exact su1 _ | exact su2 _ | refine su3 ?_ | refine su4 ?_))⟩

theorem stores15 (w0 : World) (vl : Value) (l : List Holding) (hl : SlR w0 vl l) (hlb : l.length ≤ 100000) (hlw : ∀ h ∈ l, okW h.account) : Ret Tryd.prog 8 #[vl] w0 (fun u w' => ∃ p q d, u = .tuple #[.pointer (some ⟨p, 0, none⟩), .pointer (some ⟨q, 0, none⟩)] ∧ StOk d ∧ okS d ∧ St w0 [stE p d] w') := by
 refine Ret.enter (args := [vl]) Tryd.func8 rfl Tryd.ntmps8 Tryd.results8 rfl ?_
 have hS := St.start w0
 refine WC.seq (fun K1 hK1 => ?_)
 refine WC.region ?_
 refine WL.op rfl (opW.assignV rfl ?_)
 refine WL.op rfl (opW.assignV rfl ?_)
 refine WL.nil ?_
 refine thenQ_n (hK1 _ _ ?_)
 refine WC.seq (fun K2 hK2 => ?_)
 refine WC.region ?_
 refine WL.op rfl (opW.call (new13 _) rfl ?_)
 rintro _ w ⟨p, d, rfl, hd0, hok0, hN, hw⟩; replace hS := hS.newE hw hN
 refine WL.op rfl (opW.assignV (v := .pointer (some ⟨p, 0, none⟩)) rfl ?_)
 refine WL.nil ?_
 refine thenQ_n (hK2 _ _ ?_)
 refine WC.seq (fun K3 hK3 => ?_)
 refine WC.region ?_
 refine WL.op rfl (opW.buildE (r := ((RSt.mk ⟨none, 0, 0⟩) : RSt)) (ps := RSt.parts ((RSt.mk ⟨none, 0, 0⟩) : RSt)) (RSt.enc_eq _) (by first | rfl | (simp only [sysK, az, budK, enc_vset, enc_vz, Account.enc_eq, Account.parts, Role.enc_eq, Role.parts, Instr.enc_eq, Instr.parts, Ask.enc_eq, Ask.parts, Cut.enc_eq, Cut.parts, PairS.enc_eq, PairS.parts, Header.enc_eq, Header.parts, Lookup.enc_eq, Lookup.parts, Message.enc_eq, Message.parts, Tx.enc_eq, Tx.parts, Budget.enc_eq, Budget.parts, Ready.enc_eq, Ready.parts, Holding.enc_eq, Holding.parts, Outcome.enc_eq, Outcome.parts, Running.enc_eq, Running.parts, StS.enc_eq, StS.parts, RSt.enc_eq, RSt.parts]; rfl)) (by (repeat' (first | exact trivial | refine And.intro ?_ ?_)) <;> first | rfl | exact Enc.size_eq _ | (simp; done)) ?_)
 refine WL.op rfl (opW.boxA hS rfl ?_)
 intro b9 w _ hS
 refine WL.op rfl (opW.assignV (v := .pointer (some ⟨b9, 0, none⟩)) rfl ?_)
 refine WL.nil ?_
 refine thenQ_n (hK3 _ _ ?_)
 refine WC.seq (fun K4 hK4 => ?_)
 refine WC.seq (fun K5 hK5 => ?_)
 refine WC.region ?_
 refine WL.op rfl (opW.assignI rfl ?_)
 refine WL.nil ?_
 refine thenQ_n (hK5 _ _ ?_)
 refine WC.block ?_
 refine WC.loop (fun m f w => ∃ (k : Nat) (q : Nat) (d : StD) (s : SlV) (xs : List Holding), Fits [(0, vl), (4, .pointer (some ⟨p, 0, none⟩)), (5, .pointer (some ⟨q, 0, none⟩)), (6, .int .i64 (k : Int))] f ∧ St w0 [stE p d, blkE q (Enc.enc (RSt.mk s)) 80, ownE s.v 66 xs] w ∧ StOk d ∧ okS d ∧ xs.length ≤ k ∧ k ≤ l.length ∧ m = l.length - k) (l.length) ?_ ?_
 ·
  exact ⟨0, b9, d, ⟨none, 0, 0⟩, [], ⟨rfl, rfl, rfl, rfl, trivial⟩, (show St w0 [stE p d, blkE b9 (Enc.enc (RSt.mk ⟨none, 0, 0⟩)) 80, ownE (.slice none 0 0) 66 ([] : List Holding)] w from (((hS.nilOwn (α := Holding) 66).pick (e := blkE b9 (Enc.enc (RSt.mk ⟨none, 0, 0⟩)) 80) (by repeat constructor)).pick (e := stE p d) (by repeat constructor)).sub (by repeat with_reducible first | exact su1 _ | exact su2 _ | refine su3 ?_ | refine su4 ?_)), hok0, (fun k => by rw [hd0 k]; exact ⟨by decide, by decide⟩), Nat.le_refl _, Nat.zero_le _, rfl⟩
 ·
  rintro m f w ⟨k, q, d, s, xs, hfit, hS, hok, hoks, hxl, hk0, hm⟩
  refine WC.fits _ hfit (fun g => ?_)
  clear hfit
  refine WC.seq (fun K6 hK6 => ?_)
  refine WC.seq (fun K7 hK7 => ?_)
  refine WC.region ?_
  refine WL.op rfl (opW.moveI rfl ?_)
  refine WL.op rfl (opW.moveV (v := vl) rfl ?_)
  refine WL.op rfl (opW.lenV rfl ((hl.bel hS.old)) ?_)
  refine WL.op rfl (opW.lss rfl rfl ?_)
  refine WL.nil ?_
  refine thenQ_n (hK7 _ _ ?_)
  refine WC.cond _ rfl (fun hc0 => ?_) (fun hc0 => ?_)
  ·
   have hr0 := hc0
   try simp only [sq1,sq2,sq3,sq4,sq5,sq6,sq7,sq8,sq9,sq0] at hc0
   have hkl : k < l.length := by omega
   refine WC.skip ?_
   refine thenQ_n (hK6 _ _ ?_)
   refine WC.seq (fun K8 hK8 => ?_)
   refine WC.block ?_
   refine WC.seq (fun K9 hK9 => ?_)
   refine WC.draw 11 (.look 0 (.look 1 (.look 2 (.look 3 (.look 4 (.look 5 (.look 6 (.look 7 (.look 8 (.look 9 (.look 10 (.one 11 .nil)))))))))))) (by kernel_rfl) (fun _ _ _ h => h) (fun w1 hw1 => ?_)
   replace hS := hS.bel hw1
   have hS1 := hS
   have hT := St.start w1
   refine ML.look rfl rfl rfl (fun w hw => (by have hS := hS1.bel hw; exact opW.moveV (v := .pointer (some ⟨p, 0, none⟩)) rfl ⟨rfl, rfl⟩)) ?_
   refine ML.look rfl rfl rfl (fun w hw => (by have hS := hS1.bel hw; exact opW.moveV (v := vl) rfl ⟨rfl, rfl⟩)) ?_
   refine ML.look rfl rfl rfl (fun w hw => (by have hS := hS1.bel hw; exact opW.moveI rfl ⟨rfl, rfl⟩)) ?_
   refine ML.look rfl rfl rfl (fun w hw => (by have hS := hS1.bel hw; exact opW.idxV rfl ((hl.bel hS.old)) rfl (by omega) ⟨rfl, rfl⟩)) ?_
   refine ML.look rfl rfl rfl (fun w hw => (by have hS := hS1.bel hw; exact opW.fieldAddr rfl ((hl.bel hS.old).isP hkl) ⟨rfl, rfl⟩)) ?_
   refine ML.look rfl rfl rfl (fun w hw => (by have hS := hS1.bel hw; exact opW.loadV rfl (Ld.ptA ((hl.bel hS.old).isPt hkl) 0 (Holding.ex_key _) (by rw [Enc.size_eq]; decide)) ⟨rfl, rfl⟩)) ?_
   refine ML.look rfl rfl rfl (fun w hw => (by have hS := hS1.bel hw; exact opW.moveV (v := vl) rfl ⟨rfl, rfl⟩)) ?_
   refine ML.look rfl rfl rfl (fun w hw => (by have hS := hS1.bel hw; exact opW.moveI rfl ⟨rfl, rfl⟩)) ?_
   refine ML.look rfl rfl rfl (fun w hw => (by have hS := hS1.bel hw; exact opW.idxV rfl ((hl.bel hS.old)) rfl (by omega) ⟨rfl, rfl⟩)) ?_
   refine ML.look rfl rfl rfl (fun w hw => (by have hS := hS1.bel hw; exact opW.fieldAddr rfl ((hl.bel hS.old).isP hkl) ⟨rfl, rfl⟩)) ?_
   refine ML.look rfl rfl rfl (fun w hw => (by have hS := hS1.bel hw; exact opW.loadV rfl (Ld.ptA ((hl.bel hS.old).isPt hkl) 32 (Holding.ex_account _) (by rw [Enc.size_eq]; decide)) ⟨rfl, rfl⟩)) ?_
   refine ML.put1 rfl rfl rfl rfl (opW.call (put13 w0 _ _ p d l[k].key l[k].account (hS.pick (e := stE p d) (by repeat constructor))) rfl ?_)
   rintro _ w ⟨rfl, hS⟩
   refine ML.nil ?_
   refine thenQ_n (hK9 _ _ ?_)
   refine WC.draw 11 (.look 0 (.look 1 (.look 2 (.look 3 (.look 4 (.look 5 (.look 6 (.look 7 (.look 8 (.look 9 (.look 10 (.one 11 .nil)))))))))))) (by kernel_rfl) (fun _ _ _ h => h) (fun w1 hw1 => ?_)
   replace hS := hS.bel hw1
   have hS1 := hS
   have hT := St.start w1
   refine ML.look rfl rfl rfl (fun w hw => (by have hS := hS1.bel hw; exact opW.moveV (v := .pointer (some ⟨q, 0, none⟩)) rfl ⟨rfl, rfl⟩)) ?_
   refine ML.look rfl rfl rfl (fun w hw => (by have hS := hS1.bel hw; exact opW.moveV (v := vl) rfl ⟨rfl, rfl⟩)) ?_
   refine ML.look rfl rfl rfl (fun w hw => (by have hS := hS1.bel hw; exact opW.moveI rfl ⟨rfl, rfl⟩)) ?_
   refine ML.look rfl rfl rfl (fun w hw => (by have hS := hS1.bel hw; exact opW.idxV rfl ((hl.bel hS.old)) rfl (by omega) ⟨rfl, rfl⟩)) ?_
   refine ML.look rfl rfl rfl (fun w hw => (by have hS := hS1.bel hw; exact opW.fieldAddr rfl ((hl.bel hS.old).isP hkl) ⟨rfl, rfl⟩)) ?_
   refine ML.look rfl rfl rfl (fun w hw => (by have hS := hS1.bel hw; exact opW.loadV rfl (Ld.ptA ((hl.bel hS.old).isPt hkl) 0 (Holding.ex_key _) (by rw [Enc.size_eq]; decide)) ⟨rfl, rfl⟩)) ?_
   refine ML.look rfl rfl rfl (fun w hw => (by have hS := hS1.bel hw; exact opW.moveV (v := vl) rfl ⟨rfl, rfl⟩)) ?_
   refine ML.look rfl rfl rfl (fun w hw => (by have hS := hS1.bel hw; exact opW.moveI rfl ⟨rfl, rfl⟩)) ?_
   refine ML.look rfl rfl rfl (fun w hw => (by have hS := hS1.bel hw; exact opW.idxV rfl ((hl.bel hS.old)) rfl (by omega) ⟨rfl, rfl⟩)) ?_
   refine ML.look rfl rfl rfl (fun w hw => (by have hS := hS1.bel hw; exact opW.fieldAddr rfl ((hl.bel hS.old).isP hkl) ⟨rfl, rfl⟩)) ?_
   refine ML.look rfl rfl rfl (fun w hw => (by have hS := hS1.bel hw; exact opW.loadV rfl (Ld.ptA ((hl.bel hS.old).isPt hkl) 32 (Holding.ex_account _) (by rw [Enc.size_eq]; decide)) ⟨rfl, rfl⟩)) ?_
   refine ML.put1 rfl rfl rfl rfl (opW.call (rput13 w0 _ _ q s xs l[k].key l[k].account ((hS.pick (e := ownE s.v 66 xs) (by repeat constructor)).pick (e := blkE q (Enc.enc (RSt.mk s)) 80) (by repeat constructor)) (by omega)) rfl ?_)
   rintro v39 w ⟨s2, xs2, hx2, hS⟩
   refine ML.nil ?_
   refine blockQ_n ?_
   refine thenQ_n (hK8 _ _ ?_)
   refine WC.region ?_
   refine WL.op rfl (opW.moveI rfl ?_)
   refine WL.op rfl (opW.add rfl rfl (wrap_i64 (by omega)) ?_)
   refine WL.op rfl (opW.assignI rfl ?_)
   refine WL.nil ?_
   refine thenQ_n ?_
   exact ⟨l.length - (k + 1), by omega, k + 1, q, d.put l[k].key l[k].account, s2, xs2, ⟨rfl, rfl, rfl, congrArg (Value.int .i64) (by omega), trivial⟩, ((hS.pick (e := stE p (d.put l[k].key l[k].account)) (by repeat constructor)).sub (by repeat with_reducible first | exact su1 _ | exact su2 _ | refine su3 ?_ | refine su4 ?_)), hok.put _ _, (fun x => by rw [StD.get_put hok]; split; exact hlw _ (List.getElem_mem hkl); exact hoks x), by omega, by omega, rfl⟩
  ·
   have hr0 := hc0
   try simp only [sq1,sq2,sq3,sq4,sq5,sq6,sq7,sq8,sq9,sq0] at hc0
   refine WC.exit ?_
   refine thenQ_e ?_
   refine thenQ_e ?_
   refine blockQ_hit ?_
   refine thenQ_n (hK4 _ _ ?_)
   refine WC.seq (fun K10 hK10 => ?_)
   refine WC.region ?_
   refine WL.op rfl (opW.moveV (v := .pointer (some ⟨p, 0, none⟩)) rfl ?_)
   refine WL.op rfl (opW.moveV (v := .pointer (some ⟨q, 0, none⟩)) rfl ?_)
   refine WL.op rfl (opW.assignV (v := .pointer (some ⟨p, 0, none⟩)) rfl ?_)
   refine WL.op rfl (opW.assignV (v := .pointer (some ⟨q, 0, none⟩)) rfl ?_)
   refine WL.nil ?_
   refine thenQ_n (hK10 _ _ ?_)
   refine WC.ret ?_
   refine bodyQ_ret (.tmpV (v := .pointer (some ⟨p, 0, none⟩)) rfl (.tmpV (v := .pointer (some ⟨q, 0, none⟩)) rfl .nil)) ?_
   exact ⟨p, q, d, rfl, hok, hoks, hS.sub (by repeat with_reducible first | exact su1 _ | exact su2 _ | refine su3 ?_ | refine su4 ?_)⟩

end Go.Fer
