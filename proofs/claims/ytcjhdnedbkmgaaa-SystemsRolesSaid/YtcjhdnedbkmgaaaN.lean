/- lives -/
import Derived.Test.YtcjhdnedbkmgaaaL
set_option linter.all false
namespace Go.Fer
open Go Go.Proofs Go.RowKit

theorem lives14 (w0 : World) : Ret Try.prog 9 #[] w0 (fun r w' => r = .bool true ∧ Bel w0 w') := by
  refine Ret.enter (args := []) Try.func9 rfl Try.ntmps9 Try.results9 rfl ?_
  have hS := St.start w0
  have hbl : bothL.length = 2 := rfl
  refine WC.seq (fun K1 hK1 => ?_)
  refine WC.region ?_
  refine WL.op rfl (opW.assignB rfl ?_)
  refine WL.nil ?_
  refine thenQ_n (hK1 _ _ ?_)
  refine WC.seq (fun K2 hK2 => ?_)
  refine WC.region ?_
  refine WL.op rfl (opW.buildE (r := ((⟨10, vz 32, 0⟩ : Account) : Account)) (ps := Account.parts ((⟨10, vz 32, 0⟩ : Account) : Account)) (Account.enc_eq _) (by first | (simp only [sysK, az, kk, enc_vset, enc_vz, Account.enc_eq, Account.parts, Role.enc_eq, Role.parts, Instr.enc_eq, Instr.parts, Ask.enc_eq, Ask.parts, Cut.enc_eq, Cut.parts, PairS.enc_eq, PairS.parts, RAsk.enc_eq, RAsk.parts, LAsk.enc_eq, LAsk.parts]; rfl) | rfl) (by (repeat' (first | exact trivial | refine And.intro ?_ ?_)) <;> first | rfl | exact Enc.size_eq _ | (simp; done)) ?_)
  refine WL.op rfl (opW.buildE (r := ((az : Account) : Account)) (ps := Account.parts ((az : Account) : Account)) (Account.enc_eq _) (by first | (simp only [sysK, az, kk, enc_vset, enc_vz, Account.enc_eq, Account.parts, Role.enc_eq, Role.parts, Instr.enc_eq, Instr.parts, Ask.enc_eq, Ask.parts, Cut.enc_eq, Cut.parts, PairS.enc_eq, PairS.parts, RAsk.enc_eq, RAsk.parts, LAsk.enc_eq, LAsk.parts]; rfl) | rfl) (by (repeat' (first | exact trivial | refine And.intro ?_ ?_)) <;> first | rfl | exact Enc.size_eq _ | (simp; done)) ?_)
  refine WL.op rfl (opW.buildSl hS ((livL : List Account)) [.agg (Enc.enc (⟨10, vz 32, 0⟩ : Account)), .agg (Enc.enc az)] rfl rfl rfl rfl (by decide) ?_)
  intro b15 w hw hS
  refine WL.op rfl (opW.assignV (v := (.slice (some ⟨b15, 0, none⟩) 2 2)) rfl ?_)
  refine WL.nil ?_
  refine thenQ_n (hK2 _ _ ?_)
  refine WC.seq (fun K3 hK3 => ?_)
  refine WC.region ?_
  refine WL.op rfl (opW.call (both14 _) rfl ?_)
  rintro v16 w ⟨hn16, hw⟩; replace hS := hS.newOwn hw hn16.1 hn16.2
  refine WL.op rfl (opW.assignV (v := v16) rfl ?_)
  refine WL.nil ?_
  refine thenQ_n (hK3 _ _ ?_)
  refine WC.seq (fun K4 hK4 => ?_)
  refine WC.region ?_
  refine WL.op rfl (opW.moveV (v := v16) rfl ?_)
  refine WL.op rfl (opW.idxV rfl (hS.sl (v := v16) (xs := bothL) (by first | exact .h0 | exact .h1 | exact .h2 | exact .h3 | exact .h4 | exact .h5 | exact .h6 | exact .h7 | exact .h8 | exact .h9 | exact .h10 | exact .h11 | exact .h12 | exact .h13 | exact .h14)) rfl (by omega) ?_)
  refine WL.op rfl (opW.fieldAddr rfl ((hS.sl (v := v16) (xs := bothL) (by first | exact .h0 | exact .h1 | exact .h2 | exact .h3 | exact .h4 | exact .h5 | exact .h6 | exact .h7 | exact .h8 | exact .h9 | exact .h10 | exact .h11 | exact .h12 | exact .h13 | exact .h14)).isP (by omega)) ?_)
  refine WL.op0 (opW.storeOwn (v := v16) (u := .bool false) (sz := 1) (xs := bothL) (i := 1) (off := 32) (y' := ⟨kk 2, false, true⟩) hS (by first | exact .h0 | exact .h1 | exact .h2 | exact .h3 | exact .h4 | exact .h5 | exact .h6 | exact .h7 | exact .h8 | exact .h9 | exact .h10 | exact .h11 | exact .h12 | exact .h13 | exact .h14) (by omega) rfl rfl rfl (by decide) (Enc.one (α := Bool) _) (Role.set_signs ⟨kk 2, true, true⟩ false) ?_)
  intro w hS; replace hS := hS _ (by first | exact .h0 | exact .h1 | exact .h2 | exact .h3 | exact .h4 | exact .h5 | exact .h6 | exact .h7 | exact .h8 | exact .h9 | exact .h10 | exact .h11 | exact .h12 | exact .h13 | exact .h14)
  rw [liv_set] at hS
  refine WL.nil ?_
  refine thenQ_n (hK4 _ _ ?_)
  refine WC.seq (fun K5 hK5 => ?_)
  refine WC.region ?_
  refine WL.op rfl (opW.moveV (v := (.slice (some ⟨b15, 0, none⟩) 2 2)) rfl ?_)
  refine WL.op rfl (opW.moveV (v := v16) rfl ?_)
  refine WL.op rfl (opW.call (move14 _ 3 (by decide)) rfl ?_)
  rintro _ w ⟨va1, vd1, rfl, hN1⟩
  replace hS := hS.merge hN1
  simp only [List.cons_append, List.nil_append] at hS
  refine WL.op rfl (opW.call (do_ok _ (.slice (some ⟨b15, 0, none⟩) 2 2) v16 (⟨1, va1, vd1⟩ : Instr) livL livR [0, 1] (mvD 3) (hS.sl (v := (.slice (some ⟨b15, 0, none⟩) 2 2)) (xs := livL) (by first | exact .h0 | exact .h1 | exact .h2 | exact .h3 | exact .h4 | exact .h5 | exact .h6 | exact .h7 | exact .h8 | exact .h9 | exact .h10 | exact .h11 | exact .h12 | exact .h13 | exact .h14)) (hS.sl (v := v16) (xs := livR) (by first | exact .h0 | exact .h1 | exact .h2 | exact .h3 | exact .h4 | exact .h5 | exact .h6 | exact .h7 | exact .h8 | exact .h9 | exact .h10 | exact .h11 | exact .h12 | exact .h13 | exact .h14)) (hS.sl (v := va1.v) (xs := ([0, 1] : List UInt8)) (by first | exact .h0 | exact .h1 | exact .h2 | exact .h3 | exact .h4 | exact .h5 | exact .h6 | exact .h7 | exact .h8 | exact .h9 | exact .h10 | exact .h11 | exact .h12 | exact .h13 | exact .h14)) (hS.sl (v := vd1.v) (xs := (mvD 3)) (by first | exact .h0 | exact .h1 | exact .h2 | exact .h3 | exact .h4 | exact .h5 | exact .h6 | exact .h7 | exact .h8 | exact .h9 | exact .h10 | exact .h11 | exact .h12 | exact .h13 | exact .h14)) (by decide) livL_ok) rfl ?_)
  rintro _ w ⟨v24, rfl, hn24, hw⟩
  rw [liv3] at hn24 ⊢
  replace hS := hS.newOwn hw hn24.1 hn24.2
  refine WL.op rfl (opW.moveV (v := .tuple #[v24, .int .u64 ((0 : Nat) : Int), .int .i64 0]) rfl ?_)
  refine WL.op rfl (opW.extract rfl rfl ?_)
  refine WL.op rfl (opW.extract rfl rfl ?_)
  refine WL.op rfl (opW.extract rfl rfl ?_)
  refine WL.op rfl (opW.assignV rfl ?_)
  refine WL.op rfl (opW.assignI rfl ?_)
  refine WL.op rfl (opW.assignI rfl ?_)
  refine WL.nil ?_
  refine thenQ_n (hK5 _ _ ?_)
  refine WC.seq (fun K6 hK6 => ?_)
  refine WC.region ?_
  refine WL.op rfl (opW.moveV (v := (.slice (some ⟨b15, 0, none⟩) 2 2)) rfl ?_)
  refine WL.op rfl (opW.moveV (v := v16) rfl ?_)
  refine WL.op rfl (opW.call (move14 _ 11 (by decide)) rfl ?_)
  rintro _ w ⟨va2, vd2, rfl, hN2⟩
  replace hS := hS.merge hN2
  simp only [List.cons_append, List.nil_append] at hS
  refine WL.op rfl (opW.call (do_ok _ (.slice (some ⟨b15, 0, none⟩) 2 2) v16 (⟨1, va2, vd2⟩ : Instr) livL livR [0, 1] (mvD 11) (hS.sl (v := (.slice (some ⟨b15, 0, none⟩) 2 2)) (xs := livL) (by first | exact .h0 | exact .h1 | exact .h2 | exact .h3 | exact .h4 | exact .h5 | exact .h6 | exact .h7 | exact .h8 | exact .h9 | exact .h10 | exact .h11 | exact .h12 | exact .h13 | exact .h14)) (hS.sl (v := v16) (xs := livR) (by first | exact .h0 | exact .h1 | exact .h2 | exact .h3 | exact .h4 | exact .h5 | exact .h6 | exact .h7 | exact .h8 | exact .h9 | exact .h10 | exact .h11 | exact .h12 | exact .h13 | exact .h14)) (hS.sl (v := va2.v) (xs := ([0, 1] : List UInt8)) (by first | exact .h0 | exact .h1 | exact .h2 | exact .h3 | exact .h4 | exact .h5 | exact .h6 | exact .h7 | exact .h8 | exact .h9 | exact .h10 | exact .h11 | exact .h12 | exact .h13 | exact .h14)) (hS.sl (v := vd2.v) (xs := (mvD 11)) (by first | exact .h0 | exact .h1 | exact .h2 | exact .h3 | exact .h4 | exact .h5 | exact .h6 | exact .h7 | exact .h8 | exact .h9 | exact .h10 | exact .h11 | exact .h12 | exact .h13 | exact .h14)) (by decide) livL_ok) rfl ?_)
  rintro _ w ⟨v32, rfl, hn32, hw⟩
  rw [liv11] at hn32 ⊢
  replace hS := hS.newOwn hw hn32.1 hn32.2
  refine WL.op rfl (opW.moveV (v := .tuple #[v32, .int .u64 ((0 : Nat) : Int), .int .i64 17]) rfl ?_)
  refine WL.op rfl (opW.extract rfl rfl ?_)
  refine WL.op rfl (opW.extract rfl rfl ?_)
  refine WL.op rfl (opW.extract rfl rfl ?_)
  refine WL.op rfl (opW.assignV rfl ?_)
  refine WL.op rfl (opW.assignI rfl ?_)
  refine WL.op rfl (opW.assignI rfl ?_)
  refine WL.nil ?_
  refine thenQ_n (hK6 _ _ ?_)
  refine WC.seq (fun K7 hK7 => ?_)
  refine WC.region ?_
  refine WL.op rfl (opW.call (move14 _ 3 (by decide)) rfl ?_)
  rintro _ w ⟨va3, vd3, rfl, hN3⟩
  replace hS := hS.merge hN3
  simp only [List.cons_append, List.nil_append] at hS
  refine WL.op rfl (opW.allocA hS ?_)
  intro b9 w _ hS
  refine WL.op0 (opW.storeE hS rfl rfl (by first | exact .h0 | exact .h1 | exact .h2 | exact .h3 | exact .h4 | exact .h5 | exact .h6 | exact .h7 | exact .h8 | exact .h9 | exact .h10 | exact .h11 | exact .h12 | exact .h13 | exact .h14) (by first | rfl | exact Enc.size_eq _) ?_)
  intro w hS; replace hS := hS _ (by first | exact .h0 | exact .h1 | exact .h2 | exact .h3 | exact .h4 | exact .h5 | exact .h6 | exact .h7 | exact .h8 | exact .h9 | exact .h10 | exact .h11 | exact .h12 | exact .h13 | exact .h14)
  refine WL.nil ?_
  refine thenQ_n (hK7 _ _ ?_)
  refine WC.seq (fun K8 hK8 => ?_)
  refine WC.region ?_
  refine WL.op rfl (opW.fieldAddrB rfl ?_)
  refine WL.op rfl (opW.loadV rfl (hS.ld1 (by first | exact .h0 | exact .h1 | exact .h2 | exact .h3 | exact .h4 | exact .h5 | exact .h6 | exact .h7 | exact .h8 | exact .h9 | exact .h10 | exact .h11 | exact .h12 | exact .h13 | exact .h14) (Instr.at_data (⟨1, va3, vd3⟩ : Instr))) ?_)
  refine WL.op rfl (opW.buildSl hS (([0] : List UInt8)) [.int .u8 0] rfl rfl rfl rfl (by decide) ?_)
  intro b39 w hw hS
  refine WL.op rfl (opW.appendOwn (α := UInt8) (v := vd3.v) (xs := mvD 3) rfl hS rfl (by first | exact .h0 | exact .h1 | exact .h2 | exact .h3 | exact .h4 | exact .h5 | exact .h6 | exact .h7 | exact .h8 | exact .h9 | exact .h10 | exact .h11 | exact .h12 | exact .h13 | exact .h14) (hS.sl (xs := ([0] : List UInt8)) (by first | exact .h0 | exact .h1 | exact .h2 | exact .h3 | exact .h4 | exact .h5 | exact .h6 | exact .h7 | exact .h8 | exact .h9 | exact .h10 | exact .h11 | exact .h12 | exact .h13 | exact .h14)) (by simp only [mvD_len, List.length_cons, List.length_nil]; omega) (by simp only [maxLen, mvD_len, List.length_cons, List.length_nil]; omega) ?_)
  intro v40 w hS; replace hS := hS _ (by first | exact .h0 | exact .h1 | exact .h2 | exact .h3 | exact .h4 | exact .h5 | exact .h6 | exact .h7 | exact .h8 | exact .h9 | exact .h10 | exact .h11 | exact .h12 | exact .h13 | exact .h14)
  obtain ⟨sd, rfl⟩ := (hS.sl (v := v40) (xs := mvD 3 ++ [0]) (by first | exact .h0 | exact .h1 | exact .h2 | exact .h3 | exact .h4 | exact .h5 | exact .h6 | exact .h7 | exact .h8 | exact .h9 | exact .h10 | exact .h11 | exact .h12 | exact .h13 | exact .h14)).asV
  refine WL.op rfl (opW.fieldAddrB rfl ?_)
  refine WL.op0 (opW.storeF (v := sd.v) (sz := 1) (cs' := Enc.enc (⟨1, va3, sd⟩ : Instr)) hS rfl rfl (by first | exact .h0 | exact .h1 | exact .h2 | exact .h3 | exact .h4 | exact .h5 | exact .h6 | exact .h7 | exact .h8 | exact .h9 | exact .h10 | exact .h11 | exact .h12 | exact .h13 | exact .h14) rfl (by rw [Enc.size_eq]; decide) (Enc.one (α := SlV) sd) (Instr.set_data (⟨1, va3, vd3⟩ : Instr) sd) ?_)
  intro w hS; replace hS := hS _ (by first | exact .h0 | exact .h1 | exact .h2 | exact .h3 | exact .h4 | exact .h5 | exact .h6 | exact .h7 | exact .h8 | exact .h9 | exact .h10 | exact .h11 | exact .h12 | exact .h13 | exact .h14)
  refine WL.nil ?_
  refine thenQ_n (hK8 _ _ ?_)
  refine WC.seq (fun K9 hK9 => ?_)
  refine WC.region ?_
  refine WL.op rfl (opW.moveV (v := (.slice (some ⟨b15, 0, none⟩) 2 2)) rfl ?_)
  refine WL.op rfl (opW.moveV (v := v16) rfl ?_)
  refine WL.op rfl (opW.loadV rfl (hS.ldA (cs := Enc.enc (⟨1, va3, sd⟩ : Instr)) (by first | exact .h0 | exact .h1 | exact .h2 | exact .h3 | exact .h4 | exact .h5 | exact .h6 | exact .h7 | exact .h8 | exact .h9 | exact .h10 | exact .h11 | exact .h12 | exact .h13 | exact .h14) (Enc.size_eq _)) ?_)
  refine WL.op rfl (opW.call (do_ok _ (.slice (some ⟨b15, 0, none⟩) 2 2) v16 (⟨1, va3, sd⟩ : Instr) livL livR [0, 1] (mvD 3 ++ [0]) (hS.sl (v := (.slice (some ⟨b15, 0, none⟩) 2 2)) (xs := livL) (by first | exact .h0 | exact .h1 | exact .h2 | exact .h3 | exact .h4 | exact .h5 | exact .h6 | exact .h7 | exact .h8 | exact .h9 | exact .h10 | exact .h11 | exact .h12 | exact .h13 | exact .h14)) (hS.sl (v := v16) (xs := livR) (by first | exact .h0 | exact .h1 | exact .h2 | exact .h3 | exact .h4 | exact .h5 | exact .h6 | exact .h7 | exact .h8 | exact .h9 | exact .h10 | exact .h11 | exact .h12 | exact .h13 | exact .h14)) (hS.sl (v := va3.v) (xs := ([0, 1] : List UInt8)) (by first | exact .h0 | exact .h1 | exact .h2 | exact .h3 | exact .h4 | exact .h5 | exact .h6 | exact .h7 | exact .h8 | exact .h9 | exact .h10 | exact .h11 | exact .h12 | exact .h13 | exact .h14)) (hS.sl (v := sd.v) (xs := (mvD 3 ++ [0])) (by first | exact .h0 | exact .h1 | exact .h2 | exact .h3 | exact .h4 | exact .h5 | exact .h6 | exact .h7 | exact .h8 | exact .h9 | exact .h10 | exact .h11 | exact .h12 | exact .h13 | exact .h14)) (by decide) livL_ok) rfl ?_)
  rintro _ w ⟨v46, rfl, hn46, hw⟩
  rw [livLong] at hn46 ⊢
  replace hS := hS.newOwn hw hn46.1 hn46.2
  refine WL.op rfl (opW.moveV (v := .tuple #[v46, .int .u64 ((0 : Nat) : Int), .int .i64 13]) rfl ?_)
  refine WL.op rfl (opW.extract rfl rfl ?_)
  refine WL.op rfl (opW.extract rfl rfl ?_)
  refine WL.op rfl (opW.extract rfl rfl ?_)
  refine WL.op rfl (opW.assignV rfl ?_)
  refine WL.op rfl (opW.assignI rfl ?_)
  refine WL.op rfl (opW.assignI rfl ?_)
  refine WL.nil ?_
  refine thenQ_n (hK9 _ _ ?_)
  refine WC.seq (fun K10 hK10 => ?_)
  refine WC.region ?_
  refine WL.op rfl (opW.moveV rfl ?_)
  refine WL.op rfl (opW.buildE (r := ((⟨7, vz 32, 0⟩ : Account) : Account)) (ps := Account.parts ((⟨7, vz 32, 0⟩ : Account) : Account)) (Account.enc_eq _) (by first | (simp only [sysK, az, kk, enc_vset, enc_vz, Account.enc_eq, Account.parts, Role.enc_eq, Role.parts, Instr.enc_eq, Instr.parts, Ask.enc_eq, Ask.parts, Cut.enc_eq, Cut.parts, PairS.enc_eq, PairS.parts, RAsk.enc_eq, RAsk.parts, LAsk.enc_eq, LAsk.parts]; rfl) | rfl) (by (repeat' (first | exact trivial | refine And.intro ?_ ?_)) <;> first | rfl | exact Enc.size_eq _ | (simp; done)) ?_)
  refine WL.op rfl (opW.buildE (r := ((⟨3, vz 32, 0⟩ : Account) : Account)) (ps := Account.parts ((⟨3, vz 32, 0⟩ : Account) : Account)) (Account.enc_eq _) (by first | (simp only [sysK, az, kk, enc_vset, enc_vz, Account.enc_eq, Account.parts, Role.enc_eq, Role.parts, Instr.enc_eq, Instr.parts, Ask.enc_eq, Ask.parts, Cut.enc_eq, Cut.parts, PairS.enc_eq, PairS.parts, RAsk.enc_eq, RAsk.parts, LAsk.enc_eq, LAsk.parts]; rfl) | rfl) (by (repeat' (first | exact trivial | refine And.intro ?_ ?_)) <;> first | rfl | exact Enc.size_eq _ | (simp; done)) ?_)
  refine WL.op rfl (opW.buildSl hS (([⟨7, vz 32, 0⟩, ⟨3, vz 32, 0⟩] : List Account)) [.agg (Enc.enc (⟨7, vz 32, 0⟩ : Account)), .agg (Enc.enc (⟨3, vz 32, 0⟩ : Account))] rfl rfl rfl rfl (by decide) ?_)
  intro b53 w hw hS
  refine WL.op rfl (opW.call (sameAccounts_ok _ v24 _ ([⟨7, vz 32, 0⟩, ⟨3, vz 32, 0⟩] : List Account) ([⟨7, vz 32, 0⟩, ⟨3, vz 32, 0⟩] : List Account) (hS.sl (v := v24) (xs := ([⟨7, vz 32, 0⟩, ⟨3, vz 32, 0⟩] : List Account)) (by first | exact .h0 | exact .h1 | exact .h2 | exact .h3 | exact .h4 | exact .h5 | exact .h6 | exact .h7 | exact .h8 | exact .h9 | exact .h10 | exact .h11 | exact .h12 | exact .h13 | exact .h14)) (hS.sl (xs := ([⟨7, vz 32, 0⟩, ⟨3, vz 32, 0⟩] : List Account)) (by first | exact .h0 | exact .h1 | exact .h2 | exact .h3 | exact .h4 | exact .h5 | exact .h6 | exact .h7 | exact .h8 | exact .h9 | exact .h10 | exact .h11 | exact .h12 | exact .h13 | exact .h14))) rfl ?_)
  rintro _ w ⟨rfl, hw⟩; replace hS := hS.bel hw
  rw [show decide (([⟨7, vz 32, 0⟩, ⟨3, vz 32, 0⟩] : List Account) = ([⟨7, vz 32, 0⟩, ⟨3, vz 32, 0⟩] : List Account)) = true from by simp]
  refine WL.op rfl (opW.moveB rfl ?_)
  refine WL.gT 55 rfl rfl rfl (WL.op rfl (opW.moveI rfl ?_))
  refine WL.gT 55 rfl rfl rfl (WL.op rfl (opW.boolT (by decide) (opW.eql rfl rfl ⟨rfl, rfl⟩) ?_))
  refine WL.op rfl (opW.pickT rfl rfl ?_)
  refine WL.op rfl (opW.moveB rfl ?_)
  refine WL.gT 59 rfl rfl rfl (WL.op rfl (opW.moveI rfl ?_))
  refine WL.gT 59 rfl rfl rfl (WL.op rfl (opW.boolT (by decide) (opW.eql rfl rfl ⟨rfl, rfl⟩) ?_))
  refine WL.op rfl (opW.pickT rfl rfl ?_)
  refine WL.op rfl (opW.moveB rfl ?_)
  refine WL.gT 63 rfl rfl rfl (WL.op rfl (opW.moveI rfl ?_))
  refine WL.gT 63 rfl rfl rfl (WL.op rfl (opW.boolT (by decide) (opW.eql rfl rfl ⟨rfl, rfl⟩) ?_))
  refine WL.op rfl (opW.pickT rfl rfl ?_)
  refine WL.op rfl (opW.moveB rfl ?_)
  refine WL.gT 67 rfl rfl rfl (WL.op rfl (opW.moveI rfl ?_))
  refine WL.gT 67 rfl rfl rfl (WL.op rfl (opW.boolT (by decide) (opW.eql rfl rfl ⟨rfl, rfl⟩) ?_))
  refine WL.op rfl (opW.pickT rfl rfl ?_)
  refine WL.op rfl (opW.assignB rfl ?_)
  refine WL.nil ?_
  refine thenQ_n (hK10 _ _ ?_)
  refine WC.ret ?_
  refine bodyQ_ret (.tmpB rfl .nil) ?_
  exact ⟨rfl, hS.old⟩

theorem LAsk.opened {w : World} {q : LAsk} (h : q.ok w) : ∃ (l : List Account) (r : List Role) (ats dt : List UInt8), SlR w q.l.v l ∧ SlR w q.r.v r ∧ SlR w q.in_.accounts.v ats ∧ SlR w q.in_.data.v dt ∧ ∀ y ∈ l, okW y := by
  obtain ⟨⟨l, hl, hlo⟩, ⟨r, hr, _⟩, h3⟩ := h
  obtain ⟨⟨a, ha, _⟩, ⟨d, hd, _⟩⟩ := h3
  refine ⟨l, r, a, d, hl, hr, ha, hd, fun y hy => ?_⟩
  have := hlo y hy
  unfold Account.ok at this
  obtain ⟨h1, h2⟩ := this
  exact ⟨by omega, by omega⟩

end Go.Fer
