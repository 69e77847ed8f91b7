/- the keys that are written -/
import Derived.Test.YthfbfhokmknfnaaDoorR
set_option linter.all false
namespace Go.Fer
open Go Go.Proofs Go.RowKit

theorem clip_k (w0 : World) (v : Value) (xs : List Key) (hx : SlR w0 v xs) : Ret Tryd.prog 34 #[v] w0 (fun u w' => u = cutV v 0 xs.length xs.length (Enc.sz (Key)) ∧ Bel w0 w') := by
 refine Ret.enter (args := [v]) Tryd.func34 rfl Tryd.ntmps34 Tryd.results34 rfl ?_
 have hS := St.start w0
 refine WC.seq (fun K1 hK1 => ?_)
 refine WC.region ?_
 refine WL.op rfl (opW.assignV (v := .slice none 0 0) rfl ?_)
 refine WL.nil ?_
 refine thenQ_n (hK1 _ _ ?_)
 refine WC.seq (fun K2 hK2 => ?_)
 refine WC.region ?_
 refine WL.op rfl (opW.moveV (v := v) rfl ?_)
 refine WL.op rfl (opW.moveV (v := v) rfl ?_)
 refine WL.op rfl (opW.lenV rfl ((hx.bel hS.old)) ?_)
 refine WL.op rfl (opW.moveV (v := v) rfl ?_)
 refine WL.op rfl (opW.lenV rfl ((hx.bel hS.old)) ?_)
 refine WL.op rfl (opW.cutS (hx.bel hS.old) ⟨⟨_, rfl⟩, hx.cap⟩ ⟨⟨_, rfl⟩, Nat.le_refl _⟩ ⟨rfl, Nat.zero_le _⟩ ?_)
 refine WL.op rfl (opW.assignV rfl ?_)
 refine WL.nil ?_
 refine thenQ_n (hK2 _ _ ?_)
 refine WC.ret ?_
 refine bodyQ_ret (.tmp .nil) ?_
 exact ⟨rfl, hS.old⟩

/-- the keys that are written -/
def wrL (l : List Role) : List Key := (l.filter Role.writes).map Role.key
theorem wrL_step {l : List Role} {k : Nat} (hk : k < l.length) : wrL (l.take (k + 1)) = wrL (l.take k) ++ (if l[k].writes = true then [l[k].key] else []) := by
 rw [List.take_succ_eq_append_getElem hk]
 unfold wrL
 rw [List.filter_append, List.map_append]
 cases h : l[k].writes <;> simp [h]
theorem wrL_le (l : List Role) : (wrL l).length ≤ l.length := by simp [wrL]; exact List.length_filter_le _ _

theorem written_ok (w0 : World) (v : Value) (xs : List Role) (hx : SlR w0 v xs) (hl : xs.length ≤ 100000) : Ret Tryd.prog 14 #[v] w0 (fun u w' => New w0 w' u 57 (wrL xs) ∧ Bel w0 w') := by
 refine Ret.enter (args := [v]) Tryd.func14 rfl Tryd.ntmps14 Tryd.results14 rfl ?_
 have hS := St.start w0
 refine WC.seq (fun K1 hK1 => ?_)
 refine WC.region ?_
 refine WL.op rfl (opW.assignV (v := .slice none 0 0) rfl ?_)
 refine WL.nil ?_
 refine thenQ_n (hK1 _ _ ?_)
 refine WC.seq (fun K2 hK2 => ?_)
 refine WC.seq (fun K3 hK3 => ?_)
 refine WC.region ?_
 refine WL.op rfl (opW.moveV (v := v) rfl ?_)
 refine WL.op rfl (opW.lenV rfl ((hx.bel hS.old)) ?_)
 refine WL.op rfl (opW.moveI rfl ?_)
 refine WL.nil ?_
 refine thenQ_n (hK3 _ _ ?_)
 refine WC.block ?_
 refine WC.loop (fun q f w => ∃ (k : Nat) (vo : Value), Fits [(2, vo), (5, v), (6, .int .i64 (xs.length : Int)), (7, .int .i64 (k : Int))] f ∧ St w0 [ownE vo 57 (wrL (xs.take k))] w ∧ k ≤ xs.length ∧ q = xs.length - k) (xs.length) ?_ ?_
 ·
  exact ⟨0, .slice none 0 0, ⟨rfl, rfl, rfl, rfl, trivial⟩, hS.nilOwn _, Nat.zero_le _, rfl⟩
 ·
  rintro q f w ⟨k, vo, hfit, hS, hk0, hm⟩
  refine WC.fits _ hfit (fun g => ?_)
  clear hfit
  refine WC.seq (fun K4 hK4 => ?_)
  refine WC.region ?_
  refine WL.op rfl (opW.lss rfl rfl ?_)
  refine WL.nil ?_
  refine thenQ_n (hK4 _ _ ?_)
  refine WC.seq (fun K5 hK5 => ?_)
  refine WC.cond _ rfl (fun hc0 => ?_) (fun hc0 => ?_)
  ·
   have hr0 := hc0
   try simp only [sq1,sq2,sq3,sq4,sq5,sq6,sq7,sq8,sq9,sq0] at hc0
   have hkl : k < xs.length := by omega
   have hst := wrL_step hkl
   have hle := wrL_le (xs.take k)
   simp only [List.length_take] at hle
   refine WC.skip ?_
   refine thenQ_n (hK5 _ _ ?_)
   refine WC.mid (fun f w => ∃ vo2 : Value, Fits [(2, vo2), (5, v), (6, .int .i64 (xs.length : Int)), (7, .int .i64 (k : Int))] f ∧ St w0 [ownE vo2 57 (wrL (xs.take (k + 1)))] w) ?_ ?_
   ·
    refine WC.block ?_
    refine WC.seq (fun K6 hK6 => ?_)
    refine WC.region ?_
    refine WL.op rfl (opW.idxV rfl ((hx.bel hS.old)) rfl (by omega) ?_)
    refine WL.op rfl (opW.loadV rfl (((hx.bel hS.old).isPt hkl).ldA (Enc.size_eq xs[k])) ?_)
    refine WL.op rfl (opW.allocA hS ?_)
    intro b4 w _ hS
    refine WL.op0 (opW.storeE hS rfl rfl (by repeat constructor) (by first | rfl | exact Enc.size_eq _) ?_)
    intro w hS; replace hS := hS _ (by repeat constructor)
    refine WL.nil ?_
    refine thenQ_n (hK6 _ _ ?_)
    refine WC.seq (fun K7 hK7 => ?_)
    refine WC.region ?_
    refine WL.op rfl (opW.fieldAddrB rfl ?_)
    refine WL.op rfl (opW.loadV rfl (hS.ld1 (by repeat constructor) (Role.at_writes _)) ?_)
    refine WL.nil ?_
    refine thenQ_n (hK7 _ _ ?_)
    refine WC.cond _ rfl (fun hc1 => ?_) (fun hc1 => ?_)
    ·
     have hr1 := hc1
     try simp only [sq1,sq2,sq3,sq4,sq5,sq6,sq7,sq8,sq9,sq0] at hc1
     refine WC.region ?_
     refine WL.op rfl (opW.moveV (v := vo) rfl ?_)
     refine WL.op rfl (opW.fieldAddrB rfl ?_)
     refine WL.op rfl (opW.loadV rfl (hS.ldF (by repeat constructor) (Role.ex_key _) (by rw [Enc.size_eq]; decide)) ?_)
     refine WL.op rfl (opW.buildSl hS (([xs[k].key] : List Key)) [.agg (Enc.enc xs[k].key)] rfl rfl rfl rfl (by decide) ?_)
     intro b16 w hw hS
     refine WL.op rfl (opW.appendOwn (α := Vector UInt8 32) rfl hS rfl (by repeat constructor) (hS.sl (by repeat constructor)) (by simp only [List.length_cons, List.length_nil]; omega) (by simp only [maxLen]; simp only [List.length_cons, List.length_nil]; omega) ?_)
     intro v17 w hS; replace hS := hS _ (by repeat constructor)
     refine WL.op rfl (opW.assignV (v := v17) rfl ?_)
     refine WL.nil ?_
     refine blockQ_n ?_
     refine thenQ_n ?_
     rw [hst]
     first | (rw [if_pos (show xs[k].writes = true from hr1)]; exact ⟨v17, ⟨rfl, rfl, rfl, rfl, trivial⟩, hS.sub (by repeat with_reducible first | exact su1 _ | exact su2 _ | refine su3 ?_ | refine su4 ?_)⟩) | (rw [if_neg (by rw [show xs[k].writes = false from hr1]; decide), List.append_nil]; exact ⟨vo, ⟨rfl, rfl, rfl, rfl, trivial⟩, hS.sub (by repeat with_reducible first | exact su1 _ | exact su2 _ | refine su3 ?_ | refine su4 ?_)⟩)
    ·
     have hr1 := hc1
     try simp only [sq1,sq2,sq3,sq4,sq5,sq6,sq7,sq8,sq9,sq0] at hc1
     refine WC.skip ?_
     refine blockQ_n ?_
     refine thenQ_n ?_
     rw [hst]
     first | (rw [if_pos (show xs[k].writes = true from hr1)]; exact ⟨v17, ⟨rfl, rfl, rfl, rfl, trivial⟩, hS.sub (by repeat with_reducible first | exact su1 _ | exact su2 _ | refine su3 ?_ | refine su4 ?_)⟩) | (rw [if_neg (by rw [show xs[k].writes = false from hr1]; decide), List.append_nil]; exact ⟨vo, ⟨rfl, rfl, rfl, rfl, trivial⟩, hS.sub (by repeat with_reducible first | exact su1 _ | exact su2 _ | refine su3 ?_ | refine su4 ?_)⟩)
   ·
    rintro f w ⟨vo2, hfit, hS⟩
    refine WC.fits _ hfit (fun g => ?_)
    clear hfit
    refine WC.region ?_
    refine WL.op rfl (opW.add rfl rfl (wrap_i64 (by omega)) ?_)
    refine WL.op rfl (opW.moveI rfl ?_)
    refine WL.nil ?_
    refine thenQ_n ?_
    exact ⟨xs.length - (k + 1), by omega, k + 1, vo2, ⟨rfl, rfl, rfl, congrArg (Value.int .i64) (by omega), trivial⟩, hS, by omega, rfl⟩
  ·
   have hr0 := hc0
   try simp only [sq1,sq2,sq3,sq4,sq5,sq6,sq7,sq8,sq9,sq0] at hc0
   have hkk : k = xs.length := by omega
   subst hkk
   rw [List.take_length] at hS
   refine WC.exit ?_
   refine thenQ_e ?_
   refine thenQ_e ?_
   refine blockQ_hit ?_
   refine thenQ_n (hK2 _ _ ?_)
   refine WC.seq (fun K8 hK8 => ?_)
   refine WC.region ?_
   refine WL.op rfl (opW.moveV (v := vo) rfl ?_)
   refine WL.op rfl (opW.call (clip_k _ _ (wrL xs) (hS.sl (by repeat constructor))) rfl ?_)
   rintro v20 w ⟨hv20, hw⟩; replace hS := hS.bel hw
   refine WL.op rfl (opW.assignV (v := v20) rfl ?_)
   refine WL.nil ?_
   refine thenQ_n (hK8 _ _ ?_)
   refine WC.ret ?_
   refine bodyQ_ret (.tmpV (v := v20) rfl .nil) ?_
   subst hv20
   exact ⟨New.cut (v := vo) (α := Vector UInt8 32) (hS.own_new (by repeat constructor)), hS.old⟩

end Go.Fer
