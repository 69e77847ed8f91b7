/- tables -/
import Derived.Test.YtpaeddbfidmjbaaR
set_option linter.all false
namespace Go.Fer
open Go Go.Proofs Go.RowKit

structure TbD where
  r : Nat
  kvs : List (Key × (Value × List Key))
def nilK : Value × List Key := (.slice none 0 0, [])
def TbD.find (d : TbD) (k : Key) : Option (List Key) := (aget k d.kvs).map Prod.snd
def TbOk (d : TbD) : Prop := ∀ k l, d.find k = some l → 1 ≤ l.length ∧ l.length ≤ 256
@[irreducible] def tbE (p : Nat) (d : TbD) : Ent := starE ([blkE p (Enc.enc (TbS.mk (some d.r))) 59, mapE d.r Prod.fst d.kvs] ++ ownsL 36 d.kvs)
theorem St.tbOpen {w0 w : World} {S : List Ent} {p : Nat} {d : TbD} (h : St w0 (tbE p d :: S) w) : St w0 (blkE p (Enc.enc (TbS.mk (some d.r))) 59 :: mapE d.r Prod.fst d.kvs :: (ownsL 36 d.kvs ++ S)) w := by
  unfold tbE at h
  exact h.opened
theorem St.tbClose {w0 w : World} {S : List Ent} {p : Nat} (d : TbD) (h : St w0 (blkE p (Enc.enc (TbS.mk (some d.r))) 59 :: mapE d.r Prod.fst d.kvs :: (ownsL 36 d.kvs ++ S)) w) : St w0 (tbE p d :: S) w := by
  unfold tbE
  exact St.closed (l := [blkE p (Enc.enc (TbS.mk (some d.r))) 59, mapE d.r Prod.fst d.kvs] ++ ownsL 36 d.kvs) h
def TbAt (w : World) (p : Nat) (d : TbD) : Prop := Pt w (.pointer (some ⟨p, 0, none⟩)) (Enc.enc (TbS.mk (some d.r))) ∧ MapB w d.r Prod.fst d.kvs ∧ ∀ k x, aget k d.kvs = some x → SlR w x.1 x.2
theorem TbAt.bel {w w' : World} {p : Nat} {d : TbD} (h : TbAt w p d) (hb : Bel w w') : TbAt w' p d := ⟨h.1.bel hb, h.2.1.bel hb, fun k x hx => (h.2.2 k x hx).bel hb⟩
theorem St.tbAt {w0 w : World} {S : List Ent} {p : Nat} {d : TbD} (h : St w0 S w) (he : Has (tbE p d) S) : TbAt w p d := by
  have h1 := h.get he
  unfold tbE at h1
  rw [starE_A] at h1
  refine ⟨?_, ?_, fun k x hx => ?_⟩
  · have := h1.2 (blkE p (Enc.enc (TbS.mk (some d.r))) 59) (by simp)
    unfold blkE at this
    exact Pt.blk this
  · have := h1.2 (mapE d.r Prod.fst d.kvs) (by simp)
    rw [mapE_A] at this; exact this
  · have h2 : (k, x) ∈ d.kvs := (adel_perm hx).mem_iff.2 List.mem_cons_self
    have := h1.2 (ownE x.1 36 x.2) (List.mem_append_right _ (List.mem_map_of_mem (f := fun p : Key × (Value × List Key) => ownE p.2.1 36 p.2.2) h2))
    rw [ownE_A] at this; exact this.sl
theorem St.ownNew {κ α : Type} [DecidableEq κ] [Enc α] {w0 w : World} {T : TypeId} {kvs : List (κ × (Value × List α))} {k : κ} (L : List Ent) {S : List Ent} {v : Value} {xs : List α} (h : aget k kvs = none) (hn : (kvs.map Prod.fst).Nodup) (hS : St w0 (ownE v T xs :: (L ++ (ownsL T kvs ++ S))) w) : St w0 (L ++ (ownsL T (aput k (v, xs) kvs) ++ S)) w :=
  St.ownIn (k := k) L hn (by rw [adel_none h]; exact hS)
theorem St.cutOwn {α : Type} [Enc α] {w0 w : World} {S S' : List Ent} {v : Value} {T : TypeId} {xs : List α} (hS : St w0 S w) (hT : Turn (ownE v T xs) (ownE (cutV v 0 xs.length xs.length (Enc.sz α)) T xs) S S') : St w0 S' w := by
  have h0 : New w0 w v T xs := hS.own_new hT.has
  have h1 := New.cut (w := w0) (w' := w) (v := v) (e := T) (xs := xs) h0
  refine St.turn ⟨rfl, rfl, rfl, Nat.le_refl _, fun _ _ _ => rfl⟩ (by rw [ownE_A]; exact h1.1) ?_ hS hT
  rw [ownE_F, ownE_F]
  intro k hk
  refine .inl ?_
  rcases h0.1 with ⟨rfl, rfl⟩ | ⟨g, cap, cur, rfl, _⟩
  · simp [cutV, Value.ownBlock] at hk
  · by_cases hl : xs.length = 0 <;> simp [cutV, Value.ownBlock, hl] at hk ⊢ <;> exact hk
/-- the keys at some places -/
def pick (l : List Key) : List UInt8 → Option (List Key)
  | [] => some []
  | i :: r => match l[i.toNat]?, pick l r with
    | some k, some t => some (k :: t)
    | _, _ => none
theorem pick_append (l : List Key) : ∀ a b : List UInt8, pick l (a ++ b) = match pick l a, pick l b with | some x, some y => some (x ++ y) | _, _ => none
  | [], b => by simp only [List.nil_append, pick]; cases pick l b <;> rfl
  | i :: r, b => by
    simp only [List.cons_append, pick, pick_append l r b]
    cases l[i.toNat]? <;> cases pick l r <;> cases pick l b <;> rfl
theorem pick_len (l : List Key) : ∀ (a : List UInt8) (x : List Key), pick l a = some x → x.length = a.length
  | [], x, h => by simp [pick] at h; subst h; rfl
  | i :: r, x, h => by
    simp only [pick] at h
    cases h1 : l[i.toNat]? with
    | none => simp [h1] at h
    | some k =>
      cases h2 : pick l r with
      | none => simp [h1, h2] at h
      | some t => simp [h1, h2] at h; subst h; simp [pick_len l r t h2]
theorem pick_step {l : List Key} {a : List UInt8} {k : Nat} (hk : k < a.length) {ys : List Key} (h : pick l (a.take k) = some ys) (hj : a[k].toNat < l.length) : pick l (a.take (k + 1)) = some (ys ++ [l[a[k].toNat]]) := by
  rw [List.take_succ_eq_append_getElem hk, pick_append, h]
  simp [pick, hj]
theorem pick_fail {l : List Key} {a : List UInt8} {k : Nat} (hk : k < a.length) (hj : ¬ a[k].toNat < l.length) : pick l a = none := by
  have e : a = a.take (k + 1) ++ a.drop (k + 1) := (List.take_append_drop _ _).symm
  have e2 : pick l (a.take (k + 1)) = none := by
    rw [List.take_succ_eq_append_getElem hk, pick_append]
    have : l[a[k].toNat]? = none := List.getElem?_eq_none (by omega)
    cases pick l (a.take k) <;> simp [pick, this]
  rw [e, pick_append, e2]
/-- a lookup -/
structure LkM where
  table : Key
  ws : List UInt8
  rs : List UInt8
inductive ResM where
  | ok (a b : List Key)
  | err (e : Int)
def resF (find : Key → Option (List Key)) : List LkM → ResM
  | [] => .ok [] []
  | x :: r => match find x.table with
    | none => .err 11
    | some l => match pick l x.ws, pick l x.rs with
      | some a, some b => match resF find r with
        | .ok c e => .ok (a ++ c) (b ++ e)
        | .err e => .err e
      | _, _ => .err 8
theorem resF_append (find : Key → Option (List Key)) : ∀ a b : List LkM, resF find (a ++ b) = match resF find a with | .err e => .err e | .ok x y => match resF find b with | .err e => .err e | .ok z u => .ok (x ++ z) (y ++ u)
  | [], b => by simp only [List.nil_append, resF]; cases resF find b <;> rfl
  | x :: r, b => by
    simp only [List.cons_append, resF]
    cases find x.table with
    | none => rfl
    | some l =>
      simp only
      cases pick l x.ws <;> cases pick l x.rs <;> simp only
      rw [resF_append find r b]
      cases resF find r <;> simp only
      cases resF find b <;> simp [List.append_assoc]
def lenL (l : List LkM) : Nat := (l.map fun x => x.ws.length + x.rs.length).sum
theorem lenL_append (a b : List LkM) : lenL (a ++ b) = lenL a + lenL b := by simp [lenL]
theorem lenL_take (l : List LkM) (k : Nat) : lenL (l.take k) ≤ lenL l := by
  have := lenL_append (l.take k) (l.drop k)
  rw [List.take_append_drop] at this
  omega
theorem lenL_step {l : List LkM} {k : Nat} (hk : k < l.length) : lenL (l.take (k + 1)) = lenL (l.take k) + (l[k].ws.length + l[k].rs.length) := by
  rw [List.take_succ_eq_append_getElem hk, lenL_append]; simp [lenL]
theorem resF_len (find : Key → Option (List Key)) : ∀ (l : List LkM) (a b : List Key), resF find l = .ok a b → a.length + b.length ≤ lenL l
  | [], a, b, h => by simp [resF] at h; obtain ⟨rfl, rfl⟩ := h; simp
  | x :: r, a, b, h => by
    simp only [resF] at h
    cases h1 : find x.table with
    | none => simp [h1] at h
    | some l =>
      cases h2 : pick l x.ws with
      | none => simp [h1, h2] at h
      | some y =>
        cases h3 : pick l x.rs with
        | none => simp [h1, h2, h3] at h
        | some z =>
          cases h4 : resF find r with
          | err e => simp [h1, h2, h3, h4] at h
          | ok c e =>
            simp [h1, h2, h3, h4] at h
            obtain ⟨rfl, rfl⟩ := h
            have := resF_len find r c e h4
            have l1 := pick_len _ _ _ h2
            have l2 := pick_len _ _ _ h3
            simp [lenL] at this ⊢
            omega
def LkIs (w : World) : List Lookup → List LkM → Prop
  | [], [] => True
  | x :: xs, m :: ms => (x.table = m.table ∧ SlR w x.writes.v m.ws ∧ SlR w x.reads.v m.rs) ∧ LkIs w xs ms
  | _, _ => False
theorem LkIs.bel {w w' : World} (hb : Bel w w') : ∀ {xs : List Lookup} {ms : List LkM}, LkIs w xs ms → LkIs w' xs ms
  | [], [], _ => trivial
  | x :: xs, m :: ms, h => ⟨⟨h.1.1, h.1.2.1.bel hb, h.1.2.2.bel hb⟩, LkIs.bel hb h.2⟩
  | [], _ :: _, h => h.elim
  | _ :: _, [], h => h.elim
theorem LkIs.len {w : World} : ∀ {xs : List Lookup} {ms : List LkM}, LkIs w xs ms → ms.length = xs.length
  | [], [], _ => rfl
  | x :: xs, m :: ms, h => by simp [LkIs.len h.2]
  | [], _ :: _, h => h.elim
  | _ :: _, [], h => h.elim
theorem LkIs.at {w : World} : ∀ {xs : List Lookup} {ms : List LkM} {i : Nat} (_ : LkIs w xs ms) (hi : i < xs.length) (hm : i < ms.length), (xs[i]'hi).table = (ms[i]'hm).table ∧ SlR w (xs[i]'hi).writes.v (ms[i]'hm).ws ∧ SlR w (xs[i]'hi).reads.v (ms[i]'hm).rs
  | x :: xs, m :: ms, 0, h, _, _ => h.1
  | x :: xs, m :: ms, i + 1, h, hi, hm => LkIs.at (xs := xs) (ms := ms) (i := i) h.2 (by simpa using hi) (by simpa using hm)
theorem LkIs.append {w : World} : ∀ {xs ys : List Lookup} {ms ns : List LkM}, LkIs w xs ms → LkIs w ys ns → LkIs w (xs ++ ys) (ms ++ ns)
  | [], _, [], _, _, h => h
  | x :: xs, _, m :: ms, _, h, h' => ⟨h.1, LkIs.append h.2 h'⟩
  | [], _, _ :: _, _, h, _ => h.elim
  | _ :: _, _, [], _, h, _ => h.elim
/-- what resolving gives back -/
def ResIs (find : Key → Option (List Key)) (ls : List LkM) (e : Int) (a b : List Key) : Prop := (resF find ls = .ok a b ∧ e = 0) ∨ (resF find ls = .err e ∧ e ≠ 0 ∧ a = [] ∧ b = [])
theorem resF_err_ne (find : Key → Option (List Key)) : ∀ (l : List LkM) (e : Int), resF find l = .err e → e = 11 ∨ e = 8
  | [], e, h => by simp [resF] at h
  | x :: r, e, h => by
    simp only [resF] at h
    cases h1 : find x.table with
    | none => simp [h1] at h; exact .inl h.symm
    | some l =>
      cases h2 : pick l x.ws with
      | none => simp [h1, h2] at h; exact .inr h.symm
      | some y =>
        cases h3 : pick l x.rs with
        | none => simp [h1, h2, h3] at h; exact .inr h.symm
        | some z =>
          cases h4 : resF find r with
          | err e' => simp [h1, h2, h3, h4] at h; subst h; exact resF_err_ne find r e' h4
          | ok c e => simp [h1, h2, h3, h4] at h
/-- may a table be put? -/
def putC (d : TbD) (t : Key) (l : List Key) : Int := if 1 ≤ l.length ∧ l.length ≤ 256 then (if (aget t d.kvs).isSome = true then 12 else 0) else 1

theorem there_ok (w0 : World) (p r : Nat) (hp : Pt w0 (.pointer (some ⟨p, 0, none⟩)) (Enc.enc (TbS.mk (some r)))) : Ret Try.prog 25 #[.pointer (some ⟨p, 0, none⟩)] w0 (fun u w' => u = .bool true ∧ Bel w0 w') := by
  refine Ret.enter (args := [.pointer (some ⟨p, 0, none⟩)]) Try.func25 rfl Try.ntmps25 Try.results25 rfl ?_
  have hS := St.start w0
  refine WC.seq (fun K1 hK1 => ?_)
  refine WC.region ?_
  refine WL.op rfl (opW.assignB rfl ?_)
  refine WL.nil ?_
  refine thenQ_n (hK1 _ _ ?_)
  refine WC.seq (fun K2 hK2 => ?_)
  refine WC.region ?_
  refine WL.op rfl (opW.moveV (v := .pointer (some ⟨p, 0, none⟩)) rfl ?_)
  refine WL.op rfl (opW.neqP rfl rfl ?_)
  refine WL.op rfl (opW.moveB rfl ?_)
  refine WL.gT 5 rfl rfl rfl (WL.op rfl (opW.moveV (v := .pointer (some ⟨p, 0, none⟩)) rfl ?_))
  refine WL.gT 5 rfl rfl rfl (WL.op rfl (opW.nilCheckB rfl ?_))
  refine WL.gT 5 rfl rfl rfl (WL.op rfl (opW.fieldAddrB rfl ?_))
  refine WL.gT 5 rfl rfl rfl (WL.op rfl (opW.loadV rfl ((hp.bel hS.old).at1 (TbS.at_of _)) ?_))
  refine WL.gT 5 rfl rfl rfl (WL.op rfl (opW.neqM rfl rfl ?_))
  refine WL.op rfl (opW.pickT rfl rfl ?_)
  refine WL.op rfl (opW.assignB rfl ?_)
  refine WL.nil ?_
  refine thenQ_n (hK2 _ _ ?_)
  refine WC.ret ?_
  refine bodyQ_ret (.tmpB rfl .nil) ?_
  exact ⟨rfl, hS.old⟩

theorem new_ok (w0 : World) : Ret Try.prog 16 #[] w0 (fun u w' => ∃ p d, u = .pointer (some ⟨p, 0, none⟩) ∧ (∀ k, d.find k = none) ∧ NewE w0 w' (tbE p d) ∧ Bel w0 w') := by
  refine Ret.enter (args := []) Try.func16 rfl Try.ntmps16 Try.results16 rfl ?_
  have hS := St.start w0
  refine WC.seq (fun K1 hK1 => ?_)
  refine WC.region ?_
  refine WL.op rfl (opW.assignV rfl ?_)
  refine WL.nil ?_
  refine thenQ_n (hK1 _ _ ?_)
  refine WC.seq (fun K2 hK2 => ?_)
  refine WC.region ?_
  refine WL.op rfl (opW.makeMap Key (Prod.fst : Value × List Key → Value) hS ?_)
  intro r1 w _ hS
  refine WL.op rfl (opW.buildE (r := ((TbS.mk (some r1)) : TbS)) (ps := TbS.parts ((TbS.mk (some r1)) : TbS)) (TbS.enc_eq _) (by first | rfl | (simp only [enc_vset, enc_vz, Lookup.enc_eq, Lookup.parts, Act.enc_eq, Act.parts, TbS.enc_eq, TbS.parts]; rfl)) (by (repeat' (first | exact trivial | refine And.intro ?_ ?_)) <;> first | rfl | exact Enc.size_eq _ | (simp; done)) ?_)
  refine WL.op rfl (opW.boxA hS rfl ?_)
  intro b3 w _ hS
  refine WL.op rfl (opW.assignV (v := .pointer (some ⟨b3, 0, none⟩)) rfl ?_)
  refine WL.nil ?_
  refine thenQ_n (hK2 _ _ ?_)
  refine WC.ret ?_
  refine bodyQ_ret (.tmpV (v := .pointer (some ⟨b3, 0, none⟩)) rfl .nil) ?_
  exact ⟨b3, ⟨r1, []⟩, rfl, fun k => rfl, (hS.tbClose (S := []) ⟨r1, []⟩).takeE .here, hS.old⟩

theorem copied_ok (w0 : World) (v : Value) (l : List Key) (hx : SlR w0 v l) (hl : l.length ≤ 100000) : Ret Try.prog 29 #[v] w0 (fun u w' => New w0 w' u 36 l ∧ Bel w0 w') := by
  refine Ret.enter (args := [v]) Try.func29 rfl Try.ntmps29 Try.results29 rfl ?_
  have hS := St.start w0
  refine WC.seq (fun K1 hK1 => ?_)
  refine WC.region ?_
  refine WL.op rfl (opW.assignV (v := .slice none 0 0) rfl ?_)
  refine WL.nil ?_
  refine thenQ_n (hK1 _ _ ?_)
  refine WC.seq (fun K2 hK2 => ?_)
  refine WC.region ?_
  refine WL.op rfl (opW.moveV (v := v) rfl ?_)
  refine WL.op rfl (opW.lenV rfl ((hx.bel hS.old)) ?_)
  refine WL.op rfl (opW.makeSl (α := Vector UInt8 32) (n := l.length) (vz 32) (by rw [enc_vz]; rfl) hS rfl rfl (by omega) (by simp only [maxLen]; omega) ?_)
  intro b6 w _ hS
  refine WL.op rfl (opW.assignV (v := .slice (some ⟨b6, 0, none⟩) l.length l.length) rfl ?_)
  refine WL.nil ?_
  refine thenQ_n (hK2 _ _ ?_)
  refine WC.seq (fun K3 hK3 => ?_)
  refine WC.region ?_
  refine WL.op rfl (opW.moveV (v := .slice (some ⟨b6, 0, none⟩) l.length l.length) rfl ?_)
  refine WL.op rfl (opW.moveV (v := v) rfl ?_)
  refine WL.op rfl (opW.copyAll (ys := l) hS (by first | exact .h0 | exact .h1 | exact .h2 | exact .h3 | exact .h4 | exact .h5 | exact .h6 | exact .h7 | exact .h8 | exact .h9 | exact .h10 | exact .h11 | exact .h12 | exact .h13 | exact .h14) rfl (hx.bel hS.old) (by simp) ?_)
  intro w hS; replace hS := hS _ (by first | exact .h0 | exact .h1 | exact .h2 | exact .h3 | exact .h4 | exact .h5 | exact .h6 | exact .h7 | exact .h8 | exact .h9 | exact .h10 | exact .h11 | exact .h12 | exact .h13 | exact .h14)
  refine WL.nil ?_
  refine thenQ_n (hK3 _ _ ?_)
  refine WC.seq (fun K4 hK4 => ?_)
  refine WC.region ?_
  refine WL.op rfl (opW.moveV (v := .slice (some ⟨b6, 0, none⟩) l.length l.length) rfl ?_)
  refine WL.op rfl (opW.assignV (v := .slice (some ⟨b6, 0, none⟩) l.length l.length) rfl ?_)
  refine WL.nil ?_
  refine thenQ_n (hK4 _ _ ?_)
  refine WC.ret ?_
  refine bodyQ_ret (.tmpV (v := .slice (some ⟨b6, 0, none⟩) l.length l.length) rfl .nil) ?_
  exact ⟨hS.own_new (by first | exact .h0 | exact .h1 | exact .h2 | exact .h3 | exact .h4 | exact .h5 | exact .h6 | exact .h7 | exact .h8 | exact .h9 | exact .h10 | exact .h11 | exact .h12 | exact .h13 | exact .h14), hS.old⟩

theorem picked_ok (wb w0 : World) (S : List Ent) (vo : Value) (xs : List Key) (vl : Value) (l : List Key) (va : Value) (ix : List UInt8) (hS0 : St wb (ownE vo 36 xs :: S) w0) (hl : ∀ w, St wb S w → SlR w vl l) (ha : ∀ w, St wb S w → SlR w va ix) (hb : xs.length + ix.length ≤ 100000) : Ret Try.prog 26 #[vo, vl, va] w0 (fun u w' => ∃ v' b ys', u = .tuple #[v', .bool b] ∧ St wb (ownE v' 36 ys' :: S) w' ∧ ((∃ ys, pick l ix = some ys ∧ b = true ∧ ys' = xs ++ ys) ∨ (pick l ix = none ∧ b = false ∧ v' = .slice none 0 0 ∧ ys' = []))) := by
  refine Ret.enter (args := [vo, vl, va]) Try.func26 rfl Try.ntmps26 Try.results26 rfl ?_
  have hS := St.start w0
  replace hS := hS0
  refine WC.seq (fun K1 hK1 => ?_)
  refine WC.region ?_
  refine WL.op rfl (opW.assignV (v := .slice none 0 0) rfl ?_)
  refine WL.op rfl (opW.assignB rfl ?_)
  refine WL.nil ?_
  refine thenQ_n (hK1 _ _ ?_)
  refine WC.seq (fun K2 hK2 => ?_)
  refine WC.seq (fun K3 hK3 => ?_)
  refine WC.region ?_
  refine WL.op rfl (opW.moveV (v := va) rfl ?_)
  refine WL.op rfl (opW.lenV rfl ((ha _ hS.drop1)) ?_)
  refine WL.op rfl (opW.moveI rfl ?_)
  refine WL.nil ?_
  refine thenQ_n (hK3 _ _ ?_)
  refine WC.block ?_
  refine WC.loop (fun q f w => ∃ (k : Nat) (vo2 : Value) (ys : List Key), Fits [(0, vo2), (1, vl), (10, va), (11, .int .i64 (ix.length : Int)), (12, .int .i64 (k : Int))] f ∧ St wb (ownE vo2 36 (xs ++ ys) :: S) w ∧ pick l (ix.take k) = some ys ∧ k ≤ ix.length ∧ q = ix.length - k) (ix.length) ?_ ?_
  ·
    exact ⟨0, vo, [], ⟨rfl, rfl, rfl, rfl, rfl, trivial⟩, by rw [List.append_nil]; exact hS, rfl, Nat.zero_le _, rfl⟩
  ·
    rintro q f w ⟨k, vo2, ys, hfit, hS, hpk, hk0, hm⟩
    refine WC.fits _ hfit (fun g => ?_)
    clear hfit
    refine WC.seq (fun K4 hK4 => ?_)
    refine WC.region ?_
    refine WL.op rfl (opW.lss rfl rfl ?_)
    refine WL.nil ?_
    refine thenQ_n (hK4 _ _ ?_)
    refine WC.seq (fun K5 hK5 => ?_)
    refine WC.cond _ rfl (fun hc0 => ?_) (fun hc0 => ?_)
    ·
      have hr0 := hc0
      try simp only [decide_eq_true_eq, decide_eq_false_iff_not, Bool.and_eq_true, Bool.or_eq_true, Bool.and_eq_false_iff, Bool.or_eq_false_iff, Bool.not_eq_true', Bool.not_eq_false', Int.not_lt, Int.not_le] at hc0
      have hkl : k < ix.length := by omega
      have hyl := pick_len _ _ _ hpk
      simp only [List.length_take] at hyl
      have hu8 := u8_lt ix[k]
      refine WC.skip ?_
      refine thenQ_n (hK5 _ _ ?_)
      refine WC.seq (fun K6 hK6 => ?_)
      refine WC.block ?_
      refine WC.seq (fun K7 hK7 => ?_)
      refine WC.region ?_
      refine WL.op rfl (opW.idxV rfl ((ha _ hS.drop1)) rfl (by omega) ?_)
      refine WL.op rfl (opW.loadV rfl (((ha _ hS.drop1).isPt hkl).ld rfl) ?_)
      refine WL.op rfl (opW.assignV (v := .int .u8 (ix[k].toNat : Int)) rfl ?_)
      refine WL.nil ?_
      refine thenQ_n (hK7 _ _ ?_)
      refine WC.seq (fun K8 hK8 => ?_)
      refine WC.seq (fun K9 hK9 => ?_)
      refine WC.region ?_
      refine WL.op rfl (opW.moveI rfl ?_)
      refine WL.op rfl (opW.conv rfl (wrap_i64 (by omega)) ?_)
      refine WL.op rfl (opW.moveV (v := vl) rfl ?_)
      refine WL.op rfl (opW.lenV rfl ((hl _ hS.drop1)) ?_)
      refine WL.op rfl (opW.geq rfl rfl ?_)
      refine WL.nil ?_
      refine thenQ_n (hK9 _ _ ?_)
      refine WC.cond _ rfl (fun hc1 => ?_) (fun hc1 => ?_)
      ·
        have hr1 := hc1
        try simp only [decide_eq_true_eq, decide_eq_false_iff_not, Bool.and_eq_true, Bool.or_eq_true, Bool.and_eq_false_iff, Bool.or_eq_false_iff, Bool.not_eq_true', Bool.not_eq_false', Int.not_lt, Int.not_le] at hc1
        refine WC.seq (fun K10 hK10 => ?_)
        refine WC.region ?_
        refine WL.op rfl (opW.assignV (v := .slice none 0 0) rfl ?_)
        refine WL.op rfl (opW.assignB rfl ?_)
        refine WL.nil ?_
        refine thenQ_n (hK10 _ _ ?_)
        refine WC.ret ?_
        refine thenQ_r ?_
        refine blockQ_r ?_
        refine thenQ_r ?_
        refine thenQ_r ?_
        refine blockQ_r ?_
        refine thenQ_r ?_
        refine bodyQ_ret (.tmpV (v := .slice none 0 0) rfl (.tmpB rfl .nil)) ?_
        exact ⟨_, _, [], rfl, hS.drop1.nilOwn _, .inr ⟨pick_fail hkl (by omega), rfl, rfl, rfl⟩⟩
      ·
        have hr1 := hc1
        try simp only [decide_eq_true_eq, decide_eq_false_iff_not, Bool.and_eq_true, Bool.or_eq_true, Bool.and_eq_false_iff, Bool.or_eq_false_iff, Bool.not_eq_true', Bool.not_eq_false', Int.not_lt, Int.not_le] at hc1
        have hjl : ix[k].toNat < l.length := by omega
        refine WC.skip ?_
        refine thenQ_n (hK8 _ _ ?_)
        refine WC.region ?_
        refine WL.op rfl (opW.moveV (v := vo2) rfl ?_)
        refine WL.op rfl (opW.moveV (v := vl) rfl ?_)
        refine WL.op rfl (opW.moveI rfl ?_)
        refine WL.op rfl (opW.idxV rfl ((hl _ hS.drop1)) rfl (by omega) ?_)
        refine WL.op rfl (opW.loadV rfl (((hl _ hS.drop1).isPt hjl).ldA (Enc.size_eq l[ix[k].toNat])) ?_)
        refine WL.op rfl (opW.buildSl hS (([l[ix[k].toNat]] : List Key)) [.agg (Enc.enc l[ix[k].toNat])] rfl rfl rfl rfl (by decide) ?_)
        intro b26 w hw hS
        refine WL.op rfl (opW.appendOwn (α := Vector UInt8 32) rfl hS rfl (by first | exact .h0 | exact .h1 | exact .h2 | exact .h3 | exact .h4 | exact .h5 | exact .h6 | exact .h7 | exact .h8 | exact .h9 | exact .h10 | exact .h11 | exact .h12 | exact .h13 | exact .h14) (hS.sl (by first | exact .h0 | exact .h1 | exact .h2 | exact .h3 | exact .h4 | exact .h5 | exact .h6 | exact .h7 | exact .h8 | exact .h9 | exact .h10 | exact .h11 | exact .h12 | exact .h13 | exact .h14)) (by simp only [List.length_append, List.length_cons, List.length_nil]; omega) (by simp only [maxLen]; simp only [List.length_append, List.length_cons, List.length_nil]; omega) ?_)
        intro v27 w hS; replace hS := hS _ (by first | exact .h0 | exact .h1 | exact .h2 | exact .h3 | exact .h4 | exact .h5 | exact .h6 | exact .h7 | exact .h8 | exact .h9 | exact .h10 | exact .h11 | exact .h12 | exact .h13 | exact .h14)
        refine WL.op rfl (opW.assignV (v := v27) rfl ?_)
        refine WL.nil ?_
        refine blockQ_n ?_
        refine thenQ_n (hK6 _ _ ?_)
        refine WC.region ?_
        refine WL.op rfl (opW.add rfl rfl (wrap_i64 (by omega)) ?_)
        refine WL.op rfl (opW.moveI rfl ?_)
        refine WL.nil ?_
        refine thenQ_n ?_
        rw [List.append_assoc] at hS
        exact ⟨ix.length - (k + 1), by omega, k + 1, v27, _, ⟨rfl, rfl, rfl, rfl, congrArg (Value.int .i64) (by omega), trivial⟩, hS.sub (by repeat (first | with_reducible exact List.nil_sublist _ | with_reducible exact List.Sublist.refl _ | with_reducible refine List.Sublist.cons₂ _ ?_ | with_reducible refine List.Sublist.cons _ ?_)), pick_step hkl hpk hjl, by omega, rfl⟩
    ·
      have hr0 := hc0
      try simp only [decide_eq_true_eq, decide_eq_false_iff_not, Bool.and_eq_true, Bool.or_eq_true, Bool.and_eq_false_iff, Bool.or_eq_false_iff, Bool.not_eq_true', Bool.not_eq_false', Int.not_lt, Int.not_le] at hc0
      refine WC.exit ?_
      refine thenQ_e ?_
      refine thenQ_e ?_
      refine blockQ_hit ?_
      refine thenQ_n (hK2 _ _ ?_)
      refine WC.seq (fun K11 hK11 => ?_)
      refine WC.region ?_
      refine WL.op rfl (opW.moveV (v := vo2) rfl ?_)
      refine WL.op rfl (opW.assignV (v := vo2) rfl ?_)
      refine WL.op rfl (opW.assignB rfl ?_)
      refine WL.nil ?_
      refine thenQ_n (hK11 _ _ ?_)
      refine WC.ret ?_
      refine bodyQ_ret (.tmpV (v := vo2) rfl (.tmpB rfl .nil)) ?_
      have hkk : k = ix.length := by omega
      rw [hkk, List.take_length] at hpk
      exact ⟨vo2, true, _, rfl, hS, .inl ⟨ys, hpk, rfl, rfl⟩⟩

end Go.Fer
