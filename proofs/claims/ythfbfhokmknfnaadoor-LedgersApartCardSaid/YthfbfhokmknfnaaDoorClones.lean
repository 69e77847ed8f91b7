/- Library, part 24 (a map cloned, through interface values). No condition: rules alone. -/
import Derived.Test.YthfbfhokmknfnaaDoorBooks
set_option linter.all false
namespace Go.Fer
open Go Go.RowKit
section
variable {κ ν : Type} [DecidableEq κ] [KV κ] {P : Program} {f : Fr} {w w0 : World} {S : List Ent} {R : Value → World → Prop} {d : Option Tmp} {T : TypeId} {pos : String} {af : Array Edge} {gd : Option (Nat × Bool)}
theorem concrete_map {s K E : Nat} (hm : MapT P s K E) : P.concrete s = true := by
  have h := hm.out
  unfold Program.concrete
  simp [h]
theorem opW.ifaceM {s K E : Nat} {x : Operand} {v : Value} [hm : MapT P s K E] (hx : ev f x = v) (h : R (.iface s v) w) : opW P f ⟨d, .makeInterface s x, T, pos, af, gd⟩ w R := by
  refine opW.of_run (v := .iface s v) (w' := w) ?_ h
  simp [execOp, hx, run_makeInterface, concrete_map hm]
theorem opW.assertM {s xT K E : Nat} {x : Operand} {v : Value} [hm : MapT P s K E] (hx : ev f x = .iface s v) (h : R v w) : opW P f ⟨d, .typeAssert x xT s false, T, pos, af, gd⟩ w R := by
  refine opW.of_run (v := v) (w' := w) ?_ h
  have hu := run_underlying hm.out w
  simp [execOp, hx, Instr.typeAssert, hu]
def CloneF (P : Program) (g : FuncId) : Prop := ∃ fn, P.funcs[g]? = some fn ∧ (fn.name == "runtime.NumGoroutine") = false ∧ fn.body.isNone = true ∧ Extern.findNext fn = none ∧ Extern.find fn = some Extern.MapsClone.clone
theorem opW.cloneM {g : FuncId} {args : Array Operand} {ts : Array TypeId} {s r : Nat} {vv : ν → Value} {kvs : List (κ × ν)} (hF : CloneF P g) (hS : St w0 S w) (hM : MapB w r vv kvs) (hargs : args.toList.map (ev f) = [.iface s (.map (some r))])
    (h : ∀ r' w', Bel w w' → St w0 (mapE r' vv kvs :: S) w' → R (.iface s (.map (some r'))) w') : opW P f ⟨d, .call { callee := .value (.func g), args := args, argTypes := ts }, T, pos, af, gd⟩ w R := by
  obtain ⟨fn, hf, hname, hb, hn, he⟩ := hF
  obtain ⟨es, clock, hh, hmi⟩ := hM
  have hbel : Bel w (w.alloc (.map es clock)) := Bel.alloc w _
  have ha : args.map (ev f) = #[.iface s (.map (some r))] := by apply Array.ext'; simpa using hargs
  refine opW.of_run (v := .iface s (.map (some w.heap.size))) (w' := w.alloc (.map es clock)) ?_ (h _ _ hbel (hS.newMap hbel ⟨es, clock, heap_alloc_new w _, hmi⟩ (Nat.le_refl _)))
  have hc : (Extern.MapsClone.clone #[.iface s (.map (some r))]).run P w = .ok (.iface s (.map (some w.heap.size))) (w.alloc (.map es clock)) := by
    have e : Extern.MapsClone.clone #[.iface s (.map (some r))] = (getObj r >>= fun o => match o with
      | .map entries clock => (newObj (.map entries clock) >>= fun n => pure (.iface s (.map (some n))))
      | _ => stuck "maps.clone: a map expected") := rfl
    rw [e]
    simp [MapKept.run_getObj_map hh, Result.andThen]
  have hr := Go.run_callFunc_extern hf hname hb hn he #[.iface s (.map (some r))] w
  rw [hc] at hr
  simp [execOp, resolve, ev, Deferred.ofValue, Go.invoke, ha, hr, Result.andThen]
end
end Go.Fer
