/- a message put, either way -/
import Derived.Test.YtmiacbnmifejdaaH
set_option linter.all false
namespace Go.Fer
open Go Go.Proofs Go.RowKit

def putL2 (c : MC) : List UInt8 := if mayF c = true then putF c else []
def putE (c : MC) : Int := if mayF c = true then 0 else 1
theorem put_any (w0 : World) (m : Message) (c : MC) (ins : List Instr) (lks : List Lookup) (hc : IsM w0 m c ins lks) (hsz0 : c.size ≤ 100000) : Ret Try.prog 25 #[.agg (Enc.enc m)] w0 (fun u w' => ∃ v, u = .tuple #[v, .int .i64 (putE c)] ∧ New w0 w' v 5 (putL2 c) ∧ Bel w0 w') := by
  refine Ret.mono (put_ok w0 m c ins lks hc hsz0) ?_
  rintro u w' ⟨v, e, rfl, h, hb⟩
  unfold putE putL2
  rcases h with ⟨h1, rfl, rfl⟩ | ⟨h1, hn, rfl⟩
  · rw [h1]; exact ⟨_, rfl, New.nil _ _ _, hb⟩
  · rw [h1]; exact ⟨_, rfl, hn, hb⟩

end Go.Fer
