/- An array behind a pointer: the place of an element. No program in sight. -/
import Derived.Test.YtlaagebdbcmckaaGreatDoorBB
namespace Go.Proofs.YtlaagebdbcmckaaGreatDoor
set_option linter.unusedSimpArgs false
set_option linter.unusedVariables false
open Go.RowKit

section
variable {C : Cx} {nt : Nat} {sl : List (Nat × SV)} {en : List EN} {k : List KI}
variable {dst : Option Nat} {ty : TypeId} {pos : String} {af : Array Edge} {all r : List Oper}
theorem ixarr_op {x y : Operand} {t e n c o : Nat} {kd : IntKind} {j : Int} {i : TypeInfo} (es : Nat) (ht : C.P.underlying t = some (.array n e)) (hi : C.P.info? e = some i) (hs : i.size = es) (hx : ev sl x = some (.c (.p c o))) (hy : ev sl y = some (.c (.i kd j))) (h0 : 0 ≤ j) (h1 : j < (n : Int)) (hd : ∀ d, dst = some d → d < nt)
    (hK : Run C (.ops all r :: k) nt (putSl dst (.c (.p c (o + j.toNat * es))) sl) en) : Run C (.ops all (⟨dst, .indexAddr t x y, ty, pos, af, none⟩ :: r) :: k) nt sl en := by
  refine Run_soft1 (.c (.p c (o + j.toNat * es))) (fun ρ a w hr => ?_) hd hK
  obtain ⟨x1, x2⟩ := hr.ev_ok _ _ hx
  obtain ⟨y1, _⟩ := hr.ev_ok _ _ hy
  refine ⟨?_, x2⟩
  have x1' : a.eval x = .pointer (some ⟨(ρ c).blk, (ρ c).pre.length + o, none⟩) := x1
  have y1' : a.eval y = .int kd j := y1
  have hsz : (sizeOf e).run C.P w = .ok es w := by rw [← hs]; exact run_sizeOf hi
  simp [execOp, x1', y1', Instr.indexAt, run_und ht, Instr.sureAddr, asIntOf, h0, h1, hsz, SV.den, SC.den, ptrOf, add_zero', Nat.add_assoc]
end
end Go.Proofs.YtlaagebdbcmckaaGreatDoor
