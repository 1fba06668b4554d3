/- TextStores, joined. -/
import Derived.Test.YtlbbldcfkalhlaaGreatDoorCTstoA
import Derived.Test.YtlbbldcfkalhlaaGreatDoorCTstoB
import Derived.Test.YtlbbldcfkalhlaaGreatDoorCTstoC
import Derived.Test.YtlbbldcfkalhlaaGreatDoorCTstoD
namespace Go.Proofs.YtlbbldcfkalhlaaGreatDoor
set_option linter.unusedSimpArgs false
set_option linter.unusedVariables false
set_option linter.unusedSimpArgs false
set_option linter.unusedVariables false
set_option maxHeartbeats 8000000
open Go.RowKit
set_option maxRecDepth 100000

theorem stores_walk (key val : List UInt8) (fl exp cas name : Int) (quiet : Bool) (hkl : key.length ≤ 9223372036854775807) (hvl : val.length ≤ 9223372036854775807) (f0 : 0 ≤ fl) (f1 : fl < 4294967296) (n0 : 0 ≤ cas) (n1 : cas < 18446744073709551616) (cn : -9223372036854775808 ≤ name) (cm : name ≤ 9223372036854775807) (w : World) (hE0 : EnvT w) :
    Calls Tryz.prog 6 #[.string ⟨key.toArray⟩, .int .u32 fl, .int .i64 exp, .string ⟨val.toArray⟩, .int .u64 cas, .int .i64 name, .bool quiet] w fun e w' => e = .returned (.bool true) ∧ Below w.heap.size w w' := by
  have key' : ∀ x : Int, 0 ≤ x → ∃ v : Nat, x.tmod 6 = (v : Int) ∧ v < 6 := fun x hx => by
    rw [Int.tmod_eq_emod_of_nonneg hx]
    exact ⟨(x % 6).toNat, by omega, by omega⟩
  by_cases all : keyB key = true ∧ ¬ exp < -1099511627776 ∧ ¬ 1099511627776 < exp ∧ val.length ≤ 65536
  · obtain ⟨hkey, s0, s1, hv⟩ := all
    by_cases c0 : name < 0
    · obtain ⟨i, hi, hi6⟩ := key' (-(name + 1)) (by omega)
      by_cases sn : exp < 0
      · by_cases h5 : i = 5
        · cases quiet
          · exact sto_ttft key val fl exp cas name hkey s0 s1 hv sn f0 f1 n0 n1 c0 cn cm hi h5 w hE0
          · exact sto_tttt key val fl exp cas name hkey s0 s1 hv sn f0 f1 n0 n1 c0 cn cm hi h5 w hE0
        · cases quiet
          · exact sto_tfft key val fl exp cas name hkey s0 s1 hv sn f0 f1 n0 n1 c0 cn cm hi (by omega) w hE0
          · exact sto_tftt key val fl exp cas name hkey s0 s1 hv sn f0 f1 n0 n1 c0 cn cm hi (by omega) w hE0
      · by_cases h5 : i = 5
        · cases quiet
          · exact sto_ftft key val fl exp cas name hkey s0 s1 hv sn f0 f1 n0 n1 c0 cn cm hi h5 w hE0
          · exact sto_fttt key val fl exp cas name hkey s0 s1 hv sn f0 f1 n0 n1 c0 cn cm hi h5 w hE0
        · cases quiet
          · exact sto_ffft key val fl exp cas name hkey s0 s1 hv sn f0 f1 n0 n1 c0 cn cm hi (by omega) w hE0
          · exact sto_fftt key val fl exp cas name hkey s0 s1 hv sn f0 f1 n0 n1 c0 cn cm hi (by omega) w hE0
    · obtain ⟨i, hi, hi6⟩ := key' name (by omega)
      by_cases sn : exp < 0
      · by_cases h5 : i = 5
        · cases quiet
          · exact sto_ttff key val fl exp cas name hkey s0 s1 hv sn f0 f1 n0 n1 c0 cn cm hi h5 w hE0
          · exact sto_tttf key val fl exp cas name hkey s0 s1 hv sn f0 f1 n0 n1 c0 cn cm hi h5 w hE0
        · cases quiet
          · exact sto_tfff key val fl exp cas name hkey s0 s1 hv sn f0 f1 n0 n1 c0 cn cm hi (by omega) w hE0
          · exact sto_tftf key val fl exp cas name hkey s0 s1 hv sn f0 f1 n0 n1 c0 cn cm hi (by omega) w hE0
      · by_cases h5 : i = 5
        · cases quiet
          · exact sto_ftff key val fl exp cas name hkey s0 s1 hv sn f0 f1 n0 n1 c0 cn cm hi h5 w hE0
          · exact sto_fttf key val fl exp cas name hkey s0 s1 hv sn f0 f1 n0 n1 c0 cn cm hi h5 w hE0
        · cases quiet
          · exact sto_ffff key val fl exp cas name hkey s0 s1 hv sn f0 f1 n0 n1 c0 cn cm hi (by omega) w hE0
          · exact sto_fftf key val fl exp cas name hkey s0 s1 hv sn f0 f1 n0 n1 c0 cn cm hi (by omega) w hE0
  refine calls_of_Run Tryz.func6 rfl kp6 (S := Non) (ρ := fun _ => reOf 0) (en := []) [.c (.s key), .c (.i .u32 fl), .c (.i .i64 exp), .c (.s val), .c (.i .u64 cas), .c (.i .i64 name), .c (.b quiet)] Tryz.ntmps6 (At.nil _ _ _) (by simp [SV.wf, SC.wf]) (by simp) ?_
  intro C hC hP hk
  have hE : ∀ w', Upd C.S C.w0 w' → EnvT w' := fun w' hu => by rw [hC] at hu; exact hE0.below hu.to_below
  have hctr := swC_ok hP hE
  have fin : ∀ en, Fin C res6 (.c (.b true)) en := fun en => Fin_ro (v := .c (.b true)) hC hres6 rfl trivial
  cases hkey : keyB key with
  | false =>
    (refine VT_ok hctr (rs := res6) true 300 _ _ _ ?_; simp (maxSteps := 1000000) only [VT, jf, jg, jZ, ja, jd, je, VC, qA, qB, qC, qD, qE, qF, qG, qH, qI, qJ, qK, qL, qM, qN, qO, qP, qQ, qR, qS, qT, qU, qV, qW, qX, qY, qZ, qe, qf, qg, qh, qj, qk, ql, qm, qn, qo, qp, qq, qt, qu, qv, ev, qw, qy, qz, zA, zB, zC, zD, zE, zF, zG, zH, zI, zJ, TE.sv, zK, zL, zM, ↓reduceIte, reduceCtorEq, Value.oneCell', Nat.reduceEqDiff, Nat.reduceAdd, Nat.reduceLT, Nat.reduceBEq, Nat.reduceSub, Nat.reduceLeDiff, zP, zQ, zR, zS, zT, zU, zV, zW, zX, zY, zZ, za, zb, zc, zd, ze, zf, zg, zh, zi, zj, zk, zl, zm, zn, zo, zp, zq, zr, zt, zu, zw, zx, zy, zz, cE, jA, jB, hap, killE, deadOf, rwE, cD, cO, jC, jD, jE, jF, jG, jH, jI, jJ, jK, jL, jM, jN, jO, jP, jQ, jR, jS, jT, jU, jV, jW, jX, jY, hP, hk, res6, kp6, swC, lwC, rowKeyB, rowText, hkl, hkey])
    exact fin _
  | true =>
  by_cases s0 : exp < -1099511627776
  · have s0' : decide (exp < -1099511627776) = true := decide_eq_true s0
    (refine VT_ok hctr (rs := res6) true 300 _ _ _ ?_; simp (maxSteps := 1000000) only [VT, jf, jg, jZ, ja, jd, je, VC, qA, qB, qC, qD, qE, qF, qG, qH, qI, qJ, qK, qL, qM, qN, qO, qP, qQ, qR, qS, qT, qU, qV, qW, qX, qY, qZ, qe, qf, qg, qh, qj, qk, ql, qm, qn, qo, qp, qq, qt, qu, qv, ev, qw, qy, qz, zA, zB, zC, zD, zE, zF, zG, zH, zI, zJ, TE.sv, zK, zL, zM, ↓reduceIte, reduceCtorEq, Value.oneCell', Nat.reduceEqDiff, Nat.reduceAdd, Nat.reduceLT, Nat.reduceBEq, Nat.reduceSub, Nat.reduceLeDiff, zP, zQ, zR, zS, zT, zU, zV, zW, zX, zY, zZ, za, zb, zc, zd, ze, zf, zg, zh, zi, zj, zk, zl, zm, zn, zo, zp, zq, zr, zt, zu, zw, zx, zy, zz, cE, jA, jB, hap, killE, deadOf, rwE, cD, cO, jC, jD, jE, jF, jG, jH, jI, jJ, jK, jL, jM, jN, jO, jP, jQ, jR, jS, jT, jU, jV, jW, jX, jY, hP, hk, res6, kp6, swC, lwC, rowKeyB, rowText, hkl, hkey, s0'])
    exact fin _
  have s0' : decide (exp < -1099511627776) = false := decide_eq_false s0
  by_cases s1 : 1099511627776 < exp
  · have s1' : decide (1099511627776 < exp) = true := decide_eq_true s1
    (refine VT_ok hctr (rs := res6) true 300 _ _ _ ?_; simp (maxSteps := 1000000) only [VT, jf, jg, jZ, ja, jd, je, VC, qA, qB, qC, qD, qE, qF, qG, qH, qI, qJ, qK, qL, qM, qN, qO, qP, qQ, qR, qS, qT, qU, qV, qW, qX, qY, qZ, qe, qf, qg, qh, qj, qk, ql, qm, qn, qo, qp, qq, qt, qu, qv, ev, qw, qy, qz, zA, zB, zC, zD, zE, zF, zG, zH, zI, zJ, TE.sv, zK, zL, zM, ↓reduceIte, reduceCtorEq, Value.oneCell', Nat.reduceEqDiff, Nat.reduceAdd, Nat.reduceLT, Nat.reduceBEq, Nat.reduceSub, Nat.reduceLeDiff, zP, zQ, zR, zS, zT, zU, zV, zW, zX, zY, zZ, za, zb, zc, zd, ze, zf, zg, zh, zi, zj, zk, zl, zm, zn, zo, zp, zq, zr, zt, zu, zw, zx, zy, zz, cE, jA, jB, hap, killE, deadOf, rwE, cD, cO, jC, jD, jE, jF, jG, jH, jI, jJ, jK, jL, jM, jN, jO, jP, jQ, jR, jS, jT, jU, jV, jW, jX, jY, hP, hk, res6, kp6, swC, lwC, rowKeyB, rowText, hkl, hkey, s0', s1'])
    exact fin _
  have s1' : decide (1099511627776 < exp) = false := decide_eq_false s1
  by_cases hv : val.length ≤ 65536
  · exact absurd ⟨hkey, s0, s1, hv⟩ all
  · have sv' : decide (65536 < ((val.length : Nat) : Int)) = true := decide_eq_true (by omega)
    (refine VT_ok hctr (rs := res6) true 300 _ _ _ ?_; simp (maxSteps := 1000000) only [VT, jf, jg, jZ, ja, jd, je, VC, qA, qB, qC, qD, qE, qF, qG, qH, qI, qJ, qK, qL, qM, qN, qO, qP, qQ, qR, qS, qT, qU, qV, qW, qX, qY, qZ, qe, qf, qg, qh, qj, qk, ql, qm, qn, qo, qp, qq, qt, qu, qv, ev, qw, qy, qz, zA, zB, zC, zD, zE, zF, zG, zH, zI, zJ, TE.sv, zK, zL, zM, ↓reduceIte, reduceCtorEq, Value.oneCell', Nat.reduceEqDiff, Nat.reduceAdd, Nat.reduceLT, Nat.reduceBEq, Nat.reduceSub, Nat.reduceLeDiff, zP, zQ, zR, zS, zT, zU, zV, zW, zX, zY, zZ, za, zb, zc, zd, ze, zf, zg, zh, zi, zj, zk, zl, zm, zn, zo, zp, zq, zr, zt, zu, zw, zx, zy, zz, cE, jA, jB, hap, killE, deadOf, rwE, cD, cO, jC, jD, jE, jF, jG, jH, jI, jJ, jK, jL, jM, jN, jO, jP, jQ, jR, jS, jT, jU, jV, jW, jX, jY, hP, hk, res6, kp6, swC, lwC, rowKeyB, rowText, hkl, hkey, s0', s1', sv'])
    exact fin _
end Go.Proofs.YtlbbldcfkalhlaaGreatDoor
