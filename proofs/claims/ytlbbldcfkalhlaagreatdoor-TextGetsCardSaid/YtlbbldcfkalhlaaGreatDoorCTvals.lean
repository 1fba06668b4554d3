/- text.values, walked: what is told of answers. -/
import Derived.Test.YtlbbldcfkalhlaaGreatDoorCTws
import Derived.Test.YtlbbldcfkalhlaaGreatDoorCTjoinR
import Derived.Test.YtlbbldcfkalhlaaGreatDoorBB
import Derived.Test.YtlbbldcfkalhlaaGreatDoorBC
import Derived.Test.YtlbbldcfkalhlaaGreatDoorCShelfK
namespace Go.Proofs.YtlbbldcfkalhlaaGreatDoor
set_option linter.unusedSimpArgs false
set_option linter.unusedVariables false
set_option linter.unusedSimpArgs false
set_option linter.unusedVariables false
set_option maxHeartbeats 8000000
open Go.RowKit
set_option maxRecDepth 100000

/-- what is told of answers, ahead of the end -/
def tellF (tokens : Bool) : List An → List UInt8
  | [] => []
  | a :: l => (if a.st = 1 then itTold tokens a.it else []) ++ tellF tokens l
theorem tellF_app (tokens : Bool) : ∀ l m, tellF tokens (l ++ m) = tellF tokens l ++ tellF tokens m
  | [], m => rfl
  | a :: l, m => by simp only [List.cons_append, tellF, tellF_app tokens l m, List.append_assoc]
theorem values_tell (tokens : Bool) : ∀ l, valuesF tokens l = tellF tokens l ++ b_end
  | [] => rfl
  | a :: l => by
    have := values_tell tokens l
    simp only [valuesF, tellF, this]
    split <;> simp
theorem tellF_succ {tokens : Bool} {l : List An} {j : Nat} {x : An} (hx : l[j]? = some x) : tellF tokens (l.take (j + 1)) = tellF tokens (l.take j) ++ (if x.st = 1 then itTold tokens x.it else []) := by
  obtain ⟨hi, e⟩ := List.getElem?_eq_some_iff.1 hx
  rw [List.take_succ_eq_append_getElem hi, tellF_app, e]
  simp [tellF]
/-- answers that may be told -/
def AnOk (a : An) : Prop := a.it.key.length ≤ 100000 ∧ a.it.val.length ≤ 1000000 ∧ 0 ≤ a.it.flags ∧ a.it.flags < 4294967296 ∧ 0 ≤ a.it.cas ∧ a.it.cas < 18446744073709551616
theorem itTold_le {tokens : Bool} {a : An} (h : AnOk a) : (itTold tokens a.it).length ≤ 1200000 := by
  obtain ⟨h1, h2, h3, h4, h5, h6⟩ := h
  have d1 := dec_len_le a.it.flags.toNat (by omega)
  have d2 := dec_len_le a.it.cas.toNat (by omega)
  have d3 := dec_len_le a.it.val.length (by omega)
  cases tokens <;> simp only [itTold, itW, if_true, Bool.false_eq_true, if_false, joinB, b_value, List.length_append, List.length_cons, List.length_nil] <;> omega
theorem tellF_le {tokens : Bool} : ∀ {l : List An}, (∀ a ∈ l, AnOk a) → (tellF tokens l).length ≤ 1200000 * l.length
  | [], _ => by simp [tellF]
  | a :: l, h => by
    have h1 := tellF_le (tokens := tokens) (l := l) fun x hx => h x (by simp [hx])
    have h2 := itTold_le (tokens := tokens) (h a (by simp))
    simp only [tellF, List.length_append, List.length_cons]
    split
    · omega
    · simp only [List.length_nil]; omega
/-- an answer's cells -/
def anSx (a : An) : List SC := [.i .i64 a.st, .s a.it.key, .i .u32 a.it.flags, .s a.it.val, .i .i64 a.it.exp, .i .u64 a.it.cas, .i .i64 a.it.last, .b a.it.stale, .b a.it.won, .i .u64 a.num, .b a.w, .b a.x, .b a.z]
def anVx (a : An) : List Value := [.int .i64 a.st, .string ⟨a.it.key.toArray⟩, .int .u32 a.it.flags, .string ⟨a.it.val.toArray⟩, .int .i64 a.it.exp, .int .u64 a.it.cas, .int .i64 a.it.last, .bool a.it.stale, .bool a.it.won, .int .u64 a.num, .bool a.w, .bool a.x, .bool a.z]
theorem anSx_len (a : An) : (anSx a).length = 13 := rfl
/-- answers at a raw place -/
def RawA (w : World) (a : Option Addr) (xs : List An) : Prop := ∀ (k : Nat) x, xs[k]? = some x → ∃ b o, a = some ⟨b, o, none⟩ ∧ b < w.heap.size ∧ ∀ (j : Nat) v, (anVx x)[j]? = some v → w.cell? ⟨b, o + k * 13 + j, none⟩ = some v
theorem RawA.rd {w : World} {a : Option Addr} {xs : List An} (h : RawA w a xs) {D : Cx} (hS : D.S = Non) (hw : D.w0 = w) {k : Nat} {x : An} (hx : xs[k]? = some x) : ∃ b o, a = some ⟨b, o, none⟩ ∧ D.rd b (o + k * 13) 13 = some (anSx x) := by
  obtain ⟨b, o, ha, hb, hc⟩ := h k x hx
  exact ⟨b, o, ha, rd_arg (vs := anVx x) hS hw hb hc rfl⟩
def bX (t : List UInt8) : SC := if t = [] then .v (.pointer none) else .p 0 0
theorem bX_or (t : List UInt8) : bX t = .v (.pointer none) ∨ bX t = .p 0 0 := by unfold bX; split <;> simp
/-- a write to a builder, in a drawn region -/
def hws (t s : List UInt8) : HF := fun en => (.t [.c (.i .i64 (s.length : Int)), .c (.v .nilIface)], zF (zE (zE en 0 (bldE (.p 0 0) (.rw (zG en) (t ++ s).length))) 1 (deadOf (rwB t))) (rwB (t ++ s)))
def enV (t : List UInt8) : List EN := [bldE (bX t) (.rw 1 t.length), rwB t]
def slV (a : Option Addr) (n c : Nat) (tok : Bool) (j : Nat) : List (Nat × SV) := [(12, .c (.i .i64 (j : Int))), (11, .c (.i .i64 (n : Int))), (10, .c (.v (.slice a n c))), (5, .c (.p 0 0)), (4, .c (.s [])), (1, .c (.b tok))]
section
variable {C : Cx} {nt : Nat} {sl : List (Nat × SV)} {en : List EN} {k : List KI}
variable {dst : Option Nat} {ty : TypeId} {pos : String} {af : Array Edge} {all r : List Oper} {gd : Option (Nat × Bool)}
/-- a builder's text is taken; nothing of memory is told behind it -/
theorem Run_bstr {l : List UInt8} {c d : Nat} {args : Array Operand} {tys : Array TypeId} (hP : C.P = Tryz.prog) (hS : C.S = Non) (hn0 : C.n0 = 0) (hc : zD en c = some (bldE (.p c 0) (.rw d l.length))) (hd : zD en d = some (rwB l)) (hx : qw sl args.toList = some [.c (.p c 0)]) (hg : gdT all sl gd = true) (hdst : ∀ d, dst = some d → d < nt)
    (hK : Run C (.ops all r :: k) nt (jN dst (.c (.s l)) []) []) : Run C (.ops all (⟨dst, .call ⟨.value (.func 30), args, tys⟩, ty, pos, af, gd⟩ :: r) :: k) nt sl en := by
  refine Run_ocall hx hg (fun args w => by rw [hP]; exact Tryz.call30 args w) fun ρ a w hr hwf => ?_
  have hw := hr.hw
  have lc : c < en.length := hwf (.c (.p c 0)) (by simp)
  have ld : d < en.length := (hw.hp c _ _ _ lc hc).wf (.rw d l.length) (by simp)
  obtain ⟨k1, k2, k3, k4, k5⟩ := ent_blk hw.hp hw.ho lc hc (by decide) (by simp)
  have hpt : (SC.p c 0).den ρ = .pointer (some ⟨(ρ c).blk, 0, none⟩) := k2
  have e0 : (List.map (SV.den ρ) [.c (.p c 0)]).toArray = #[.pointer (some ⟨(ρ c).blk, 0, none⟩)] := by
    show #[ptrOf ρ c 0] = _
    rw [k2]
  have own : ∀ c cells ty, c < en.length → zD en c = some ⟨ty, cells, true⟩ → C.w0.heap.size ≤ (ρ c).blk := fun c cells ty hl he => (hw.mu c ty cells hl he).resolve_left (by rw [hS]; exact fun h => h)
  have hb : w.heap[(ρ c).blk]? = some (.cells #[.pointer (some ⟨(ρ c).blk, 0, none⟩), rwOf (ρ d) l.length] 73 (0, 0)) := by
    have e1 : dens ρ [.p c 0, .rw d l.length] = [.pointer (some ⟨(ρ c).blk, 0, none⟩), rwOf (ρ d) l.length] := by
      simp only [dens, List.map_cons, List.map_nil, hpt]; rfl
    rw [e1] at k1; exact k1
  have hbc : Lib.byteCells l = dens ρ (bytesC l) := by rw [bytesC_den]; rfl
  have hlen : (Lib.byteCells l).length = l.length := by rw [hbc, dens_len, bytesC_len]
  obtain ⟨_, hO⟩ := hw.ho d _ _ _ ld hd
  have hcd : c ≠ d := fun h => by
    subst h; rw [hc] at hd
    have := congrArg (Option.map fun e : EN => e.ty.1) hd
    simp [bldE, rwB, rwE] at this
  have hbld : Lib.IsBuilderF 73 5 C.w0.heap.size (ρ c).blk (Lib.byteCells l) w := by
    refine .inr (Lib.BuilderAtF.of ⟨own c _ _ lc hc, _, hb, ?_, ?_⟩)
    · rw [hlen, hbc]
      refine ⟨by rw [dens_len, bytesC_len, Nat.mul_one], ?_⟩
      obtain ⟨_, h⟩ := hO
      rcases h with ⟨h1, h2, h3, h4, h5⟩ | ⟨h1, h2, h3⟩
      · have hh := (hw.hp d _ _ _ ld hd).heap ⟨u8d, h1⟩
        refine .inr ⟨(ρ d).blk, (ρ d).cap, _, rwOf_on h1 _, own d _ _ ld hd, hh, h4, h5, ?_, ?_⟩
        · simpa [h2, dens_len] using h3
        · rw [h2]; simp only [List.nil_append, List.toList_toArray]
          rw [List.take_append_of_le_length (by simp [dens_len, bytesC_len]), List.take_of_length_le (by simp [dens_len, bytesC_len])]
      · exact .inl ⟨by rw [rwOf_off h1, h2], h2⟩
    · obtain ⟨_, h⟩ := hO
      rcases h with ⟨h1, _⟩ | ⟨h1, _⟩
      · rw [rwOf_on h1]
        intro h
        simp only [Value.ownBlock, Option.some.injEq] at h
        exact hcd (hw.inj d c ld lc ((deadE_of hd).2 ⟨u8d, h1⟩) ((deadE_of hc).2 ⟨by decide, k5⟩) h).symm
      · rw [rwOf_off h1]; intro h; cases h
  rw [e0, hP]
  refine (Tryz.Builder_String_any_k C.w0.heap.size (ρ c).blk l w hbld hw.up.size).mono ?_
  rintro e w' ⟨rfl, _, hbl, _⟩
  refine .inl ⟨_, rfl, hK ρ _ w' ?_⟩
  have hup : Upd C.S C.w0 w' := ⟨hbl.os.trans hw.up.os, hbl.tape.trans hw.up.tape, hbl.output.trans hw.up.output, Nat.le_trans hw.up.size hbl.size, fun q hq hs => (hbl.block q hq).trans (hw.up.block q hq hs)⟩
  have hr0 : Rep C ρ nt [] [] a w' := ⟨⟨fun c _ _ _ h => absurd h (Nat.not_lt_zero c), fun c _ _ _ h => absurd h (Nat.not_lt_zero c), fun c _ h => absurd h (Nat.not_lt_zero c), hup, fun c _ _ h => absurd h (Nat.not_lt_zero c), fun c h => by rw [hn0] at h; exact absurd h (Nat.not_lt_zero c)⟩, fun d v h => by simp [qy] at h, hr.sz, hr.df, by rw [hn0]; exact Nat.zero_le _⟩
  cases dst with
  | none => exact hr0
  | some q => exact hr0.put (hdst q rfl) (v := .c (.s l)) trivial
end
def vwC : Ctr := fun f en xs => match f with
  | 14 => rowJoinR en xs
  | 13 => rowText xs
  | _ => none
theorem vwC_ok {C : Cx} (hP : C.P = Tryz.prog) (hE : EnvC C) : CtrOk C vwC := by
  intro f en xs p v h hp ρ w hup hHp hHo hinj hwf
  unfold vwC at h
  split at h
  · rw [hP]; exact ⟨fun args w => Tryz.call14 args w, rowJoinR_ok h hp hHp hHo⟩
  · rw [hP]; exact ⟨fun args w => Tryz.call13 args w, rowText_ok h hp (hE w hup)⟩
  · cases h
theorem values_f {w : World} {a : Option Addr} {n c : Nat} {xs : List An} (hraw : RawA w a xs) (hn : xs.length = n) (hn1 : n ≤ 100000) (hok : ∀ x ∈ xs, AnOk x) (hE0 : Env w) :
    Calls Tryz.prog 24 #[.slice a n c, .bool false] w fun e w' => e = .returned (.string ⟨(valuesF false xs).toArray⟩) ∧ Below w.heap.size w w' := by
  refine calls_of_Run Tryz.func24 rfl kp24 (S := Non) (ρ := fun _ => reOf 0) (en := []) [.c (.v (.slice a n c)), .c (.b false)] Tryz.ntmps24 (At.nil _ _ _) (by simp [SV.wf, SC.wf]) (by simp) ?_
  intro C hC hP hk
  have hE : EnvC C := fun w' hu => by rw [hC] at hu; exact hE0.below hu.to_below
  have hctr := vwC_ok hP hE
  have hn0 : C.n0 = 0 := by rw [hC]; rfl
  have hr : ∀ (k : Nat) x, xs[k]? = some x → ∃ b o, a = some ⟨b, o, none⟩ ∧ C.rd b (o + k * 13) 13 = some (anSx x) := fun k x hx => hraw.rd (D := C) (by rw [hC]; rfl) (by rw [hC]; rfl) hx
  have htl : ∀ j, (tellF false (xs.take j)).length ≤ 120000000000 := fun j => by
    have := tellF_le (tokens := false) (l := xs.take j) fun x hx => hok x (List.mem_of_mem_take hx)
    have h2 : (xs.take j).length ≤ 100000 := by rw [List.length_take]; omega
    omega
  (refine VT_ok hctr (rs := res24) true 300 _ _ _ ?_; simp (maxSteps := 1000000) only [VT, jf, jg, jZ, ja, jd, je, VC, qA, qB, qC, qD, qE, qF, qG, qH, qI, qJ, qK, qL, qM, qN, qO, qP, qQ, qR, qS, qT, qU, qV, qW, qX, qY, qZ, qe, qf, qg, qh, qj, qk, ql, qm, qn, qo, qp, qq, qt, qu, qv, ev, qw, qy, qz, zA, zB, zC, zD, zE, zF, zG, zH, zI, zJ, TE.sv, zK, zL, zM, ↓reduceIte, reduceCtorEq, Value.oneCell', Nat.reduceEqDiff, Nat.reduceAdd, Nat.reduceLT, Nat.reduceBEq, Nat.reduceSub, Nat.reduceLeDiff, zP, zQ, zR, zS, zT, zU, zV, zW, zX, zY, zZ, za, zb, zc, zd, ze, zf, zg, zh, zi, zj, zk, zl, zm, zn, zo, zp, zq, zr, zt, zu, zw, zx, zy, zz, cE, jA, jB, hap, killE, deadOf, rwE, cD, cO, jC, jD, jE, jF, jG, jH, jI, jJ, jK, jL, jM, jN, jO, jP, jQ, jR, jS, jT, jU, jV, jW, jX, jY, hP, hk, res24, kp24, vwC, rowText, rowJoinR, strsOf, cond_true, cond_false])
  refine Run_nilrowG true (en' := [bldE (.v (.pointer none)) (.rw 1 0)]) (sl' := slV a n c false 0) (5, 0, rowP 1 0 0) rfl (fun _ => ⟨rfl, .inr ⟨rfl, rfl, rfl⟩⟩) (fun _ => u8d) ?_ ?_ ?_
  · refine ⟨⟨rfl, rfl, fun ρ h => ?_, ?_⟩, trivial⟩
    · have h : (ρ 1).nl = some none := h
      simp only [bldE, dens, List.map_cons, List.map_nil, SC.den, rwOf_off h]
    · intro y hy
      simp only [bldE, List.mem_cons, List.not_mem_nil, or_false] at hy
      rcases hy with rfl | rfl
      · trivial
      · show 1 < _; simp [zG]
  · refine ⟨⟨⟨_, rfl, fun ρ h => rfl⟩, ?_⟩, ⟨⟨_, rfl, fun ρ h => rfl⟩, ?_⟩, ⟨⟨_, rfl, fun ρ h => rfl⟩, ?_⟩, ⟨⟨_, rfl, fun ρ h => rfl⟩, ?_⟩, ⟨⟨_, rfl, fun ρ h => rfl⟩, ?_⟩, ⟨⟨_, rfl, fun ρ h => rfl⟩, ?_⟩, trivial⟩
    all_goals simp [SV.wf, SC.wf, zG]
  refine Run_loopP (ι := { j : Nat // j ≤ n }) (fun j => slV a n c false j.1) (fun j => enV (tellF false (xs.take j.1))) (fun j => n - j.1) ⟨0, Nat.zero_le _⟩ (sub_mk ⟨rfl, rfl, rfl, rfl, rfl, rfl, trivial⟩) rfl ?_
  rintro ⟨j, hj⟩ D dP dS dw dn dr dk ddf dPan dRet hX hJ
  have hP0 := hP; have hk0 := hk; have hctr0 := hctr
  have hP : D.P = Tryz.prog := by rw [dP]; exact hP0
  have hk : D.kp = kp24 := by rw [dk]; exact hk0
  have hctr : CtrOk D vwC := vwC_ok hP (by unfold EnvC; rw [dS, dw]; exact hE)
  show Run D _ _ (slV a n c false j) (enV (tellF false (xs.take j)))
  obtain ⟨t, ht⟩ : ∃ t, tellF false (xs.take j) = t := ⟨_, rfl⟩
  have htl0 := htl j
  rw [ht] at htl0 ⊢
  have hbx := bX_or t
  obtain ⟨bx, hbx0⟩ : ∃ bx, bX t = bx := ⟨_, rfl⟩
  by_cases hjn : j < n
  · obtain ⟨x, hx⟩ : ∃ x, xs[j]? = some x := ⟨_, List.getElem?_eq_getElem (by omega)⟩
    have c1 : decide ((j : Int) < ((n : Nat) : Int)) = true := decide_eq_true (by omega)
    have p3 : IntKind.i64.wrap ((j : Int) + 1) = ((j + 1 : Nat) : Int) := by rw [IntWalk.i64_in _ (by omega)]; rfl
    have p0 : (0 : Int) ≤ (j : Int) := by omega
    have p1 : (j : Int) < ((n : Nat) : Int) := by omega
    obtain ⟨b0, oo, ha, hrx⟩ := hr j x hx
    subst ha
    have hrx : D.rd b0 (oo + j * 13) 13 = some (anSx x) := by rw [show D.rd = C.rd by unfold Cx.rd; rw [dS, dw]]; exact hrx
    rw [anSx] at hrx
    have hsucc := tellF_succ (tokens := false) hx
    rw [ht] at hsucc
    obtain ⟨ok1, ok2, ok3, ok4, ok5, ok6⟩ := hok x (List.mem_of_getElem? hx)
    cases hst : (x.st != 1) with
    | true =>
      (refine VT_ok hctr (rs := res24) true 300 _ _ _ ?_; simp (maxSteps := 1000000) only [VT, jf, jg, jZ, ja, jd, je, VC, qA, qB, qC, qD, qE, qF, qG, qH, qI, qJ, qK, qL, qM, qN, qO, qP, qQ, qR, qS, qT, qU, qV, qW, qX, qY, qZ, qe, qf, qg, qh, qj, qk, ql, qm, qn, qo, qp, qq, qt, qu, qv, ev, qw, qy, qz, zA, zB, zC, zD, zE, zF, zG, zH, zI, zJ, TE.sv, zK, zL, zM, ↓reduceIte, reduceCtorEq, Value.oneCell', Nat.reduceEqDiff, Nat.reduceAdd, Nat.reduceLT, Nat.reduceBEq, Nat.reduceSub, Nat.reduceLeDiff, zP, zQ, zR, zS, zT, zU, zV, zW, zX, zY, zZ, za, zb, zc, zd, ze, zf, zg, zh, zi, zj, zk, zl, zm, zn, zo, zp, zq, zr, zt, zu, zw, zx, zy, zz, cE, jA, jB, hap, killE, deadOf, rwE, cD, cO, jC, jD, jE, jF, jG, jH, jI, jJ, jK, jL, jM, jN, jO, jP, jQ, jR, jS, jT, jU, jV, jW, jX, jY, hP, hk, res24, kp24, slV, enV, bldE, rwB, rwE, vwC, rowText, rowJoinR, strsOf, cond_true, cond_false, c1, p3, p0, p1, hrx, hst, hbx0, Int.toNat_natCast])
      have hst' : ¬ x.st = 1 := by simpa using hst
      rw [if_neg hst', List.append_nil] at hsucc
      have hJ' := hJ ⟨j + 1, by omega⟩ (slV (some ⟨b0, oo, none⟩) n c false (j + 1)) (by show n - (j + 1) < n - j; omega) (fun d v h => h)
      rw [hsucc, enV, hbx0] at hJ'
      refine Run_keepN (f := fun c => c) (enK := [bldE bx (.rw 1 t.length), rwB t]) (slK := slV (some ⟨b0, oo, none⟩) n c false (j + 1)) ⟨fun q hq => rfl, by rw [dn, hn0]; exact Nat.zero_le _⟩ (fun _ _ _ _ h => h) ?_ ?_ hJ'
      · refine ⟨⟨_, rfl, fun ρ => rfl, ?_⟩, ⟨_, rfl, fun ρ => rfl, bytesC_wf _ _⟩, trivial⟩
        intro y hy
        simp only [bldE, List.mem_cons, List.not_mem_nil, or_false] at hy
        rcases hy with rfl | rfl
        · rw [← hbx0]; rcases hbx with h | h <;> rw [h]
          · trivial
          · exact Nat.zero_lt_two
        · exact Nat.one_lt_two
      · refine ⟨⟨?_, _, rfl, fun ρ => rfl⟩, ⟨?_, _, rfl, fun ρ => rfl⟩, ⟨?_, _, rfl, fun ρ => rfl⟩, ⟨?_, _, rfl, fun ρ => rfl⟩, ⟨?_, _, rfl, fun ρ => rfl⟩, ⟨?_, _, rfl, fun ρ => rfl⟩, trivial⟩
        all_goals simp [SV.wf, SC.wf]
    | false =>
      have wf : IntKind.u64.wrap x.it.flags = x.it.flags := by rw [IntKind.wrap_u64]; omega
      have wv : IntKind.u64.wrap ((x.it.val.length : Nat) : Int) = ((x.it.val.length : Nat) : Int) := by rw [IntKind.wrap_u64]; omega
      have f64 : x.it.flags < 18446744073709551616 := by omega
      have v64 : ((x.it.val.length : Nat) : Int) < 18446744073709551616 := by omega
      have v0 : (0 : Int) ≤ ((x.it.val.length : Nat) : Int) := by omega
      have tk : 0 ≤ x.it.cas ∧ x.it.cas < 18446744073709551616 := ⟨ok5, ok6⟩
      have hbw : ∀ n, jW n (bytesC t) = true := fun n => wfL_iff (bytesC_wf _ t)
      have hst' : x.st = 1 := by simpa using hst
      rw [if_pos hst'] at hsucc
      have hle := itTold_le (tokens := false) (a := x) ⟨ok1, ok2, ok3, ok4, ok5, ok6⟩
      have hJ1 : joinW ([b_value] ++ itW false x.it) = joinB b_value (itW false x.it) := join_B _ _
      have hT : joinB b_value (itW false x.it) ++ [13, 10] ++ x.it.val ++ [13, 10] = itTold false x.it := rfl
      obtain ⟨s, hs⟩ : ∃ s, itTold false x.it = s := ⟨_, rfl⟩
      rw [hs] at hT hsucc hle
      have jl : (joinB b_value (itW false x.it)).length + 4 + x.it.val.length = s.length := by rw [← hT]; simp; omega
      obtain ⟨J, hJJ⟩ : ∃ J, joinB b_value (itW false x.it) = J := ⟨_, rfl⟩
      rw [hJJ] at hJ1 hT jl
      simp only [b_value, itW, if_true, Bool.false_eq_true, if_false, List.cons_append, List.nil_append] at hJ1
      rcases hbx with hb1 | hb1 <;> rw [hb1] at hbx0 <;> subst hbx0
      · (refine VT_ok hctr (rs := res24) true 300 _ _ _ ?_; simp (maxSteps := 1000000) only [VT, jf, jg, jZ, ja, jd, je, VC, qA, qB, qC, qD, qE, qF, qG, qH, qI, qJ, qK, qL, qM, qN, qO, qP, qQ, qR, qS, qT, qU, qV, qW, qX, qY, qZ, qe, qf, qg, qh, qj, qk, ql, qm, qn, qo, qp, qq, qt, qu, qv, ev, qw, qy, qz, zA, zB, zC, zD, zE, zF, zG, zH, zI, zJ, TE.sv, zK, zL, zM, ↓reduceIte, reduceCtorEq, Value.oneCell', Nat.reduceEqDiff, Nat.reduceAdd, Nat.reduceLT, Nat.reduceBEq, Nat.reduceSub, Nat.reduceLeDiff, zP, zQ, zR, zS, zT, zU, zV, zW, zX, zY, zZ, za, zb, zc, zd, ze, zf, zg, zh, zi, zj, zk, zl, zm, zn, zo, zp, zq, zr, zt, zu, zw, zx, zy, zz, cE, jA, jB, hap, killE, deadOf, rwE, cD, cO, jC, jD, jE, jF, jG, jH, jI, jJ, jK, jL, jM, jN, jO, jP, jQ, jR, jS, jT, jU, jV, jW, jX, jY, hP, hk, res24, kp24, slV, enV, bldE, rwB, rwE, vwC, rowText, rowJoinR, strsOf, cond_true, cond_false, c1, p3, p0, p1, hrx, hst, hb1, Int.toNat_natCast])
        (refine Run_drawD hctr (by rw [hP]; rfl) rs24_7 [] (ensure_type_of% (Cmp.of (by simp (maxSteps := 1000000) only [VC, qA, qB, qC, qD, qE, qF, qG, qH, qI, qJ, qK, qL, qM, qN, qO, qP, qQ, qR, qS, qT, qU, qV, qW, qX, qY, qZ, qe, qf, qg, qh, qj, qk, ql, qm, qn, qo, qp, qq, qt, qu, qv, ev, qw, qy, qz, zA, zB, zC, zD, zE, zF, zG, zH, zI, zJ, TE.sv, zK, zL, zM, ↓reduceIte, reduceCtorEq, Value.oneCell', Nat.reduceEqDiff, Nat.reduceAdd, Nat.reduceLT, Nat.reduceBEq, Nat.reduceSub, Nat.reduceLeDiff, zP, zQ, zR, zS, zT, zU, zV, zW, zX, zY, zZ, za, zb, zc, zd, ze, zf, zg, zh, zi, zj, zk, zl, zm, zn, zo, zp, zq, zr, zt, zu, zw, zx, zy, zz, cE, jA, jB, hap, killE, deadOf, rwE, cD, cO, jC, jD, jE, jF, jG, jH, jI, jJ, jK, jL, jM, jN, jO, jP, jQ, jR, jS, jT, jU, jV, jW, jX, jY, hP, vwC, rowText, rowJoinR, strsOf, cond_true, cond_false, wf, wv, ok3, ok5, ok6, f64, v64, v0, Int.toNat_natCast, hb1, hbw, Nat.reduceMul, hJ1, hT, p3, c1]; rfl)) "" Cmp.mk) (by kernel_rfl) (by kernel_rfl) (by first | exact lenB_one _ | kernel_rfl) (by kernel_rfl) (by rfl) (by rfl) (by first | exact firstN_self _ | rfl) (by rfl) (by simp (maxSteps := 1000000) only [VC, qA, qB, qC, qD, qE, qF, qG, qH, qI, qJ, qK, qL, qM, qN, qO, qP, qQ, qR, qS, qT, qU, qV, qW, qX, qY, qZ, qe, qf, qg, qh, qj, qk, ql, qm, qn, qo, qp, qq, qt, qu, qv, ev, qw, qy, qz, zA, zB, zC, zD, zE, zF, zG, zH, zI, zJ, TE.sv, zK, zL, zM, ↓reduceIte, reduceCtorEq, Value.oneCell', Nat.reduceEqDiff, Nat.reduceAdd, Nat.reduceLT, Nat.reduceBEq, Nat.reduceSub, Nat.reduceLeDiff, zP, zQ, zR, zS, zT, zU, zV, zW, zX, zY, zZ, za, zb, zc, zd, ze, zf, zg, zh, zi, zj, zk, zl, zm, zn, zo, zp, zq, zr, zt, zu, zw, zx, zy, zz, cE, jA, jB, hap, killE, deadOf, rwE, cD, cO, jC, jD, jE, jF, jG, jH, jI, jJ, jK, jL, jM, jN, jO, jP, jQ, jR, jS, jT, jU, jV, jW, jX, jY, hP, vwC, rowText, rowJoinR, strsOf, cond_true, cond_false, wf, wv, ok3, ok5, ok6, f64, v64, v0, Int.toNat_natCast, hb1, hbw, Nat.reduceMul, hJ1, hT, p3, c1]) ?_; refine VT_ok hctr (rs := res24) true 300 _ _ _ ?_; simp (maxSteps := 1000000) only [VT, jf, jg, jZ, ja, jd, je, VC, qA, qB, qC, qD, qE, qF, qG, qH, qI, qJ, qK, qL, qM, qN, qO, qP, qQ, qR, qS, qT, qU, qV, qW, qX, qY, qZ, qe, qf, qg, qh, qj, qk, ql, qm, qn, qo, qp, qq, qt, qu, qv, ev, qw, qy, qz, zA, zB, zC, zD, zE, zF, zG, zH, zI, zJ, TE.sv, zK, zL, zM, ↓reduceIte, reduceCtorEq, Value.oneCell', Nat.reduceEqDiff, Nat.reduceAdd, Nat.reduceLT, Nat.reduceBEq, Nat.reduceSub, Nat.reduceLeDiff, zP, zQ, zR, zS, zT, zU, zV, zW, zX, zY, zZ, za, zb, zc, zd, ze, zf, zg, zh, zi, zj, zk, zl, zm, zn, zo, zp, zq, zr, zt, zu, zw, zx, zy, zz, cE, jA, jB, hap, killE, deadOf, rwE, cD, cO, jC, jD, jE, jF, jG, jH, jI, jJ, jK, jL, jM, jN, jO, jP, jQ, jR, jS, jT, jU, jV, jW, jX, jY, hP, hk, res24, kp24, vwC, rowText, rowJoinR, strsOf, cond_true, cond_false, wf, wv, ok3, ok5, ok6, f64, v64, v0, Int.toNat_natCast, hb1, hbw, Nat.reduceMul, hJ1, hT, p3, c1])
        (refine Run_drawE hctr (by rw [hP]; rfl) rs24_10 [hws t s] (ensure_type_of% (Cmp.of (by simp (maxSteps := 1000000) only [VC, qA, qB, qC, qD, qE, qF, qG, qH, qI, qJ, qK, qL, qM, qN, qO, qP, qQ, qR, qS, qT, qU, qV, qW, qX, qY, qZ, qe, qf, qg, qh, qj, qk, ql, qm, qn, qo, qp, qq, qt, qu, qv, ev, qw, qy, qz, zA, zB, zC, zD, zE, zF, zG, zH, zI, zJ, TE.sv, zK, zL, zM, ↓reduceIte, reduceCtorEq, Value.oneCell', Nat.reduceEqDiff, Nat.reduceAdd, Nat.reduceLT, Nat.reduceBEq, Nat.reduceSub, Nat.reduceLeDiff, zP, zQ, zR, zS, zT, zU, zV, zW, zX, zY, zZ, za, zb, zc, zd, ze, zf, zg, zh, zi, zj, zk, zl, zm, zn, zo, zp, zq, zr, zt, zu, zw, zx, zy, zz, cE, jA, jB, hap, killE, deadOf, rwE, cD, cO, jC, jD, jE, jF, jG, jH, jI, jJ, jK, jL, jM, jN, jO, jP, jQ, jR, jS, jT, jU, jV, jW, jX, jY, hP, vwC, rowText, rowJoinR, strsOf, cond_true, cond_false, wf, wv, ok3, ok5, ok6, f64, v64, v0, Int.toNat_natCast, hb1, hbw, Nat.reduceMul, hJ1, hT, p3, c1, hws, bldE, rwB, rwE, deadOf]; rfl)) "" Cmp.mk) (by kernel_rfl) (by kernel_rfl) (by first | exact lenB_one _ | kernel_rfl) (by kernel_rfl) (by rfl) (by rfl) (by first | exact firstN_self _ | rfl) (by rfl) ?_ ?_; rotate_left; refine VT_ok hctr (rs := res24) true 300 _ _ _ ?_; simp (maxSteps := 1000000) only [VT, jf, jg, jZ, ja, jd, je, VC, qA, qB, qC, qD, qE, qF, qG, qH, qI, qJ, qK, qL, qM, qN, qO, qP, qQ, qR, qS, qT, qU, qV, qW, qX, qY, qZ, qe, qf, qg, qh, qj, qk, ql, qm, qn, qo, qp, qq, qt, qu, qv, ev, qw, qy, qz, zA, zB, zC, zD, zE, zF, zG, zH, zI, zJ, TE.sv, zK, zL, zM, ↓reduceIte, reduceCtorEq, Value.oneCell', Nat.reduceEqDiff, Nat.reduceAdd, Nat.reduceLT, Nat.reduceBEq, Nat.reduceSub, Nat.reduceLeDiff, zP, zQ, zR, zS, zT, zU, zV, zW, zX, zY, zZ, za, zb, zc, zd, ze, zf, zg, zh, zi, zj, zk, zl, zm, zn, zo, zp, zq, zr, zt, zu, zw, zx, zy, zz, cE, jA, jB, hap, killE, deadOf, rwE, cD, cO, jC, jD, jE, jF, jG, jH, jI, jJ, jK, jL, jM, jN, jO, jP, jQ, jR, jS, jT, jU, jV, jW, jX, jY, hP, hk, res24, kp24, vwC, rowText, rowJoinR, strsOf, cond_true, cond_false, wf, wv, ok3, ok5, ok6, f64, v64, v0, Int.toNat_natCast, hb1, hbw, Nat.reduceMul, hJ1, hT, p3, c1, hws, bldE, rwB, rwE, deadOf]; rotate_left; simp (maxSteps := 1000000) only [VC, qA, qB, qC, qD, qE, qF, qG, qH, qI, qJ, qK, qL, qM, qN, qO, qP, qQ, qR, qS, qT, qU, qV, qW, qX, qY, qZ, qe, qf, qg, qh, qj, qk, ql, qm, qn, qo, qp, qq, qt, qu, qv, ev, qw, qy, qz, zA, zB, zC, zD, zE, zF, zG, zH, zI, zJ, TE.sv, zK, zL, zM, ↓reduceIte, reduceCtorEq, Value.oneCell', Nat.reduceEqDiff, Nat.reduceAdd, Nat.reduceLT, Nat.reduceBEq, Nat.reduceSub, Nat.reduceLeDiff, zP, zQ, zR, zS, zT, zU, zV, zW, zX, zY, zZ, za, zb, zc, zd, ze, zf, zg, zh, zi, zj, zk, zl, zm, zn, zo, zp, zq, zr, zt, zu, zw, zx, zy, zz, cE, jA, jB, hap, killE, deadOf, rwE, cD, cO, jC, jD, jE, jF, jG, jH, jI, jJ, jK, jL, jM, jN, jO, jP, jQ, jR, jS, jT, jU, jV, jW, jX, jY, hP, vwC, rowText, rowJoinR, strsOf, cond_true, cond_false, wf, wv, ok3, ok5, ok6, f64, v64, v0, Int.toNat_natCast, hb1, hbw, Nat.reduceMul, hJ1, hT, p3, c1, hws, bldE, rwB, rwE, deadOf])
        · refine ⟨by omega, by omega, by simp only [List.length_append, List.length_cons, List.length_nil]; omega, by simp only [List.length_append, List.length_cons, List.length_nil]; omega, ?_⟩
          exact ws_h (c := 0) (d := 1) (N := 5) (l := t) (s := s) hP (.inl rfl) rfl rfl (by omega) (by rw [dn, hn0]; exact Nat.zero_le _) (mkC_head (by simp)) rfl rfl rfl (fun q h1 h2 h3 => by match q with | 0 => exact absurd rfl h2 | 1 => exact absurd rfl h3 | 2 => exact rfl | 3 => exact rfl | 4 => exact rfl | 5 => exact absurd rfl h1 | _ + 6 => rfl)
        · have hJ' := hJ ⟨j + 1, by omega⟩ (slV (some ⟨b0, oo, none⟩) n c false (j + 1)) (by show n - (j + 1) < n - j; omega) (fun d v h => h)
          have hs0 : t ++ s ≠ [] := fun h => by
            have := congrArg List.length h
            simp only [List.length_append, List.length_nil] at this; omega
          rw [hsucc, enV, show bX (t ++ s) = .p 0 0 from if_neg hs0] at hJ'
          refine Run_keepN (f := fun c => if c = 1 then 5 else c) (enK := [bldE (.p 0 0) (.rw 1 (t ++ s).length), rwB (t ++ s)]) (slK := slV (some ⟨b0, oo, none⟩) n c false (j + 1)) ⟨fun q hq => absurd hq (by rw [dn, hn0]; exact Nat.not_lt_zero _), by rw [dn, hn0]; exact Nat.zero_le _⟩ (fun p q hp hq h => ?_) ?_ ?_ hJ'
          · have hp : p < 2 := hp
            have hq : q < 2 := hq
            have h : (if p = 1 then 5 else p) = (if q = 1 then 5 else q) := h
            split at h <;> split at h <;> omega
          · refine ⟨⟨_, rfl, fun ρ => rfl, ?_⟩, ⟨_, rfl, fun ρ => ?_, bytesC_wf _ _⟩, trivial⟩
            · intro y hy
              simp only [bldE, List.mem_cons, List.not_mem_nil, or_false] at hy
              rcases hy with rfl | rfl
              · exact Nat.zero_lt_two
              · exact Nat.one_lt_two
            · show dens _ (bytesC (t ++ s)) = dens ρ (bytesC (t ++ s))
              rw [bytesC_den, bytesC_den]
          · refine ⟨⟨?_, _, rfl, fun ρ => rfl⟩, ⟨?_, _, rfl, fun ρ => rfl⟩, ⟨?_, _, rfl, fun ρ => rfl⟩, ⟨?_, _, rfl, fun ρ => rfl⟩, ⟨?_, _, rfl, fun ρ => rfl⟩, ⟨?_, _, rfl, fun ρ => rfl⟩, trivial⟩
            all_goals simp [SV.wf, SC.wf]
      · (refine VT_ok hctr (rs := res24) true 300 _ _ _ ?_; simp (maxSteps := 1000000) only [VT, jf, jg, jZ, ja, jd, je, VC, qA, qB, qC, qD, qE, qF, qG, qH, qI, qJ, qK, qL, qM, qN, qO, qP, qQ, qR, qS, qT, qU, qV, qW, qX, qY, qZ, qe, qf, qg, qh, qj, qk, ql, qm, qn, qo, qp, qq, qt, qu, qv, ev, qw, qy, qz, zA, zB, zC, zD, zE, zF, zG, zH, zI, zJ, TE.sv, zK, zL, zM, ↓reduceIte, reduceCtorEq, Value.oneCell', Nat.reduceEqDiff, Nat.reduceAdd, Nat.reduceLT, Nat.reduceBEq, Nat.reduceSub, Nat.reduceLeDiff, zP, zQ, zR, zS, zT, zU, zV, zW, zX, zY, zZ, za, zb, zc, zd, ze, zf, zg, zh, zi, zj, zk, zl, zm, zn, zo, zp, zq, zr, zt, zu, zw, zx, zy, zz, cE, jA, jB, hap, killE, deadOf, rwE, cD, cO, jC, jD, jE, jF, jG, jH, jI, jJ, jK, jL, jM, jN, jO, jP, jQ, jR, jS, jT, jU, jV, jW, jX, jY, hP, hk, res24, kp24, slV, enV, bldE, rwB, rwE, vwC, rowText, rowJoinR, strsOf, cond_true, cond_false, c1, p3, p0, p1, hrx, hst, hb1, Int.toNat_natCast])
        (refine Run_drawD hctr (by rw [hP]; rfl) rs24_7 [] (ensure_type_of% (Cmp.of (by simp (maxSteps := 1000000) only [VC, qA, qB, qC, qD, qE, qF, qG, qH, qI, qJ, qK, qL, qM, qN, qO, qP, qQ, qR, qS, qT, qU, qV, qW, qX, qY, qZ, qe, qf, qg, qh, qj, qk, ql, qm, qn, qo, qp, qq, qt, qu, qv, ev, qw, qy, qz, zA, zB, zC, zD, zE, zF, zG, zH, zI, zJ, TE.sv, zK, zL, zM, ↓reduceIte, reduceCtorEq, Value.oneCell', Nat.reduceEqDiff, Nat.reduceAdd, Nat.reduceLT, Nat.reduceBEq, Nat.reduceSub, Nat.reduceLeDiff, zP, zQ, zR, zS, zT, zU, zV, zW, zX, zY, zZ, za, zb, zc, zd, ze, zf, zg, zh, zi, zj, zk, zl, zm, zn, zo, zp, zq, zr, zt, zu, zw, zx, zy, zz, cE, jA, jB, hap, killE, deadOf, rwE, cD, cO, jC, jD, jE, jF, jG, jH, jI, jJ, jK, jL, jM, jN, jO, jP, jQ, jR, jS, jT, jU, jV, jW, jX, jY, hP, vwC, rowText, rowJoinR, strsOf, cond_true, cond_false, wf, wv, ok3, ok5, ok6, f64, v64, v0, Int.toNat_natCast, hb1, hbw, Nat.reduceMul, hJ1, hT, p3, c1]; rfl)) "" Cmp.mk) (by kernel_rfl) (by kernel_rfl) (by first | exact lenB_one _ | kernel_rfl) (by kernel_rfl) (by rfl) (by rfl) (by first | exact firstN_self _ | rfl) (by rfl) (by simp (maxSteps := 1000000) only [VC, qA, qB, qC, qD, qE, qF, qG, qH, qI, qJ, qK, qL, qM, qN, qO, qP, qQ, qR, qS, qT, qU, qV, qW, qX, qY, qZ, qe, qf, qg, qh, qj, qk, ql, qm, qn, qo, qp, qq, qt, qu, qv, ev, qw, qy, qz, zA, zB, zC, zD, zE, zF, zG, zH, zI, zJ, TE.sv, zK, zL, zM, ↓reduceIte, reduceCtorEq, Value.oneCell', Nat.reduceEqDiff, Nat.reduceAdd, Nat.reduceLT, Nat.reduceBEq, Nat.reduceSub, Nat.reduceLeDiff, zP, zQ, zR, zS, zT, zU, zV, zW, zX, zY, zZ, za, zb, zc, zd, ze, zf, zg, zh, zi, zj, zk, zl, zm, zn, zo, zp, zq, zr, zt, zu, zw, zx, zy, zz, cE, jA, jB, hap, killE, deadOf, rwE, cD, cO, jC, jD, jE, jF, jG, jH, jI, jJ, jK, jL, jM, jN, jO, jP, jQ, jR, jS, jT, jU, jV, jW, jX, jY, hP, vwC, rowText, rowJoinR, strsOf, cond_true, cond_false, wf, wv, ok3, ok5, ok6, f64, v64, v0, Int.toNat_natCast, hb1, hbw, Nat.reduceMul, hJ1, hT, p3, c1]) ?_; refine VT_ok hctr (rs := res24) true 300 _ _ _ ?_; simp (maxSteps := 1000000) only [VT, jf, jg, jZ, ja, jd, je, VC, qA, qB, qC, qD, qE, qF, qG, qH, qI, qJ, qK, qL, qM, qN, qO, qP, qQ, qR, qS, qT, qU, qV, qW, qX, qY, qZ, qe, qf, qg, qh, qj, qk, ql, qm, qn, qo, qp, qq, qt, qu, qv, ev, qw, qy, qz, zA, zB, zC, zD, zE, zF, zG, zH, zI, zJ, TE.sv, zK, zL, zM, ↓reduceIte, reduceCtorEq, Value.oneCell', Nat.reduceEqDiff, Nat.reduceAdd, Nat.reduceLT, Nat.reduceBEq, Nat.reduceSub, Nat.reduceLeDiff, zP, zQ, zR, zS, zT, zU, zV, zW, zX, zY, zZ, za, zb, zc, zd, ze, zf, zg, zh, zi, zj, zk, zl, zm, zn, zo, zp, zq, zr, zt, zu, zw, zx, zy, zz, cE, jA, jB, hap, killE, deadOf, rwE, cD, cO, jC, jD, jE, jF, jG, jH, jI, jJ, jK, jL, jM, jN, jO, jP, jQ, jR, jS, jT, jU, jV, jW, jX, jY, hP, hk, res24, kp24, vwC, rowText, rowJoinR, strsOf, cond_true, cond_false, wf, wv, ok3, ok5, ok6, f64, v64, v0, Int.toNat_natCast, hb1, hbw, Nat.reduceMul, hJ1, hT, p3, c1])
        (refine Run_drawE hctr (by rw [hP]; rfl) rs24_10 [hws t s] (ensure_type_of% (Cmp.of (by simp (maxSteps := 1000000) only [VC, qA, qB, qC, qD, qE, qF, qG, qH, qI, qJ, qK, qL, qM, qN, qO, qP, qQ, qR, qS, qT, qU, qV, qW, qX, qY, qZ, qe, qf, qg, qh, qj, qk, ql, qm, qn, qo, qp, qq, qt, qu, qv, ev, qw, qy, qz, zA, zB, zC, zD, zE, zF, zG, zH, zI, zJ, TE.sv, zK, zL, zM, ↓reduceIte, reduceCtorEq, Value.oneCell', Nat.reduceEqDiff, Nat.reduceAdd, Nat.reduceLT, Nat.reduceBEq, Nat.reduceSub, Nat.reduceLeDiff, zP, zQ, zR, zS, zT, zU, zV, zW, zX, zY, zZ, za, zb, zc, zd, ze, zf, zg, zh, zi, zj, zk, zl, zm, zn, zo, zp, zq, zr, zt, zu, zw, zx, zy, zz, cE, jA, jB, hap, killE, deadOf, rwE, cD, cO, jC, jD, jE, jF, jG, jH, jI, jJ, jK, jL, jM, jN, jO, jP, jQ, jR, jS, jT, jU, jV, jW, jX, jY, hP, vwC, rowText, rowJoinR, strsOf, cond_true, cond_false, wf, wv, ok3, ok5, ok6, f64, v64, v0, Int.toNat_natCast, hb1, hbw, Nat.reduceMul, hJ1, hT, p3, c1, hws, bldE, rwB, rwE, deadOf]; rfl)) "" Cmp.mk) (by kernel_rfl) (by kernel_rfl) (by first | exact lenB_one _ | kernel_rfl) (by kernel_rfl) (by rfl) (by rfl) (by first | exact firstN_self _ | rfl) (by rfl) ?_ ?_; rotate_left; refine VT_ok hctr (rs := res24) true 300 _ _ _ ?_; simp (maxSteps := 1000000) only [VT, jf, jg, jZ, ja, jd, je, VC, qA, qB, qC, qD, qE, qF, qG, qH, qI, qJ, qK, qL, qM, qN, qO, qP, qQ, qR, qS, qT, qU, qV, qW, qX, qY, qZ, qe, qf, qg, qh, qj, qk, ql, qm, qn, qo, qp, qq, qt, qu, qv, ev, qw, qy, qz, zA, zB, zC, zD, zE, zF, zG, zH, zI, zJ, TE.sv, zK, zL, zM, ↓reduceIte, reduceCtorEq, Value.oneCell', Nat.reduceEqDiff, Nat.reduceAdd, Nat.reduceLT, Nat.reduceBEq, Nat.reduceSub, Nat.reduceLeDiff, zP, zQ, zR, zS, zT, zU, zV, zW, zX, zY, zZ, za, zb, zc, zd, ze, zf, zg, zh, zi, zj, zk, zl, zm, zn, zo, zp, zq, zr, zt, zu, zw, zx, zy, zz, cE, jA, jB, hap, killE, deadOf, rwE, cD, cO, jC, jD, jE, jF, jG, jH, jI, jJ, jK, jL, jM, jN, jO, jP, jQ, jR, jS, jT, jU, jV, jW, jX, jY, hP, hk, res24, kp24, vwC, rowText, rowJoinR, strsOf, cond_true, cond_false, wf, wv, ok3, ok5, ok6, f64, v64, v0, Int.toNat_natCast, hb1, hbw, Nat.reduceMul, hJ1, hT, p3, c1, hws, bldE, rwB, rwE, deadOf]; rotate_left; simp (maxSteps := 1000000) only [VC, qA, qB, qC, qD, qE, qF, qG, qH, qI, qJ, qK, qL, qM, qN, qO, qP, qQ, qR, qS, qT, qU, qV, qW, qX, qY, qZ, qe, qf, qg, qh, qj, qk, ql, qm, qn, qo, qp, qq, qt, qu, qv, ev, qw, qy, qz, zA, zB, zC, zD, zE, zF, zG, zH, zI, zJ, TE.sv, zK, zL, zM, ↓reduceIte, reduceCtorEq, Value.oneCell', Nat.reduceEqDiff, Nat.reduceAdd, Nat.reduceLT, Nat.reduceBEq, Nat.reduceSub, Nat.reduceLeDiff, zP, zQ, zR, zS, zT, zU, zV, zW, zX, zY, zZ, za, zb, zc, zd, ze, zf, zg, zh, zi, zj, zk, zl, zm, zn, zo, zp, zq, zr, zt, zu, zw, zx, zy, zz, cE, jA, jB, hap, killE, deadOf, rwE, cD, cO, jC, jD, jE, jF, jG, jH, jI, jJ, jK, jL, jM, jN, jO, jP, jQ, jR, jS, jT, jU, jV, jW, jX, jY, hP, vwC, rowText, rowJoinR, strsOf, cond_true, cond_false, wf, wv, ok3, ok5, ok6, f64, v64, v0, Int.toNat_natCast, hb1, hbw, Nat.reduceMul, hJ1, hT, p3, c1, hws, bldE, rwB, rwE, deadOf])
        · refine ⟨by omega, by omega, by simp only [List.length_append, List.length_cons, List.length_nil]; omega, by simp only [List.length_append, List.length_cons, List.length_nil]; omega, ?_⟩
          exact ws_h (c := 0) (d := 1) (N := 5) (l := t) (s := s) hP (.inr rfl) rfl rfl (by omega) (by rw [dn, hn0]; exact Nat.zero_le _) (mkC_head (by simp)) rfl rfl rfl (fun q h1 h2 h3 => by match q with | 0 => exact absurd rfl h2 | 1 => exact absurd rfl h3 | 2 => exact rfl | 3 => exact rfl | 4 => exact rfl | 5 => exact absurd rfl h1 | _ + 6 => rfl)
        · have hJ' := hJ ⟨j + 1, by omega⟩ (slV (some ⟨b0, oo, none⟩) n c false (j + 1)) (by show n - (j + 1) < n - j; omega) (fun d v h => h)
          have hs0 : t ++ s ≠ [] := fun h => by
            have := congrArg List.length h
            simp only [List.length_append, List.length_nil] at this; omega
          rw [hsucc, enV, show bX (t ++ s) = .p 0 0 from if_neg hs0] at hJ'
          refine Run_keepN (f := fun c => if c = 1 then 5 else c) (enK := [bldE (.p 0 0) (.rw 1 (t ++ s).length), rwB (t ++ s)]) (slK := slV (some ⟨b0, oo, none⟩) n c false (j + 1)) ⟨fun q hq => absurd hq (by rw [dn, hn0]; exact Nat.not_lt_zero _), by rw [dn, hn0]; exact Nat.zero_le _⟩ (fun p q hp hq h => ?_) ?_ ?_ hJ'
          · have hp : p < 2 := hp
            have hq : q < 2 := hq
            have h : (if p = 1 then 5 else p) = (if q = 1 then 5 else q) := h
            split at h <;> split at h <;> omega
          · refine ⟨⟨_, rfl, fun ρ => rfl, ?_⟩, ⟨_, rfl, fun ρ => ?_, bytesC_wf _ _⟩, trivial⟩
            · intro y hy
              simp only [bldE, List.mem_cons, List.not_mem_nil, or_false] at hy
              rcases hy with rfl | rfl
              · exact Nat.zero_lt_two
              · exact Nat.one_lt_two
            · show dens _ (bytesC (t ++ s)) = dens ρ (bytesC (t ++ s))
              rw [bytesC_den, bytesC_den]
          · refine ⟨⟨?_, _, rfl, fun ρ => rfl⟩, ⟨?_, _, rfl, fun ρ => rfl⟩, ⟨?_, _, rfl, fun ρ => rfl⟩, ⟨?_, _, rfl, fun ρ => rfl⟩, ⟨?_, _, rfl, fun ρ => rfl⟩, ⟨?_, _, rfl, fun ρ => rfl⟩, trivial⟩
            all_goals simp [SV.wf, SC.wf]
  · obtain rfl : j = n := by omega
    have c1 : decide ((j : Int) < ((j : Nat) : Int)) = false := decide_eq_false (by omega)
    (refine VT_ok hctr (rs := res24) true 300 _ _ _ ?_; simp (maxSteps := 1000000) only [VT, jf, jg, jZ, ja, jd, je, VC, qA, qB, qC, qD, qE, qF, qG, qH, qI, qJ, qK, qL, qM, qN, qO, qP, qQ, qR, qS, qT, qU, qV, qW, qX, qY, qZ, qe, qf, qg, qh, qj, qk, ql, qm, qn, qo, qp, qq, qt, qu, qv, ev, qw, qy, qz, zA, zB, zC, zD, zE, zF, zG, zH, zI, zJ, TE.sv, zK, zL, zM, ↓reduceIte, reduceCtorEq, Value.oneCell', Nat.reduceEqDiff, Nat.reduceAdd, Nat.reduceLT, Nat.reduceBEq, Nat.reduceSub, Nat.reduceLeDiff, zP, zQ, zR, zS, zT, zU, zV, zW, zX, zY, zZ, za, zb, zc, zd, ze, zf, zg, zh, zi, zj, zk, zl, zm, zn, zo, zp, zq, zr, zt, zu, zw, zx, zy, zz, cE, jA, jB, hap, killE, deadOf, rwE, cD, cO, jC, jD, jE, jF, jG, jH, jI, jJ, jK, jL, jM, jN, jO, jP, jQ, jR, jS, jT, jU, jV, jW, jX, jY, hP, hk, res24, kp24, slV, enV, bldE, rwB, rwE, vwC, rowText, rowJoinR, strsOf, cond_true, cond_false, c1])
    refine hX rfl rfl ?_
    have hP := hP0; have hk := hk0; have hctr := hctr0
    (refine VT_ok hctr (rs := res24) true 300 _ _ _ ?_; simp (maxSteps := 1000000) only [VT, jf, jg, jZ, ja, jd, je, VC, qA, qB, qC, qD, qE, qF, qG, qH, qI, qJ, qK, qL, qM, qN, qO, qP, qQ, qR, qS, qT, qU, qV, qW, qX, qY, qZ, qe, qf, qg, qh, qj, qk, ql, qm, qn, qo, qp, qq, qt, qu, qv, ev, qw, qy, qz, zA, zB, zC, zD, zE, zF, zG, zH, zI, zJ, TE.sv, zK, zL, zM, ↓reduceIte, reduceCtorEq, Value.oneCell', Nat.reduceEqDiff, Nat.reduceAdd, Nat.reduceLT, Nat.reduceBEq, Nat.reduceSub, Nat.reduceLeDiff, zP, zQ, zR, zS, zT, zU, zV, zW, zX, zY, zZ, za, zb, zc, zd, ze, zf, zg, zh, zi, zj, zk, zl, zm, zn, zo, zp, zq, zr, zt, zu, zw, zx, zy, zz, cE, jA, jB, hap, killE, deadOf, rwE, cD, cO, jC, jD, jE, jF, jG, jH, jI, jJ, jK, jL, jM, jN, jO, jP, jQ, jR, jS, jT, jU, jV, jW, jX, jY, hP, hk, res24, kp24, vwC, rowText, rowJoinR, strsOf, cond_true, cond_false])
    refine Run_hcall rfl (.t [.c (.i .i64 (b_end.length : Int)), .c (.v .nilIface)]) [bldE (.p 0 0) (.rw 2 (t ++ b_end).length), deadOf (rwB t), rwB (t ++ b_end)] (ws_h (c := 0) (d := 1) (N := 2) (l := t) (s := b_end) hP hbx rfl rfl (by simp [b_end]; omega) (by rw [hn0]; exact Nat.zero_le _) (mk_new rfl) rfl rfl rfl (fun q h1 h2 h3 => by match q with | 0 => exact absurd rfl h2 | 1 => exact absurd rfl h3 | 2 => exact absurd rfl h1 | _ + 3 => rfl)) (by simp [zG]) (by simp) ?_
    (refine VT_ok hctr (rs := res24) true 300 _ _ _ ?_; simp (maxSteps := 1000000) only [VT, jf, jg, jZ, ja, jd, je, VC, qA, qB, qC, qD, qE, qF, qG, qH, qI, qJ, qK, qL, qM, qN, qO, qP, qQ, qR, qS, qT, qU, qV, qW, qX, qY, qZ, qe, qf, qg, qh, qj, qk, ql, qm, qn, qo, qp, qq, qt, qu, qv, ev, qw, qy, qz, zA, zB, zC, zD, zE, zF, zG, zH, zI, zJ, TE.sv, zK, zL, zM, ↓reduceIte, reduceCtorEq, Value.oneCell', Nat.reduceEqDiff, Nat.reduceAdd, Nat.reduceLT, Nat.reduceBEq, Nat.reduceSub, Nat.reduceLeDiff, zP, zQ, zR, zS, zT, zU, zV, zW, zX, zY, zZ, za, zb, zc, zd, ze, zf, zg, zh, zi, zj, zk, zl, zm, zn, zo, zp, zq, zr, zt, zu, zw, zx, zy, zz, cE, jA, jB, hap, killE, deadOf, rwE, cD, cO, jC, jD, jE, jF, jG, jH, jI, jJ, jK, jL, jM, jN, jO, jP, jQ, jR, jS, jT, jU, jV, jW, jX, jY, hP, hk, res24, kp24, vwC, rowText, rowJoinR, strsOf, cond_true, cond_false, bldE, rwB, rwE, deadOf])
    refine Run_bstr (c := 0) (d := 2) (l := t ++ b_end) hP (by rw [hC]; rfl) hn0 rfl rfl rfl rfl (by simp) ?_
    (refine VT_ok hctr (rs := res24) true 300 _ _ _ ?_; simp (maxSteps := 1000000) only [VT, jf, jg, jZ, ja, jd, je, VC, qA, qB, qC, qD, qE, qF, qG, qH, qI, qJ, qK, qL, qM, qN, qO, qP, qQ, qR, qS, qT, qU, qV, qW, qX, qY, qZ, qe, qf, qg, qh, qj, qk, ql, qm, qn, qo, qp, qq, qt, qu, qv, ev, qw, qy, qz, zA, zB, zC, zD, zE, zF, zG, zH, zI, zJ, TE.sv, zK, zL, zM, ↓reduceIte, reduceCtorEq, Value.oneCell', Nat.reduceEqDiff, Nat.reduceAdd, Nat.reduceLT, Nat.reduceBEq, Nat.reduceSub, Nat.reduceLeDiff, zP, zQ, zR, zS, zT, zU, zV, zW, zX, zY, zZ, za, zb, zc, zd, ze, zf, zg, zh, zi, zj, zk, zl, zm, zn, zo, zp, zq, zr, zt, zu, zw, zx, zy, zz, cE, jA, jB, hap, killE, deadOf, rwE, cD, cO, jC, jD, jE, jF, jG, jH, jI, jJ, jK, jL, jM, jN, jO, jP, jQ, jR, jS, jT, jU, jV, jW, jX, jY, hP, hk, res24, kp24, vwC, rowText, rowJoinR, strsOf, cond_true, cond_false])
    have hval : valuesF false xs = t ++ b_end := by rw [values_tell, ← ht, List.take_of_length_le (by omega)]
    exact Fin_ro (v := .c (.s (valuesF false xs))) hC hres24 (by rw [hval]) trivial
theorem values_t {w : World} {a : Option Addr} {n c : Nat} {xs : List An} (hraw : RawA w a xs) (hn : xs.length = n) (hn1 : n ≤ 100000) (hok : ∀ x ∈ xs, AnOk x) (hE0 : Env w) :
    Calls Tryz.prog 24 #[.slice a n c, .bool true] w fun e w' => e = .returned (.string ⟨(valuesF true xs).toArray⟩) ∧ Below w.heap.size w w' := by
  refine calls_of_Run Tryz.func24 rfl kp24 (S := Non) (ρ := fun _ => reOf 0) (en := []) [.c (.v (.slice a n c)), .c (.b true)] Tryz.ntmps24 (At.nil _ _ _) (by simp [SV.wf, SC.wf]) (by simp) ?_
  intro C hC hP hk
  have hE : EnvC C := fun w' hu => by rw [hC] at hu; exact hE0.below hu.to_below
  have hctr := vwC_ok hP hE
  have hn0 : C.n0 = 0 := by rw [hC]; rfl
  have hr : ∀ (k : Nat) x, xs[k]? = some x → ∃ b o, a = some ⟨b, o, none⟩ ∧ C.rd b (o + k * 13) 13 = some (anSx x) := fun k x hx => hraw.rd (D := C) (by rw [hC]; rfl) (by rw [hC]; rfl) hx
  have htl : ∀ j, (tellF true (xs.take j)).length ≤ 120000000000 := fun j => by
    have := tellF_le (tokens := true) (l := xs.take j) fun x hx => hok x (List.mem_of_mem_take hx)
    have h2 : (xs.take j).length ≤ 100000 := by rw [List.length_take]; omega
    omega
  (refine VT_ok hctr (rs := res24) true 300 _ _ _ ?_; simp (maxSteps := 1000000) only [VT, jf, jg, jZ, ja, jd, je, VC, qA, qB, qC, qD, qE, qF, qG, qH, qI, qJ, qK, qL, qM, qN, qO, qP, qQ, qR, qS, qT, qU, qV, qW, qX, qY, qZ, qe, qf, qg, qh, qj, qk, ql, qm, qn, qo, qp, qq, qt, qu, qv, ev, qw, qy, qz, zA, zB, zC, zD, zE, zF, zG, zH, zI, zJ, TE.sv, zK, zL, zM, ↓reduceIte, reduceCtorEq, Value.oneCell', Nat.reduceEqDiff, Nat.reduceAdd, Nat.reduceLT, Nat.reduceBEq, Nat.reduceSub, Nat.reduceLeDiff, zP, zQ, zR, zS, zT, zU, zV, zW, zX, zY, zZ, za, zb, zc, zd, ze, zf, zg, zh, zi, zj, zk, zl, zm, zn, zo, zp, zq, zr, zt, zu, zw, zx, zy, zz, cE, jA, jB, hap, killE, deadOf, rwE, cD, cO, jC, jD, jE, jF, jG, jH, jI, jJ, jK, jL, jM, jN, jO, jP, jQ, jR, jS, jT, jU, jV, jW, jX, jY, hP, hk, res24, kp24, vwC, rowText, rowJoinR, strsOf, cond_true, cond_false])
  refine Run_nilrowG true (en' := [bldE (.v (.pointer none)) (.rw 1 0)]) (sl' := slV a n c true 0) (5, 0, rowP 1 0 0) rfl (fun _ => ⟨rfl, .inr ⟨rfl, rfl, rfl⟩⟩) (fun _ => u8d) ?_ ?_ ?_
  · refine ⟨⟨rfl, rfl, fun ρ h => ?_, ?_⟩, trivial⟩
    · have h : (ρ 1).nl = some none := h
      simp only [bldE, dens, List.map_cons, List.map_nil, SC.den, rwOf_off h]
    · intro y hy
      simp only [bldE, List.mem_cons, List.not_mem_nil, or_false] at hy
      rcases hy with rfl | rfl
      · trivial
      · show 1 < _; simp [zG]
  · refine ⟨⟨⟨_, rfl, fun ρ h => rfl⟩, ?_⟩, ⟨⟨_, rfl, fun ρ h => rfl⟩, ?_⟩, ⟨⟨_, rfl, fun ρ h => rfl⟩, ?_⟩, ⟨⟨_, rfl, fun ρ h => rfl⟩, ?_⟩, ⟨⟨_, rfl, fun ρ h => rfl⟩, ?_⟩, ⟨⟨_, rfl, fun ρ h => rfl⟩, ?_⟩, trivial⟩
    all_goals simp [SV.wf, SC.wf, zG]
  refine Run_loopP (ι := { j : Nat // j ≤ n }) (fun j => slV a n c true j.1) (fun j => enV (tellF true (xs.take j.1))) (fun j => n - j.1) ⟨0, Nat.zero_le _⟩ (sub_mk ⟨rfl, rfl, rfl, rfl, rfl, rfl, trivial⟩) rfl ?_
  rintro ⟨j, hj⟩ D dP dS dw dn dr dk ddf dPan dRet hX hJ
  have hP0 := hP; have hk0 := hk; have hctr0 := hctr
  have hP : D.P = Tryz.prog := by rw [dP]; exact hP0
  have hk : D.kp = kp24 := by rw [dk]; exact hk0
  have hctr : CtrOk D vwC := vwC_ok hP (by unfold EnvC; rw [dS, dw]; exact hE)
  show Run D _ _ (slV a n c true j) (enV (tellF true (xs.take j)))
  obtain ⟨t, ht⟩ : ∃ t, tellF true (xs.take j) = t := ⟨_, rfl⟩
  have htl0 := htl j
  rw [ht] at htl0 ⊢
  have hbx := bX_or t
  obtain ⟨bx, hbx0⟩ : ∃ bx, bX t = bx := ⟨_, rfl⟩
  by_cases hjn : j < n
  · obtain ⟨x, hx⟩ : ∃ x, xs[j]? = some x := ⟨_, List.getElem?_eq_getElem (by omega)⟩
    have c1 : decide ((j : Int) < ((n : Nat) : Int)) = true := decide_eq_true (by omega)
    have p3 : IntKind.i64.wrap ((j : Int) + 1) = ((j + 1 : Nat) : Int) := by rw [IntWalk.i64_in _ (by omega)]; rfl
    have p0 : (0 : Int) ≤ (j : Int) := by omega
    have p1 : (j : Int) < ((n : Nat) : Int) := by omega
    obtain ⟨b0, oo, ha, hrx⟩ := hr j x hx
    subst ha
    have hrx : D.rd b0 (oo + j * 13) 13 = some (anSx x) := by rw [show D.rd = C.rd by unfold Cx.rd; rw [dS, dw]]; exact hrx
    rw [anSx] at hrx
    have hsucc := tellF_succ (tokens := true) hx
    rw [ht] at hsucc
    obtain ⟨ok1, ok2, ok3, ok4, ok5, ok6⟩ := hok x (List.mem_of_getElem? hx)
    cases hst : (x.st != 1) with
    | true =>
      (refine VT_ok hctr (rs := res24) true 300 _ _ _ ?_; simp (maxSteps := 1000000) only [VT, jf, jg, jZ, ja, jd, je, VC, qA, qB, qC, qD, qE, qF, qG, qH, qI, qJ, qK, qL, qM, qN, qO, qP, qQ, qR, qS, qT, qU, qV, qW, qX, qY, qZ, qe, qf, qg, qh, qj, qk, ql, qm, qn, qo, qp, qq, qt, qu, qv, ev, qw, qy, qz, zA, zB, zC, zD, zE, zF, zG, zH, zI, zJ, TE.sv, zK, zL, zM, ↓reduceIte, reduceCtorEq, Value.oneCell', Nat.reduceEqDiff, Nat.reduceAdd, Nat.reduceLT, Nat.reduceBEq, Nat.reduceSub, Nat.reduceLeDiff, zP, zQ, zR, zS, zT, zU, zV, zW, zX, zY, zZ, za, zb, zc, zd, ze, zf, zg, zh, zi, zj, zk, zl, zm, zn, zo, zp, zq, zr, zt, zu, zw, zx, zy, zz, cE, jA, jB, hap, killE, deadOf, rwE, cD, cO, jC, jD, jE, jF, jG, jH, jI, jJ, jK, jL, jM, jN, jO, jP, jQ, jR, jS, jT, jU, jV, jW, jX, jY, hP, hk, res24, kp24, slV, enV, bldE, rwB, rwE, vwC, rowText, rowJoinR, strsOf, cond_true, cond_false, c1, p3, p0, p1, hrx, hst, hbx0, Int.toNat_natCast])
      have hst' : ¬ x.st = 1 := by simpa using hst
      rw [if_neg hst', List.append_nil] at hsucc
      have hJ' := hJ ⟨j + 1, by omega⟩ (slV (some ⟨b0, oo, none⟩) n c true (j + 1)) (by show n - (j + 1) < n - j; omega) (fun d v h => h)
      rw [hsucc, enV, hbx0] at hJ'
      refine Run_keepN (f := fun c => c) (enK := [bldE bx (.rw 1 t.length), rwB t]) (slK := slV (some ⟨b0, oo, none⟩) n c true (j + 1)) ⟨fun q hq => rfl, by rw [dn, hn0]; exact Nat.zero_le _⟩ (fun _ _ _ _ h => h) ?_ ?_ hJ'
      · refine ⟨⟨_, rfl, fun ρ => rfl, ?_⟩, ⟨_, rfl, fun ρ => rfl, bytesC_wf _ _⟩, trivial⟩
        intro y hy
        simp only [bldE, List.mem_cons, List.not_mem_nil, or_false] at hy
        rcases hy with rfl | rfl
        · rw [← hbx0]; rcases hbx with h | h <;> rw [h]
          · trivial
          · exact Nat.zero_lt_two
        · exact Nat.one_lt_two
      · refine ⟨⟨?_, _, rfl, fun ρ => rfl⟩, ⟨?_, _, rfl, fun ρ => rfl⟩, ⟨?_, _, rfl, fun ρ => rfl⟩, ⟨?_, _, rfl, fun ρ => rfl⟩, ⟨?_, _, rfl, fun ρ => rfl⟩, ⟨?_, _, rfl, fun ρ => rfl⟩, trivial⟩
        all_goals simp [SV.wf, SC.wf]
    | false =>
      have wf : IntKind.u64.wrap x.it.flags = x.it.flags := by rw [IntKind.wrap_u64]; omega
      have wv : IntKind.u64.wrap ((x.it.val.length : Nat) : Int) = ((x.it.val.length : Nat) : Int) := by rw [IntKind.wrap_u64]; omega
      have f64 : x.it.flags < 18446744073709551616 := by omega
      have v64 : ((x.it.val.length : Nat) : Int) < 18446744073709551616 := by omega
      have v0 : (0 : Int) ≤ ((x.it.val.length : Nat) : Int) := by omega
      have tk : 0 ≤ x.it.cas ∧ x.it.cas < 18446744073709551616 := ⟨ok5, ok6⟩
      have hbw : ∀ n, jW n (bytesC t) = true := fun n => wfL_iff (bytesC_wf _ t)
      have hst' : x.st = 1 := by simpa using hst
      rw [if_pos hst'] at hsucc
      have hle := itTold_le (tokens := true) (a := x) ⟨ok1, ok2, ok3, ok4, ok5, ok6⟩
      have hJ1 : joinW ([b_value] ++ itW true x.it) = joinB b_value (itW true x.it) := join_B _ _
      have hT : joinB b_value (itW true x.it) ++ [13, 10] ++ x.it.val ++ [13, 10] = itTold true x.it := rfl
      obtain ⟨s, hs⟩ : ∃ s, itTold true x.it = s := ⟨_, rfl⟩
      rw [hs] at hT hsucc hle
      have jl : (joinB b_value (itW true x.it)).length + 4 + x.it.val.length = s.length := by rw [← hT]; simp; omega
      obtain ⟨J, hJJ⟩ : ∃ J, joinB b_value (itW true x.it) = J := ⟨_, rfl⟩
      rw [hJJ] at hJ1 hT jl
      simp only [b_value, itW, if_true, Bool.false_eq_true, if_false, List.cons_append, List.nil_append] at hJ1
      rcases hbx with hb1 | hb1 <;> rw [hb1] at hbx0 <;> subst hbx0
      · (refine VT_ok hctr (rs := res24) true 300 _ _ _ ?_; simp (maxSteps := 1000000) only [VT, jf, jg, jZ, ja, jd, je, VC, qA, qB, qC, qD, qE, qF, qG, qH, qI, qJ, qK, qL, qM, qN, qO, qP, qQ, qR, qS, qT, qU, qV, qW, qX, qY, qZ, qe, qf, qg, qh, qj, qk, ql, qm, qn, qo, qp, qq, qt, qu, qv, ev, qw, qy, qz, zA, zB, zC, zD, zE, zF, zG, zH, zI, zJ, TE.sv, zK, zL, zM, ↓reduceIte, reduceCtorEq, Value.oneCell', Nat.reduceEqDiff, Nat.reduceAdd, Nat.reduceLT, Nat.reduceBEq, Nat.reduceSub, Nat.reduceLeDiff, zP, zQ, zR, zS, zT, zU, zV, zW, zX, zY, zZ, za, zb, zc, zd, ze, zf, zg, zh, zi, zj, zk, zl, zm, zn, zo, zp, zq, zr, zt, zu, zw, zx, zy, zz, cE, jA, jB, hap, killE, deadOf, rwE, cD, cO, jC, jD, jE, jF, jG, jH, jI, jJ, jK, jL, jM, jN, jO, jP, jQ, jR, jS, jT, jU, jV, jW, jX, jY, hP, hk, res24, kp24, slV, enV, bldE, rwB, rwE, vwC, rowText, rowJoinR, strsOf, cond_true, cond_false, c1, p3, p0, p1, hrx, hst, hb1, Int.toNat_natCast])
        (refine Run_drawD hctr (by rw [hP]; rfl) rs24_7 [] (ensure_type_of% (Cmp.of (by simp (maxSteps := 1000000) only [VC, qA, qB, qC, qD, qE, qF, qG, qH, qI, qJ, qK, qL, qM, qN, qO, qP, qQ, qR, qS, qT, qU, qV, qW, qX, qY, qZ, qe, qf, qg, qh, qj, qk, ql, qm, qn, qo, qp, qq, qt, qu, qv, ev, qw, qy, qz, zA, zB, zC, zD, zE, zF, zG, zH, zI, zJ, TE.sv, zK, zL, zM, ↓reduceIte, reduceCtorEq, Value.oneCell', Nat.reduceEqDiff, Nat.reduceAdd, Nat.reduceLT, Nat.reduceBEq, Nat.reduceSub, Nat.reduceLeDiff, zP, zQ, zR, zS, zT, zU, zV, zW, zX, zY, zZ, za, zb, zc, zd, ze, zf, zg, zh, zi, zj, zk, zl, zm, zn, zo, zp, zq, zr, zt, zu, zw, zx, zy, zz, cE, jA, jB, hap, killE, deadOf, rwE, cD, cO, jC, jD, jE, jF, jG, jH, jI, jJ, jK, jL, jM, jN, jO, jP, jQ, jR, jS, jT, jU, jV, jW, jX, jY, hP, vwC, rowText, rowJoinR, strsOf, cond_true, cond_false, wf, wv, ok3, ok5, ok6, f64, v64, v0, Int.toNat_natCast, hb1, hbw, Nat.reduceMul, hJ1, hT, p3, c1]; rfl)) "" Cmp.mk) (by kernel_rfl) (by kernel_rfl) (by first | exact lenB_one _ | kernel_rfl) (by kernel_rfl) (by rfl) (by rfl) (by first | exact firstN_self _ | rfl) (by rfl) (by simp (maxSteps := 1000000) only [VC, qA, qB, qC, qD, qE, qF, qG, qH, qI, qJ, qK, qL, qM, qN, qO, qP, qQ, qR, qS, qT, qU, qV, qW, qX, qY, qZ, qe, qf, qg, qh, qj, qk, ql, qm, qn, qo, qp, qq, qt, qu, qv, ev, qw, qy, qz, zA, zB, zC, zD, zE, zF, zG, zH, zI, zJ, TE.sv, zK, zL, zM, ↓reduceIte, reduceCtorEq, Value.oneCell', Nat.reduceEqDiff, Nat.reduceAdd, Nat.reduceLT, Nat.reduceBEq, Nat.reduceSub, Nat.reduceLeDiff, zP, zQ, zR, zS, zT, zU, zV, zW, zX, zY, zZ, za, zb, zc, zd, ze, zf, zg, zh, zi, zj, zk, zl, zm, zn, zo, zp, zq, zr, zt, zu, zw, zx, zy, zz, cE, jA, jB, hap, killE, deadOf, rwE, cD, cO, jC, jD, jE, jF, jG, jH, jI, jJ, jK, jL, jM, jN, jO, jP, jQ, jR, jS, jT, jU, jV, jW, jX, jY, hP, vwC, rowText, rowJoinR, strsOf, cond_true, cond_false, wf, wv, ok3, ok5, ok6, f64, v64, v0, Int.toNat_natCast, hb1, hbw, Nat.reduceMul, hJ1, hT, p3, c1]) ?_; refine VT_ok hctr (rs := res24) true 300 _ _ _ ?_; simp (maxSteps := 1000000) only [VT, jf, jg, jZ, ja, jd, je, VC, qA, qB, qC, qD, qE, qF, qG, qH, qI, qJ, qK, qL, qM, qN, qO, qP, qQ, qR, qS, qT, qU, qV, qW, qX, qY, qZ, qe, qf, qg, qh, qj, qk, ql, qm, qn, qo, qp, qq, qt, qu, qv, ev, qw, qy, qz, zA, zB, zC, zD, zE, zF, zG, zH, zI, zJ, TE.sv, zK, zL, zM, ↓reduceIte, reduceCtorEq, Value.oneCell', Nat.reduceEqDiff, Nat.reduceAdd, Nat.reduceLT, Nat.reduceBEq, Nat.reduceSub, Nat.reduceLeDiff, zP, zQ, zR, zS, zT, zU, zV, zW, zX, zY, zZ, za, zb, zc, zd, ze, zf, zg, zh, zi, zj, zk, zl, zm, zn, zo, zp, zq, zr, zt, zu, zw, zx, zy, zz, cE, jA, jB, hap, killE, deadOf, rwE, cD, cO, jC, jD, jE, jF, jG, jH, jI, jJ, jK, jL, jM, jN, jO, jP, jQ, jR, jS, jT, jU, jV, jW, jX, jY, hP, hk, res24, kp24, vwC, rowText, rowJoinR, strsOf, cond_true, cond_false, wf, wv, ok3, ok5, ok6, f64, v64, v0, Int.toNat_natCast, hb1, hbw, Nat.reduceMul, hJ1, hT, p3, c1])
        obtain ⟨i0, hi', hz0, hz1, hz2⟩ := info_parts infoStrJ
        refine append_op (t := 24) (e := 9) (z := 1) (n := 4) (m := 1) (bts := 16) (X := .sl 4 0 4 4) (Y := .sl 5 0 1 1) (cells := [.s [86, 65, 76, 85, 69], .s x.it.key, .s (Lib.decDigits x.it.flags.toNat), .s (Lib.decDigits x.it.val.length)]) (news := [.s (Lib.decDigits x.it.cas.toNat)]) (o := some 4) (by rw [hP]; exact Tryz.underlying24) (by rw [hP]; exact hi') hz0 hz1 hz2 rfl (by decide) (by show ¬ (9 : Nat) = DEAD; decide) (.lit rfl (by simp) (by unfold maxLen; omega) rfl) rfl rfl (src_sl (L := 1) rfl rfl) rfl rfl (fun pr => by intro y hy; simp only [List.mem_cons, List.not_mem_nil, or_false] at hy; subst hy; trivial) (by omega) (by omega) (by rw [dn, hn0]; exact Nat.zero_le _) rfl (by simp) ?_
        (refine VT_ok hctr (rs := res24) true 300 _ _ _ ?_; simp (maxSteps := 1000000) only [VT, jf, jg, jZ, ja, jd, je, VC, qA, qB, qC, qD, qE, qF, qG, qH, qI, qJ, qK, qL, qM, qN, qO, qP, qQ, qR, qS, qT, qU, qV, qW, qX, qY, qZ, qe, qf, qg, qh, qj, qk, ql, qm, qn, qo, qp, qq, qt, qu, qv, ev, qw, qy, qz, zA, zB, zC, zD, zE, zF, zG, zH, zI, zJ, TE.sv, zK, zL, zM, ↓reduceIte, reduceCtorEq, Value.oneCell', Nat.reduceEqDiff, Nat.reduceAdd, Nat.reduceLT, Nat.reduceBEq, Nat.reduceSub, Nat.reduceLeDiff, zP, zQ, zR, zS, zT, zU, zV, zW, zX, zY, zZ, za, zb, zc, zd, ze, zf, zg, zh, zi, zj, zk, zl, zm, zn, zo, zp, zq, zr, zt, zu, zw, zx, zy, zz, cE, jA, jB, hap, killE, deadOf, rwE, cD, cO, jC, jD, jE, jF, jG, jH, jI, jJ, jK, jL, jM, jN, jO, jP, jQ, jR, jS, jT, jU, jV, jW, jX, jY, hP, hk, res24, kp24, vwC, rowText, rowJoinR, strsOf, cond_true, cond_false, wf, wv, ok3, ok5, ok6, f64, v64, v0, Int.toNat_natCast, hb1, hbw, Nat.reduceMul, hJ1, hT, p3, c1, killE, deadOf, rwE, List.cons_append, List.nil_append])
        (refine Run_drawE hctr (by rw [hP]; rfl) rs24_10 [hws t s] (ensure_type_of% (Cmp.of (by simp (maxSteps := 1000000) only [VC, qA, qB, qC, qD, qE, qF, qG, qH, qI, qJ, qK, qL, qM, qN, qO, qP, qQ, qR, qS, qT, qU, qV, qW, qX, qY, qZ, qe, qf, qg, qh, qj, qk, ql, qm, qn, qo, qp, qq, qt, qu, qv, ev, qw, qy, qz, zA, zB, zC, zD, zE, zF, zG, zH, zI, zJ, TE.sv, zK, zL, zM, ↓reduceIte, reduceCtorEq, Value.oneCell', Nat.reduceEqDiff, Nat.reduceAdd, Nat.reduceLT, Nat.reduceBEq, Nat.reduceSub, Nat.reduceLeDiff, zP, zQ, zR, zS, zT, zU, zV, zW, zX, zY, zZ, za, zb, zc, zd, ze, zf, zg, zh, zi, zj, zk, zl, zm, zn, zo, zp, zq, zr, zt, zu, zw, zx, zy, zz, cE, jA, jB, hap, killE, deadOf, rwE, cD, cO, jC, jD, jE, jF, jG, jH, jI, jJ, jK, jL, jM, jN, jO, jP, jQ, jR, jS, jT, jU, jV, jW, jX, jY, hP, vwC, rowText, rowJoinR, strsOf, cond_true, cond_false, wf, wv, ok3, ok5, ok6, f64, v64, v0, Int.toNat_natCast, hb1, hbw, Nat.reduceMul, hJ1, hT, p3, c1, hws, bldE, rwB, rwE, deadOf]; rfl)) "" Cmp.mk) (by kernel_rfl) (by kernel_rfl) (by first | exact lenB_one _ | kernel_rfl) (by kernel_rfl) (by rfl) (by rfl) (by first | exact firstN_self _ | rfl) (by rfl) ?_ ?_; rotate_left; refine VT_ok hctr (rs := res24) true 300 _ _ _ ?_; simp (maxSteps := 1000000) only [VT, jf, jg, jZ, ja, jd, je, VC, qA, qB, qC, qD, qE, qF, qG, qH, qI, qJ, qK, qL, qM, qN, qO, qP, qQ, qR, qS, qT, qU, qV, qW, qX, qY, qZ, qe, qf, qg, qh, qj, qk, ql, qm, qn, qo, qp, qq, qt, qu, qv, ev, qw, qy, qz, zA, zB, zC, zD, zE, zF, zG, zH, zI, zJ, TE.sv, zK, zL, zM, ↓reduceIte, reduceCtorEq, Value.oneCell', Nat.reduceEqDiff, Nat.reduceAdd, Nat.reduceLT, Nat.reduceBEq, Nat.reduceSub, Nat.reduceLeDiff, zP, zQ, zR, zS, zT, zU, zV, zW, zX, zY, zZ, za, zb, zc, zd, ze, zf, zg, zh, zi, zj, zk, zl, zm, zn, zo, zp, zq, zr, zt, zu, zw, zx, zy, zz, cE, jA, jB, hap, killE, deadOf, rwE, cD, cO, jC, jD, jE, jF, jG, jH, jI, jJ, jK, jL, jM, jN, jO, jP, jQ, jR, jS, jT, jU, jV, jW, jX, jY, hP, hk, res24, kp24, vwC, rowText, rowJoinR, strsOf, cond_true, cond_false, wf, wv, ok3, ok5, ok6, f64, v64, v0, Int.toNat_natCast, hb1, hbw, Nat.reduceMul, hJ1, hT, p3, c1, hws, bldE, rwB, rwE, deadOf]; rotate_left; simp (maxSteps := 1000000) only [VC, qA, qB, qC, qD, qE, qF, qG, qH, qI, qJ, qK, qL, qM, qN, qO, qP, qQ, qR, qS, qT, qU, qV, qW, qX, qY, qZ, qe, qf, qg, qh, qj, qk, ql, qm, qn, qo, qp, qq, qt, qu, qv, ev, qw, qy, qz, zA, zB, zC, zD, zE, zF, zG, zH, zI, zJ, TE.sv, zK, zL, zM, ↓reduceIte, reduceCtorEq, Value.oneCell', Nat.reduceEqDiff, Nat.reduceAdd, Nat.reduceLT, Nat.reduceBEq, Nat.reduceSub, Nat.reduceLeDiff, zP, zQ, zR, zS, zT, zU, zV, zW, zX, zY, zZ, za, zb, zc, zd, ze, zf, zg, zh, zi, zj, zk, zl, zm, zn, zo, zp, zq, zr, zt, zu, zw, zx, zy, zz, cE, jA, jB, hap, killE, deadOf, rwE, cD, cO, jC, jD, jE, jF, jG, jH, jI, jJ, jK, jL, jM, jN, jO, jP, jQ, jR, jS, jT, jU, jV, jW, jX, jY, hP, vwC, rowText, rowJoinR, strsOf, cond_true, cond_false, wf, wv, ok3, ok5, ok6, f64, v64, v0, Int.toNat_natCast, hb1, hbw, Nat.reduceMul, hJ1, hT, p3, c1, hws, bldE, rwB, rwE, deadOf])
        · refine ⟨by omega, by omega, by simp only [List.length_append, List.length_cons, List.length_nil]; omega, by simp only [List.length_append, List.length_cons, List.length_nil]; omega, ?_⟩
          exact ws_h (c := 0) (d := 1) (N := 7) (l := t) (s := s) hP (.inl rfl) rfl rfl (by omega) (by rw [dn, hn0]; exact Nat.zero_le _) (mkC_head (by simp)) rfl rfl rfl (fun q h1 h2 h3 => by match q with | 0 => exact absurd rfl h2 | 1 => exact absurd rfl h3 | 2 => exact rfl | 3 => exact rfl | 4 => exact rfl | 5 => exact rfl | 6 => exact rfl | 7 => exact absurd rfl h1 | _ + 8 => rfl)
        · have hJ' := hJ ⟨j + 1, by omega⟩ (slV (some ⟨b0, oo, none⟩) n c true (j + 1)) (by show n - (j + 1) < n - j; omega) (fun d v h => h)
          have hs0 : t ++ s ≠ [] := fun h => by
            have := congrArg List.length h
            simp only [List.length_append, List.length_nil] at this; omega
          rw [hsucc, enV, show bX (t ++ s) = .p 0 0 from if_neg hs0] at hJ'
          refine Run_keepN (f := fun c => if c = 1 then 7 else c) (enK := [bldE (.p 0 0) (.rw 1 (t ++ s).length), rwB (t ++ s)]) (slK := slV (some ⟨b0, oo, none⟩) n c true (j + 1)) ⟨fun q hq => absurd hq (by rw [dn, hn0]; exact Nat.not_lt_zero _), by rw [dn, hn0]; exact Nat.zero_le _⟩ (fun p q hp hq h => ?_) ?_ ?_ hJ'
          · have hp : p < 2 := hp
            have hq : q < 2 := hq
            have h : (if p = 1 then 7 else p) = (if q = 1 then 7 else q) := h
            split at h <;> split at h <;> omega
          · refine ⟨⟨_, rfl, fun ρ => rfl, ?_⟩, ⟨_, rfl, fun ρ => ?_, bytesC_wf _ _⟩, trivial⟩
            · intro y hy
              simp only [bldE, List.mem_cons, List.not_mem_nil, or_false] at hy
              rcases hy with rfl | rfl
              · exact Nat.zero_lt_two
              · exact Nat.one_lt_two
            · show dens _ (bytesC (t ++ s)) = dens ρ (bytesC (t ++ s))
              rw [bytesC_den, bytesC_den]
          · refine ⟨⟨?_, _, rfl, fun ρ => rfl⟩, ⟨?_, _, rfl, fun ρ => rfl⟩, ⟨?_, _, rfl, fun ρ => rfl⟩, ⟨?_, _, rfl, fun ρ => rfl⟩, ⟨?_, _, rfl, fun ρ => rfl⟩, ⟨?_, _, rfl, fun ρ => rfl⟩, trivial⟩
            all_goals simp [SV.wf, SC.wf]
      · (refine VT_ok hctr (rs := res24) true 300 _ _ _ ?_; simp (maxSteps := 1000000) only [VT, jf, jg, jZ, ja, jd, je, VC, qA, qB, qC, qD, qE, qF, qG, qH, qI, qJ, qK, qL, qM, qN, qO, qP, qQ, qR, qS, qT, qU, qV, qW, qX, qY, qZ, qe, qf, qg, qh, qj, qk, ql, qm, qn, qo, qp, qq, qt, qu, qv, ev, qw, qy, qz, zA, zB, zC, zD, zE, zF, zG, zH, zI, zJ, TE.sv, zK, zL, zM, ↓reduceIte, reduceCtorEq, Value.oneCell', Nat.reduceEqDiff, Nat.reduceAdd, Nat.reduceLT, Nat.reduceBEq, Nat.reduceSub, Nat.reduceLeDiff, zP, zQ, zR, zS, zT, zU, zV, zW, zX, zY, zZ, za, zb, zc, zd, ze, zf, zg, zh, zi, zj, zk, zl, zm, zn, zo, zp, zq, zr, zt, zu, zw, zx, zy, zz, cE, jA, jB, hap, killE, deadOf, rwE, cD, cO, jC, jD, jE, jF, jG, jH, jI, jJ, jK, jL, jM, jN, jO, jP, jQ, jR, jS, jT, jU, jV, jW, jX, jY, hP, hk, res24, kp24, slV, enV, bldE, rwB, rwE, vwC, rowText, rowJoinR, strsOf, cond_true, cond_false, c1, p3, p0, p1, hrx, hst, hb1, Int.toNat_natCast])
        (refine Run_drawD hctr (by rw [hP]; rfl) rs24_7 [] (ensure_type_of% (Cmp.of (by simp (maxSteps := 1000000) only [VC, qA, qB, qC, qD, qE, qF, qG, qH, qI, qJ, qK, qL, qM, qN, qO, qP, qQ, qR, qS, qT, qU, qV, qW, qX, qY, qZ, qe, qf, qg, qh, qj, qk, ql, qm, qn, qo, qp, qq, qt, qu, qv, ev, qw, qy, qz, zA, zB, zC, zD, zE, zF, zG, zH, zI, zJ, TE.sv, zK, zL, zM, ↓reduceIte, reduceCtorEq, Value.oneCell', Nat.reduceEqDiff, Nat.reduceAdd, Nat.reduceLT, Nat.reduceBEq, Nat.reduceSub, Nat.reduceLeDiff, zP, zQ, zR, zS, zT, zU, zV, zW, zX, zY, zZ, za, zb, zc, zd, ze, zf, zg, zh, zi, zj, zk, zl, zm, zn, zo, zp, zq, zr, zt, zu, zw, zx, zy, zz, cE, jA, jB, hap, killE, deadOf, rwE, cD, cO, jC, jD, jE, jF, jG, jH, jI, jJ, jK, jL, jM, jN, jO, jP, jQ, jR, jS, jT, jU, jV, jW, jX, jY, hP, vwC, rowText, rowJoinR, strsOf, cond_true, cond_false, wf, wv, ok3, ok5, ok6, f64, v64, v0, Int.toNat_natCast, hb1, hbw, Nat.reduceMul, hJ1, hT, p3, c1]; rfl)) "" Cmp.mk) (by kernel_rfl) (by kernel_rfl) (by first | exact lenB_one _ | kernel_rfl) (by kernel_rfl) (by rfl) (by rfl) (by first | exact firstN_self _ | rfl) (by rfl) (by simp (maxSteps := 1000000) only [VC, qA, qB, qC, qD, qE, qF, qG, qH, qI, qJ, qK, qL, qM, qN, qO, qP, qQ, qR, qS, qT, qU, qV, qW, qX, qY, qZ, qe, qf, qg, qh, qj, qk, ql, qm, qn, qo, qp, qq, qt, qu, qv, ev, qw, qy, qz, zA, zB, zC, zD, zE, zF, zG, zH, zI, zJ, TE.sv, zK, zL, zM, ↓reduceIte, reduceCtorEq, Value.oneCell', Nat.reduceEqDiff, Nat.reduceAdd, Nat.reduceLT, Nat.reduceBEq, Nat.reduceSub, Nat.reduceLeDiff, zP, zQ, zR, zS, zT, zU, zV, zW, zX, zY, zZ, za, zb, zc, zd, ze, zf, zg, zh, zi, zj, zk, zl, zm, zn, zo, zp, zq, zr, zt, zu, zw, zx, zy, zz, cE, jA, jB, hap, killE, deadOf, rwE, cD, cO, jC, jD, jE, jF, jG, jH, jI, jJ, jK, jL, jM, jN, jO, jP, jQ, jR, jS, jT, jU, jV, jW, jX, jY, hP, vwC, rowText, rowJoinR, strsOf, cond_true, cond_false, wf, wv, ok3, ok5, ok6, f64, v64, v0, Int.toNat_natCast, hb1, hbw, Nat.reduceMul, hJ1, hT, p3, c1]) ?_; refine VT_ok hctr (rs := res24) true 300 _ _ _ ?_; simp (maxSteps := 1000000) only [VT, jf, jg, jZ, ja, jd, je, VC, qA, qB, qC, qD, qE, qF, qG, qH, qI, qJ, qK, qL, qM, qN, qO, qP, qQ, qR, qS, qT, qU, qV, qW, qX, qY, qZ, qe, qf, qg, qh, qj, qk, ql, qm, qn, qo, qp, qq, qt, qu, qv, ev, qw, qy, qz, zA, zB, zC, zD, zE, zF, zG, zH, zI, zJ, TE.sv, zK, zL, zM, ↓reduceIte, reduceCtorEq, Value.oneCell', Nat.reduceEqDiff, Nat.reduceAdd, Nat.reduceLT, Nat.reduceBEq, Nat.reduceSub, Nat.reduceLeDiff, zP, zQ, zR, zS, zT, zU, zV, zW, zX, zY, zZ, za, zb, zc, zd, ze, zf, zg, zh, zi, zj, zk, zl, zm, zn, zo, zp, zq, zr, zt, zu, zw, zx, zy, zz, cE, jA, jB, hap, killE, deadOf, rwE, cD, cO, jC, jD, jE, jF, jG, jH, jI, jJ, jK, jL, jM, jN, jO, jP, jQ, jR, jS, jT, jU, jV, jW, jX, jY, hP, hk, res24, kp24, vwC, rowText, rowJoinR, strsOf, cond_true, cond_false, wf, wv, ok3, ok5, ok6, f64, v64, v0, Int.toNat_natCast, hb1, hbw, Nat.reduceMul, hJ1, hT, p3, c1])
        obtain ⟨i0, hi', hz0, hz1, hz2⟩ := info_parts infoStrJ
        refine append_op (t := 24) (e := 9) (z := 1) (n := 4) (m := 1) (bts := 16) (X := .sl 4 0 4 4) (Y := .sl 5 0 1 1) (cells := [.s [86, 65, 76, 85, 69], .s x.it.key, .s (Lib.decDigits x.it.flags.toNat), .s (Lib.decDigits x.it.val.length)]) (news := [.s (Lib.decDigits x.it.cas.toNat)]) (o := some 4) (by rw [hP]; exact Tryz.underlying24) (by rw [hP]; exact hi') hz0 hz1 hz2 rfl (by decide) (by show ¬ (9 : Nat) = DEAD; decide) (.lit rfl (by simp) (by unfold maxLen; omega) rfl) rfl rfl (src_sl (L := 1) rfl rfl) rfl rfl (fun pr => by intro y hy; simp only [List.mem_cons, List.not_mem_nil, or_false] at hy; subst hy; trivial) (by omega) (by omega) (by rw [dn, hn0]; exact Nat.zero_le _) rfl (by simp) ?_
        (refine VT_ok hctr (rs := res24) true 300 _ _ _ ?_; simp (maxSteps := 1000000) only [VT, jf, jg, jZ, ja, jd, je, VC, qA, qB, qC, qD, qE, qF, qG, qH, qI, qJ, qK, qL, qM, qN, qO, qP, qQ, qR, qS, qT, qU, qV, qW, qX, qY, qZ, qe, qf, qg, qh, qj, qk, ql, qm, qn, qo, qp, qq, qt, qu, qv, ev, qw, qy, qz, zA, zB, zC, zD, zE, zF, zG, zH, zI, zJ, TE.sv, zK, zL, zM, ↓reduceIte, reduceCtorEq, Value.oneCell', Nat.reduceEqDiff, Nat.reduceAdd, Nat.reduceLT, Nat.reduceBEq, Nat.reduceSub, Nat.reduceLeDiff, zP, zQ, zR, zS, zT, zU, zV, zW, zX, zY, zZ, za, zb, zc, zd, ze, zf, zg, zh, zi, zj, zk, zl, zm, zn, zo, zp, zq, zr, zt, zu, zw, zx, zy, zz, cE, jA, jB, hap, killE, deadOf, rwE, cD, cO, jC, jD, jE, jF, jG, jH, jI, jJ, jK, jL, jM, jN, jO, jP, jQ, jR, jS, jT, jU, jV, jW, jX, jY, hP, hk, res24, kp24, vwC, rowText, rowJoinR, strsOf, cond_true, cond_false, wf, wv, ok3, ok5, ok6, f64, v64, v0, Int.toNat_natCast, hb1, hbw, Nat.reduceMul, hJ1, hT, p3, c1, killE, deadOf, rwE, List.cons_append, List.nil_append])
        (refine Run_drawE hctr (by rw [hP]; rfl) rs24_10 [hws t s] (ensure_type_of% (Cmp.of (by simp (maxSteps := 1000000) only [VC, qA, qB, qC, qD, qE, qF, qG, qH, qI, qJ, qK, qL, qM, qN, qO, qP, qQ, qR, qS, qT, qU, qV, qW, qX, qY, qZ, qe, qf, qg, qh, qj, qk, ql, qm, qn, qo, qp, qq, qt, qu, qv, ev, qw, qy, qz, zA, zB, zC, zD, zE, zF, zG, zH, zI, zJ, TE.sv, zK, zL, zM, ↓reduceIte, reduceCtorEq, Value.oneCell', Nat.reduceEqDiff, Nat.reduceAdd, Nat.reduceLT, Nat.reduceBEq, Nat.reduceSub, Nat.reduceLeDiff, zP, zQ, zR, zS, zT, zU, zV, zW, zX, zY, zZ, za, zb, zc, zd, ze, zf, zg, zh, zi, zj, zk, zl, zm, zn, zo, zp, zq, zr, zt, zu, zw, zx, zy, zz, cE, jA, jB, hap, killE, deadOf, rwE, cD, cO, jC, jD, jE, jF, jG, jH, jI, jJ, jK, jL, jM, jN, jO, jP, jQ, jR, jS, jT, jU, jV, jW, jX, jY, hP, vwC, rowText, rowJoinR, strsOf, cond_true, cond_false, wf, wv, ok3, ok5, ok6, f64, v64, v0, Int.toNat_natCast, hb1, hbw, Nat.reduceMul, hJ1, hT, p3, c1, hws, bldE, rwB, rwE, deadOf]; rfl)) "" Cmp.mk) (by kernel_rfl) (by kernel_rfl) (by first | exact lenB_one _ | kernel_rfl) (by kernel_rfl) (by rfl) (by rfl) (by first | exact firstN_self _ | rfl) (by rfl) ?_ ?_; rotate_left; refine VT_ok hctr (rs := res24) true 300 _ _ _ ?_; simp (maxSteps := 1000000) only [VT, jf, jg, jZ, ja, jd, je, VC, qA, qB, qC, qD, qE, qF, qG, qH, qI, qJ, qK, qL, qM, qN, qO, qP, qQ, qR, qS, qT, qU, qV, qW, qX, qY, qZ, qe, qf, qg, qh, qj, qk, ql, qm, qn, qo, qp, qq, qt, qu, qv, ev, qw, qy, qz, zA, zB, zC, zD, zE, zF, zG, zH, zI, zJ, TE.sv, zK, zL, zM, ↓reduceIte, reduceCtorEq, Value.oneCell', Nat.reduceEqDiff, Nat.reduceAdd, Nat.reduceLT, Nat.reduceBEq, Nat.reduceSub, Nat.reduceLeDiff, zP, zQ, zR, zS, zT, zU, zV, zW, zX, zY, zZ, za, zb, zc, zd, ze, zf, zg, zh, zi, zj, zk, zl, zm, zn, zo, zp, zq, zr, zt, zu, zw, zx, zy, zz, cE, jA, jB, hap, killE, deadOf, rwE, cD, cO, jC, jD, jE, jF, jG, jH, jI, jJ, jK, jL, jM, jN, jO, jP, jQ, jR, jS, jT, jU, jV, jW, jX, jY, hP, hk, res24, kp24, vwC, rowText, rowJoinR, strsOf, cond_true, cond_false, wf, wv, ok3, ok5, ok6, f64, v64, v0, Int.toNat_natCast, hb1, hbw, Nat.reduceMul, hJ1, hT, p3, c1, hws, bldE, rwB, rwE, deadOf]; rotate_left; simp (maxSteps := 1000000) only [VC, qA, qB, qC, qD, qE, qF, qG, qH, qI, qJ, qK, qL, qM, qN, qO, qP, qQ, qR, qS, qT, qU, qV, qW, qX, qY, qZ, qe, qf, qg, qh, qj, qk, ql, qm, qn, qo, qp, qq, qt, qu, qv, ev, qw, qy, qz, zA, zB, zC, zD, zE, zF, zG, zH, zI, zJ, TE.sv, zK, zL, zM, ↓reduceIte, reduceCtorEq, Value.oneCell', Nat.reduceEqDiff, Nat.reduceAdd, Nat.reduceLT, Nat.reduceBEq, Nat.reduceSub, Nat.reduceLeDiff, zP, zQ, zR, zS, zT, zU, zV, zW, zX, zY, zZ, za, zb, zc, zd, ze, zf, zg, zh, zi, zj, zk, zl, zm, zn, zo, zp, zq, zr, zt, zu, zw, zx, zy, zz, cE, jA, jB, hap, killE, deadOf, rwE, cD, cO, jC, jD, jE, jF, jG, jH, jI, jJ, jK, jL, jM, jN, jO, jP, jQ, jR, jS, jT, jU, jV, jW, jX, jY, hP, vwC, rowText, rowJoinR, strsOf, cond_true, cond_false, wf, wv, ok3, ok5, ok6, f64, v64, v0, Int.toNat_natCast, hb1, hbw, Nat.reduceMul, hJ1, hT, p3, c1, hws, bldE, rwB, rwE, deadOf])
        · refine ⟨by omega, by omega, by simp only [List.length_append, List.length_cons, List.length_nil]; omega, by simp only [List.length_append, List.length_cons, List.length_nil]; omega, ?_⟩
          exact ws_h (c := 0) (d := 1) (N := 7) (l := t) (s := s) hP (.inr rfl) rfl rfl (by omega) (by rw [dn, hn0]; exact Nat.zero_le _) (mkC_head (by simp)) rfl rfl rfl (fun q h1 h2 h3 => by match q with | 0 => exact absurd rfl h2 | 1 => exact absurd rfl h3 | 2 => exact rfl | 3 => exact rfl | 4 => exact rfl | 5 => exact rfl | 6 => exact rfl | 7 => exact absurd rfl h1 | _ + 8 => rfl)
        · have hJ' := hJ ⟨j + 1, by omega⟩ (slV (some ⟨b0, oo, none⟩) n c true (j + 1)) (by show n - (j + 1) < n - j; omega) (fun d v h => h)
          have hs0 : t ++ s ≠ [] := fun h => by
            have := congrArg List.length h
            simp only [List.length_append, List.length_nil] at this; omega
          rw [hsucc, enV, show bX (t ++ s) = .p 0 0 from if_neg hs0] at hJ'
          refine Run_keepN (f := fun c => if c = 1 then 7 else c) (enK := [bldE (.p 0 0) (.rw 1 (t ++ s).length), rwB (t ++ s)]) (slK := slV (some ⟨b0, oo, none⟩) n c true (j + 1)) ⟨fun q hq => absurd hq (by rw [dn, hn0]; exact Nat.not_lt_zero _), by rw [dn, hn0]; exact Nat.zero_le _⟩ (fun p q hp hq h => ?_) ?_ ?_ hJ'
          · have hp : p < 2 := hp
            have hq : q < 2 := hq
            have h : (if p = 1 then 7 else p) = (if q = 1 then 7 else q) := h
            split at h <;> split at h <;> omega
          · refine ⟨⟨_, rfl, fun ρ => rfl, ?_⟩, ⟨_, rfl, fun ρ => ?_, bytesC_wf _ _⟩, trivial⟩
            · intro y hy
              simp only [bldE, List.mem_cons, List.not_mem_nil, or_false] at hy
              rcases hy with rfl | rfl
              · exact Nat.zero_lt_two
              · exact Nat.one_lt_two
            · show dens _ (bytesC (t ++ s)) = dens ρ (bytesC (t ++ s))
              rw [bytesC_den, bytesC_den]
          · refine ⟨⟨?_, _, rfl, fun ρ => rfl⟩, ⟨?_, _, rfl, fun ρ => rfl⟩, ⟨?_, _, rfl, fun ρ => rfl⟩, ⟨?_, _, rfl, fun ρ => rfl⟩, ⟨?_, _, rfl, fun ρ => rfl⟩, ⟨?_, _, rfl, fun ρ => rfl⟩, trivial⟩
            all_goals simp [SV.wf, SC.wf]
  · obtain rfl : j = n := by omega
    have c1 : decide ((j : Int) < ((j : Nat) : Int)) = false := decide_eq_false (by omega)
    (refine VT_ok hctr (rs := res24) true 300 _ _ _ ?_; simp (maxSteps := 1000000) only [VT, jf, jg, jZ, ja, jd, je, VC, qA, qB, qC, qD, qE, qF, qG, qH, qI, qJ, qK, qL, qM, qN, qO, qP, qQ, qR, qS, qT, qU, qV, qW, qX, qY, qZ, qe, qf, qg, qh, qj, qk, ql, qm, qn, qo, qp, qq, qt, qu, qv, ev, qw, qy, qz, zA, zB, zC, zD, zE, zF, zG, zH, zI, zJ, TE.sv, zK, zL, zM, ↓reduceIte, reduceCtorEq, Value.oneCell', Nat.reduceEqDiff, Nat.reduceAdd, Nat.reduceLT, Nat.reduceBEq, Nat.reduceSub, Nat.reduceLeDiff, zP, zQ, zR, zS, zT, zU, zV, zW, zX, zY, zZ, za, zb, zc, zd, ze, zf, zg, zh, zi, zj, zk, zl, zm, zn, zo, zp, zq, zr, zt, zu, zw, zx, zy, zz, cE, jA, jB, hap, killE, deadOf, rwE, cD, cO, jC, jD, jE, jF, jG, jH, jI, jJ, jK, jL, jM, jN, jO, jP, jQ, jR, jS, jT, jU, jV, jW, jX, jY, hP, hk, res24, kp24, slV, enV, bldE, rwB, rwE, vwC, rowText, rowJoinR, strsOf, cond_true, cond_false, c1])
    refine hX rfl rfl ?_
    have hP := hP0; have hk := hk0; have hctr := hctr0
    (refine VT_ok hctr (rs := res24) true 300 _ _ _ ?_; simp (maxSteps := 1000000) only [VT, jf, jg, jZ, ja, jd, je, VC, qA, qB, qC, qD, qE, qF, qG, qH, qI, qJ, qK, qL, qM, qN, qO, qP, qQ, qR, qS, qT, qU, qV, qW, qX, qY, qZ, qe, qf, qg, qh, qj, qk, ql, qm, qn, qo, qp, qq, qt, qu, qv, ev, qw, qy, qz, zA, zB, zC, zD, zE, zF, zG, zH, zI, zJ, TE.sv, zK, zL, zM, ↓reduceIte, reduceCtorEq, Value.oneCell', Nat.reduceEqDiff, Nat.reduceAdd, Nat.reduceLT, Nat.reduceBEq, Nat.reduceSub, Nat.reduceLeDiff, zP, zQ, zR, zS, zT, zU, zV, zW, zX, zY, zZ, za, zb, zc, zd, ze, zf, zg, zh, zi, zj, zk, zl, zm, zn, zo, zp, zq, zr, zt, zu, zw, zx, zy, zz, cE, jA, jB, hap, killE, deadOf, rwE, cD, cO, jC, jD, jE, jF, jG, jH, jI, jJ, jK, jL, jM, jN, jO, jP, jQ, jR, jS, jT, jU, jV, jW, jX, jY, hP, hk, res24, kp24, vwC, rowText, rowJoinR, strsOf, cond_true, cond_false])
    refine Run_hcall rfl (.t [.c (.i .i64 (b_end.length : Int)), .c (.v .nilIface)]) [bldE (.p 0 0) (.rw 2 (t ++ b_end).length), deadOf (rwB t), rwB (t ++ b_end)] (ws_h (c := 0) (d := 1) (N := 2) (l := t) (s := b_end) hP hbx rfl rfl (by simp [b_end]; omega) (by rw [hn0]; exact Nat.zero_le _) (mk_new rfl) rfl rfl rfl (fun q h1 h2 h3 => by match q with | 0 => exact absurd rfl h2 | 1 => exact absurd rfl h3 | 2 => exact absurd rfl h1 | _ + 3 => rfl)) (by simp [zG]) (by simp) ?_
    (refine VT_ok hctr (rs := res24) true 300 _ _ _ ?_; simp (maxSteps := 1000000) only [VT, jf, jg, jZ, ja, jd, je, VC, qA, qB, qC, qD, qE, qF, qG, qH, qI, qJ, qK, qL, qM, qN, qO, qP, qQ, qR, qS, qT, qU, qV, qW, qX, qY, qZ, qe, qf, qg, qh, qj, qk, ql, qm, qn, qo, qp, qq, qt, qu, qv, ev, qw, qy, qz, zA, zB, zC, zD, zE, zF, zG, zH, zI, zJ, TE.sv, zK, zL, zM, ↓reduceIte, reduceCtorEq, Value.oneCell', Nat.reduceEqDiff, Nat.reduceAdd, Nat.reduceLT, Nat.reduceBEq, Nat.reduceSub, Nat.reduceLeDiff, zP, zQ, zR, zS, zT, zU, zV, zW, zX, zY, zZ, za, zb, zc, zd, ze, zf, zg, zh, zi, zj, zk, zl, zm, zn, zo, zp, zq, zr, zt, zu, zw, zx, zy, zz, cE, jA, jB, hap, killE, deadOf, rwE, cD, cO, jC, jD, jE, jF, jG, jH, jI, jJ, jK, jL, jM, jN, jO, jP, jQ, jR, jS, jT, jU, jV, jW, jX, jY, hP, hk, res24, kp24, vwC, rowText, rowJoinR, strsOf, cond_true, cond_false, bldE, rwB, rwE, deadOf])
    refine Run_bstr (c := 0) (d := 2) (l := t ++ b_end) hP (by rw [hC]; rfl) hn0 rfl rfl rfl rfl (by simp) ?_
    (refine VT_ok hctr (rs := res24) true 300 _ _ _ ?_; simp (maxSteps := 1000000) only [VT, jf, jg, jZ, ja, jd, je, VC, qA, qB, qC, qD, qE, qF, qG, qH, qI, qJ, qK, qL, qM, qN, qO, qP, qQ, qR, qS, qT, qU, qV, qW, qX, qY, qZ, qe, qf, qg, qh, qj, qk, ql, qm, qn, qo, qp, qq, qt, qu, qv, ev, qw, qy, qz, zA, zB, zC, zD, zE, zF, zG, zH, zI, zJ, TE.sv, zK, zL, zM, ↓reduceIte, reduceCtorEq, Value.oneCell', Nat.reduceEqDiff, Nat.reduceAdd, Nat.reduceLT, Nat.reduceBEq, Nat.reduceSub, Nat.reduceLeDiff, zP, zQ, zR, zS, zT, zU, zV, zW, zX, zY, zZ, za, zb, zc, zd, ze, zf, zg, zh, zi, zj, zk, zl, zm, zn, zo, zp, zq, zr, zt, zu, zw, zx, zy, zz, cE, jA, jB, hap, killE, deadOf, rwE, cD, cO, jC, jD, jE, jF, jG, jH, jI, jJ, jK, jL, jM, jN, jO, jP, jQ, jR, jS, jT, jU, jV, jW, jX, jY, hP, hk, res24, kp24, vwC, rowText, rowJoinR, strsOf, cond_true, cond_false])
    have hval : valuesF true xs = t ++ b_end := by rw [values_tell, ← ht, List.take_of_length_le (by omega)]
    exact Fin_ro (v := .c (.s (valuesF true xs))) hC hres24 (by rw [hval]) trivial
end Go.Proofs.YtlbbldcfkalhlaaGreatDoor
