/- The document's read, walked. Printed by gen_edoc10.py. -/
import Derived.Test.YtlaagebdbcmckaaGreatDoorCEdoc9
import Derived.Test.YtlaagebdbcmckaaGreatDoorCEdoc2
import Derived.Test.YtlaagebdbcmckaaGreatDoorCSxRow0
import Derived.Test.YtlaagebdbcmckaaGreatDoorCEsame
namespace Go.Proofs.YtlaagebdbcmckaaGreatDoor
set_option linter.unusedSimpArgs false
set_option linter.unusedVariables false
set_option linter.unusedSimpArgs false
set_option linter.unusedVariables false
set_option maxHeartbeats 8000000
open Go.RowKit
set_option maxRecDepth 100000
def rowKeyD : List SV → Option (Prop × SV)
  | [.c (.s l)] => some (l.length ≤ 9223372036854775806, .c (.b (keyB l)))
  | _ => none
def rowDecD : List SV → Option (Prop × SV)
  | [.c (.s l)] => some (l.length ≤ 100000000, .t [.c (.s (refV l).1), .c (.b (refV l).2)])
  | _ => none
def rowOpD : List SV → Option (Prop × SV)
  | [.c (.s l)] => some (True, .c (.i .i64 (opD l)))
  | _ => none
def dR0 : Ctr := fun f _ xs => match f with
  | 53 => rowKeyD xs
  | 52 => rowDecD xs
  | 49 => rowOpD xs
  | 23 => rowBadD xs
  | 48 => rowParse xs
  | _ => none
theorem dR0_ok {C : Cx} (hP : C.P = Tryz.prog) : CtrOk C dR0 := by
  intro f en xs p v h hp ρ w hup hHp hHo hinj hwf
  unfold dR0 at h
  split at h
  · rw [hP]
    refine ⟨fun args w => Tryz.call53 args w, ?_⟩
    unfold rowKeyD at h
    split at h <;> simp only [Option.some.injEq, Prod.mk.injEq, reduceCtorEq] at h
    obtain ⟨rfl, rfl⟩ := h
    exact ⟨trivial, dkey_w _ hp w⟩
  · rw [hP]
    refine ⟨fun args w => Tryz.call52 args w, ?_⟩
    unfold rowDecD at h
    split at h <;> simp only [Option.some.injEq, Prod.mk.injEq, reduceCtorEq] at h
    obtain ⟨rfl, rfl⟩ := h
    exact ⟨by simp [SV.wf, TE.wf, SC.wf], ddecode_w _ hp w⟩
  · rw [hP]
    refine ⟨fun args w => Tryz.call49 args w, ?_⟩
    unfold rowOpD at h
    split at h <;> simp only [Option.some.injEq, Prod.mk.injEq, reduceCtorEq] at h
    obtain ⟨rfl, rfl⟩ := h
    exact ⟨trivial, dop_w _ w⟩
  · rw [hP]
    refine ⟨fun args w => Tryz.call23 args w, ?_⟩
    unfold rowBadD at h
    split at h <;> simp only [Option.some.injEq, Prod.mk.injEq, reduceCtorEq] at h
    obtain ⟨rfl, rfl⟩ := h
    exact ⟨by simp [SV.wf, wfs, SC.wf, mqS, noS], dbad_w _ w ρ⟩
  · rw [hP]
    refine ⟨fun args w => Tryz.call48 args w, ?_⟩
    unfold rowParse at h
    split at h <;> simp only [Option.some.injEq, Prod.mk.injEq, reduceCtorEq] at h
    obtain ⟨rfl, rfl⟩ := h
    refine ⟨by simp [SV.wf, TE.wf, SC.wf], (rparse _ hp w).mono ?_⟩
    rintro e w' ⟨rfl, rfl⟩
    exact ⟨rfl, Below.refl _ _⟩
  · cases h
theorem flags_h {C : Cx} {nE : Nat} {mk : Nat → Prop} {en en' : List EN} {N : Nat} {c : Cd} {name : List UInt8} {ws : List (List UInt8)} {fl : SC} (hP : C.P = Tryz.prog) (hE : EnvC C) (h0 : zD en N = some (enC c true)) (hN : N < nE) (hmk : ∀ q, ¬ mk q)
    (hl : ∀ x ∈ ws, x ≠ [] ∧ x.length ≤ 1000000000) (hlen : ws.length ≤ 1000000000)
    (H : ∀ ρ pr w, Hw C ρ pr en w → fl.wf pr → pr N → ∃ a cap, fl.den ρ = .slice a ws.length cap ∧ RawS w (ρ N).blk a ws)
    (hen : en' = zE en N (enC (allD (kindM name).2 ws c []).1 true)) : HCall C nE mk en en' 50 [.c (.s name), .c fl, .c (.p N 0)] (.c (.s (allD (kindM name).2 ws c []).2)) := by
  subst hen
  refine ⟨fun args w => by rw [hP]; exact Tryz.call50 args w, ?_⟩
  intro ρ pr w hpr hmn hw hex hwf
  rw [hP]
  have hNp := hpr N hN
  obtain ⟨k1, k2, k3, k4, k5⟩ := ent_blk hw.hp hw.ho hNp h0 (by decide) (by simp [ecS])
  have hmu := hw.mu N _ _ hNp h0
  have hpl : ∀ c, pr c → c < en.length := by
    intro q hq
    refine Decidable.byContradiction fun hd => hex q hq ?_
    rw [nthS_eq, List.getElem?_eq_none (by omega)]
  have hup : ∀ w', Upd (One (ρ N).blk) w w' → Env w' := fun w' hu => hE w' (hw.up.trans hu fun q hq (hs : q = (ρ N).blk) => by
    rcases hmu with h | h
    · rw [hs]; exact h
    · omega)
  obtain ⟨a, cap, hfl, hraw⟩ := H ρ pr w hw (hwf (.c fl) (by simp)) hNp
  have hc := dflags_w k1 name (cap := cap) rfl hraw hl hlen (hE w hw.up) hup
  have hfl' : (SV.c fl).den ρ = .slice a ws.length cap := hfl
  simp only [List.map_cons, List.map_nil, hfl']
  simp only [SV.den, SC.den, k2]
  refine hc.mono ?_
  rintro e w' ⟨rfl, hU, hb⟩
  refine ⟨ρ, fun _ _ => rfl, rfl, trivial, ?_, fun q hq => absurd hq (hmk q)⟩
  have := hw.turn hpl hNp h0 (by show ¬ (33 : Nat) = DEAD; decide) k5 hU (cells' := ecS (allD (kindM name).2 ws c []).1) (by rw [k3, k4]; simpa [Blk, dens_ec] using hb) (by
    intro x hx
    simp only [ecS, List.mem_cons, List.not_mem_nil, or_false] at hx
    rcases hx with rfl | rfl | rfl | rfl | rfl | rfl | rfl | rfl | rfl | rfl | rfl | rfl | rfl | rfl | rfl | rfl <;> trivial)
  exact this.iff fun q => ⟨fun h => h.resolve_right (hmk q), Or.inl⟩
def rowFlagD (F : List (List UInt8)) (en : List EN) : List SV → Option (Prop × SV)
  | [.g xs, .c (.i .u8 x)] => some (∃ (r : Mq) (cv : SC) (M : Nat), xs = mqS cv (.rw M F.length) r ∧ (cv = noS ∨ ∃ N n m, cv = .sl N 0 n m) ∧ zD en M = some (rwE 9 1 F.length (F.map SC.s)) ∧ F.length ≤ 5000 ∧ 0 ≤ x ∧ x < 256, .c (.b (anyF F (UInt8.ofNat x.toNat))))
  | _ => none
theorem rowFlagD_ok {F : List (List UInt8)} {ρ : Nat → RE} {en : List EN} {w : World} {xs : List SV} {p : Prop} {v : SV} (h : rowFlagD F en xs = some (p, v)) (hp : p) (hHp : Hp ρ (· < en.length) en w) (hHo : Ho ρ (· < en.length) en) :
    v.wf (· < en.length) ∧ Calls Tryz.prog 51 (xs.map (SV.den ρ)).toArray w fun e w' => e = .returned (v.den ρ) ∧ Below w.heap.size w w' := by
  unfold rowFlagD at h
  split at h <;> simp only [Option.some.injEq, Prod.mk.injEq, reduceCtorEq] at h
  rename_i xs x
  obtain ⟨rfl, rfl⟩ := h
  obtain ⟨r, cv, M, rfl, hcv, hM, hl, x0, x1⟩ := hp
  obtain ⟨fa, fc, g1, F1, h4⟩ := rawT_of hHp hHo hM
  obtain ⟨ca, cn, cc, hca⟩ : ∃ ca cn cc, cv.den ρ = .slice ca cn cc := by
    rcases hcv with rfl | ⟨N, n, m, rfl⟩
    · exact ⟨_, _, _, rfl⟩
    · exact ⟨_, _, _, rfl⟩
  refine ⟨trivial, ?_⟩
  have hx : ((UInt8.ofNat x.toNat).toNat : Int) = x := by rw [UInt8.toNat_ofNat']; omega
  have := dflagc_w (ca := ca) (cn := cn) (cc := cc) (fa := fa) (fn := F.length) (fc := fc) (r := { r with flags := F }) (w := w) (UInt8.ofNat x.toNat) hl rfl F1
  have hargs : ([SV.g (mqS cv (.rw M F.length) r), SV.c (.i .u8 x)].map (SV.den ρ)).toArray = #[(SV.g (mqS (.v (.slice ca cn cc)) (.v (.slice fa F.length fc)) { r with flags := F })).den (fun _ => reOf 0), .int .u8 ((UInt8.ofNat x.toNat).toNat : Int)] := by
    rw [hx]
    simp only [List.map_cons, List.map_nil, SV.den, mqS, dens]
    rw [hca, g1]
    rfl
  rw [hargs]
  exact this
def dR1 (F : List (List UInt8)) : Ctr := fun f en xs => match f with
  | 51 => rowFlagD F en xs
  | _ => dR0 f en xs
theorem dR1_ok {C : Cx} {F : List (List UInt8)} (hP : C.P = Tryz.prog) : CtrOk C (dR1 F) := by
  intro f en xs p v h hp ρ w hup hHp hHo hinj hwf
  unfold dR1 at h
  split at h
  · rw [hP]
    exact ⟨fun args w => Tryz.call51 args w, rowFlagD_ok h hp hHp hHo⟩
  · exact dR0_ok hP f en xs p v h hp ρ w hup hHp hHo hinj hwf
theorem raw_words {D : Cx} {w : World} (hS : D.S = Non) (hw : D.w0 = w) {b oo : Nat} {ws : List (List UInt8)} (hraw : RawT w (some ⟨b, oo, none⟩) ws) (j : Nat) (hj : j < ws.length) : D.rd b (oo + j) (ws.length - j) = some ((ws.drop j).map SC.s) := by
  obtain ⟨b', o', e, hb, _⟩ := hraw j _ (List.getElem?_eq_getElem hj)
  cases e
  have hlen : ((ws.drop j).map fun x => Value.string ⟨x.toArray⟩).length = ws.length - j := by simp
  have := rd_arg (C := D) (vs := (ws.drop j).map fun x => Value.string ⟨x.toArray⟩) (o := oo + j) hS hw hb (fun k v hv => by
    rw [List.getElem?_map, Option.map_eq_some_iff] at hv
    obtain ⟨x, hx, rfl⟩ := hv
    rw [List.getElem?_drop] at hx
    obtain ⟨b2, o2, e2, _, hc⟩ := hraw (j + k) x hx
    cases e2
    rw [Nat.add_assoc]; exact hc) hlen
  rw [this, List.map_map]; rfl
theorem raws_row {C : Cx} {ρ : Nat → RE} {pr : Nat → Prop} {en : List EN} {w : World} (hw : Hw C ρ pr en w) {M N : Nat} {F : List (List UInt8)} {c : Cd} {mu : Bool} (hM : zD en M = some (rwE 9 1 F.length (F.map SC.s))) (lM : pr M) (hN : zD en N = some (enC c mu)) (lN : pr N) (hMN : M ≠ N) :
    ∃ a cap, (SC.rw M F.length).den ρ = .slice a F.length cap ∧ RawS w (ρ N).blk a F := by
  obtain ⟨_, hL, hO⟩ := hw.ho M _ _ _ lM hM
  rcases hO with ⟨h1, h2, h3, h4, h5⟩ | ⟨h1, h2, h3⟩
  · refine ⟨_, _, rwOf_on h1 _, fun j x hx => ?_⟩
    have hf : (F.map SC.s)[j]? = some (.s x) := by rw [List.getElem?_map, hx]; rfl
    have := hw.hp.cellAt lM hM hf
    rw [h2] at this
    have hcl : w.cell? ⟨(ρ M).blk, 0 + j, none⟩ = some (.string ⟨x.toArray⟩) := this
    refine ⟨_, 0, rfl, Go.block_lt_of_cell hcl, fun he => ?_, hcl⟩
    have hnl : (ρ N).nl = none := Decidable.byContradiction fun hd => by
      have := (hw.hp N _ _ _ lN hN).non hd
      cases this
    exact hMN (hw.inj M N lM lN ((deadE_of hM).2 ⟨by show ¬ ((9 : Nat) = DEAD); decide, h1⟩) ((deadE_of hN).2 ⟨by show ¬ ((33 : Nat) = DEAD); decide, hnl⟩) he)
  · have h0 : F = [] := List.eq_nil_of_length_eq_zero h2
    subst h0
    exact ⟨_, _, rwOf_off h1 _, fun j x hx => by simp at hx⟩
def ReadD (w : World) (x : Mq × Int × Bool) (e : Ending) (w' : World) : Prop := Below w.heap.size w w' ∧ ∃ v, e = .returned (.tuple #[v, .int .i64 (if x.2.2 then -1 else x.2.1)]) ∧ MqV w.heap.size w' v x.1
def rqZ : EN := ⟨(26, 0, whole), mqS noS noS Mq.zero, true⟩
def slA (b oo n cap : Nat) (behind : List UInt8) (st : Bool) : List (Nat × SV) := [(6, .c (.b st)), (5, .c (.i .i64 0)), (4, .c (.p 0 0)), (1, .c (.s behind)), (0, .c (.v (.slice (some ⟨b, oo, none⟩) n cap)))]
def slB (b oo n cap : Nat) (behind : List UInt8) (st : Bool) (v sk : Nat) : List (Nat × SV) := [(9, .c (.i .i64 (sk : Int))), (8, .c (.i .u64 (v : Int))), (7, .c (.p 1 0)), (6, .c (.b st)), (5, .c (.i .i64 0)), (4, .c (.p 0 0)), (1, .c (.s behind)), (0, .c (.v (.slice (some ⟨b, oo, none⟩) n cap)))]
def rqF (b o m cp : Nat) (name word : List UInt8) : EN := ⟨(26, 0, whole), mqS noS (.v (.slice (some ⟨b, o, none⟩) m cp)) ⟨1, [], false, [], 0, false, name, [], word⟩, true⟩
def rqG (m : Nat) (name word : List UInt8) : EN := ⟨(26, 0, whole), mqS noS (.rw 3 m) ⟨1, [], false, [], 0, false, name, [], word⟩, true⟩
def ddE : EN := ⟨(DEAD, 0, rowP 1 0 0), [], false⟩
def fwE (l : List (List UInt8)) : EN := rwE 9 1 l.length (l.map SC.s)
def slC (b oo n cap : Nat) (behind : List UInt8) (st : Bool) (v sk : Nat) : List (Nat × SV) := [(11, .c (.p 4 0)), (9, .c (.i .i64 (sk : Int))), (8, .c (.i .u64 (v : Int))), (7, .c (.p 1 0)), (6, .c (.b st)), (5, .c (.i .i64 0)), (4, .c (.p 0 0)), (1, .c (.s behind)), (0, .c (.v (.slice (some ⟨b, oo, none⟩) n cap)))]
def slE (b oo n cap : Nat) (behind : List UInt8) (st : Bool) (v sk : Nat) (ok : Bool) : List (Nat × SV) := [(13, .c (.b ok)), (12, .c (.s [])), (11, .c (.p 4 0)), (9, .c (.i .i64 (sk : Int))), (8, .c (.i .u64 (v : Int))), (7, .c (.p 1 0)), (6, .c (.b st)), (5, .c (.i .i64 0)), (4, .c (.p 0 0)), (1, .c (.s behind)), (0, .c (.v (.slice (some ⟨b, oo, none⟩) n cap)))]
def slG (v sk : Nat) (behind : List UInt8) : List (Nat × SV) := [(11, .c (.p 4 0)), (9, .c (.i .i64 (sk : Int))), (8, .c (.i .u64 (v : Int))), (7, .c (.p 1 0)), (4, .c (.p 0 0)), (1, .c (.s behind))]
theorem refV_le (s : List UInt8) : (refV s).1.length ≤ s.length := by
  have h1 := dec_le s
  rw [← refDec_is] at h1
  unfold refV
  cases h : refDec s with
  | none => exact Nat.zero_le _
  | some t => rw [h] at h1; exact h1
theorem dread_w {w : World} (hE0 : Env w) {a : Option Addr} {n cap : Nat} {name : List UInt8} {rest : List (List UInt8)} (hraw : RawT w a (name :: rest)) (hn : n = rest.length + 1) (hnc : n ≤ cap) (hcap : cap ≤ maxLen) (hl : ∀ x ∈ name :: rest, x ≠ [] ∧ x.length ≤ 5000) (hlen : n ≤ 5000) (hkind : (kindM name).2 ≠ []) (behind : List UInt8) (hb : behind.length ≤ 9223372036854775806) :
    Calls Tryz.prog 24 #[.slice a n cap, .string ⟨behind.toArray⟩] w (ReadD w (readM name rest behind)) := by
  obtain ⟨b, oo, rfl, hw0, hc0⟩ := hraw 0 name rfl
  refine calls_of_Run Tryz.func24 rfl kp24 (S := Non) (ρ := fun _ => reOf 0) (en := []) [.c (.v (.slice (some ⟨b, oo, none⟩) n cap)), .c (.s behind)] Tryz.ntmps24 (At.nil _ _ _) (by simp [SV.wf, SC.wf]) (by simp) ?_
  intro C hC hP hk
  have hctr := dR0_ok hP
  have hEC : EnvC C := fun w' hu => by rw [hC] at hu; exact hE0.below hu.to_below
  have hS : C.S = Non := by rw [hC]; rfl
  have hw : C.w0 = w := by rw [hC]; rfl
  have hn0 : C.n0 = 0 := by rw [hC]; rfl
  -- what is bad
  have bad : ∀ l en, readM name rest behind = (badM l 0, 0, false) → Fin C res24 (.t [.g (mqS noS noS (badM l 0)), .c (.i .i64 0)]) en := fun l en h => by
    refine Fin_cx (v := .t [.g (mqS noS noS (badM l 0)), .c (.i .i64 0)]) hC hres24 fun ρ w' hw _ _ => ?_
    have hup := hw.up
    rw [hC] at hup
    rw [h]
    exact ⟨hup.to_below, _, rfl, MqV.none rfl rfl⟩
  have bad3 : ∀ (r : Mq) (k : Int) (en : List EN), readM name rest behind = (r, k, false) → r.cmds = [] → r.flags = [] → Fin C res24 (.t [.g (mqS noS noS r), .c (.i .i64 k)]) en := fun r k en h h1 h2 => by
    refine Fin_cx (v := .t [.g (mqS noS noS r), .c (.i .i64 k)]) hC hres24 fun ρ w' hw _ _ => ?_
    have hup := hw.up
    rw [hC] at hup
    rw [h]
    exact ⟨hup.to_below, _, rfl, MqV.none h1 h2⟩
  have r0 : C.rd b oo 1 = some [.s name] := by
    obtain ⟨b', o', e, hr⟩ := hraw.rd (D := C) hS hw (k := 0) rfl
    cases e; exact hr
  have z0 : (0 : Int) < (n : Int) := by omega
  have hctr0 := hctr
  obtain ⟨st, hst⟩ : ∃ st, (name == [109, 115]) = st := ⟨_, rfl⟩
  have hms : st = true ↔ name = m_ms := by rw [← hst]; exact beq_iff_eq
  (refine VT_ok hctr (rs := res24) true 14 _ _ _ ?_; simp (maxSteps := 1000000) only [VT, jf, jg, jZ, ja, jd, je, VC, qA, qB, qC, qD, qE, qF, qG, qH, qI, qJ, qK, qL, qM, qN, qO, qP, qQ, qR, qS, qT, qU, qV, qW, qX, qY, qZ, qe, qf, qg, qh, qj, qk, ql, qm, qn, qo, qp, qq, q0t, qu, qv, ev, qw, qy, qz, zA, zB, zC, zD, zE, zF, zG, zH, zI, zJ, TE.sv, zK, zL, zM, ↓reduceIte, reduceCtorEq, Value.oneCell', Nat.reduceEqDiff, Nat.reduceAdd, Nat.reduceLT, Nat.reduceBEq, Nat.reduceSub, Nat.reduceLeDiff, zP, zQ, zR, zS, zT, zU, zV, zW, zX, zY, zZ, za, zb, zc, zd, ze, zf, zg, zh, zi, zj, zk, zl, zm, zn, zo, zp, zq, zr, zt, zu, zw, zx, zy, zz, cE, jA, jB, hap, killE, deadOf, rwE, cD, cO, jC, jD, jE, jF, jG, jH, jI, jJ, jK, jL, jM, jN, jO, jP, jQ, jR, jS, jT, jU, jV, jW, jX, jY, hP, hk, res24, kp24, dR1, rowFlagD, dR0, rowKeyD, rowDecD, rowOpD, rowBadD, rowParse, mqS, noS, badM, Int.toNat_natCast, Int.toNat_zero, Int.toNat_one, Nat.mul_one, Nat.zero_mul, Nat.add_zero, Nat.sub_zero, Int.reduceToNat, Nat.reduceAdd, Nat.reduceMul, r0, z0, hst])
  refine ⟨Int.le_refl _, ?_⟩
  refine Run_join (κ := { p : List UInt8 × List (List UInt8) // rest = p.1 :: p.2 ∧ (st = true → p.2 ≠ []) }) (fun _ => slA b oo n cap behind st) (fun _ => [rqZ]) ?_ ?_
  rotate_left
  · intro htail
    cases rest with
    | nil =>
      have c2 : decide ((n : Int) < 2) = true := decide_eq_true (by simp at hn; omega)
      cases st
      all_goals
        (refine VT_ok hctr (rs := res24) true 300 _ _ _ ?_; simp (maxSteps := 1000000) only [VT, jf, jg, jZ, ja, jd, je, VC, qA, qB, qC, qD, qE, qF, qG, qH, qI, qJ, qK, qL, qM, qN, qO, qP, qQ, qR, qS, qT, qU, qV, qW, qX, qY, qZ, qe, qf, qg, qh, qj, qk, ql, qm, qn, qo, qp, qq, q0t, qu, qv, ev, qw, qy, qz, zA, zB, zC, zD, zE, zF, zG, zH, zI, zJ, TE.sv, zK, zL, zM, ↓reduceIte, reduceCtorEq, Value.oneCell', Nat.reduceEqDiff, Nat.reduceAdd, Nat.reduceLT, Nat.reduceBEq, Nat.reduceSub, Nat.reduceLeDiff, zP, zQ, zR, zS, zT, zU, zV, zW, zX, zY, zZ, za, zb, zc, zd, ze, zf, zg, zh, zi, zj, zk, zl, zm, zn, zo, zp, zq, zr, zt, zu, zw, zx, zy, zz, cE, jA, jB, hap, killE, deadOf, rwE, cD, cO, jC, jD, jE, jF, jG, jH, jI, jJ, jK, jL, jM, jN, jO, jP, jQ, jR, jS, jT, jU, jV, jW, jX, jY, hP, hk, res24, kp24, dR1, rowFlagD, dR0, rowKeyD, rowDecD, rowOpD, rowBadD, rowParse, mqS, noS, badM, Int.toNat_natCast, Int.toNat_zero, Int.toNat_one, Nat.mul_one, Nat.zero_mul, Nat.add_zero, Nat.sub_zero, Int.reduceToNat, Nat.reduceAdd, Nat.reduceMul, c2])
        exact bad f_format _ rfl
    | cons word l0 =>
      have c2 : decide ((n : Int) < 2) = false := decide_eq_false (by simp only [List.length_cons] at hn; omega)
      cases st with
      | false =>
        (refine VT_ok hctr (rs := res24) true 16 _ _ _ ?_; simp (maxSteps := 1000000) only [VT, jf, jg, jZ, ja, jd, je, VC, qA, qB, qC, qD, qE, qF, qG, qH, qI, qJ, qK, qL, qM, qN, qO, qP, qQ, qR, qS, qT, qU, qV, qW, qX, qY, qZ, qe, qf, qg, qh, qj, qk, ql, qm, qn, qo, qp, qq, q0t, qu, qv, ev, qw, qy, qz, zA, zB, zC, zD, zE, zF, zG, zH, zI, zJ, TE.sv, zK, zL, zM, ↓reduceIte, reduceCtorEq, Value.oneCell', Nat.reduceEqDiff, Nat.reduceAdd, Nat.reduceLT, Nat.reduceBEq, Nat.reduceSub, Nat.reduceLeDiff, zP, zQ, zR, zS, zT, zU, zV, zW, zX, zY, zZ, za, zb, zc, zd, ze, zf, zg, zh, zi, zj, zk, zl, zm, zn, zo, zp, zq, zr, zt, zu, zw, zx, zy, zz, cE, jA, jB, hap, killE, deadOf, rwE, cD, cO, jC, jD, jE, jF, jG, jH, jI, jJ, jK, jL, jM, jN, jO, jP, jQ, jR, jS, jT, jU, jV, jW, jX, jY, hP, hk, res24, kp24, dR1, rowFlagD, dR0, rowKeyD, rowDecD, rowOpD, rowBadD, rowParse, mqS, noS, badM, Int.toNat_natCast, Int.toNat_zero, Int.toNat_one, Nat.mul_one, Nat.zero_mul, Nat.add_zero, Nat.sub_zero, Int.reduceToNat, Nat.reduceAdd, Nat.reduceMul, c2])
        exact htail ⟨(word, l0), rfl, fun h => by cases h⟩ _ (sub_mk ⟨rfl, rfl, rfl, rfl, rfl, trivial⟩)
      | true =>
        by_cases hl0 : l0 = []
        · subst hl0
          have c3 : decide ((n : Int) < 3) = true := decide_eq_true (by simp at hn; omega)
          (refine VT_ok hctr (rs := res24) true 300 _ _ _ ?_; simp (maxSteps := 1000000) only [VT, jf, jg, jZ, ja, jd, je, VC, qA, qB, qC, qD, qE, qF, qG, qH, qI, qJ, qK, qL, qM, qN, qO, qP, qQ, qR, qS, qT, qU, qV, qW, qX, qY, qZ, qe, qf, qg, qh, qj, qk, ql, qm, qn, qo, qp, qq, q0t, qu, qv, ev, qw, qy, qz, zA, zB, zC, zD, zE, zF, zG, zH, zI, zJ, TE.sv, zK, zL, zM, ↓reduceIte, reduceCtorEq, Value.oneCell', Nat.reduceEqDiff, Nat.reduceAdd, Nat.reduceLT, Nat.reduceBEq, Nat.reduceSub, Nat.reduceLeDiff, zP, zQ, zR, zS, zT, zU, zV, zW, zX, zY, zZ, za, zb, zc, zd, ze, zf, zg, zh, zi, zj, zk, zl, zm, zn, zo, zp, zq, zr, zt, zu, zw, zx, zy, zz, cE, jA, jB, hap, killE, deadOf, rwE, cD, cO, jC, jD, jE, jF, jG, jH, jI, jJ, jK, jL, jM, jN, jO, jP, jQ, jR, jS, jT, jU, jV, jW, jX, jY, hP, hk, res24, kp24, dR1, rowFlagD, dR0, rowKeyD, rowDecD, rowOpD, rowBadD, rowParse, mqS, noS, badM, Int.toNat_natCast, Int.toNat_zero, Int.toNat_one, Nat.mul_one, Nat.zero_mul, Nat.add_zero, Nat.sub_zero, Int.reduceToNat, Nat.reduceAdd, Nat.reduceMul, c2, c3])
          exact bad f_format _ (by simp only [readM, hms.1 rfl, if_true])
        · have hlp : 0 < l0.length := List.length_pos_iff.2 hl0
          have c3 : decide ((n : Int) < 3) = false := decide_eq_false (by simp only [List.length_cons] at hn; omega)
          (refine VT_ok hctr (rs := res24) true 16 _ _ _ ?_; simp (maxSteps := 1000000) only [VT, jf, jg, jZ, ja, jd, je, VC, qA, qB, qC, qD, qE, qF, qG, qH, qI, qJ, qK, qL, qM, qN, qO, qP, qQ, qR, qS, qT, qU, qV, qW, qX, qY, qZ, qe, qf, qg, qh, qj, qk, ql, qm, qn, qo, qp, qq, q0t, qu, qv, ev, qw, qy, qz, zA, zB, zC, zD, zE, zF, zG, zH, zI, zJ, TE.sv, zK, zL, zM, ↓reduceIte, reduceCtorEq, Value.oneCell', Nat.reduceEqDiff, Nat.reduceAdd, Nat.reduceLT, Nat.reduceBEq, Nat.reduceSub, Nat.reduceLeDiff, zP, zQ, zR, zS, zT, zU, zV, zW, zX, zY, zZ, za, zb, zc, zd, ze, zf, zg, zh, zi, zj, zk, zl, zm, zn, zo, zp, zq, zr, zt, zu, zw, zx, zy, zz, cE, jA, jB, hap, killE, deadOf, rwE, cD, cO, jC, jD, jE, jF, jG, jH, jI, jJ, jK, jL, jM, jN, jO, jP, jQ, jR, jS, jT, jU, jV, jW, jX, jY, hP, hk, res24, kp24, dR1, rowFlagD, dR0, rowKeyD, rowDecD, rowOpD, rowBadD, rowParse, mqS, noS, badM, Int.toNat_natCast, Int.toNat_zero, Int.toNat_one, Nat.mul_one, Nat.zero_mul, Nat.add_zero, Nat.sub_zero, Int.reduceToNat, Nat.reduceAdd, Nat.reduceMul, c2, c3])
          exact htail ⟨(word, l0), rfl, fun _ => hl0⟩ _ (sub_mk ⟨rfl, rfl, rfl, rfl, rfl, trivial⟩)
  rintro ⟨⟨word, l0⟩, hrest, hst2⟩
  simp only at hrest hst2
  subst hrest
  show Run C _ 149 (slA b oo n cap behind st) [rqZ]
  have hn2 : n = l0.length + 2 := by simp at hn; omega
  have r1 : C.rd b (oo + 1) 1 = some [.s word] := by
    obtain ⟨b', o', e, hr⟩ := hraw.rd (D := C) hS hw (k := 1) rfl
    cases e; exact hr
  have z1 : (0 : Int) ≤ 1 := by decide
  have z2 : (1 : Int) < (n : Int) := by omega
  have z3 : (0 : Int) ≤ 2 := by decide
  have z4 : (2 : Int) ≤ (n : Int) := by omega
  have z5 : (n : Int) ≤ (cap : Int) := by omega
  have z6 : (0 : Int) ≤ 0 := by decide
  obtain ⟨o2, ho2⟩ : ∃ o2, (if cap = 2 then oo else oo + 2) = o2 := ⟨_, rfl⟩
  (refine VT_ok hctr (rs := res24) true 300 _ _ _ ?_; simp (maxSteps := 1000000) only [VT, jf, jg, jZ, ja, jd, je, VC, qA, qB, qC, qD, qE, qF, qG, qH, qI, qJ, qK, qL, qM, qN, qO, qP, qQ, qR, qS, qT, qU, qV, qW, qX, qY, qZ, qe, qf, qg, qh, qj, qk, ql, qm, qn, qo, qp, qq, q0t, qu, qv, ev, qw, qy, qz, zA, zB, zC, zD, zE, zF, zG, zH, zI, zJ, TE.sv, zK, zL, zM, ↓reduceIte, reduceCtorEq, Value.oneCell', Nat.reduceEqDiff, Nat.reduceAdd, Nat.reduceLT, Nat.reduceBEq, Nat.reduceSub, Nat.reduceLeDiff, zP, zQ, zR, zS, zT, zU, zV, zW, zX, zY, zZ, za, zb, zc, zd, ze, zf, zg, zh, zi, zj, zk, zl, zm, zn, zo, zp, zq, zr, zt, zu, zw, zx, zy, zz, cE, jA, jB, hap, killE, deadOf, rwE, cD, cO, jC, jD, jE, jF, jG, jH, jI, jJ, jK, jL, jM, jN, jO, jP, jQ, jR, jS, jT, jU, jV, jW, jX, jY, hP, hk, res24, kp24, dR1, rowFlagD, dR0, rowKeyD, rowDecD, rowOpD, rowBadD, rowParse, mqS, noS, badM, Int.toNat_natCast, Int.toNat_zero, Int.toNat_one, Nat.mul_one, Nat.zero_mul, Nat.add_zero, Nat.sub_zero, Int.reduceToNat, Nat.reduceAdd, Nat.reduceMul, slA, rqZ])
  (refine Run_drawD hctr (by rw [hP]; rfl) rs24_4 [] (ensure_type_of% (Cmp.of (by simp (maxSteps := 1000000) only [VC, qA, qB, qC, qD, qE, qF, qG, qH, qI, qJ, qK, qL, qM, qN, qO, qP, qQ, qR, qS, qT, qU, qV, qW, qX, qY, qZ, qe, qf, qg, qh, qj, qk, ql, qm, qn, qo, qp, qq, q0t, qu, qv, ev, qw, qy, qz, zA, zB, zC, zD, zE, zF, zG, zH, zI, zJ, TE.sv, zK, zL, zM, ↓reduceIte, reduceCtorEq, Value.oneCell', Nat.reduceEqDiff, Nat.reduceAdd, Nat.reduceLT, Nat.reduceBEq, Nat.reduceSub, Nat.reduceLeDiff, zP, zQ, zR, zS, zT, zU, zV, zW, zX, zY, zZ, za, zb, zc, zd, ze, zf, zg, zh, zi, zj, zk, zl, zm, zn, zo, zp, zq, zr, zt, zu, zw, zx, zy, zz, cE, jA, jB, hap, killE, deadOf, rwE, cD, cO, jC, jD, jE, jF, jG, jH, jI, jJ, jK, jL, jM, jN, jO, jP, jQ, jR, jS, jT, jU, jV, jW, jX, jY, hP, dR1, rowFlagD, dR0, rowKeyD, rowDecD, rowOpD, rowBadD, rowParse, mqS, noS, badM, Int.toNat_natCast, Int.toNat_zero, Int.toNat_one, Nat.mul_one, Nat.zero_mul, Nat.add_zero, Nat.sub_zero, Int.reduceToNat, Nat.reduceAdd, Nat.reduceMul, r0, r1, z0, z1, z2, z3, z4, z5, z6, ho2]; rfl)) "" Cmp.mk) (by kernel_rfl) (by kernel_rfl) (by first | exact lenB_one _ | kernel_rfl) (by kernel_rfl) (by rfl) (by rfl) (by first | exact firstN_self _ | rfl) (by rfl) (by simp (maxSteps := 1000000) only [VC, qA, qB, qC, qD, qE, qF, qG, qH, qI, qJ, qK, qL, qM, qN, qO, qP, qQ, qR, qS, qT, qU, qV, qW, qX, qY, qZ, qe, qf, qg, qh, qj, qk, ql, qm, qn, qo, qp, qq, q0t, qu, qv, ev, qw, qy, qz, zA, zB, zC, zD, zE, zF, zG, zH, zI, zJ, TE.sv, zK, zL, zM, ↓reduceIte, reduceCtorEq, Value.oneCell', Nat.reduceEqDiff, Nat.reduceAdd, Nat.reduceLT, Nat.reduceBEq, Nat.reduceSub, Nat.reduceLeDiff, zP, zQ, zR, zS, zT, zU, zV, zW, zX, zY, zZ, za, zb, zc, zd, ze, zf, zg, zh, zi, zj, zk, zl, zm, zn, zo, zp, zq, zr, zt, zu, zw, zx, zy, zz, cE, jA, jB, hap, killE, deadOf, rwE, cD, cO, jC, jD, jE, jF, jG, jH, jI, jJ, jK, jL, jM, jN, jO, jP, jQ, jR, jS, jT, jU, jV, jW, jX, jY, hP, dR1, rowFlagD, dR0, rowKeyD, rowDecD, rowOpD, rowBadD, rowParse, mqS, noS, badM, Int.toNat_natCast, Int.toNat_zero, Int.toNat_one, Nat.mul_one, Nat.zero_mul, Nat.add_zero, Nat.sub_zero, Int.reduceToNat, Nat.reduceAdd, Nat.reduceMul, r0, r1, z0, z1, z2, z3, z4, z5, z6, ho2]) ?_; refine VT_ok hctr (rs := res24) true 13 _ _ _ ?_; simp (maxSteps := 1000000) only [VT, jf, jg, jZ, ja, jd, je, VC, qA, qB, qC, qD, qE, qF, qG, qH, qI, qJ, qK, qL, qM, qN, qO, qP, qQ, qR, qS, qT, qU, qV, qW, qX, qY, qZ, qe, qf, qg, qh, qj, qk, ql, qm, qn, qo, qp, qq, q0t, qu, qv, ev, qw, qy, qz, zA, zB, zC, zD, zE, zF, zG, zH, zI, zJ, TE.sv, zK, zL, zM, ↓reduceIte, reduceCtorEq, Value.oneCell', Nat.reduceEqDiff, Nat.reduceAdd, Nat.reduceLT, Nat.reduceBEq, Nat.reduceSub, Nat.reduceLeDiff, zP, zQ, zR, zS, zT, zU, zV, zW, zX, zY, zZ, za, zb, zc, zd, ze, zf, zg, zh, zi, zj, zk, zl, zm, zn, zo, zp, zq, zr, zt, zu, zw, zx, zy, zz, cE, jA, jB, hap, killE, deadOf, rwE, cD, cO, jC, jD, jE, jF, jG, jH, jI, jJ, jK, jL, jM, jN, jO, jP, jQ, jR, jS, jT, jU, jV, jW, jX, jY, hP, hk, res24, kp24, dR1, rowFlagD, dR0, rowKeyD, rowDecD, rowOpD, rowBadD, rowParse, mqS, noS, badM, Int.toNat_natCast, Int.toNat_zero, Int.toNat_one, Nat.mul_one, Nat.zero_mul, Nat.add_zero, Nat.sub_zero, Int.reduceToNat, Nat.reduceAdd, Nat.reduceMul, r0, r1, z0, z1, z2, z3, z4, z5, z6, ho2])
  have hl2 : ∀ x ∈ l0, x ≠ [] ∧ x.length ≤ 5000 := fun x hx => hl x (by simp [hx])
  refine Run_join (κ := { y : Nat × Nat × Nat × Nat × List (List UInt8) // y.2.2.2.2.length = y.2.2.1 ∧ y.2.2.1 ≤ 5000 ∧ (y.2.2.2.2 ≠ [] → C.rd b y.2.1 y.2.2.1 = some (y.2.2.2.2.map SC.s)) ∧ (∀ x ∈ y.2.2.2.2, x ≠ [] ∧ x.length ≤ 5000) ∧ readM name (word :: l0) behind = restM name word y.2.2.2.2 (if st then y.1 + 2 else 0) behind ∧ y.1 ≤ 1073741824 ∧ (st = false → y.1 = 0) }) (fun y => slB b oo n cap behind st y.1.1 (if st then y.1.1 + 2 else 0)) (fun y => [rqZ, rqF b y.1.2.1 y.1.2.2.1 y.1.2.2.2.1 name word]) ?_ ?_
  rotate_left
  · intro htail
    cases st with
    | false =>
      (refine VT_ok hctr (rs := res24) true 2 _ _ _ ?_; simp (maxSteps := 1000000) only [VT, jf, jg, jZ, ja, jd, je, VC, qA, qB, qC, qD, qE, qF, qG, qH, qI, qJ, qK, qL, qM, qN, qO, qP, qQ, qR, qS, qT, qU, qV, qW, qX, qY, qZ, qe, qf, qg, qh, qj, qk, ql, qm, qn, qo, qp, qq, q0t, qu, qv, ev, qw, qy, qz, zA, zB, zC, zD, zE, zF, zG, zH, zI, zJ, TE.sv, zK, zL, zM, ↓reduceIte, reduceCtorEq, Value.oneCell', Nat.reduceEqDiff, Nat.reduceAdd, Nat.reduceLT, Nat.reduceBEq, Nat.reduceSub, Nat.reduceLeDiff, zP, zQ, zR, zS, zT, zU, zV, zW, zX, zY, zZ, za, zb, zc, zd, ze, zf, zg, zh, zi, zj, zk, zl, zm, zn, zo, zp, zq, zr, zt, zu, zw, zx, zy, zz, cE, jA, jB, hap, killE, deadOf, rwE, cD, cO, jC, jD, jE, jF, jG, jH, jI, jJ, jK, jL, jM, jN, jO, jP, jQ, jR, jS, jT, jU, jV, jW, jX, jY, hP, hk, res24, kp24, dR1, rowFlagD, dR0, rowKeyD, rowDecD, rowOpD, rowBadD, rowParse, mqS, noS, badM, Int.toNat_natCast, Int.toNat_zero, Int.toNat_one, Nat.mul_one, Nat.zero_mul, Nat.add_zero, Nat.sub_zero, Int.reduceToNat, Nat.reduceAdd, Nat.reduceMul])
      refine htail ⟨(0, o2, n - 2, cap - 2, l0), by simp only; omega, by simp only; omega, fun h => ?_, hl2, ?_, Nat.zero_le _, fun _ => rfl⟩ _ (sub_mk ⟨rfl, rfl, rfl, rfl, rfl, rfl, rfl, rfl, trivial⟩)
      · have hlp : 0 < l0.length := List.length_pos_iff.2 h
        have := raw_words hS hw hraw 2 (by simp only [List.length_cons]; omega)
        rw [show (name :: word :: l0).length - 2 = n - 2 by simp only [List.length_cons]; omega, show oo + 2 = o2 by rw [← ho2, if_neg (by omega)]] at this
        exact this
      · simp only [readM, if_neg (fun h => by have := hms.2 h; cases this), Bool.false_eq_true, if_false]
    | true =>
      obtain ⟨z, l1, hl01⟩ : ∃ z l1, l0 = z :: l1 := by
        cases l0 with
        | nil => exact absurd rfl (hst2 rfl)
        | cons z l1 => exact ⟨z, l1, rfl⟩
      subst hl01
      have hn3 : n = l1.length + 3 := by simp at hn2; omega
      have r2 : C.rd b (oo + 2) 1 = some [.s z] := by
        obtain ⟨b', o', e, hr⟩ := hraw.rd (D := C) hS hw (k := 2) rfl
        cases e; exact hr
      have z7 : (2 : Int) < (n : Int) := by omega
      have z8 : (0 : Int) ≤ 3 := by decide
      have z9 : (3 : Int) ≤ (n : Int) := by omega
      have hnm : name = m_ms := hms.1 rfl
      have hzl := (hl z (by simp)).2
      obtain ⟨o3, ho3⟩ : ∃ o3, (if cap = 3 then oo else oo + 3) = o3 := ⟨_, rfl⟩
      cases hp : parseV z with
      | none =>
        (refine VT_ok hctr (rs := res24) true 300 _ _ _ ?_; simp (maxSteps := 1000000) only [VT, jf, jg, jZ, ja, jd, je, VC, qA, qB, qC, qD, qE, qF, qG, qH, qI, qJ, qK, qL, qM, qN, qO, qP, qQ, qR, qS, qT, qU, qV, qW, qX, qY, qZ, qe, qf, qg, qh, qj, qk, ql, qm, qn, qo, qp, qq, q0t, qu, qv, ev, qw, qy, qz, zA, zB, zC, zD, zE, zF, zG, zH, zI, zJ, TE.sv, zK, zL, zM, ↓reduceIte, reduceCtorEq, Value.oneCell', Nat.reduceEqDiff, Nat.reduceAdd, Nat.reduceLT, Nat.reduceBEq, Nat.reduceSub, Nat.reduceLeDiff, zP, zQ, zR, zS, zT, zU, zV, zW, zX, zY, zZ, za, zb, zc, zd, ze, zf, zg, zh, zi, zj, zk, zl, zm, zn, zo, zp, zq, zr, zt, zu, zw, zx, zy, zz, cE, jA, jB, hap, killE, deadOf, rwE, cD, cO, jC, jD, jE, jF, jG, jH, jI, jJ, jK, jL, jM, jN, jO, jP, jQ, jR, jS, jT, jU, jV, jW, jX, jY, hP, hk, res24, kp24, dR1, rowFlagD, dR0, rowKeyD, rowDecD, rowOpD, rowBadD, rowParse, mqS, noS, badM, Int.toNat_natCast, Int.toNat_zero, Int.toNat_one, Nat.mul_one, Nat.zero_mul, Nat.add_zero, Nat.sub_zero, Int.reduceToNat, Nat.reduceAdd, Nat.reduceMul, r0, r1, z0, z1, z2, z3, z4, z5, z6, r2, z7, z8, z9, hp, Option.getD_none, Option.isSome_none, Bool.not_false])
        exact ⟨by omega, bad f_format _ (by simp [readM, hnm, numF, hp])⟩
      | some v =>
        by_cases hv : 1073741824 < (v : Int)
        · have v1 : decide ((1073741824 : Int) < (v : Int)) = true := decide_eq_true hv
          (refine VT_ok hctr (rs := res24) true 300 _ _ _ ?_; simp (maxSteps := 1000000) only [VT, jf, jg, jZ, ja, jd, je, VC, qA, qB, qC, qD, qE, qF, qG, qH, qI, qJ, qK, qL, qM, qN, qO, qP, qQ, qR, qS, qT, qU, qV, qW, qX, qY, qZ, qe, qf, qg, qh, qj, qk, ql, qm, qn, qo, qp, qq, q0t, qu, qv, ev, qw, qy, qz, zA, zB, zC, zD, zE, zF, zG, zH, zI, zJ, TE.sv, zK, zL, zM, ↓reduceIte, reduceCtorEq, Value.oneCell', Nat.reduceEqDiff, Nat.reduceAdd, Nat.reduceLT, Nat.reduceBEq, Nat.reduceSub, Nat.reduceLeDiff, zP, zQ, zR, zS, zT, zU, zV, zW, zX, zY, zZ, za, zb, zc, zd, ze, zf, zg, zh, zi, zj, zk, zl, zm, zn, zo, zp, zq, zr, zt, zu, zw, zx, zy, zz, cE, jA, jB, hap, killE, deadOf, rwE, cD, cO, jC, jD, jE, jF, jG, jH, jI, jJ, jK, jL, jM, jN, jO, jP, jQ, jR, jS, jT, jU, jV, jW, jX, jY, hP, hk, res24, kp24, dR1, rowFlagD, dR0, rowKeyD, rowDecD, rowOpD, rowBadD, rowParse, mqS, noS, badM, Int.toNat_natCast, Int.toNat_zero, Int.toNat_one, Nat.mul_one, Nat.zero_mul, Nat.add_zero, Nat.sub_zero, Int.reduceToNat, Nat.reduceAdd, Nat.reduceMul, r0, r1, z0, z1, z2, z3, z4, z5, z6, r2, z7, z8, z9, hp, v1, Option.getD_some, Option.isSome_some, Bool.not_true])
          exact ⟨by omega, bad f_format _ (by simp [readM, hnm, numF, hp]; omega)⟩
        · have v1 : decide ((1073741824 : Int) < (v : Int)) = false := decide_eq_false hv
          have v2 : IntKind.i64.wrap (v : Int) = (v : Int) := IntWalk.i64_in _ (by omega)
          have v3 : IntKind.i64.wrap ((v : Int) + 2) = ((v + 2 : Nat) : Int) := by rw [IntWalk.i64_in _ (by omega)]; rfl
          (refine VT_ok hctr (rs := res24) true 42 _ _ _ ?_; simp (maxSteps := 1000000) only [VT, jf, jg, jZ, ja, jd, je, VC, qA, qB, qC, qD, qE, qF, qG, qH, qI, qJ, qK, qL, qM, qN, qO, qP, qQ, qR, qS, qT, qU, qV, qW, qX, qY, qZ, qe, qf, qg, qh, qj, qk, ql, qm, qn, qo, qp, qq, q0t, qu, qv, ev, qw, qy, qz, zA, zB, zC, zD, zE, zF, zG, zH, zI, zJ, TE.sv, zK, zL, zM, ↓reduceIte, reduceCtorEq, Value.oneCell', Nat.reduceEqDiff, Nat.reduceAdd, Nat.reduceLT, Nat.reduceBEq, Nat.reduceSub, Nat.reduceLeDiff, zP, zQ, zR, zS, zT, zU, zV, zW, zX, zY, zZ, za, zb, zc, zd, ze, zf, zg, zh, zi, zj, zk, zl, zm, zn, zo, zp, zq, zr, zt, zu, zw, zx, zy, zz, cE, jA, jB, hap, killE, deadOf, rwE, cD, cO, jC, jD, jE, jF, jG, jH, jI, jJ, jK, jL, jM, jN, jO, jP, jQ, jR, jS, jT, jU, jV, jW, jX, jY, hP, hk, res24, kp24, dR1, rowFlagD, dR0, rowKeyD, rowDecD, rowOpD, rowBadD, rowParse, mqS, noS, badM, Int.toNat_natCast, Int.toNat_zero, Int.toNat_one, Nat.mul_one, Nat.zero_mul, Nat.add_zero, Nat.sub_zero, Int.reduceToNat, Nat.reduceAdd, Nat.reduceMul, r0, r1, z0, z1, z2, z3, z4, z5, z6, r2, z7, z8, z9, hp, v1, v2, v3, ho3, Option.getD_some, Option.isSome_some, Bool.not_true])
          refine ⟨by omega, ?_⟩
          refine htail ⟨(v, o3, n - 3, cap - 3, l1), by simp only; omega, by simp only; omega, fun h => ?_, fun x hx => hl2 x (by simp [hx]), ?_, by simp only; omega, fun h => by cases h⟩ _ (sub_mk ⟨rfl, rfl, rfl, rfl, rfl, rfl, rfl, rfl, trivial⟩)
          · have hlp : 0 < l1.length := List.length_pos_iff.2 h
            have := raw_words hS hw hraw 3 (by simp only [List.length_cons]; omega)
            rw [show (name :: word :: z :: l1).length - 3 = n - 3 by simp only [List.length_cons]; omega, show oo + 3 = o3 by rw [← ho3, if_neg (by omega)]] at this
            exact this
          · have h9 : decide ((v : Int) ≤ 1073741824) = true := decide_eq_true (by omega)
            simp [readM, hnm, numF, hp]
            omega
  rintro ⟨⟨v, oJ, m, cp, l⟩, hlm, hm5, hrd, hll, hrm, hv, hv0⟩
  simp only at hlm hm5 hrd hll hrm hv hv0
  obtain ⟨sk, hsk⟩ : ∃ sk : Nat, (if st then v + 2 else 0) = sk := ⟨_, rfl⟩
  have hrm : readM name (word :: l0) behind = restM name word l sk behind := by rw [← hsk]; exact hrm
  show Run C _ 149 (slB b oo n cap behind st v (if st then v + 2 else 0)) [rqZ, rqF b oJ m cp name word]
  rw [hsk]
  (refine VT_ok hctr (rs := res24) true 2 _ _ _ ?_; simp (maxSteps := 1000000) only [VT, jf, jg, jZ, ja, jd, je, VC, qA, qB, qC, qD, qE, qF, qG, qH, qI, qJ, qK, qL, qM, qN, qO, qP, qQ, qR, qS, qT, qU, qV, qW, qX, qY, qZ, qe, qf, qg, qh, qj, qk, ql, qm, qn, qo, qp, qq, q0t, qu, qv, ev, qw, qy, qz, zA, zB, zC, zD, zE, zF, zG, zH, zI, zJ, TE.sv, zK, zL, zM, ↓reduceIte, reduceCtorEq, Value.oneCell', Nat.reduceEqDiff, Nat.reduceAdd, Nat.reduceLT, Nat.reduceBEq, Nat.reduceSub, Nat.reduceLeDiff, zP, zQ, zR, zS, zT, zU, zV, zW, zX, zY, zZ, za, zb, zc, zd, ze, zf, zg, zh, zi, zj, zk, zl, zm, zn, zo, zp, zq, zr, zt, zu, zw, zx, zy, zz, cE, jA, jB, hap, killE, deadOf, rwE, cD, cO, jC, jD, jE, jF, jG, jH, jI, jJ, jK, jL, jM, jN, jO, jP, jQ, jR, jS, jT, jU, jV, jW, jX, jY, hP, hk, res24, kp24, dR1, rowFlagD, dR0, rowKeyD, rowDecD, rowOpD, rowBadD, rowParse, mqS, noS, badM, Int.toNat_natCast, Int.toNat_zero, Int.toNat_one, Nat.mul_one, Nat.zero_mul, Nat.add_zero, Nat.sub_zero, Int.reduceToNat, Nat.reduceAdd, Nat.reduceMul])
  obtain ⟨i0, hi', hz0, hz1, hz2⟩ := info_parts infoStr
  have hsrc : SrcOk C [rqZ, rqF b oJ m cp name word, rwE 9 1 0 []] (.v (.slice (some ⟨b, oJ, none⟩) m cp)) m (l.map SC.s) := by
    by_cases h0 : l = []
    · subst h0
      exact fun ρ pr w hw hwf => ⟨_, _, rfl, fun j u h => by simp [dens] at h⟩
    · exact src_raw (L := m) (hrd h0)
  refine build0_op (z := 1) (by rw [hP]; exact Tryz.underlying24) (by rw [hP]; exact hi') (by show ¬ ((9 : Nat) = DEAD); decide) (by rw [hn0]; exact Nat.zero_le _) rfl (by simp) ?_
  (refine VT_ok hctr (rs := res24) true 300 _ _ _ ?_; simp (maxSteps := 1000000) only [VT, jf, jg, jZ, ja, jd, je, VC, qA, qB, qC, qD, qE, qF, qG, qH, qI, qJ, qK, qL, qM, qN, qO, qP, qQ, qR, qS, qT, qU, qV, qW, qX, qY, qZ, qe, qf, qg, qh, qj, qk, ql, qm, qn, qo, qp, qq, q0t, qu, qv, ev, qw, qy, qz, zA, zB, zC, zD, zE, zF, zG, zH, zI, zJ, TE.sv, zK, zL, zM, ↓reduceIte, reduceCtorEq, Value.oneCell', Nat.reduceEqDiff, Nat.reduceAdd, Nat.reduceLT, Nat.reduceBEq, Nat.reduceSub, Nat.reduceLeDiff, zP, zQ, zR, zS, zT, zU, zV, zW, zX, zY, zZ, za, zb, zc, zd, ze, zf, zg, zh, zi, zj, zk, zl, zm, zn, zo, zp, zq, zr, zt, zu, zw, zx, zy, zz, cE, jA, jB, hap, killE, deadOf, rwE, cD, cO, jC, jD, jE, jF, jG, jH, jI, jJ, jK, jL, jM, jN, jO, jP, jQ, jR, jS, jT, jU, jV, jW, jX, jY, hP, hk, res24, kp24, dR1, rowFlagD, dR0, rowKeyD, rowDecD, rowOpD, rowBadD, rowParse, mqS, noS, badM, Int.toNat_natCast, Int.toNat_zero, Int.toNat_one, Nat.mul_one, Nat.zero_mul, Nat.add_zero, Nat.sub_zero, Int.reduceToNat, Nat.reduceAdd, Nat.reduceMul, slB, rqF])
  refine append_op (X := .rw 2 0) (Y := .v (.slice (some ⟨b, oJ, none⟩) m cp)) (o := some 2) (n := 0) (m := m) (z := 1) (bts := 16) (cells := []) (news := l.map SC.s) (e := 9) (by rw [hP]; exact Tryz.underlying24) (by rw [hP]; exact hi') hz0 hz1 hz2 rfl Nat.zero_lt_one (by show ¬ ((9 : Nat) = DEAD); decide) (.some rfl) rfl rfl hsrc (by rw [List.length_map, hlm, Nat.mul_one]) (ones_st l) (fun pr => st_wf pr l) (by omega) (by omega) (by rw [hn0]; exact Nat.zero_le _) rfl (by simp) ?_
  (refine VT_ok hctr (rs := res24) true 20 _ _ _ ?_; simp (maxSteps := 1000000) only [VT, jf, jg, jZ, ja, jd, je, VC, qA, qB, qC, qD, qE, qF, qG, qH, qI, qJ, qK, qL, qM, qN, qO, qP, qQ, qR, qS, qT, qU, qV, qW, qX, qY, qZ, qe, qf, qg, qh, qj, qk, ql, qm, qn, qo, qp, qq, q0t, qu, qv, ev, qw, qy, qz, zA, zB, zC, zD, zE, zF, zG, zH, zI, zJ, TE.sv, zK, zL, zM, ↓reduceIte, reduceCtorEq, Value.oneCell', Nat.reduceEqDiff, Nat.reduceAdd, Nat.reduceLT, Nat.reduceBEq, Nat.reduceSub, Nat.reduceLeDiff, zP, zQ, zR, zS, zT, zU, zV, zW, zX, zY, zZ, za, zb, zc, zd, ze, zf, zg, zh, zi, zj, zk, zl, zm, zn, zo, zp, zq, zr, zt, zu, zw, zx, zy, zz, cE, jA, jB, hap, killE, deadOf, rwE, cD, cO, jC, jD, jE, jF, jG, jH, jI, jJ, jK, jL, jM, jN, jO, jP, jQ, jR, jS, jT, jU, jV, jW, jX, jY, hP, hk, res24, kp24, dR1, rowFlagD, dR0, rowKeyD, rowDecD, rowOpD, rowBadD, rowParse, mqS, noS, badM, Int.toNat_natCast, Int.toNat_zero, Int.toNat_one, Nat.mul_one, Nat.zero_mul, Nat.add_zero, Nat.sub_zero, Int.reduceToNat, Nat.reduceAdd, Nat.reduceMul, r0, r1, z0, z1, z2, z3, z4, z5, z6])
  subst hlm
  obtain ⟨dl, hdl⟩ : ∃ dl : Int, dl = if opD name = 3 then 1 else 0 := ⟨_, rfl⟩
  refine Run_join (κ := Unit) (fun _ => slC b oo n cap behind st v sk) (fun _ => [rqZ, rqG l.length name word, ddE, fwE l, enC { Cd.zero with op := opD name, delta := dl, recache := -1 } true]) ?_ ?_
  rotate_left
  · intro htail
    cases ho3 : (opD name == 3) with
    | true =>
      rw [if_pos (by simpa using ho3)] at hdl
      subst hdl
      (refine VT_ok hctr (rs := res24) true 5 _ _ _ ?_; simp (maxSteps := 1000000) only [VT, jf, jg, jZ, ja, jd, je, VC, qA, qB, qC, qD, qE, qF, qG, qH, qI, qJ, qK, qL, qM, qN, qO, qP, qQ, qR, qS, qT, qU, qV, qW, qX, qY, qZ, qe, qf, qg, qh, qj, qk, ql, qm, qn, qo, qp, qq, q0t, qu, qv, ev, qw, qy, qz, zA, zB, zC, zD, zE, zF, zG, zH, zI, zJ, TE.sv, zK, zL, zM, ↓reduceIte, reduceCtorEq, Value.oneCell', Nat.reduceEqDiff, Nat.reduceAdd, Nat.reduceLT, Nat.reduceBEq, Nat.reduceSub, Nat.reduceLeDiff, zP, zQ, zR, zS, zT, zU, zV, zW, zX, zY, zZ, za, zb, zc, zd, ze, zf, zg, zh, zi, zj, zk, zl, zm, zn, zo, zp, zq, zr, zt, zu, zw, zx, zy, zz, cE, jA, jB, hap, killE, deadOf, rwE, cD, cO, jC, jD, jE, jF, jG, jH, jI, jJ, jK, jL, jM, jN, jO, jP, jQ, jR, jS, jT, jU, jV, jW, jX, jY, hP, hk, res24, kp24, dR1, rowFlagD, dR0, rowKeyD, rowDecD, rowOpD, rowBadD, rowParse, mqS, noS, badM, Int.toNat_natCast, Int.toNat_zero, Int.toNat_one, Nat.mul_one, Nat.zero_mul, Nat.add_zero, Nat.sub_zero, Int.reduceToNat, Nat.reduceAdd, Nat.reduceMul])
      exact htail () _ (sub_mk ⟨rfl, rfl, rfl, rfl, rfl, rfl, rfl, rfl, rfl, trivial⟩)
    | false =>
      rw [if_neg (by simpa using ho3)] at hdl
      subst hdl
      (refine VT_ok hctr (rs := res24) true 2 _ _ _ ?_; simp (maxSteps := 1000000) only [VT, jf, jg, jZ, ja, jd, je, VC, qA, qB, qC, qD, qE, qF, qG, qH, qI, qJ, qK, qL, qM, qN, qO, qP, qQ, qR, qS, qT, qU, qV, qW, qX, qY, qZ, qe, qf, qg, qh, qj, qk, ql, qm, qn, qo, qp, qq, q0t, qu, qv, ev, qw, qy, qz, zA, zB, zC, zD, zE, zF, zG, zH, zI, zJ, TE.sv, zK, zL, zM, ↓reduceIte, reduceCtorEq, Value.oneCell', Nat.reduceEqDiff, Nat.reduceAdd, Nat.reduceLT, Nat.reduceBEq, Nat.reduceSub, Nat.reduceLeDiff, zP, zQ, zR, zS, zT, zU, zV, zW, zX, zY, zZ, za, zb, zc, zd, ze, zf, zg, zh, zi, zj, zk, zl, zm, zn, zo, zp, zq, zr, zt, zu, zw, zx, zy, zz, cE, jA, jB, hap, killE, deadOf, rwE, cD, cO, jC, jD, jE, jF, jG, jH, jI, jJ, jK, jL, jM, jN, jO, jP, jQ, jR, jS, jT, jU, jV, jW, jX, jY, hP, hk, res24, kp24, dR1, rowFlagD, dR0, rowKeyD, rowDecD, rowOpD, rowBadD, rowParse, mqS, noS, badM, Int.toNat_natCast, Int.toNat_zero, Int.toNat_one, Nat.mul_one, Nat.zero_mul, Nat.add_zero, Nat.sub_zero, Int.reduceToNat, Nat.reduceAdd, Nat.reduceMul])
      exact htail () _ (sub_mk ⟨rfl, rfl, rfl, rfl, rfl, rfl, rfl, rfl, rfl, trivial⟩)
  intro _
  subst hdl
  show Run C _ 149 (slC b oo n cap behind st v sk) [rqZ, rqG l.length name word, ddE, fwE l, enC (cmdD name) true]
  obtain ⟨c1, bt, hall⟩ : ∃ c1 bt, allD (kindM name).2 l (cmdD name) [] = (c1, bt) := ⟨_, _, rfl⟩
  (refine VT_ok hctr (rs := res24) true 300 _ _ _ ?_; simp (maxSteps := 1000000) only [VT, jf, jg, jZ, ja, jd, je, VC, qA, qB, qC, qD, qE, qF, qG, qH, qI, qJ, qK, qL, qM, qN, qO, qP, qQ, qR, qS, qT, qU, qV, qW, qX, qY, qZ, qe, qf, qg, qh, qj, qk, ql, qm, qn, qo, qp, qq, q0t, qu, qv, ev, qw, qy, qz, zA, zB, zC, zD, zE, zF, zG, zH, zI, zJ, TE.sv, zK, zL, zM, ↓reduceIte, reduceCtorEq, Value.oneCell', Nat.reduceEqDiff, Nat.reduceAdd, Nat.reduceLT, Nat.reduceBEq, Nat.reduceSub, Nat.reduceLeDiff, zP, zQ, zR, zS, zT, zU, zV, zW, zX, zY, zZ, za, zb, zc, zd, ze, zf, zg, zh, zi, zj, zk, zl, zm, zn, zo, zp, zq, zr, zt, zu, zw, zx, zy, zz, cE, jA, jB, hap, killE, deadOf, rwE, cD, cO, jC, jD, jE, jF, jG, jH, jI, jJ, jK, jL, jM, jN, jO, jP, jQ, jR, jS, jT, jU, jV, jW, jX, jY, hP, hk, res24, kp24, dR1, rowFlagD, dR0, rowKeyD, rowDecD, rowOpD, rowBadD, rowParse, mqS, noS, badM, Int.toNat_natCast, Int.toNat_zero, Int.toNat_one, Nat.mul_one, Nat.zero_mul, Nat.add_zero, Nat.sub_zero, Int.reduceToNat, Nat.reduceAdd, Nat.reduceMul, slC])
  (refine Run_drawE hctr (by rw [hP]; rfl) rs24_18 [fun en => (.c (.s bt), zE en 4 (enC c1 true))] (ensure_type_of% (Cmp.of (by simp (maxSteps := 1000000) only [VC, qA, qB, qC, qD, qE, qF, qG, qH, qI, qJ, qK, qL, qM, qN, qO, qP, qQ, qR, qS, qT, qU, qV, qW, qX, qY, qZ, qe, qf, qg, qh, qj, qk, ql, qm, qn, qo, qp, qq, q0t, qu, qv, ev, qw, qy, qz, zA, zB, zC, zD, zE, zF, zG, zH, zI, zJ, TE.sv, zK, zL, zM, ↓reduceIte, reduceCtorEq, Value.oneCell', Nat.reduceEqDiff, Nat.reduceAdd, Nat.reduceLT, Nat.reduceBEq, Nat.reduceSub, Nat.reduceLeDiff, zP, zQ, zR, zS, zT, zU, zV, zW, zX, zY, zZ, za, zb, zc, zd, ze, zf, zg, zh, zi, zj, zk, zl, zm, zn, zo, zp, zq, zr, zt, zu, zw, zx, zy, zz, cE, jA, jB, hap, killE, deadOf, rwE, cD, cO, jC, jD, jE, jF, jG, jH, jI, jJ, jK, jL, jM, jN, jO, jP, jQ, jR, jS, jT, jU, jV, jW, jX, jY, hP, dR1, rowFlagD, dR0, rowKeyD, rowDecD, rowOpD, rowBadD, rowParse, mqS, noS, badM, Int.toNat_natCast, Int.toNat_zero, Int.toNat_one, Nat.mul_one, Nat.zero_mul, Nat.add_zero, Nat.sub_zero, Int.reduceToNat, Nat.reduceAdd, Nat.reduceMul, r0, r1, z0, z1, z2, z3, z4, z5, z6, rqG, enC, ecS]; rfl)) "" Cmp.mk) (by kernel_rfl) (by kernel_rfl) (by first | exact lenB_one _ | kernel_rfl) (by kernel_rfl) (by rfl) (by rfl) (by first | exact firstN_self _ | rfl) (by rfl) ?_ ?_; rotate_left; refine VT_ok hctr (rs := res24) true 14 _ _ _ ?_; simp (maxSteps := 1000000) only [VT, jf, jg, jZ, ja, jd, je, VC, qA, qB, qC, qD, qE, qF, qG, qH, qI, qJ, qK, qL, qM, qN, qO, qP, qQ, qR, qS, qT, qU, qV, qW, qX, qY, qZ, qe, qf, qg, qh, qj, qk, ql, qm, qn, qo, qp, qq, q0t, qu, qv, ev, qw, qy, qz, zA, zB, zC, zD, zE, zF, zG, zH, zI, zJ, TE.sv, zK, zL, zM, ↓reduceIte, reduceCtorEq, Value.oneCell', Nat.reduceEqDiff, Nat.reduceAdd, Nat.reduceLT, Nat.reduceBEq, Nat.reduceSub, Nat.reduceLeDiff, zP, zQ, zR, zS, zT, zU, zV, zW, zX, zY, zZ, za, zb, zc, zd, ze, zf, zg, zh, zi, zj, zk, zl, zm, zn, zo, zp, zq, zr, zt, zu, zw, zx, zy, zz, cE, jA, jB, hap, killE, deadOf, rwE, cD, cO, jC, jD, jE, jF, jG, jH, jI, jJ, jK, jL, jM, jN, jO, jP, jQ, jR, jS, jT, jU, jV, jW, jX, jY, hP, hk, res24, kp24, dR1, rowFlagD, dR0, rowKeyD, rowDecD, rowOpD, rowBadD, rowParse, mqS, noS, badM, Int.toNat_natCast, Int.toNat_zero, Int.toNat_one, Nat.mul_one, Nat.zero_mul, Nat.add_zero, Nat.sub_zero, Int.reduceToNat, Nat.reduceAdd, Nat.reduceMul, r0, r1, z0, z1, z2, z3, z4, z5, z6, rqG, enC, ecS]; rotate_left; simp (maxSteps := 1000000) only [VC, qA, qB, qC, qD, qE, qF, qG, qH, qI, qJ, qK, qL, qM, qN, qO, qP, qQ, qR, qS, qT, qU, qV, qW, qX, qY, qZ, qe, qf, qg, qh, qj, qk, ql, qm, qn, qo, qp, qq, q0t, qu, qv, ev, qw, qy, qz, zA, zB, zC, zD, zE, zF, zG, zH, zI, zJ, TE.sv, zK, zL, zM, ↓reduceIte, reduceCtorEq, Value.oneCell', Nat.reduceEqDiff, Nat.reduceAdd, Nat.reduceLT, Nat.reduceBEq, Nat.reduceSub, Nat.reduceLeDiff, zP, zQ, zR, zS, zT, zU, zV, zW, zX, zY, zZ, za, zb, zc, zd, ze, zf, zg, zh, zi, zj, zk, zl, zm, zn, zo, zp, zq, zr, zt, zu, zw, zx, zy, zz, cE, jA, jB, hap, killE, deadOf, rwE, cD, cO, jC, jD, jE, jF, jG, jH, jI, jJ, jK, jL, jM, jN, jO, jP, jQ, jR, jS, jT, jU, jV, jW, jX, jY, hP, dR1, rowFlagD, dR0, rowKeyD, rowDecD, rowOpD, rowBadD, rowParse, mqS, noS, badM, Int.toNat_natCast, Int.toNat_zero, Int.toNat_one, Nat.mul_one, Nat.zero_mul, Nat.add_zero, Nat.sub_zero, Int.reduceToNat, Nat.reduceAdd, Nat.reduceMul, r0, r1, z0, z1, z2, z3, z4, z5, z6, rqG, enC, ecS])
  · rw [← show (allD (kindM name).2 l (cmdD name) []).2 = bt by rw [hall]]
    exact flags_h (c := cmdD name) (ws := l) (N := 4) (en := [rqZ, rqG l.length name word, ddE, fwE l, enC (cmdD name) true]) hP hEC rfl (by decide) (fun q hq => by simp [mkC] at hq) (fun x hx => ⟨(hll x hx).1, by have := (hll x hx).2; omega⟩) (by omega)
      (fun ρ pr w hw hwf hN => raws_row hw rfl hwf rfl hN (by decide)) (by rw [hall]; rfl)
  have hdoc := rest_is (name := name) (word := word) hkind (fun x hx => (hll x hx).1) st v hv0 behind
  have hrm2 : readM name (word :: l0) behind = restM name word l (if st then v + 2 else 0) behind := hrm
  rw [← hrm2] at hdoc
  have hbd : badD name word l v = (let b1 := if bt = [] then (if (keyD word l).2 = false ∨ keyB (keyD word l).1 = false then f_format else []) else bt; if b1 = [] ∧ 65536 < v then f_large else b1) := by unfold badD; rw [hall]
  have hrs : restD name word l st v behind = (if badD name word l v ≠ [] then (badM (badD name word l v) (sk : Int), (0 : Int), false)
      else if behind.length < sk then (Mq.zero, 0, true)
      else if st = true ∧ (behind.take sk).drop v ≠ [13, 10] then (badM b_chunk 0, (sk : Int), false)
      else (⟨1, [{ c1 with key := (keyD word l).1, val := behind.take v }], anyF l 113, [], 0, false, name, l, word⟩, (sk : Int), false)) := by
    unfold restD; simp only [hall]; rw [← hsk]
  rw [hrs] at hdoc
  obtain ⟨key, ok, hky⟩ : ∃ key ok, keyD word l = (key, ok) := ⟨_, _, rfl⟩
  rw [hky] at hbd hdoc
  simp only at hbd hdoc
  by_cases hb0 : bt = []
  · subst hb0
    rw [if_pos rfl] at hbd
    have w0 : (([] : List UInt8) == []) = true := rfl
    have hctr : CtrOk C (dR1 l) := dR1_ok hP
    (refine VT_ok hctr (rs := res24) true 16 _ _ _ ?_; simp (maxSteps := 1000000) only [VT, jf, jg, jZ, ja, jd, je, VC, qA, qB, qC, qD, qE, qF, qG, qH, qI, qJ, qK, qL, qM, qN, qO, qP, qQ, qR, qS, qT, qU, qV, qW, qX, qY, qZ, qe, qf, qg, qh, qj, qk, ql, qm, qn, qo, qp, qq, q0t, qu, qv, ev, qw, qy, qz, zA, zB, zC, zD, zE, zF, zG, zH, zI, zJ, TE.sv, zK, zL, zM, ↓reduceIte, reduceCtorEq, Value.oneCell', Nat.reduceEqDiff, Nat.reduceAdd, Nat.reduceLT, Nat.reduceBEq, Nat.reduceSub, Nat.reduceLeDiff, zP, zQ, zR, zS, zT, zU, zV, zW, zX, zY, zZ, za, zb, zc, zd, ze, zf, zg, zh, zi, zj, zk, zl, zm, zn, zo, zp, zq, zr, zt, zu, zw, zx, zy, zz, cE, jA, jB, hap, killE, deadOf, rwE, cD, cO, jC, jD, jE, jF, jG, jH, jI, jJ, jK, jL, jM, jN, jO, jP, jQ, jR, jS, jT, jU, jV, jW, jX, jY, hP, hk, res24, kp24, dR1, rowFlagD, dR0, rowKeyD, rowDecD, rowOpD, rowBadD, rowParse, mqS, noS, badM, Int.toNat_natCast, Int.toNat_zero, Int.toNat_one, Nat.mul_one, Nat.zero_mul, Nat.add_zero, Nat.sub_zero, Int.reduceToNat, Nat.reduceAdd, Nat.reduceMul, w0, rqG])
    refine ⟨⟨⟨1, [], false, [], 0, false, name, [], word⟩, noS, 3, rfl, .inl rfl, rfl, by omega, by decide, by decide⟩, ?_⟩
    refine Run_join (κ := Unit) (fun _ => slE b oo n cap behind st v sk ok) (fun _ => [rqZ, rqG l.length name word, ddE, fwE l, enC { c1 with key := key } true]) ?_ ?_
    rotate_left
    · intro htail
      unfold keyD at hky
      cases hany : anyF l 98 with
      | true =>
        have hany2 : anyF l (UInt8.ofNat 98) = true := hany
        rw [hany, if_pos rfl] at hky
        have hk1 : (refV word).1 = key := by rw [hky]
        have hk2 : (refV word).2 = ok := by rw [hky]
        (refine VT_ok hctr (rs := res24) true 13 _ _ _ ?_; simp (maxSteps := 1000000) only [VT, jf, jg, jZ, ja, jd, je, VC, qA, qB, qC, qD, qE, qF, qG, qH, qI, qJ, qK, qL, qM, qN, qO, qP, qQ, qR, qS, qT, qU, qV, qW, qX, qY, qZ, qe, qf, qg, qh, qj, qk, ql, qm, qn, qo, qp, qq, q0t, qu, qv, ev, qw, qy, qz, zA, zB, zC, zD, zE, zF, zG, zH, zI, zJ, TE.sv, zK, zL, zM, ↓reduceIte, reduceCtorEq, Value.oneCell', Nat.reduceEqDiff, Nat.reduceAdd, Nat.reduceLT, Nat.reduceBEq, Nat.reduceSub, Nat.reduceLeDiff, zP, zQ, zR, zS, zT, zU, zV, zW, zX, zY, zZ, za, zb, zc, zd, ze, zf, zg, zh, zi, zj, zk, zl, zm, zn, zo, zp, zq, zr, zt, zu, zw, zx, zy, zz, cE, jA, jB, hap, killE, deadOf, rwE, cD, cO, jC, jD, jE, jF, jG, jH, jI, jJ, jK, jL, jM, jN, jO, jP, jQ, jR, jS, jT, jU, jV, jW, jX, jY, hP, hk, res24, kp24, dR1, rowFlagD, dR0, rowKeyD, rowDecD, rowOpD, rowBadD, rowParse, mqS, noS, badM, Int.toNat_natCast, Int.toNat_zero, Int.toNat_one, Nat.mul_one, Nat.zero_mul, Nat.add_zero, Nat.sub_zero, Int.reduceToNat, Nat.reduceAdd, Nat.reduceMul, hany2, hk1, hk2, slE, r0, r1, z0, z1, z2, z3, z4, z5, z6])
        refine ⟨by have := (hl word (by simp)).2; omega, htail () _ (sub_mk ⟨rfl, rfl, rfl, rfl, rfl, rfl, rfl, rfl, rfl, rfl, rfl, trivial⟩)⟩
      | false =>
        have hany2 : anyF l (UInt8.ofNat 98) = false := hany
        rw [hany, if_neg (by simp)] at hky
        have hk1 : word = key := congrArg Prod.fst hky
        have hk2 : true = ok := congrArg Prod.snd hky
        subst hk1
        subst hk2
        (refine VT_ok hctr (rs := res24) true 2 _ _ _ ?_; simp (maxSteps := 1000000) only [VT, jf, jg, jZ, ja, jd, je, VC, qA, qB, qC, qD, qE, qF, qG, qH, qI, qJ, qK, qL, qM, qN, qO, qP, qQ, qR, qS, qT, qU, qV, qW, qX, qY, qZ, qe, qf, qg, qh, qj, qk, ql, qm, qn, qo, qp, qq, q0t, qu, qv, ev, qw, qy, qz, zA, zB, zC, zD, zE, zF, zG, zH, zI, zJ, TE.sv, zK, zL, zM, ↓reduceIte, reduceCtorEq, Value.oneCell', Nat.reduceEqDiff, Nat.reduceAdd, Nat.reduceLT, Nat.reduceBEq, Nat.reduceSub, Nat.reduceLeDiff, zP, zQ, zR, zS, zT, zU, zV, zW, zX, zY, zZ, za, zb, zc, zd, ze, zf, zg, zh, zi, zj, zk, zl, zm, zn, zo, zp, zq, zr, zt, zu, zw, zx, zy, zz, cE, jA, jB, hap, killE, deadOf, rwE, cD, cO, jC, jD, jE, jF, jG, jH, jI, jJ, jK, jL, jM, jN, jO, jP, jQ, jR, jS, jT, jU, jV, jW, jX, jY, hP, hk, res24, kp24, dR1, rowFlagD, dR0, rowKeyD, rowDecD, rowOpD, rowBadD, rowParse, mqS, noS, badM, Int.toNat_natCast, Int.toNat_zero, Int.toNat_one, Nat.mul_one, Nat.zero_mul, Nat.add_zero, Nat.sub_zero, Int.reduceToNat, Nat.reduceAdd, Nat.reduceMul, hany2])
        exact htail () _ (sub_mk ⟨rfl, rfl, rfl, rfl, rfl, rfl, rfl, rfl, rfl, rfl, rfl, trivial⟩)
    intro _
    have hctr : CtrOk C (dR1 l) := dR1_ok hP
    have hkl : key.length ≤ 9223372036854775806 := by
      have h1 := (hl word (by simp)).2
      have h2 : key = (keyD word l).1 := by rw [hky]
      rw [h2]
      unfold keyD
      split
      · have := refV_le word; omega
      · show word.length ≤ _; omega
    have w9 : (f_format == []) = false := rfl
    show Run C _ 149 (slE b oo n cap behind st v sk ok) [rqZ, rqG l.length name word, ddE, fwE l, enC { c1 with key := key } true]
    by_cases hbk : ok = false ∨ keyB key = false
    · rw [if_pos hbk, if_neg (fun h => by have := h.1; exact absurd this (by decide))] at hbd
      rw [hbd, if_pos (by decide)] at hdoc
      cases ok with
      | false =>
        (refine VT_ok hctr (rs := res24) true 300 _ _ _ ?_; simp (maxSteps := 1000000) only [VT, jf, jg, jZ, ja, jd, je, VC, qA, qB, qC, qD, qE, qF, qG, qH, qI, qJ, qK, qL, qM, qN, qO, qP, qQ, qR, qS, qT, qU, qV, qW, qX, qY, qZ, qe, qf, qg, qh, qj, qk, ql, qm, qn, qo, qp, qq, q0t, qu, qv, ev, qw, qy, qz, zA, zB, zC, zD, zE, zF, zG, zH, zI, zJ, TE.sv, zK, zL, zM, ↓reduceIte, reduceCtorEq, Value.oneCell', Nat.reduceEqDiff, Nat.reduceAdd, Nat.reduceLT, Nat.reduceBEq, Nat.reduceSub, Nat.reduceLeDiff, zP, zQ, zR, zS, zT, zU, zV, zW, zX, zY, zZ, za, zb, zc, zd, ze, zf, zg, zh, zi, zj, zk, zl, zm, zn, zo, zp, zq, zr, zt, zu, zw, zx, zy, zz, cE, jA, jB, hap, killE, deadOf, rwE, cD, cO, jC, jD, jE, jF, jG, jH, jI, jJ, jK, jL, jM, jN, jO, jP, jQ, jR, jS, jT, jU, jV, jW, jX, jY, hP, hk, res24, kp24, dR1, rowFlagD, dR0, rowKeyD, rowDecD, rowOpD, rowBadD, rowParse, mqS, noS, badM, Int.toNat_natCast, Int.toNat_zero, Int.toNat_one, Nat.mul_one, Nat.zero_mul, Nat.add_zero, Nat.sub_zero, Int.reduceToNat, Nat.reduceAdd, Nat.reduceMul, slE, rqG, rqZ, Mq.zero, enC, ecS, hkl, Bool.not_false, w0, lb1, lb2, lb3, lb4, u8b, UInt8.reduceToNat])
        exact bad3 (badM f_format sk) 0 _ hdoc.symm rfl rfl
      | true =>
        have hkb : keyB key = false := hbk.resolve_left (by simp)
        (refine VT_ok hctr (rs := res24) true 300 _ _ _ ?_; simp (maxSteps := 1000000) only [VT, jf, jg, jZ, ja, jd, je, VC, qA, qB, qC, qD, qE, qF, qG, qH, qI, qJ, qK, qL, qM, qN, qO, qP, qQ, qR, qS, qT, qU, qV, qW, qX, qY, qZ, qe, qf, qg, qh, qj, qk, ql, qm, qn, qo, qp, qq, q0t, qu, qv, ev, qw, qy, qz, zA, zB, zC, zD, zE, zF, zG, zH, zI, zJ, TE.sv, zK, zL, zM, ↓reduceIte, reduceCtorEq, Value.oneCell', Nat.reduceEqDiff, Nat.reduceAdd, Nat.reduceLT, Nat.reduceBEq, Nat.reduceSub, Nat.reduceLeDiff, zP, zQ, zR, zS, zT, zU, zV, zW, zX, zY, zZ, za, zb, zc, zd, ze, zf, zg, zh, zi, zj, zk, zl, zm, zn, zo, zp, zq, zr, zt, zu, zw, zx, zy, zz, cE, jA, jB, hap, killE, deadOf, rwE, cD, cO, jC, jD, jE, jF, jG, jH, jI, jJ, jK, jL, jM, jN, jO, jP, jQ, jR, jS, jT, jU, jV, jW, jX, jY, hP, hk, res24, kp24, dR1, rowFlagD, dR0, rowKeyD, rowDecD, rowOpD, rowBadD, rowParse, mqS, noS, badM, Int.toNat_natCast, Int.toNat_zero, Int.toNat_one, Nat.mul_one, Nat.zero_mul, Nat.add_zero, Nat.sub_zero, Int.reduceToNat, Nat.reduceAdd, Nat.reduceMul, slE, rqG, rqZ, Mq.zero, enC, ecS, hkl, hkb, Bool.not_false, Bool.not_true, w0, lb1, lb2, lb3, lb4, u8b, UInt8.reduceToNat])
        exact bad3 (badM f_format sk) 0 _ hdoc.symm rfl rfl
    · have hok : ok = true := by cases ok with | true => rfl | false => exact absurd (.inl rfl) hbk
      have hkb : keyB key = true := by cases h : keyB key with | true => rfl | false => exact absurd (.inr h) hbk
      subst hok
      rw [if_neg hbk] at hbd
      by_cases hbig : 65536 < v
      · have c8 : decide ((65536 : Int) < (v : Int)) = true := decide_eq_true (by omega)
        rw [if_pos ⟨rfl, hbig⟩] at hbd
        rw [hbd, if_pos (by decide)] at hdoc
        (refine VT_ok hctr (rs := res24) true 300 _ _ _ ?_; simp (maxSteps := 1000000) only [VT, jf, jg, jZ, ja, jd, je, VC, qA, qB, qC, qD, qE, qF, qG, qH, qI, qJ, qK, qL, qM, qN, qO, qP, qQ, qR, qS, qT, qU, qV, qW, qX, qY, qZ, qe, qf, qg, qh, qj, qk, ql, qm, qn, qo, qp, qq, q0t, qu, qv, ev, qw, qy, qz, zA, zB, zC, zD, zE, zF, zG, zH, zI, zJ, TE.sv, zK, zL, zM, ↓reduceIte, reduceCtorEq, Value.oneCell', Nat.reduceEqDiff, Nat.reduceAdd, Nat.reduceLT, Nat.reduceBEq, Nat.reduceSub, Nat.reduceLeDiff, zP, zQ, zR, zS, zT, zU, zV, zW, zX, zY, zZ, za, zb, zc, zd, ze, zf, zg, zh, zi, zj, zk, zl, zm, zn, zo, zp, zq, zr, zt, zu, zw, zx, zy, zz, cE, jA, jB, hap, killE, deadOf, rwE, cD, cO, jC, jD, jE, jF, jG, jH, jI, jJ, jK, jL, jM, jN, jO, jP, jQ, jR, jS, jT, jU, jV, jW, jX, jY, hP, hk, res24, kp24, dR1, rowFlagD, dR0, rowKeyD, rowDecD, rowOpD, rowBadD, rowParse, mqS, noS, badM, Int.toNat_natCast, Int.toNat_zero, Int.toNat_one, Nat.mul_one, Nat.zero_mul, Nat.add_zero, Nat.sub_zero, Int.reduceToNat, Nat.reduceAdd, Nat.reduceMul, slE, rqG, rqZ, Mq.zero, enC, ecS, hkl, hkb, c8, Bool.not_false, Bool.not_true, w0, lb1, lb2, lb3, lb4, u8b, UInt8.reduceToNat])
        exact bad3 (badM f_large sk) 0 _ hdoc.symm rfl rfl
      · have c8 : decide ((65536 : Int) < (v : Int)) = false := decide_eq_false (by omega)
        rw [if_neg (fun h => hbig h.2)] at hbd
        rw [hbd, if_neg (by simp)] at hdoc
        by_cases hsh : behind.length < sk
        · have c9 : decide ((behind.length : Int) < (sk : Int)) = true := decide_eq_true (by omega)
          rw [if_pos hsh] at hdoc
          (refine VT_ok hctr (rs := res24) true 300 _ _ _ ?_; simp (maxSteps := 1000000) only [VT, jf, jg, jZ, ja, jd, je, VC, qA, qB, qC, qD, qE, qF, qG, qH, qI, qJ, qK, qL, qM, qN, qO, qP, qQ, qR, qS, qT, qU, qV, qW, qX, qY, qZ, qe, qf, qg, qh, qj, qk, ql, qm, qn, qo, qp, qq, q0t, qu, qv, ev, qw, qy, qz, zA, zB, zC, zD, zE, zF, zG, zH, zI, zJ, TE.sv, zK, zL, zM, ↓reduceIte, reduceCtorEq, Value.oneCell', Nat.reduceEqDiff, Nat.reduceAdd, Nat.reduceLT, Nat.reduceBEq, Nat.reduceSub, Nat.reduceLeDiff, zP, zQ, zR, zS, zT, zU, zV, zW, zX, zY, zZ, za, zb, zc, zd, ze, zf, zg, zh, zi, zj, zk, zl, zm, zn, zo, zp, zq, zr, zt, zu, zw, zx, zy, zz, cE, jA, jB, hap, killE, deadOf, rwE, cD, cO, jC, jD, jE, jF, jG, jH, jI, jJ, jK, jL, jM, jN, jO, jP, jQ, jR, jS, jT, jU, jV, jW, jX, jY, hP, hk, res24, kp24, dR1, rowFlagD, dR0, rowKeyD, rowDecD, rowOpD, rowBadD, rowParse, mqS, noS, badM, Int.toNat_natCast, Int.toNat_zero, Int.toNat_one, Nat.mul_one, Nat.zero_mul, Nat.add_zero, Nat.sub_zero, Int.reduceToNat, Nat.reduceAdd, Nat.reduceMul, slE, rqG, rqZ, Mq.zero, enC, ecS, hkl, hkb, c8, c9, Bool.not_false, Bool.not_true, w0, lb1, lb2, lb3, lb4, u8b, UInt8.reduceToNat])
          refine Fin_cx (v := .t [.g (mqS noS noS Mq.zero), .c (.i .i64 (-1))]) hC hres24 fun ρ w' hw _ _ => ?_
          have hup := hw.up
          rw [hC] at hup
          rw [← hdoc]
          exact ⟨hup.to_below, _, rfl, MqV.none rfl rfl⟩
        · have c9 : decide ((behind.length : Int) < (sk : Int)) = false := decide_eq_false (by omega)
          rw [if_neg hsh] at hdoc
          (refine VT_ok hctr (rs := res24) true 49 _ _ _ ?_; simp (maxSteps := 1000000) only [VT, jf, jg, jZ, ja, jd, je, VC, qA, qB, qC, qD, qE, qF, qG, qH, qI, qJ, qK, qL, qM, qN, qO, qP, qQ, qR, qS, qT, qU, qV, qW, qX, qY, qZ, qe, qf, qg, qh, qj, qk, ql, qm, qn, qo, qp, qq, q0t, qu, qv, ev, qw, qy, qz, zA, zB, zC, zD, zE, zF, zG, zH, zI, zJ, TE.sv, zK, zL, zM, ↓reduceIte, reduceCtorEq, Value.oneCell', Nat.reduceEqDiff, Nat.reduceAdd, Nat.reduceLT, Nat.reduceBEq, Nat.reduceSub, Nat.reduceLeDiff, zP, zQ, zR, zS, zT, zU, zV, zW, zX, zY, zZ, za, zb, zc, zd, ze, zf, zg, zh, zi, zj, zk, zl, zm, zn, zo, zp, zq, zr, zt, zu, zw, zx, zy, zz, cE, jA, jB, hap, killE, deadOf, rwE, cD, cO, jC, jD, jE, jF, jG, jH, jI, jJ, jK, jL, jM, jN, jO, jP, jQ, jR, jS, jT, jU, jV, jW, jX, jY, hP, hk, res24, kp24, dR1, rowFlagD, dR0, rowKeyD, rowDecD, rowOpD, rowBadD, rowParse, mqS, noS, badM, Int.toNat_natCast, Int.toNat_zero, Int.toNat_one, Nat.mul_one, Nat.zero_mul, Nat.add_zero, Nat.sub_zero, Int.reduceToNat, Nat.reduceAdd, Nat.reduceMul, slE, rqG, rqZ, Mq.zero, enC, ecS, hkl, hkb, c8, c9, Bool.not_false, Bool.not_true, w0, lb1, lb2, lb3, lb4, u8b, UInt8.reduceToNat])
          have dv : (v : Int) ≤ (behind.length : Int) := by
            cases st with
            | false => have := hv0 rfl; omega
            | true => rw [if_pos rfl] at hsk; omega
          have d3 : (0 : Int) ≤ (v : Int) := by omega
          refine Run_join (κ := { _u : Unit // readM name (word :: l0) behind = (⟨1, [{ c1 with key := key, val := behind.take v }], anyF l 113, [], 0, false, name, l, word⟩, (sk : Int), false) }) (fun _ => slG v sk behind) (fun _ => [rqZ, rqG l.length name word, ddE, fwE l, enC { c1 with key := key } true]) ?_ ?_
          rotate_left
          · intro htail
            cases st with
            | true =>
              have d1 : (v : Int) ≤ (sk : Int) := by rw [if_pos rfl] at hsk; omega
              have d2 : (sk : Int) ≤ (behind.length : Int) := by omega
              by_cases hch : (behind.take sk).drop v = [13, 10]
              · have hc1 : ((behind.take sk).drop v == [13, 10]) = true := by rw [hch]; rfl
                rw [if_neg (fun h => h.2 hch)] at hdoc
                (refine VT_ok hctr (rs := res24) true 13 _ _ _ ?_; simp (maxSteps := 1000000) only [VT, jf, jg, jZ, ja, jd, je, VC, qA, qB, qC, qD, qE, qF, qG, qH, qI, qJ, qK, qL, qM, qN, qO, qP, qQ, qR, qS, qT, qU, qV, qW, qX, qY, qZ, qe, qf, qg, qh, qj, qk, ql, qm, qn, qo, qp, qq, q0t, qu, qv, ev, qw, qy, qz, zA, zB, zC, zD, zE, zF, zG, zH, zI, zJ, TE.sv, zK, zL, zM, ↓reduceIte, reduceCtorEq, Value.oneCell', Nat.reduceEqDiff, Nat.reduceAdd, Nat.reduceLT, Nat.reduceBEq, Nat.reduceSub, Nat.reduceLeDiff, zP, zQ, zR, zS, zT, zU, zV, zW, zX, zY, zZ, za, zb, zc, zd, ze, zf, zg, zh, zi, zj, zk, zl, zm, zn, zo, zp, zq, zr, zt, zu, zw, zx, zy, zz, cE, jA, jB, hap, killE, deadOf, rwE, cD, cO, jC, jD, jE, jF, jG, jH, jI, jJ, jK, jL, jM, jN, jO, jP, jQ, jR, jS, jT, jU, jV, jW, jX, jY, hP, hk, res24, kp24, dR1, rowFlagD, dR0, rowKeyD, rowDecD, rowOpD, rowBadD, rowParse, mqS, noS, badM, Int.toNat_natCast, Int.toNat_zero, Int.toNat_one, Nat.mul_one, Nat.zero_mul, Nat.add_zero, Nat.sub_zero, Int.reduceToNat, Nat.reduceAdd, Nat.reduceMul, slE, d1, d2, d3, hc1, Bool.not_true])
                exact htail ⟨(), hdoc.symm⟩ _ (sub_mk ⟨rfl, rfl, rfl, rfl, rfl, rfl, trivial⟩)
              · have hc1 : ((behind.take sk).drop v == [13, 10]) = false := by simpa using hch
                rw [if_pos ⟨rfl, hch⟩] at hdoc
                (refine VT_ok hctr (rs := res24) true 300 _ _ _ ?_; simp (maxSteps := 1000000) only [VT, jf, jg, jZ, ja, jd, je, VC, qA, qB, qC, qD, qE, qF, qG, qH, qI, qJ, qK, qL, qM, qN, qO, qP, qQ, qR, qS, qT, qU, qV, qW, qX, qY, qZ, qe, qf, qg, qh, qj, qk, ql, qm, qn, qo, qp, qq, q0t, qu, qv, ev, qw, qy, qz, zA, zB, zC, zD, zE, zF, zG, zH, zI, zJ, TE.sv, zK, zL, zM, ↓reduceIte, reduceCtorEq, Value.oneCell', Nat.reduceEqDiff, Nat.reduceAdd, Nat.reduceLT, Nat.reduceBEq, Nat.reduceSub, Nat.reduceLeDiff, zP, zQ, zR, zS, zT, zU, zV, zW, zX, zY, zZ, za, zb, zc, zd, ze, zf, zg, zh, zi, zj, zk, zl, zm, zn, zo, zp, zq, zr, zt, zu, zw, zx, zy, zz, cE, jA, jB, hap, killE, deadOf, rwE, cD, cO, jC, jD, jE, jF, jG, jH, jI, jJ, jK, jL, jM, jN, jO, jP, jQ, jR, jS, jT, jU, jV, jW, jX, jY, hP, hk, res24, kp24, dR1, rowFlagD, dR0, rowKeyD, rowDecD, rowOpD, rowBadD, rowParse, mqS, noS, badM, Int.toNat_natCast, Int.toNat_zero, Int.toNat_one, Nat.mul_one, Nat.zero_mul, Nat.add_zero, Nat.sub_zero, Int.reduceToNat, Nat.reduceAdd, Nat.reduceMul, slE, d1, d2, d3, hc1, Bool.not_false, rqG, rqZ, Mq.zero])
                exact bad3 (badM b_chunk 0) sk _ hdoc.symm rfl rfl
            | false =>
              rw [if_neg (fun h => by cases h.1)] at hdoc
              (refine VT_ok hctr (rs := res24) true 13 _ _ _ ?_; simp (maxSteps := 1000000) only [VT, jf, jg, jZ, ja, jd, je, VC, qA, qB, qC, qD, qE, qF, qG, qH, qI, qJ, qK, qL, qM, qN, qO, qP, qQ, qR, qS, qT, qU, qV, qW, qX, qY, qZ, qe, qf, qg, qh, qj, qk, ql, qm, qn, qo, qp, qq, q0t, qu, qv, ev, qw, qy, qz, zA, zB, zC, zD, zE, zF, zG, zH, zI, zJ, TE.sv, zK, zL, zM, ↓reduceIte, reduceCtorEq, Value.oneCell', Nat.reduceEqDiff, Nat.reduceAdd, Nat.reduceLT, Nat.reduceBEq, Nat.reduceSub, Nat.reduceLeDiff, zP, zQ, zR, zS, zT, zU, zV, zW, zX, zY, zZ, za, zb, zc, zd, ze, zf, zg, zh, zi, zj, zk, zl, zm, zn, zo, zp, zq, zr, zt, zu, zw, zx, zy, zz, cE, jA, jB, hap, killE, deadOf, rwE, cD, cO, jC, jD, jE, jF, jG, jH, jI, jJ, jK, jL, jM, jN, jO, jP, jQ, jR, jS, jT, jU, jV, jW, jX, jY, hP, hk, res24, kp24, dR1, rowFlagD, dR0, rowKeyD, rowDecD, rowOpD, rowBadD, rowParse, mqS, noS, badM, Int.toNat_natCast, Int.toNat_zero, Int.toNat_one, Nat.mul_one, Nat.zero_mul, Nat.add_zero, Nat.sub_zero, Int.reduceToNat, Nat.reduceAdd, Nat.reduceMul, slE])
              exact htail ⟨(), hdoc.symm⟩ _ (sub_mk ⟨rfl, rfl, rfl, rfl, rfl, rfl, trivial⟩)
          rintro ⟨_, hfin⟩
          have hctr : CtrOk C (dR1 l) := dR1_ok hP
          show Run C _ 149 (slG v sk behind) [rqZ, rqG l.length name word, ddE, fwE l, enC { c1 with key := key } true]
          (refine VT_ok hctr (rs := res24) true 300 _ _ _ ?_; simp (maxSteps := 1000000) only [VT, jf, jg, jZ, ja, jd, je, VC, qA, qB, qC, qD, qE, qF, qG, qH, qI, qJ, qK, qL, qM, qN, qO, qP, qQ, qR, qS, qT, qU, qV, qW, qX, qY, qZ, qe, qf, qg, qh, qj, qk, ql, qm, qn, qo, qp, qq, q0t, qu, qv, ev, qw, qy, qz, zA, zB, zC, zD, zE, zF, zG, zH, zI, zJ, TE.sv, zK, zL, zM, ↓reduceIte, reduceCtorEq, Value.oneCell', Nat.reduceEqDiff, Nat.reduceAdd, Nat.reduceLT, Nat.reduceBEq, Nat.reduceSub, Nat.reduceLeDiff, zP, zQ, zR, zS, zT, zU, zV, zW, zX, zY, zZ, za, zb, zc, zd, ze, zf, zg, zh, zi, zj, zk, zl, zm, zn, zo, zp, zq, zr, zt, zu, zw, zx, zy, zz, cE, jA, jB, hap, killE, deadOf, rwE, cD, cO, jC, jD, jE, jF, jG, jH, jI, jJ, jK, jL, jM, jN, jO, jP, jQ, jR, jS, jT, jU, jV, jW, jX, jY, hP, hk, res24, kp24, dR1, rowFlagD, dR0, rowKeyD, rowDecD, rowOpD, rowBadD, rowParse, mqS, noS, badM, Int.toNat_natCast, Int.toNat_zero, Int.toNat_one, Nat.mul_one, Nat.zero_mul, Nat.add_zero, Nat.sub_zero, Int.reduceToNat, Nat.reduceAdd, Nat.reduceMul, slG, rqG, rqZ, Mq.zero, enC, ecS, w0, lb1, lb2, lb3, lb4, u8b, UInt8.reduceToNat, dv, d3, List.drop_zero, Int.le_refl])
          refine ⟨⟨⟨1, [], false, [], 0, false, name, [], word⟩, .sl 5 0 1 1, 3, rfl, .inr ⟨5, 1, 1, rfl⟩, rfl, by omega, by decide, by decide⟩, ?_⟩
          obtain ⟨cc, hcc⟩ : ∃ cc : Cd, cc = { c1 with key := key, val := behind.take v } := ⟨_, rfl⟩
          have ecc : ecS cc = [.i .i64 c1.op, .i .i64 c1.mode, .s key, .s (behind.take v), .i .u32 c1.flags, .i .i64 c1.exp, .b c1.hasExp, .i .u64 c1.cas, .b c1.hasCas, .i .u64 c1.delta, .i .u64 c1.init, .b c1.down, .b c1.viv, .i .i64 c1.vive, .i .i64 c1.recache, .b c1.inval] := by rw [hcc]; rfl
          rw [← hcc] at hfin
          refine Fin_cx (v := .t [.g (mqS (.sl 5 0 1 1) (.rw 3 l.length) ⟨1, [cc], anyF l 113, [], 0, false, name, l, word⟩), .c (.i .i64 (sk : Int))]) hC hres24 fun ρ w' hw _ _ => ?_
          have hup := hw.up
          rw [hC] at hup
          obtain ⟨k1, k2⟩ := RowOk.lit (N := 5) (n := 1) (z := 16) (e := 33) (cells := ecS cc) hw hS (by rw [ecc]; rfl) (by decide) (by simp [ecS]) rfl (by unfold maxLen; decide)
          have k3 := RowOk.of (N := 3) (n := l.length) (z := 1) (e := 9) (cells := l.map SC.s) hw hS rfl (by decide)
          rw [‹C.w0 = w›] at k1 k3
          rw [st_den] at k3
          rw [hfin]
          refine ⟨hup.to_below, _, rfl, ⟨_, ρ 3, ?_, k1, k3, fun _ h3 he => ?_⟩⟩
          · show mqA ((SC.sl 5 0 1 1).den ρ) (rwOf (ρ 3) l.length) _ = _
            rw [k2]; rfl
          · have hnl : (ρ 5).nl = none := Decidable.byContradiction fun hd => by
              have := (hw.hp 5 _ _ _ (by simp) rfl).non hd
              cases this
            have := hw.inj 5 3 (by simp) (by simp) ((deadE_of rfl).2 ⟨by show ¬ ((33 : Nat) = DEAD); decide, hnl⟩) ((deadE_of rfl).2 ⟨by show ¬ ((9 : Nat) = DEAD); decide, h3⟩) he
            cases this
  · have w1 : (bt == []) = false := by simpa using hb0
    have w2 : (bt != []) = true := by simpa using hb0
    rw [if_neg hb0, if_neg (fun h => hb0 h.1)] at hbd
    rw [hbd, if_pos hb0] at hdoc
    (refine VT_ok hctr (rs := res24) true 300 _ _ _ ?_; simp (maxSteps := 1000000) only [VT, jf, jg, jZ, ja, jd, je, VC, qA, qB, qC, qD, qE, qF, qG, qH, qI, qJ, qK, qL, qM, qN, qO, qP, qQ, qR, qS, qT, qU, qV, qW, qX, qY, qZ, qe, qf, qg, qh, qj, qk, ql, qm, qn, qo, qp, qq, q0t, qu, qv, ev, qw, qy, qz, zA, zB, zC, zD, zE, zF, zG, zH, zI, zJ, TE.sv, zK, zL, zM, ↓reduceIte, reduceCtorEq, Value.oneCell', Nat.reduceEqDiff, Nat.reduceAdd, Nat.reduceLT, Nat.reduceBEq, Nat.reduceSub, Nat.reduceLeDiff, zP, zQ, zR, zS, zT, zU, zV, zW, zX, zY, zZ, za, zb, zc, zd, ze, zf, zg, zh, zi, zj, zk, zl, zm, zn, zo, zp, zq, zr, zt, zu, zw, zx, zy, zz, cE, jA, jB, hap, killE, deadOf, rwE, cD, cO, jC, jD, jE, jF, jG, jH, jI, jJ, jK, jL, jM, jN, jO, jP, jQ, jR, jS, jT, jU, jV, jW, jX, jY, hP, hk, res24, kp24, dR1, rowFlagD, dR0, rowKeyD, rowDecD, rowOpD, rowBadD, rowParse, mqS, noS, badM, Int.toNat_natCast, Int.toNat_zero, Int.toNat_one, Nat.mul_one, Nat.zero_mul, Nat.add_zero, Nat.sub_zero, Int.reduceToNat, Nat.reduceAdd, Nat.reduceMul, w1, w2, rqZ, Mq.zero])
    exact bad3 (badM bt sk) 0 _ hdoc.symm rfl rfl
end Go.Proofs.YtlaagebdbcmckaaGreatDoor
