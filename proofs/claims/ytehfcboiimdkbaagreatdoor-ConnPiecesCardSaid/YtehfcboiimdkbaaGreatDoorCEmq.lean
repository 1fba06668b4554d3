/- Requests of the meta protocol, as a walk hands them back; contracts for meta.read. -/
import Derived.Test.YtehfcboiimdkbaaGreatDoorCEall
import Derived.Test.YtehfcboiimdkbaaGreatDoorCEdec
import Derived.Test.YtehfcboiimdkbaaGreatDoorCElineP
import Derived.Test.YtehfcboiimdkbaaGreatDoorCShelfT
import Derived.Test.YtehfcboiimdkbaaGreatDoorBM
namespace Go.Proofs.YtehfcboiimdkbaaGreatDoor
set_option linter.unusedSimpArgs false
set_option linter.unusedVariables false
open Go.RowKit
set_option maxRecDepth 100000
def mqA (cv fv : Value) (r : Mq) : Value := .agg #[.int .i64 r.kind, cv, .bool r.quiet, .bool false, .string ⟨r.reply.toArray⟩, .string ⟨#[]⟩, .int .i64 r.skip, .bool r.close, .string ⟨r.name.toArray⟩, fv, .string ⟨r.word.toArray⟩]
def RowOk (b : Nat) (w' : World) (r : RE) (e z n : Nat) (vals : List Value) : Prop :=
  b ≤ r.blk ∧ rowP z n vals.length r ∧ (r.nl = none → w'.heap[r.blk]? = some (.cells (r.pre ++ vals ++ r.post).toArray e (0, 0))) ∧ (r.nl ≠ none → vals = [])
def nilR (b : Nat) : RE := ⟨b, [], [], 0, some none⟩
theorem RowOk.nil (b : Nat) (w' : World) (e z : Nat) : RowOk b w' (nilR b) e z 0 [] :=
  ⟨Nat.le_refl _, ⟨by simp, .inr ⟨rfl, rfl, rfl⟩⟩, (fun h => by cases h), fun _ => rfl⟩
theorem RowOk.mono {b b' : Nat} {w' : World} {r : RE} {e z n : Nat} {vals : List Value} (h : RowOk b w' r e z n vals) (hb : b' ≤ b) : RowOk b' w' r e z n vals := ⟨Nat.le_trans hb h.1, h.2⟩
theorem RowOk.upd {b : Nat} {w w' : World} {r : RE} {e z n : Nat} {vals : List Value} (h : RowOk b w r e z n vals) (hu : Below w.heap.size w w') : RowOk b w' r e z n vals :=
  ⟨h.1, h.2.1, fun hn => by
    have h1 := h.2.2.1 hn
    rw [hu.block r.blk (Array.getElem?_eq_some_iff.1 h1).1]; exact h1, h.2.2.2⟩
theorem RowOk.made {w w' : World} {r : RE} {e z n : Nat} {vals : List Value} {cells : List SC} (h : RowOk w.heap.size w' r e z n vals) (hc : ∀ ρ, dens ρ cells = vals) : Made w w' (rwE e z n cells) vals r := by
  obtain ⟨h1, h2, h3, h4⟩ := h
  have hl : cells.length = vals.length := by rw [← hc (fun _ => ⟨0, [], [], 0, none⟩), dens_len]
  refine ⟨?_, ?_, fun hn => ⟨h1, h3 hn⟩, fun hn => ?_, fun _ => h1⟩
  · rcases h2.2 with h | h
    · show r.pre.length = 0; rw [h.2.1]; rfl
    · show r.pre.length = 0; rw [h.2.2]; rfl
  · show rowP z n cells.length r
    rw [hl]; exact h2
  · have := h4 hn
    rw [this] at hl
    exact List.eq_nil_of_length_eq_zero hl
section
variable {C : Cx} {ρ : Nat → RE} {en : List EN} {w' : World} {N e z n : Nat} {cells : List SC}
theorem RowOk.of (hw : Hw C ρ (· < en.length) en w') (hS : C.S = Non) (hN : zD en N = some (rwE e z n cells)) (he : e ≠ DEAD) : RowOk C.w0.heap.size w' (ρ N) e z n (dens ρ cells) := by
  have lN : N < en.length := by rw [nthS_eq] at hN; exact (List.getElem?_eq_some_iff.1 hN).1
  refine ⟨(hw.mu N _ _ lN hN).resolve_left (by rw [hS]; exact fun h => h), ?_, fun hn => ?_, fun hn => ?_⟩
  · have := (hw.ho N _ _ _ lN hN).2
    rw [dens_len]; exact this
  · exact (hw.hp N _ _ _ lN hN).heap ⟨he, hn⟩
  · have := (hw.hp N _ _ _ lN hN).non hn
    rw [this]; rfl
theorem RowOk.lit (hw : Hw C ρ (· < en.length) en w') (hS : C.S = Non) (hN : zD en N = some ⟨(e, 0, whole), cells, true⟩) (he : e ≠ DEAD) (hne : cells ≠ []) (hl : cells.length = n * z) (hn : n ≤ maxLen) :
    RowOk C.w0.heap.size w' ⟨(ρ N).blk, [], [], n, none⟩ e z n (dens ρ cells) ∧ (SC.sl N 0 n n).den ρ = rwOf ⟨(ρ N).blk, [], [], n, none⟩ n := by
  have lN : N < en.length := by rw [nthS_eq] at hN; exact (List.getElem?_eq_some_iff.1 hN).1
  have hnl : (ρ N).nl = none := Decidable.byContradiction fun hd => hne ((hw.hp N _ _ _ lN hN).non hd)
  obtain ⟨_, h1, h2⟩ := hw.ho N _ _ _ lN hN
  have hb := (hw.hp N _ _ _ lN hN).heap ⟨he, hnl⟩
  rw [h1, h2] at hb
  refine ⟨⟨(hw.mu N _ _ lN hN).resolve_left (by rw [hS]; exact fun h => h), ⟨by rw [dens_len, hl], .inl ⟨rfl, rfl, by simp [dens_len, hl], Nat.le_refl _, hn⟩⟩, fun _ => hb, fun h => absurd rfl h⟩, ?_⟩
  simp only [SC.den, rwOf, h1, List.length_nil]
end
def ecV (cs : List Cd) : List Value := cs.flatMap fun c => (ecA c).toList
theorem ec_den (ρ : Nat → RE) : ∀ cs : List Cd, dens ρ (flatG ecS cs) = ecV cs
  | [] => rfl
  | c :: cs => by
    have := ec_den ρ cs
    simp only [dens, flatG, ecV, List.flatMap_cons, List.map_append] at this ⊢
    rw [this]; rfl
theorem ecS_wf (pr : Nat → Prop) (c : Cd) : wfs pr (ecS c) := by
  intro x hx
  simp only [ecS, List.mem_cons, List.not_mem_nil, or_false] at hx
  rcases hx with rfl | rfl | rfl | rfl | rfl | rfl | rfl | rfl | rfl | rfl | rfl | rfl | rfl | rfl | rfl | rfl <;> trivial
theorem ec_wf (pr : Nat → Prop) (cs : List Cd) : wfs pr (flatG ecS cs) := by
  intro x hx
  simp only [flatG, List.mem_flatMap] at hx
  obtain ⟨c, _, hx⟩ := hx
  exact ecS_wf pr c x hx
theorem ecS_len (c : Cd) : (ecS c).length = 16 := rfl
theorem st_den (ρ : Nat → RE) (l : List (List UInt8)) : dens ρ (l.map SC.s) = l.map encW := by simp [dens, SC.den, encW, Function.comp_def]
theorem st_wf (pr : Nat → Prop) (l : List (List UInt8)) : wfs pr (l.map SC.s) := by
  intro x hx
  obtain ⟨y, _, rfl⟩ := List.mem_map.1 hx
  trivial
def MqV (b : Nat) (w' : World) (v : Value) (r : Mq) : Prop :=
  ∃ r1 r2 : RE, v = mqA (rwOf r1 r.cmds.length) (rwOf r2 r.flags.length) r ∧ RowOk b w' r1 54 16 r.cmds.length (ecV r.cmds) ∧ RowOk b w' r2 9 1 r.flags.length (r.flags.map encW) ∧ (r1.nl = none → r2.nl = none → r1.blk ≠ r2.blk)
theorem MqV.none {b : Nat} {w' : World} {r : Mq} (h1 : r.cmds = []) (h2 : r.flags = []) : MqV b w' (mqA (.slice none 0 0) (.slice none 0 0) r) r := by
  refine ⟨nilR b, nilR b, by rw [h1, h2]; rfl, by rw [h1]; exact RowOk.nil _ _ _ _, by rw [h2]; exact RowOk.nil _ _ _ _, fun h => by cases h⟩
def cmE (r : Mq) : EN := rwE 54 16 r.cmds.length (flatG ecS r.cmds)
def flE (r : Mq) : EN := rwE 9 1 r.flags.length (r.flags.map SC.s)
def mqZ (r : Mq) (N : Nat) : List SC := mqS (.rw N r.cmds.length) (.rw (N + 1) r.flags.length) r
theorem mqR_wf {pr : Nat → Prop} {r : Mq} {N : Nat} (h1 : pr N) (h2 : pr (N + 1)) : wfs pr (mqZ r N) := by
  intro z hz
  simp only [mqZ, mqS, List.mem_cons, List.not_mem_nil, or_false] at hz
  rcases hz with rfl | rfl | rfl | rfl | rfl | rfl | rfl | rfl | rfl | rfl | rfl
  case inr.inl => exact h1
  case inr.inr.inr.inr.inr.inr.inr.inr.inr.inl => exact h2
  all_goals trivial
def RawT (w : World) (a : Option Addr) (ws : List (List UInt8)) : Prop := ∀ (k : Nat) x, ws[k]? = some x → ∃ b o, a = some ⟨b, o, none⟩ ∧ b < w.heap.size ∧ w.cell? ⟨b, o + k, none⟩ = some (.string ⟨x.toArray⟩)
theorem RawT.rd {w : World} {a : Option Addr} {ws : List (List UInt8)} (h : RawT w a ws) {D : Cx} (hS : D.S = Non) (hw : D.w0 = w) {k : Nat} {x : List UInt8} (hx : ws[k]? = some x) : ∃ b o, a = some ⟨b, o, none⟩ ∧ D.rd b (o + k) 1 = some [.s x] := by
  obtain ⟨b, o, ha, hb, hc⟩ := h k x hx
  exact ⟨b, o, ha, rd_arg (vs := [.string ⟨x.toArray⟩]) hS hw hb (fun j v hv => by
    have hj : j = 0 := by have := (List.getElem?_eq_some_iff.1 hv).1; simp at this; exact this
    subst hj
    simp only [List.getElem?_cons_zero, Option.some.injEq] at hv
    rw [← hv]; exact hc) rfl⟩
theorem RawT.upd {w w' : World} {a : Option Addr} {ws : List (List UInt8)} (h : RawT w a ws) (hu : Upd Non w w') : RawT w' a ws := by
  intro k x hx
  obtain ⟨b, o, ha, hb, hc⟩ := h k x hx
  exact ⟨b, o, ha, Nat.lt_of_lt_of_le hb hu.size, (hu.cell (p := ⟨b, o + k, none⟩) hb (fun h => h)).trans hc⟩
theorem all_h {C : Cx} {nE : Nat} {mk : Nat → Prop} {en en' : List EN} {N : Nat} {c : Cd} {allowed : List UInt8} {a : Option Addr} {n cap : Nat} {ws : List (List UInt8)} (hP : C.P = Tryz.prog) (hE : EnvC C) (hS : C.S = Non) (h0 : zD en N = some (enC c true)) (hN : N < nE) (hmk : ∀ q, ¬ mk q)
    (hn : n = ws.length) (hraw : RawT C.w0 a ws) (hl : ∀ x ∈ ws, x ≠ [] ∧ x.length ≤ 100000) (hlen : n ≤ 100000) (hen : en' = zE en N (enC (allM allowed ws c []).1 true)) :
    HCall C nE mk en en' 49 [.c (.p N 0), .c (.s allowed), .c (.v (.slice a n cap))] (.t [.c (.s (allM allowed ws c []).2.1), .c (.b ((allM allowed ws c []).2.2.contains 98)), .c (.b ((allM allowed ws c []).2.2.contains 113))]) := by
  subst hen
  refine ⟨fun args w => by rw [hP]; exact Tryz.call49 args w, ?_⟩
  intro ρ pr w hpr hmn hw hex hwf
  rw [hP]
  have hNp := hpr N hN
  obtain ⟨k1, k2, k3, k4, k5⟩ := ent_blk hw.hp hw.ho hNp h0 (by decide) (by simp [ecS])
  have hmu := (hw.mu N _ _ hNp h0).resolve_left (by rw [hS]; exact fun h => h)
  have hpl : ∀ c, pr c → c < en.length := by
    intro q hq
    refine Decidable.byContradiction fun hd => hex q hq ?_
    rw [nthS_eq, List.getElem?_eq_none (by omega)]
  have hup : ∀ w', Upd (One (ρ N).blk) w w' → Env w' := fun w' hu => hE w' (hw.up.trans hu fun q hq (hs : q = (ρ N).blk) => by omega)
  have hr : RawS w (ρ N).blk a ws := by
    intro k x hx
    obtain ⟨b, o, ha, hb, hc⟩ := hraw k x hx
    exact ⟨b, o, ha, Nat.lt_of_lt_of_le hb hw.up.size, by omega, (hw.up.cell (p := ⟨b, o + k, none⟩) hb (by rw [hS]; exact fun h => h)).trans hc⟩
  have hc := all_w (cap := cap) k1 allowed hn hr hl hlen (hE w hw.up) hup
  simp only [List.map_cons, List.map_nil, SV.den, SC.den, k2]
  refine hc.mono ?_
  rintro e w' ⟨rfl, hU, hb⟩
  refine ⟨ρ, fun _ _ => rfl, rfl, by intro y hy; simp at hy; rcases hy with rfl | rfl | rfl <;> trivial, ?_, fun q hq => absurd hq (hmk q)⟩
  have := hw.turn hpl hNp h0 (by show ¬ (54 : Nat) = DEAD; decide) k5 hU (cells' := ecS (allM allowed ws c []).1) (by rw [k3, k4]; simpa [Blk, dens_ec] using hb) (ecS_wf _ _)
  exact this.iff fun q => ⟨fun h => h.resolve_right (hmk q), Or.inl⟩
def rowCutSuf : List SV → Option (Prop × SV)
  | [.c (.s l), .c (.s p)] => some (l.length ≤ 9223372036854775807, .t [.c (.s (Lib.trimSuffix l p)), .c (.b (Lib.hasSuffix l p))])
  | _ => none
def rowMBad : List SV → Option (Prop × SV)
  | [.c (.s l), .c (.i .i64 n)] => some (True, .g (mqS noS noS (badM l n)))
  | _ => none
def rowKind : List SV → Option (Prop × SV)
  | [.c (.s name)] => some (True, .t [.g (ecS (kindM name).1), .c (.s (kindM name).2)])
  | _ => none
def rowDec : List SV → Option (Prop × SV)
  | [.c (.s s)] => some (s.length ≤ 5000, .t [.c (.s ((decB s).getD [])), .c (.b (decB s).isSome)])
  | _ => none
def eR : Ctr := fun f en xs => match f with
  | 35 => rowMBad xs
  | 37 => rowKind xs
  | 50 => rowDec xs
  | 52 => rowCutSuf xs
  | _ => tC0 f en xs
theorem eR_ok {C : Cx} (hP : C.P = Tryz.prog) (hE : EnvC C) : CtrOk C eR := by
  intro f en xs p v h hp ρ w hup hHp hHo hinj hwf
  unfold eR at h
  split at h
  · rw [hP]
    refine ⟨fun args w => Tryz.call35 args w, ?_⟩
    unfold rowMBad at h
    split at h <;> simp only [Option.some.injEq, Prod.mk.injEq, reduceCtorEq] at h
    rename_i l n
    obtain ⟨rfl, rfl⟩ := h
    exact ⟨by intro x hx; simp only [mqS, noS, List.mem_cons, List.not_mem_nil, or_false] at hx; rcases hx with rfl | rfl | rfl | rfl | rfl | rfl | rfl | rfl | rfl | rfl | rfl <;> trivial, mbad_w l n w ρ⟩
  · rw [hP]
    refine ⟨fun args w => Tryz.call37 args w, ?_⟩
    unfold rowKind at h
    split at h <;> simp only [Option.some.injEq, Prod.mk.injEq, reduceCtorEq] at h
    rename_i name
    obtain ⟨rfl, rfl⟩ := h
    refine ⟨?_, mkind_w name w ρ⟩
    intro x hx
    simp only [List.mem_cons, List.not_mem_nil, or_false] at hx
    rcases hx with rfl | rfl
    · exact ecS_wf _ _
    · trivial
  · rw [hP]
    refine ⟨fun args w => Tryz.call50 args w, ?_⟩
    unfold rowDec at h
    split at h <;> simp only [Option.some.injEq, Prod.mk.injEq, reduceCtorEq] at h
    rename_i s
    obtain ⟨rfl, rfl⟩ := h
    exact ⟨by intro x hx; simp at hx; rcases hx with rfl | rfl <;> trivial, decode_w s hp w (hE w hup)⟩
  · rw [hP]
    refine ⟨fun args w => Tryz.call52 args w, ?_⟩
    unfold rowCutSuf at h
    split at h <;> simp only [Option.some.injEq, Prod.mk.injEq, reduceCtorEq] at h
    obtain ⟨rfl, rfl⟩ := h
    refine ⟨by intro x hx; simp at hx; rcases hx with rfl | rfl <;> trivial, (Tryz.strings_CutSuffix _ _ w (by simpa [ByteArray.size] using hp)).mono ?_⟩
    rintro e w' ⟨rfl, rfl⟩
    exact ⟨rfl, Below.refl _ _⟩
  · exact tC0_ok hP hE f en xs p v h hp ρ w hup hHp hHo hinj hwf
end Go.Proofs.YtehfcboiimdkbaaGreatDoor
