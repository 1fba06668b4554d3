/- words.Line, walked; words.Split as a call of a walk. -/
import Derived.Test.YtcbmlanpianclaaGreatDoorBS05
import Derived.Test.YtcbmlanpianclaaGreatDoorBS06
import Derived.Test.YtcbmlanpianclaaGreatDoorBS00
import Derived.Test.YtcbmlanpianclaaGreatDoorBS04
import Derived.Test.YtcbmlanpianclaaGreatDoorBS03
namespace Go.Proofs.YtcbmlanpianclaaGreatDoor
set_option linter.unusedSimpArgs false
set_option linter.unusedVariables false
set_option maxHeartbeats 8000000
open Go.RowKit
set_option maxRecDepth 100000
structure EnvT (w:World):Prop where
 env:Env w
 max:∃ m,w.cell? ⟨0,0,none⟩=some (.int .i64 m)
theorem EnvT.below {w w':World} (h:EnvT w) (hb:Below w.heap.size w w'):EnvT w':=by
 obtain ⟨m,hm⟩:=h.max
 exact ⟨h.env.below hb,m,(hb.cell (p:=⟨0,0,none⟩) (zY9 hm)).trans hm⟩
theorem ib_pos (c:UInt8) (l:List UInt8):(0≤Lib.indexByte l c) ↔ (l.takeWhile (· != c)).length < l.length:=by
 induction l with
 | nil=>simp [Lib.indexByte]
 | cons b l ih =>
  by_cases hb:b=c
  ·subst hb; simp [Lib.indexByte]
  ·have hb2:(b == c)=false:=by simpa using hb
   have hb3:(b != c)=true:=by simpa using hb
   rw [List.takeWhile_cons,if_pos hb3,List.length_cons,List.length_cons]
   simp only [Lib.indexByte,hb2]
   have h2:=cut_cases c l
   constructor
   ·intro h
    have:0≤Lib.indexByte l c:=by
     rcases h2 with ⟨h1,_⟩ | ⟨k,h1,_⟩
     ·rw [h1] at h; simp at h
     ·omega
    have:=ih.1 this; omega
   ·intro h
    have:=ih.2 (by omega)
    rcases h2 with ⟨h1,_⟩ | ⟨k,h1,_⟩
    ·omega
    ·rw [h1]; simp; omega
theorem cut_ok (c:UInt8) (l:List UInt8):(Lib.cut l [c]).2.2=decide ((l.takeWhile (· != c)).length < l.length):=by
 unfold Lib.cut
 rw [Lib.index_one]
 by_cases h:0≤Lib.indexByte l c
 ·rw [if_pos h,decide_eq_true ((ib_pos c l).1 h)]
 ·rw [if_neg h,decide_eq_false (fun h2=>h ((ib_pos c l).2 h2))]
theorem trim_cr (l:List UInt8):Lib.trimSuffix l [13]=if l.getLast?=some 13 then l.dropLast else l:=by
 have h:Lib.hasSuffix l [13]=(l.getLast? == some 13):=by
  rw [Bool.eq_iff_iff,beq_iff_eq]
  show ([13]:List UInt8).isSuffixOf l=true ↔ _
  rw [List.isSuffixOf_iff_suffix]
  constructor
  ·rintro ⟨t,rfl⟩; simp
  ·intro h
   obtain ⟨ys,rfl⟩:=List.getLast?_eq_some_iff.1 h
   exact ⟨ys,rfl⟩
 unfold Lib.trimSuffix
 rw [h]
 by_cases hl:l.getLast?=some 13
 ·rw [if_pos (by rw [hl]; rfl),if_pos hl,List.dropLast_eq_take]; rfl
 ·rw [if_neg (by simpa using hl),if_neg hl]
def rowCut:List SV→Option (Prop × SV)
 | [.c (.s l),.c (.s [10])]=>some (l.length < 4294967281,.t [.c (.s (l.takeWhile (· != 10))),.c (.s ((l.dropWhile (· != 10)).drop 1)),.c (.b (decide ((l.takeWhile (· != 10)).length < l.length)))])
 | _=>none
def rowTrimS:List SV→Option (Prop × SV)
 | [.c (.s l),.c (.s p)]=>some (l.length≤9223372036854775807,.c (.s (Lib.trimSuffix l p)))
 | _=>none
def tCL:Ctr:=fun f _ xs=>match f with
 | 22=>rowCut xs
 | 31=>rowTrimS xs
 | _=>none
theorem tCL_ok {C:Cx} (hP:C.P=Tryz.prog) (hE:∀ w,Upd C.S C.w0 w→EnvT w):zC1 C tCL:=by
 intro f en xs p v h hp ρ w hup hHp hHo hinj hwf
 unfold tCL at h
 split at h
 ·rw [hP]
  refine ⟨fun args w=>Tryz.call22 args w,?_⟩
  unfold rowCut at h
  split at h <;> simp only [Option.some.injEq,Prod.mk.injEq,reduceCtorEq] at h
  rename_i l
  obtain ⟨rfl,rfl⟩:=h
  refine ⟨by intro x hx; simp at hx; rcases hx with rfl | rfl | rfl <;> trivial,?_⟩
  obtain ⟨m,hm⟩:=(hE w hup).max
  have:=Tryz.strings_Cut ⟨l.toArray⟩ ⟨#[10]⟩ m w (by simpa [ByteArray.size] using hp) hm
  have e1:(⟨l.toArray⟩:ByteArray).data.toList=l:=rfl
  have e2:(⟨#[10]⟩:ByteArray).data.toList=[10]:=rfl
  rw [e1,e2,(zP5 10 l).1,(zP5 10 l).2,cut_ok] at this
  refine this.mono ?_
  rintro e w' ⟨rfl,q,rfl⟩
  exact ⟨rfl,rfl,rfl,rfl,Nat.le_refl _,fun _ _=>rfl⟩
 ·rw [hP]
  refine ⟨fun args w=>Tryz.call31 args w,?_⟩
  unfold rowTrimS at h
  split at h <;> simp only [Option.some.injEq,Prod.mk.injEq,reduceCtorEq] at h
  obtain ⟨rfl,rfl⟩:=h
  refine ⟨trivial,(Tryz.strings_TrimSuffix _ _ w (by simpa [ByteArray.size] using hp)).mono ?_⟩
  rintro e w' ⟨rfl,rfl⟩
  exact ⟨rfl,Below.refl _ _⟩
 ·cases h
theorem line_w (l:List UInt8) (hl:l.length < 4294967281) (w:World) (hE:EnvT w):Calls Tryz.prog 21 #[.string ⟨l.toArray⟩] w fun e w'=>e=.returned (.tuple #[.string ⟨(zB1 l).1.toArray⟩,.int .i64 ((zB1 l).2:Nat)])∧Below w.heap.size w w':=by
 refine zA1 Tryz.func21 rfl kp21 (S:=Non) (ρ:=fun _=>zG7 0) (en:=[]) [.c (.s l)] Tryz.ntmps21 (At.nil _ _ _) (by simp [SV.wf,SC.wf]) (by simp) ?_
 intro C hC hP hk
 have hctr:=tCL_ok hP (fun w' hu=>by rw [hC] at hu; exact hE.below hu.to_below)
 have htl:(l.takeWhile (· != 10)).length≤l.length:=(List.takeWhile_sublist _).length_le
 have w1:IntKind.i64.wrap (((l.takeWhile (· != 10)).length:Int)+1)=(((l.takeWhile (· != 10)).length+1:Nat):Int):=by rw [IntWalk.i64_in _ (by omega)]; rfl
 have fin:∀ (x:List UInt8) (n:Int),x=(zB1 l).1→n=((zB1 l).2:Nat)→Fin C res21 (.t [.c (.s x),.c (.i .i64 n)]) []:=fun x n h1 h2=>zH3 (v:=.t [.c (.s (zB1 l).1),.c (.i .i64 ((zB1 l).2:Nat))]) hC hres21 (by rw [h1,h2]) (by simp [SV.wf,TE.wf,SC.wf])
 by_cases h:(l.takeWhile (· != 10)).length < l.length
 ·have c1:decide ((l.takeWhile (· != 10)).length < l.length)=true:=decide_eq_true h
  (refine zA0 hctr (rs:=res21) true 200 _ _ _ ?_; simp (maxSteps:=1000000) only [VT,jg,qE,qF,qG,qH,qI,qK,qN,qO,qR,qS,qT,qe,qh,ev,qw,qy,qz,zD,zI,zJ,TE.sv,zK,zM,↓reduceIte,reduceCtorEq,Nat.reduceEqDiff,Nat.reduceLT,zP,zQ,zR,zV,zW,hP,hk,res21,kp21,tCL,rowCut,rowTrimS,c1,w1])
  refine ⟨hl,by omega,fin _ _ ?_ ?_⟩
  ·unfold zB1; rw [if_pos h,trim_cr]
  ·unfold zB1; rw [if_pos h]
 ·have c1:decide ((l.takeWhile (· != 10)).length < l.length)=false:=decide_eq_false h
  (refine zA0 hctr (rs:=res21) true 200 _ _ _ ?_; simp (maxSteps:=1000000) only [VT,jf,qE,qF,qG,qH,qI,qK,qO,qT,qh,ev,qw,qy,qz,zD,zI,zJ,TE.sv,zK,↓reduceIte,reduceCtorEq,Nat.reduceEqDiff,Nat.reduceLT,zP,zQ,zR,zV,zW,hk,res21,kp21,tCL,rowCut,c1])
  refine ⟨hl,fin _ _ ?_ ?_⟩
  ·unfold zB1; rw [if_neg h]
  ·unfold zB1; rw [if_neg h]; rfl
end Go.Proofs.YtcbmlanpianclaaGreatDoor
/- A call that hands back two pieces of memory of its own, as a call of a walk. No program in sight. -/
namespace Go.Proofs.YtcbmlanpianclaaGreatDoor
set_option linter.unusedSimpArgs false
set_option linter.unusedVariables false
open Go.RowKit
theorem Made.mono {w w1 w':World} {e:EN} {vals:List Value} {r:RE} (h:Made w w' e vals r) (hs:w1.heap.size≤w.heap.size):Made w1 w' e vals r:=
 ⟨h.1,h.2.1,fun hn=>⟨Nat.le_trans hs (h.2.2.1 hn).1,(h.2.2.1 hn).2⟩,h.2.2.2.1,fun hn=>Nat.le_trans hs (h.2.2.2.2 hn)⟩
theorem zX6 {C:Cx} {nE N M:Nat} {mk:Nat→Prop} {en en':List EN} {f:FuncId} {xs:List SV} {v:SV} {e1 e2:EN} {vals1 vals2:List Value} (hent:∀ args w,(callFunc f args).run C.P w=.ok (.enter f args) w)
  (hmk:∀ q,mk q ↔ q=N∨q=M) (hNM:N ≠ M) (hn0:C.n0≤N) (hm0:C.n0≤M) (hN:zD en' N=some e1) (hM:zD en' M=some e2) (hq:∀ q,q ≠ N→q ≠ M→zD en' q=zD en q) (hl1:e1.ty.1 ≠ zC9) (hl2:e2.ty.1 ≠ zC9)
  (hc1:∀ ρ,zB8 ρ e1.cells=vals1) (hc2:∀ ρ,zB8 ρ e2.cells=vals2) (hwf1:∀ pr,wfs pr e1.cells) (hwf2:∀ pr,wfs pr e2.cells) (hvw:∀ pr:Nat→Prop,pr N→pr M→v.wf pr)
  (h:∀ ρ pr w,Hw C ρ pr en w→(∀ c,c < nE→pr c)→(∀ x∈xs,x.wf pr)→Calls C.P f (xs.map (SV.den ρ)).toArray w fun z w'=>∃ r1 r2,Made w w' e1 vals1 r1∧Made w w' e2 vals2 r2∧(r1.nl=none→r2.nl=none→r1.blk ≠ r2.blk)∧(∀ ρ':Nat→RE,(∀ c,pr c→ρ' c=ρ c)→ρ' N=r1→ρ' M=r2→z=.returned (v.den ρ'))∧Below w.heap.size w w') :
  zJ0 C nE mk en en' f xs v:=by
 refine ⟨hent,?_⟩
 intro ρ pr w hpr hmn hw hex hx
 refine (h ρ pr w hw hpr hx).mono ?_
 rintro z w' ⟨r1,r2,⟨a1,a2,a3,a4,a6⟩,⟨b1,b2,b3,b4,b6⟩,hne,k5,hb⟩
 have lN:¬ pr N:=hmn _ ((hmk _).2 (.inl rfl))
 have lM:¬ pr M:=hmn _ ((hmk _).2 (.inr rfl))
 have hup1:zK7 ρ N r1 N=r1:=if_pos rfl
 obtain ⟨en1,hen1⟩:∃ en1,en1=zE en' M (zH4 e2):=⟨_,rfl⟩
 have h1N:zD en1 N=some e1:=by rw [hen1,zG8 hNM]; exact hN
 have h1q:∀ q,q ≠ N→q ≠ M→zD en1 q=zD en q:=fun q h1 h2=>by rw [hen1,zG8 h2]; exact hq q h1 h2
 obtain ⟨g1,g2⟩:=Hw.rebuild (C:=C) (ρ:=ρ) (pr:=pr) (en:=en) (en':=en1) (w:=w) (w':=w') (N:=N) (e:=e1) (T:=Non) r1 hw lN hn0 (Upd.of_below hb) (fun _ _ h=>h.elim)
  (fun q hpq=>.inl ⟨h1q q (fun e=>lN (e ▸ hpq)) (fun e=>lM (e ▸ hpq)),fun _ h=>h⟩) h1N
  ⟨fun hh=>by rw [hup1] at hh ⊢; rw [hc1]; exact (a3 hh.2).2,hwf1 _,fun hd=>absurd hd hl1,fun hh=>by rw [hup1] at hh; exact a4 hh⟩ ⟨a1,a2⟩
  (fun hnl q hpq hd=>by
   rw [h1q q (fun e=>lN (e ▸ hpq)) (fun e=>lM (e ▸ hpq))] at hd
   have:=hw.lt hpq hd
   have:=(a3 hnl).1
   omega)
  (fun _=>.inr (by
   have:=hw.up.size
   by_cases hnl:r1.nl=none
   ·have:=(a3 hnl).1; omega
   ·have:=a6 hnl; omega))
 have lM':¬ (pr M∨M=N):=fun h=>h.elim lM (fun h=>hNM h.symm)
 have hup2:zK7 (zK7 ρ N r1) M r2 M=r2:=if_pos rfl
 have hup21:zK7 (zK7 ρ N r1) M r2 N=r1:=by
  rw [show zK7 (zK7 ρ N r1) M r2 N=zK7 ρ N r1 N from if_neg hNM]; exact hup1
 obtain ⟨g3,g4⟩:=Hw.rebuild (C:=C) (ρ:=zK7 ρ N r1) (pr:=fun q=>pr q∨q=N) (en:=en1) (en':=en') (w:=w') (w':=w') (N:=M) (e:=e2) (T:=Non) r2 g2 lM' hm0 (Upd.refl _ _) (fun _ _ h=>h.elim)
  (fun q hpq=>.inl ⟨by
   have hqM:q ≠ M:=fun e=>lM' (e ▸ hpq)
   rw [hen1,zG8 hqM],fun _ h=>h⟩) hM
  ⟨fun hh=>by rw [hup2] at hh ⊢; rw [hc2]; exact (b3 hh.2).2,hwf2 _,fun hd=>absurd hd hl2,fun hh=>by rw [hup2] at hh; exact b4 hh⟩ ⟨b1,b2⟩
  (fun hnl q hpq hd=>by
   have hqM:q ≠ M:=fun e=>lM' (e ▸ hpq)
   rcases hpq with hpq | rfl
   ·have hqN:q ≠ N:=fun e=>lN (e ▸ hpq)
    rw [show zK7 ρ N r1 q=ρ q from if_neg hqN] at hd ⊢
    rw [hq q hqN hqM] at hd
    have:=hw.lt hpq hd
    have:=(b3 hnl).1
    omega
   ·rw [hup1] at hd ⊢
    rw [hN] at hd
    exact hne (by
     cases e1 with | mk t c m=>cases t with | mk t1 t2=>simp [zG5] at hd; exact hd.2) hnl)
  (fun _=>.inr (by
   have:=hw.up.size
   by_cases hnl:r2.nl=none
   ·have:=(b3 hnl).1; omega
   ·have:=b6 hnl; omega))
 have hsame:(fun q=>(pr q∨q=N)∨q=M)=fun q=>pr q∨mk q:=funext fun q=>propext (by rw [hmk]; exact or_assoc)
 rw [hsame] at g4
 refine ⟨zK7 (zK7 ρ N r1) M r2,fun c hc=>(g3 c (.inl hc)).trans (g1 c hc),k5 _ (fun c hc=>(g3 c (.inl hc)).trans (g1 c hc)) hup21 hup2,hvw _ (.inr ((hmk _).2 (.inl rfl))) (.inr ((hmk _).2 (.inr rfl))),g4,fun q hq'=>?_⟩
 rcases (hmk q).1 hq' with rfl | rfl
 ·rw [hN]; exact fun h=>nomatch h
 ·rw [hM]; exact fun h=>nomatch h
end Go.Proofs.YtcbmlanpianclaaGreatDoor
/- Requests of the meta protocol, as a walk hands them back; contracts for meta.read. -/
namespace Go.Proofs.YtcbmlanpianclaaGreatDoor
set_option linter.unusedSimpArgs false
set_option linter.unusedVariables false
open Go.RowKit
set_option maxRecDepth 100000
def mqA (cv fv:Value) (r:Mq):Value:=.agg #[.int .i64 r.kind,cv,.bool r.quiet,.bool false,.string ⟨r.reply.toArray⟩,.string ⟨#[]⟩,.int .i64 r.skip,.bool r.close,.string ⟨r.name.toArray⟩,fv,.string ⟨r.word.toArray⟩]
def RowOk (b:Nat) (w':World) (r:RE) (e z n:Nat) (vals:List Value):Prop:=
 b≤r.blk∧rowP z n vals.length r∧(r.nl=none→w'.heap[r.blk]?=some (.cells (r.pre++vals++r.post).toArray e (0,0)))∧(r.nl ≠ none→vals=[])
def nilR (b:Nat):RE:=⟨b,[],[],0,some none⟩
theorem RowOk.nil (b:Nat) (w':World) (e z:Nat):RowOk b w' (nilR b) e z 0 []:=
 ⟨Nat.le_refl _,⟨by simp,.inr ⟨rfl,rfl,rfl⟩⟩,(fun h=>by cases h),fun _=>rfl⟩
theorem RowOk.mono {b b':Nat} {w':World} {r:RE} {e z n:Nat} {vals:List Value} (h:RowOk b w' r e z n vals) (hb:b'≤b):RowOk b' w' r e z n vals:=⟨Nat.le_trans hb h.1,h.2⟩
theorem RowOk.upd {b:Nat} {w w':World} {r:RE} {e z n:Nat} {vals:List Value} (h:RowOk b w r e z n vals) (hu:Below w.heap.size w w'):RowOk b w' r e z n vals:=
 ⟨h.1,h.2.1,fun hn=>by
  have h1:=h.2.2.1 hn
  rw [hu.block r.blk (Array.getElem?_eq_some_iff.1 h1).1]; exact h1,h.2.2.2⟩
theorem RowOk.made {w w':World} {r:RE} {e z n:Nat} {vals:List Value} {cells:List SC} (h:RowOk w.heap.size w' r e z n vals) (hc:∀ ρ,zB8 ρ cells=vals):Made w w' (rwE e z n cells) vals r:=by
 obtain ⟨h1,h2,h3,h4⟩:=h
 have hl:cells.length=vals.length:=by rw [← hc (fun _=>⟨0,[],[],0,none⟩),zD1]
 refine ⟨?_,?_,fun hn=>⟨h1,h3 hn⟩,fun hn=>?_,fun _=>h1⟩
 ·rcases h2.2 with h | h
  ·show r.pre.length=0; rw [h.2.1]; rfl
  ·show r.pre.length=0; rw [h.2.2]; rfl
 ·show rowP z n cells.length r
  rw [hl]; exact h2
 ·have:=h4 hn
  rw [this] at hl
  exact List.eq_nil_of_length_eq_zero hl
section
variable {C:Cx} {ρ:Nat→RE} {en:List EN} {w':World} {N e z n:Nat} {cells:List SC}
theorem RowOk.of (hw:Hw C ρ (· < en.length) en w') (hS:C.S=Non) (hN:zD en N=some (rwE e z n cells)) (he:e ≠ zC9):RowOk C.w0.heap.size w' (ρ N) e z n (zB8 ρ cells):=by
 have lN:N < en.length:=by rw [zA3] at hN; exact (List.getElem?_eq_some_iff.1 hN).1
 refine ⟨(hw.mu N _ _ lN hN).resolve_left (by rw [hS]; exact fun h=>h),?_,fun hn=>?_,fun hn=>?_⟩
 ·have:=(hw.ho N _ _ _ lN hN).2
  rw [zD1]; exact this
 ·exact (hw.hp N _ _ _ lN hN).heap ⟨he,hn⟩
 ·have:=(hw.hp N _ _ _ lN hN).non hn
  rw [this]; rfl
theorem RowOk.lit (hw:Hw C ρ (· < en.length) en w') (hS:C.S=Non) (hN:zD en N=some ⟨(e,0,whole),cells,true⟩) (he:e ≠ zC9) (hne:cells ≠ []) (hl:cells.length=n * z) (hn:n≤maxLen) :
  RowOk C.w0.heap.size w' ⟨(ρ N).blk,[],[],n,none⟩ e z n (zB8 ρ cells)∧(SC.sl N 0 n n).den ρ=zL3 ⟨(ρ N).blk,[],[],n,none⟩ n:=by
 have lN:N < en.length:=by rw [zA3] at hN; exact (List.getElem?_eq_some_iff.1 hN).1
 have hnl:(ρ N).nl=none:=Decidable.byContradiction fun hd=>hne ((hw.hp N _ _ _ lN hN).non hd)
 obtain ⟨_,h1,h2⟩:=hw.ho N _ _ _ lN hN
 have hb:=(hw.hp N _ _ _ lN hN).heap ⟨he,hnl⟩
 rw [h1,h2] at hb
 refine ⟨⟨(hw.mu N _ _ lN hN).resolve_left (by rw [hS]; exact fun h=>h),⟨by rw [zD1,hl],.inl ⟨rfl,rfl,by simp [zD1,hl],Nat.le_refl _,hn⟩⟩,fun _=>hb,fun h=>absurd rfl h⟩,?_⟩
 simp only [SC.den,zL3,h1,List.length_nil]
end
def ecV (cs:List Cd):List Value:=cs.flatMap fun c=>(ecA c).toList
theorem zE7 (ρ:Nat→RE):∀ cs:List Cd,zB8 ρ (zC2 ecS cs)=ecV cs
 | []=>rfl
 | c :: cs=>by
  have:=zE7 ρ cs
  simp only [zB8,zC2,ecV,List.flatMap_cons,List.map_append] at this ⊢
  rw [this]; rfl
theorem zM8 (pr:Nat→Prop) (c:Cd):wfs pr (ecS c):=by
 intro x hx
 simp only [ecS,List.mem_cons,List.not_mem_nil,or_false] at hx
 rcases hx with rfl | rfl | rfl | rfl | rfl | rfl | rfl | rfl | rfl | rfl | rfl | rfl | rfl | rfl | rfl | rfl <;> trivial
theorem ec_wf (pr:Nat→Prop) (cs:List Cd):wfs pr (zC2 ecS cs):=by
 intro x hx
 simp only [zC2,List.mem_flatMap] at hx
 obtain ⟨c,_,hx⟩:=hx
 exact zM8 pr c x hx
theorem ecS_len (c:Cd):(ecS c).length=16:=rfl
theorem zF4 (ρ:Nat→RE) (l:List (List UInt8)):zB8 ρ (l.map SC.s)=l.map encW:=by simp [zB8,SC.den,encW,Function.comp_def]
theorem st_wf (pr:Nat→Prop) (l:List (List UInt8)):wfs pr (l.map SC.s):=by
 intro x hx
 obtain ⟨y,_,rfl⟩:=List.mem_map.1 hx
 trivial
def MqV (b:Nat) (w':World) (v:Value) (r:Mq):Prop:=
 ∃ r1 r2:RE,v=mqA (zL3 r1 r.cmds.length) (zL3 r2 r.flags.length) r∧RowOk b w' r1 52 16 r.cmds.length (ecV r.cmds)∧RowOk b w' r2 9 1 r.flags.length (r.flags.map encW)∧(r1.nl=none→r2.nl=none→r1.blk ≠ r2.blk)
theorem MqV.none {b:Nat} {w':World} {r:Mq} (h1:r.cmds=[]) (h2:r.flags=[]):MqV b w' (mqA (.slice none 0 0) (.slice none 0 0) r) r:=by
 refine ⟨nilR b,nilR b,by rw [h1,h2]; rfl,by rw [h1]; exact RowOk.nil _ _ _ _,by rw [h2]; exact RowOk.nil _ _ _ _,fun h=>by cases h⟩
def cmE (r:Mq):EN:=rwE 52 16 r.cmds.length (zC2 ecS r.cmds)
def flE (r:Mq):EN:=rwE 9 1 r.flags.length (r.flags.map SC.s)
def mqZ (r:Mq) (N:Nat):List SC:=mqS (.rw N r.cmds.length) (.rw (N+1) r.flags.length) r
theorem mqR_wf {pr:Nat→Prop} {r:Mq} {N:Nat} (h1:pr N) (h2:pr (N+1)):wfs pr (mqZ r N):=by
 intro z hz
 simp only [mqZ,mqS,List.mem_cons,List.not_mem_nil,or_false] at hz
 rcases hz with rfl | rfl | rfl | rfl | rfl | rfl | rfl | rfl | rfl | rfl | rfl
 case inr.inl=>exact h1
 case inr.inr.inr.inr.inr.inr.inr.inr.inr.inl=>exact h2
 all_goals trivial
def RawT (w:World) (a:Option Addr) (ws:List (List UInt8)):Prop:=∀ (k:Nat) x,ws[k]?=some x→∃ b o,a=some ⟨b,o,none⟩∧b < w.heap.size∧w.cell? ⟨b,o+k,none⟩=some (.string ⟨x.toArray⟩)
theorem RawT.rd {w:World} {a:Option Addr} {ws:List (List UInt8)} (h:RawT w a ws) {D:Cx} (hS:D.S=Non) (hw:D.w0=w) {k:Nat} {x:List UInt8} (hx:ws[k]?=some x):∃ b o,a=some ⟨b,o,none⟩∧D.rd b (o+k) 1=some [.s x]:=by
 obtain ⟨b,o,ha,hb,hc⟩:=h k x hx
 exact ⟨b,o,ha,rd_arg (vs:=[.string ⟨x.toArray⟩]) hS hw hb (fun j v hv=>by
  have hj:j=0:=by have:=(List.getElem?_eq_some_iff.1 hv).1; simp at this; exact this
  subst hj
  simp only [List.getElem?_cons_zero,Option.some.injEq] at hv
  rw [← hv]; exact hc) rfl⟩
theorem RawT.upd {w w':World} {a:Option Addr} {ws:List (List UInt8)} (h:RawT w a ws) (hu:Upd Non w w'):RawT w' a ws:=by
 intro k x hx
 obtain ⟨b,o,ha,hb,hc⟩:=h k x hx
 exact ⟨b,o,ha,Nat.lt_of_lt_of_le hb hu.size,(hu.cell (p:=⟨b,o+k,none⟩) hb (fun h=>h)).trans hc⟩
theorem all_h {C:Cx} {nE:Nat} {mk:Nat→Prop} {en en':List EN} {N:Nat} {c:Cd} {allowed:List UInt8} {a:Option Addr} {n cap:Nat} {ws:List (List UInt8)} (hP:C.P=Tryz.prog) (hE:EnvC C) (hS:C.S=Non) (h0:zD en N=some (enC c true)) (hN:N < nE) (hmk:∀ q,¬ mk q)
  (hn:n=ws.length) (hraw:RawT C.w0 a ws) (hl:∀ x∈ws,x ≠ []∧x.length≤100000) (hlen:n≤100000) (hen:en'=zE en N (enC (zV8 allowed ws c []).1 true)) :
  zJ0 C nE mk en en' 58 [.c (.p N 0),.c (.s allowed),.c (.v (.slice a n cap))] (.t [.c (.s (zV8 allowed ws c []).2.1),.c (.b ((zV8 allowed ws c []).2.2.contains 98)),.c (.b ((zV8 allowed ws c []).2.2.contains 113))]):=by
 subst hen
 refine ⟨fun args w=>by rw [hP]; exact Tryz.call58 args w,?_⟩
 intro ρ pr w hpr hmn hw hex hwf
 rw [hP]
 have hNp:=hpr N hN
 obtain ⟨k1,k2,k3,k4,k5⟩:=zO4 hw.hp hw.ho hNp h0 (by decide) (by simp [ecS])
 have hmu:=(hw.mu N _ _ hNp h0).resolve_left (by rw [hS]; exact fun h=>h)
 have hpl:∀ c,pr c→c < en.length:=by
  intro q hq
  refine Decidable.byContradiction fun hd=>hex q hq ?_
  rw [zA3,List.getElem?_eq_none (by omega)]
 have hup:∀ w',Upd (One (ρ N).blk) w w'→Env w':=fun w' hu=>hE w' (hw.up.trans hu fun q hq (hs:q=(ρ N).blk)=>by omega)
 have hr:RawS w (ρ N).blk a ws:=by
  intro k x hx
  obtain ⟨b,o,ha,hb,hc⟩:=hraw k x hx
  exact ⟨b,o,ha,Nat.lt_of_lt_of_le hb hw.up.size,by omega,(hw.up.cell (p:=⟨b,o+k,none⟩) hb (by rw [hS]; exact fun h=>h)).trans hc⟩
 have hc:=all_w (cap:=cap) k1 allowed hn hr hl hlen (hE w hw.up) hup
 simp only [List.map_cons,List.map_nil,SV.den,SC.den,k2]
 refine hc.mono ?_
 rintro e w' ⟨rfl,hU,hb⟩
 refine ⟨ρ,fun _ _=>rfl,rfl,by intro y hy; simp at hy; rcases hy with rfl | rfl | rfl <;> trivial,?_,fun q hq=>absurd hq (hmk q)⟩
 have:=hw.turn hpl hNp h0 (by show ¬ (52:Nat)=zC9; decide) k5 hU (cells':=ecS (zV8 allowed ws c []).1) (by rw [k3,k4]; simpa [Blk,dens_ec] using hb) (zM8 _ _)
 exact this.iff fun q=>⟨fun h=>h.resolve_right (hmk q),Or.inl⟩
def zW7:List SV→Option (Prop × SV)
 | [.c (.s l),.c (.s p)]=>some (l.length≤9223372036854775807,.t [.c (.s (Lib.trimSuffix l p)),.c (.b (Lib.hasSuffix l p))])
 | _=>none
def zJ9:List SV→Option (Prop × SV)
 | [.c (.s l),.c (.i .i64 n)]=>some (True,.g (mqS noS noS (zD8 l n)))
 | _=>none
def zU9:List SV→Option (Prop × SV)
 | [.c (.s name)]=>some (True,.t [.g (ecS (zF0 name).1),.c (.s (zF0 name).2)])
 | _=>none
def rowDec:List SV→Option (Prop × SV)
 | [.c (.s s)]=>some (s.length≤5000,.t [.c (.s ((zU3 s).getD [])),.c (.b (zU3 s).isSome)])
 | _=>none
def eR:Ctr:=fun f en xs=>match f with
 | 38=>zJ9 xs
 | 40=>zU9 xs
 | 59=>rowDec xs
 | 61=>zW7 xs
 | _=>tC0 f en xs
theorem eR_ok {C:Cx} (hP:C.P=Tryz.prog) (hE:EnvC C):zC1 C eR:=by
 intro f en xs p v h hp ρ w hup hHp hHo hinj hwf
 unfold eR at h
 split at h
 ·rw [hP]
  refine ⟨fun args w=>Tryz.call38 args w,?_⟩
  unfold zJ9 at h
  split at h <;> simp only [Option.some.injEq,Prod.mk.injEq,reduceCtorEq] at h
  rename_i l n
  obtain ⟨rfl,rfl⟩:=h
  exact ⟨by intro x hx; simp only [mqS,noS,List.mem_cons,List.not_mem_nil,or_false] at hx; rcases hx with rfl | rfl | rfl | rfl | rfl | rfl | rfl | rfl | rfl | rfl | rfl <;> trivial,mbad_w l n w ρ⟩
 ·rw [hP]
  refine ⟨fun args w=>Tryz.call40 args w,?_⟩
  unfold zU9 at h
  split at h <;> simp only [Option.some.injEq,Prod.mk.injEq,reduceCtorEq] at h
  rename_i name
  obtain ⟨rfl,rfl⟩:=h
  refine ⟨?_,mkind_w name w ρ⟩
  intro x hx
  simp only [List.mem_cons,List.not_mem_nil,or_false] at hx
  rcases hx with rfl | rfl
  ·exact zM8 _ _
  ·trivial
 ·rw [hP]
  refine ⟨fun args w=>Tryz.call59 args w,?_⟩
  unfold rowDec at h
  split at h <;> simp only [Option.some.injEq,Prod.mk.injEq,reduceCtorEq] at h
  rename_i s
  obtain ⟨rfl,rfl⟩:=h
  exact ⟨by intro x hx; simp at hx; rcases hx with rfl | rfl <;> trivial,decode_w s hp w (hE w hup)⟩
 ·rw [hP]
  refine ⟨fun args w=>Tryz.call61 args w,?_⟩
  unfold zW7 at h
  split at h <;> simp only [Option.some.injEq,Prod.mk.injEq,reduceCtorEq] at h
  obtain ⟨rfl,rfl⟩:=h
  refine ⟨by intro x hx; simp at hx; rcases hx with rfl | rfl <;> trivial,(Tryz.strings_CutSuffix _ _ w (by simpa [ByteArray.size] using hp)).mono ?_⟩
  rintro e w' ⟨rfl,rfl⟩
  exact ⟨rfl,Below.refl _ _⟩
 ·exact tC0_ok hP hE f en xs p v h hp ρ w hup hHp hHo hinj hwf
end Go.Proofs.YtcbmlanpianclaaGreatDoor
/- (from XRNums) The reference's reader of numbers: a text says one number or none. -/
namespace Go.Proofs.YtcbmlanpianclaaGreatDoor
set_option linter.unusedSimpArgs false
set_option linter.unusedVariables false
open Go.Shelf Go.RowKit
set_option maxHeartbeats 1000000 in
theorem rparse (l:List UInt8) (hl:l.length≤9223372036854775807) (w:World) :
  Calls Tryz.prog 66 #[.string ⟨l.toArray⟩] w fun e w'=>e=.returned (zR0 l)∧w=w':=by
 by_cases hlen:l.length < 1∨20 < l.length
 ·rw [zK9 (zY7 l hlen)]
  by_cases h1:l.length < 1
  ·have h1':(l.length:Int) < 1:=by omega
   go_enter Tryz.func66,Tryz.ntmps66
   go_wp2_with fail
   go_ret2
   exact ⟨rfl,rfl⟩
  ·have h1':1≤(l.length:Int):=by omega
   have h2':20 < (l.length:Int):=by omega
   go_enter Tryz.func66,Tryz.ntmps66
   go_wp2_with fail
   go_ret2
   exact ⟨rfl,rfl⟩
 ·obtain ⟨n,hn⟩:∃ n,n=l.length:=⟨_,rfl⟩
  have h1:1≤n:=by omega
  have h2:n≤20:=by omega
  have h1':1≤(n:Int):=by omega
  have h2':(n:Int)≤20:=by omega
  have HN:=Lib.hid hn
  clear hlen
  go_enter Tryz.func66,Tryz.ntmps66
  go_wp2_with fail
  go_loop [4,5] (fun v i=>∃ k:Nat,k≤n∧i=.int .i64 k∧v=.int .u64 (zG6 (l.take k):Nat)∧zJ4 (l.take k)=true∧zG6 (l.take k) < 18446744073709551616) (fun _ i=>n - (intOf i).toNat)
  case atStart=>exact ⟨0,by omega,rfl,rfl,rfl,by show (0:Nat) < _; omega⟩
  case round =>
   obtain ⟨k,hk,rfl,rfl,hd,hv⟩:=hrel
   by_cases hlt:k < n
   ·have hkl:k < l.length:=by rw [← HN.out]; exact hlt
    have hlt':(k:Int) < (n:Int):=by omega
    have ht:=take_one l k hkl
    have hb:=UInt8.toNat_lt l[k]
    have HT:=Lib.hid ht; clear ht
    by_cases hc:48≤l[k].toNat∧l[k].toNat≤57
    ·have hc1:(48:Int)≤((⟨l.toArray⟩:ByteArray)[k]'hkl).toNat:=by show (48:Int)≤(l[k].toNat:Nat); omega
     have hc2:(((⟨l.toArray⟩:ByteArray)[k]'hkl).toNat:Int)≤57:=by show ((l[k].toNat:Nat):Int)≤57; omega
     have hdg:dgt l[k]=true:=by simp [dgt,hc]
     have HDG:=Lib.hid hdg; have HD:=Lib.hid hd; clear hdg hd
     by_cases ho:18446744073709551616≤10 * zG6 (l.take k)+(l[k].toNat - 48)
     ·have ho':(18446744073709551615 - ((((⟨l.toArray⟩:ByteArray)[k]'hkl).toNat:Int) - 48)) / 10 < (zG6 (l.take k):Int):=by
       show (18446744073709551615 - (((l[k].toNat:Nat):Int) - 48)) / 10 < (zG6 (l.take k):Int)
       omega
      have hfin:=zK9 (parseV_over l (k+1) (by rw [HT.out,zY2]; exact ho))
      have HF:=Lib.hid hfin
      clear hfin ho
      go_wp2_with fail
      go_ret2
      exact ⟨by rw [HF.out]; rfl,rfl⟩
     ·have ho':(zG6 (l.take k):Int)≤(18446744073709551615 - ((((⟨l.toArray⟩:ByteArray)[k]'hkl).toNat:Int) - 48)) / 10:=by
       show (zG6 (l.take k):Int)≤(18446744073709551615 - (((l[k].toNat:Nat):Int) - 48)) / 10
       omega
      go_wp2_with fail
      go_round
      case rel =>
       refine ⟨k+1,by omega,by go_num,?_,?_,?_⟩
       ·rw [HT.out,zY2]
        have e:((10 * zG6 (l.take k)+(l[k].toNat - 48):Nat):Int)=10 * (zG6 (l.take k):Int)+(((l[k].toNat:Nat):Int) - 48):=by omega
        rw [e]; rfl
       ·rw [HT.out,allDgt_snoc,HD.out,HDG.out]; rfl
       ·rw [HT.out,zY2]; omega
      case measure=>simp [intOf]; omega
    ·have hdg:dgt l[k]=false:=by
      unfold dgt
      rw [Bool.and_eq_false_iff,decide_eq_false_iff_not,decide_eq_false_iff_not]
      omega
     have hfin:=zK9 (parseV_bad l k hkl hdg)
     have HF:=Lib.hid hfin
     clear hfin hdg
     by_cases hc1:l[k].toNat < 48
     ·have hc1':(((⟨l.toArray⟩:ByteArray)[k]'hkl).toNat:Int) < 48:=by show ((l[k].toNat:Nat):Int) < 48; omega
      clear hc
      go_wp2_with fail
      go_ret2
      exact ⟨by rw [HF.out]; rfl,rfl⟩
     ·have hc1':(48:Int)≤((⟨l.toArray⟩:ByteArray)[k]'hkl).toNat:=by show (48:Int)≤(l[k].toNat:Nat); omega
      have hc2':(57:Int) < ((⟨l.toArray⟩:ByteArray)[k]'hkl).toNat:=by show (57:Int) < (l[k].toNat:Nat); omega
      clear hc hc1
      go_wp2_with fail
      go_ret2
      exact ⟨by rw [HF.out]; rfl,rfl⟩
   ·obtain rfl:k=n:=by omega
    have hfin:=zV2 (parseV_all l (by intro e; rw [e] at hn; simp at hn; omega) (by omega) (by rw [hn,List.take_length] at hd; exact hd) (by rw [hn,List.take_length] at hv; exact hv))
    have HF:=Lib.hid hfin
    clear hfin
    go_wp2_with fail
    go_ret2
    exact ⟨by rw [HF.out]; rfl,rfl⟩
end Go.Proofs.YtcbmlanpianclaaGreatDoor
/- (from XRSigned) Signed: the reference's reader of numbers with a sign returns the same. -/
namespace Go.Proofs.YtcbmlanpianclaaGreatDoor
set_option linter.unusedSimpArgs false
set_option linter.unusedVariables false
open Go.Shelf Go.RowKit
theorem zT7 {l:List UInt8} {n:Nat} (h:zB0 l=some n):l ≠ []∧l.length≤20∧zJ4 l=true∧zG6 l=n∧n < 18446744073709551616:=by
 unfold zB0 at h
 split at h
 ·rename_i hh; cases h; exact ⟨hh.1,hh.2.1,hh.2.2.1,rfl,hh.2.2.2⟩
 ·cases h
theorem zS1 {l:List UInt8} (h:zB0 (zH6 l)=none):zC5 l=none:=by
 unfold zC5
 rw [if_neg]
 rintro ⟨h0,h1,h2,h3⟩
 have:=val19 _ h1 h2
 rw [parseV_all _ h0 (by omega) h2 (by omega)] at h
 cases h
theorem zZ9 {l:List UInt8} {n:Nat} (h:zB0 (zH6 l)=some n) (h1:(zH6 l).length≤19) (h2:n < 9223372036854775808∨zT0 l=true∧n=9223372036854775808):zC5 l=some (if zT0 l then -(n:Int) else (n:Int)):=by
 obtain ⟨a,_,c,e,_⟩:=zT7 h
 subst e
 unfold zC5
 rw [if_pos ⟨a,h1,c,h2⟩]
theorem zQ2 {l:List UInt8} {n:Nat} (h:zB0 (zH6 l)=some n) (h1:¬ ((zH6 l).length≤19∧(n < 9223372036854775808∨zT0 l=true∧n=9223372036854775808))):zC5 l=none:=by
 obtain ⟨a,_,c,e,_⟩:=zT7 h
 subst e
 unfold zC5
 rw [if_neg (fun ⟨_,x,_,y⟩=>h1 ⟨x,y⟩)]
theorem i64_neg (n:Int) (h0:0≤n) (h1:n≤9223372036854775808):wrap64 (IntKind.u64.wrap (-n))=-n:=by unfold wrap64; rw [IntKind.wrap_u64]; omega
theorem i64_pos (n:Int) (h0:0≤n) (h1:n < 9223372036854775808):wrap64 n=n:=by unfold wrap64; omega
theorem w63:wrap64 (IntKind.u64.wrap (-9223372036854775808))=-9223372036854775808:=by decide +kernel
theorem ret_pair {k:IntKind} {a b:Int} (h:a=b):Ending.returned (.tuple #[.int k a,.bool true])=.returned (.tuple #[.int k b,.bool true]):=by rw [h]
theorem tail_one (r:List UInt8):(⟨((45:UInt8) :: r).toArray⟩:ByteArray).extract 1 (⟨((45:UInt8) :: r).toArray⟩:ByteArray).size=⟨r.toArray⟩:=by
 apply ByteArray.ext
 apply Array.toList_inj.1
 rw [Go.Lib.extract_to_end]
 rfl
set_option maxHeartbeats 1000000 in
set_option maxRecDepth 100000 in
theorem rsigned_neg (r:List UInt8) (hl:r.length≤9223372036854775806) (w:World) :
  Calls Tryz.prog 108 #[.string ⟨((45:UInt8) :: r).toArray⟩] w fun e w'=>e=.returned (zQ3 (45 :: r))∧w=w':=by
 have hsl:∀ W,(Instr.slice 9 (.string ⟨((45:UInt8) :: r).toArray⟩) (some (.int .i64 1)) none none).run Tryz.prog W=.ok (.string ⟨r.toArray⟩) W:=fun W=>by
  rw [run_slice_string_l (P:=Tryz.prog) W 9 ⟨((45:UInt8) :: r).toArray⟩ Tryz.underlying9 .i64 1 (by omega) (by show (1:Int)≤((((45:UInt8) :: r).toArray.size:Nat):Int); simp; omega)]
  exact congrArg (fun b=>Result.ok (Value.string b) W) (tail_one r)
 have hb45:((((⟨((45:UInt8) :: r).toArray⟩:ByteArray)[0]'(by show 0 < (((45:UInt8) :: r).toArray).size; simp)).toNat:Nat):Int)=45:=rfl
 have P:=fun w=>rparse r (by omega) w
 have hu:zH6 (45 :: r)=r:=rfl
 cases hp:zB0 r with
 | none =>
  rw [zF5 (zS1 (by rw [hu]; exact hp))]
  rw [zK9 hp] at P
  have PA:=Lib.hid P
  clear P hp hu
  go_enter Tryz.func108,Tryz.ntmps108
  go_wp2_with fail
  refine (PA.out _).mono ?_
  rintro e w1 ⟨rfl,rfl⟩
  go_wp2_with fail
  go_ret2
  exact ⟨rfl,rfl⟩
 | some n =>
  obtain ⟨_,hlen,_,_,hn⟩:=zT7 hp
  rw [zV2 hp] at P
  have PA:=Lib.hid P
  clear P
  by_cases h1:r.length≤19
  ·have h1':(r.length:Int)≤19:=by omega
   by_cases h2:n≤9223372036854775808
   ·rw [zS2 (zZ9 (l:=45 :: r) hp h1 (by rcases Nat.lt_or_ge n 9223372036854775808 with h | h; exact .inl h; exact .inr ⟨rfl,by omega⟩)),if_pos (show zT0 (45 :: r)=true from rfl)]
    by_cases h3:n=9223372036854775808
    ·have h2':(n:Int)≤9223372036854775808:=by omega
     have h2b:((n:Int) == 9223372036854775808)=true:=by rw [beq_iff_eq]; omega
     have HQ:=Lib.hid (show (n:Int)=9223372036854775808 by omega)
     clear hp hu h1 h2 hn hlen h3
     generalize (n:Int)=q at *
     go_enter Tryz.func108,Tryz.ntmps108
     go_wp2_with fail
     refine (PA.out _).mono ?_
     rintro e w1 ⟨rfl,rfl⟩
     go_wp2_with fail
     go_ret2
     exact ⟨by rw [HQ.out]; exact ret_pair w63,rfl⟩
    ·have h2':(n:Int) < 9223372036854775808:=by omega
     have h2b:((n:Int) == 9223372036854775808)=false:=by rw [beq_eq_false_iff_ne]; omega
     have h0':0≤(n:Int):=by omega
     have hw:=i64_neg n h0' (by omega)
     have HW:=Lib.hid hw
     clear hp hu hw h1 h2 hn hlen h3
     generalize (n:Int)=q at *
     go_enter Tryz.func108,Tryz.ntmps108
     go_wp2_with fail
     refine (PA.out _).mono ?_
     rintro e w1 ⟨rfl,rfl⟩
     go_wp2_with fail
     go_ret2
     exact ⟨ret_pair HW.out,rfl⟩
   ·rw [zF5 (zQ2 (l:=45 :: r) hp (by rw [hu]; omega))]
    have h2':9223372036854775808 < (n:Int):=by omega
    clear hp hu h1 h2 hn hlen
    generalize (n:Int)=q at *
    go_enter Tryz.func108,Tryz.ntmps108
    go_wp2_with fail
    refine (PA.out _).mono ?_
    rintro e w1 ⟨rfl,rfl⟩
    go_wp2_with fail
    go_ret2
    exact ⟨rfl,rfl⟩
  ·rw [zF5 (zQ2 (l:=45 :: r) hp (by rw [hu]; omega))]
   have h1':19 < (r.length:Int):=by omega
   clear hp hu h1 hn hlen
   generalize (n:Int)=q at *
   go_enter Tryz.func108,Tryz.ntmps108
   go_wp2_with fail
   refine (PA.out _).mono ?_
   rintro e w1 ⟨rfl,rfl⟩
   go_wp2_with fail
   go_ret2
   exact ⟨rfl,rfl⟩
theorem isNeg_byte (c:UInt8) (r:List UInt8) (h:zT0 (c :: r)=false):(((((⟨(c :: r).toArray⟩:ByteArray)[0]'(by show 0 < ((c :: r).toArray).size; simp)).toNat:Nat):Int) == 45)=false:=by
 show ((c.toNat:Int) == 45)=false
 unfold zT0 at h
 rw [beq_eq_false_iff_ne] at h ⊢
 intro e
 exact h (UInt8.toNat_inj.1 (show c.toNat=(45:UInt8).toNat by rw [show (45:UInt8).toNat=45 from rfl]; omega))
set_option maxHeartbeats 1000000 in
set_option maxRecDepth 100000 in
theorem rsigned_nil (w:World) :
  Calls Tryz.prog 108 #[.string ⟨#[]⟩] w fun e w'=>e=.returned (zQ3 [])∧w=w':=by
 have P:=fun w=>rparse [] (by decide) w
 rw [zK9 (zY7 [] (.inl (by decide)))] at P
 rw [zF5 (zS1 (l:=[]) (zY7 [] (.inl (by decide))))]
 have PA:=Lib.hid P
 clear P
 go_enter Tryz.func108,Tryz.ntmps108
 go_wp2_with fail
 refine (PA.out _).mono ?_
 rintro e w1 ⟨rfl,rfl⟩
 go_wp2_with fail
 go_ret2
 exact ⟨rfl,rfl⟩
set_option maxHeartbeats 1000000 in
set_option maxRecDepth 100000 in
theorem rsigned_pos (c:UInt8) (r:List UInt8) (hl:(c :: r).length≤9223372036854775807) (hneg:zT0 (c :: r)=false) (w:World) :
  Calls Tryz.prog 108 #[.string ⟨(c :: r).toArray⟩] w fun e w'=>e=.returned (zQ3 (c :: r))∧w=w':=by
 have hb45:=isNeg_byte c r hneg
 have P:=fun w=>rparse (c :: r) hl w
 have hu:zH6 (c :: r)=c :: r:=by unfold zH6; rw [if_neg (by rw [hneg]; decide)]
 have hll:((c :: r).length:Int)=(r.length:Int)+1:=by simp
 cases hp:zB0 (c :: r) with
 | none =>
  rw [zF5 (zS1 (by rw [hu]; exact hp))]
  rw [zK9 hp] at P
  have PA:=Lib.hid P
  clear P hp hu hll hneg
  go_enter Tryz.func108,Tryz.ntmps108
  go_wp2_with fail
  refine (PA.out _).mono ?_
  rintro e w1 ⟨rfl,rfl⟩
  go_wp2_with fail
  go_ret2
  exact ⟨rfl,rfl⟩
 | some n =>
  obtain ⟨_,hlen,_,_,hn⟩:=zT7 hp
  rw [zV2 hp] at P
  have PA:=Lib.hid P
  clear P
  have hp':zB0 (zH6 (c :: r))=some n:=by rw [hu]; exact hp
  by_cases h1:(c :: r).length≤19
  ·have h1':(r.length:Int)+1≤19:=by omega
   by_cases h2:n < 9223372036854775808
   ·rw [zS2 (zZ9 (l:=c :: r) hp' (by rw [hu]; exact h1) (.inl h2)),if_neg (by rw [hneg]; decide)]
    have h2':(n:Int) < 9223372036854775808:=by omega
    have h2b:((n:Int) == 9223372036854775808)=false:=by rw [beq_eq_false_iff_ne]; omega
    have h0':0≤(n:Int):=by omega
    have hw:=i64_pos n h0' h2'
    have HW:=Lib.hid hw
    clear hp hp' hu hw h1 h2 hn hlen hll hneg
    generalize (n:Int)=q at *
    go_enter Tryz.func108,Tryz.ntmps108
    go_wp2_with fail
    refine (PA.out _).mono ?_
    rintro e w1 ⟨rfl,rfl⟩
    go_wp2_with fail
    go_ret2
    exact ⟨by first | rfl | exact ret_pair HW.out,rfl⟩
   ·rw [zF5 (zQ2 (l:=c :: r) hp' (by rw [hu,hneg]; simp; omega))]
    by_cases h3:n=9223372036854775808
    ·have h2':(n:Int)≤9223372036854775808:=by omega
     have h2b:((n:Int) == 9223372036854775808)=true:=by rw [beq_iff_eq]; omega
     clear hp hp' hu h1 h2 hn hlen hll hneg h3
     generalize (n:Int)=q at *
     go_enter Tryz.func108,Tryz.ntmps108
     go_wp2_with fail
     refine (PA.out _).mono ?_
     rintro e w1 ⟨rfl,rfl⟩
     go_wp2_with fail
     go_ret2
     exact ⟨rfl,rfl⟩
    ·have h2':9223372036854775808 < (n:Int):=by omega
     clear hp hp' hu h1 h2 hn hlen hll hneg h3
     generalize (n:Int)=q at *
     go_enter Tryz.func108,Tryz.ntmps108
     go_wp2_with fail
     refine (PA.out _).mono ?_
     rintro e w1 ⟨rfl,rfl⟩
     go_wp2_with fail
     go_ret2
     exact ⟨rfl,rfl⟩
  ·rw [zF5 (zQ2 (l:=c :: r) hp' (by rw [hu]; omega))]
   have h1':19 < (r.length:Int)+1:=by omega
   clear hp hp' hu h1 hn hlen hll hneg
   generalize (n:Int)=q at *
   go_enter Tryz.func108,Tryz.ntmps108
   go_wp2_with fail
   refine (PA.out _).mono ?_
   rintro e w1 ⟨rfl,rfl⟩
   go_wp2_with fail
   go_ret2
   exact ⟨rfl,rfl⟩
theorem rsigned (l:List UInt8) (hl:l.length≤9223372036854775807) (w:World) :
  Calls Tryz.prog 108 #[.string ⟨l.toArray⟩] w fun e w'=>e=.returned (zQ3 l)∧w=w':=by
 cases l with
 | nil=>exact rsigned_nil w
 | cons c r =>
  cases hn:zT0 (c :: r) with
  | true =>
   obtain ⟨r',e⟩:=isNeg_cons hn
   cases e
   exact rsigned_neg r (by simp at hl; omega) w
  | false=>exact rsigned_pos c r hl hn w
end Go.Proofs.YtcbmlanpianclaaGreatDoor
/- The document's small functions of the meta grammar, walked. Printed by gen_edoc1.py. -/
namespace Go.Proofs.YtcbmlanpianclaaGreatDoor
set_option linter.unusedSimpArgs false
set_option linter.unusedVariables false
set_option maxHeartbeats 8000000
open Go.RowKit
set_option maxRecDepth 100000
def dG0:Ctr:=fun f _ xs=>match f with
 | 66=>zA8 xs
 | 108=>zH8 xs
 | _=>none
theorem zR4 {C:Cx} (hP:C.P=Tryz.prog):zC1 C dG0:=by
 intro f en xs p v h hp ρ w hup hHp hHo hinj hwf
 unfold dG0 at h
 split at h
 ·rw [hP]
  refine ⟨fun args w=>Tryz.call66 args w,?_⟩
  unfold zA8 at h
  split at h <;> simp only [Option.some.injEq,Prod.mk.injEq,reduceCtorEq] at h
  obtain ⟨rfl,rfl⟩:=h
  refine ⟨by simp [SV.wf,TE.wf,SC.wf],(rparse _ hp w).mono ?_⟩
  rintro e w' ⟨rfl,rfl⟩
  exact ⟨rfl,Below.refl _ _⟩
 ·rw [hP]
  refine ⟨fun args w=>Tryz.call108 args w,?_⟩
  unfold zH8 at h
  split at h <;> simp only [Option.some.injEq,Prod.mk.injEq,reduceCtorEq] at h
  obtain ⟨rfl,rfl⟩:=h
  refine ⟨by simp [SV.wf,TE.wf,SC.wf],(rsigned _ hp w).mono ?_⟩
  rintro e w' ⟨rfl,rfl⟩
  exact ⟨rfl,Below.refl _ _⟩
 ·cases h
def zD2 (l:List UInt8):Int × Bool:=if (zI2 l).2 then zI2 l else (0,false)
theorem dsecs_w (l:List UInt8) (hl:l.length≤9223372036854775807) (w:World):Calls Tryz.prog 72 #[.string ⟨l.toArray⟩] w fun e w'=>e=.returned (.tuple #[.int .i64 (zD2 l).1,.bool (zD2 l).2])∧Below w.heap.size w w':=by
 refine zA1 Tryz.func72 rfl kp72 (S:=Non) (ρ:=fun _=>zG7 0) (en:=[]) [.c (.s l)] Tryz.ntmps72 (At.nil _ _ _) (by simp [SV.wf,SC.wf]) (by simp) ?_
 intro C hC hP hk
 have hctr:=zR4 hP
 have fin:∀ n b en,zD2 l=(n,b)→Fin C res72 (.t [.c (.i .i64 n),.c (.b b)]) en:=fun n b en h=>zH3 (v:=.t [.c (.i .i64 (zD2 l).1),.c (.b (zD2 l).2)]) hC hres72 (by rw [h]) (by simp [SV.wf,TE.wf,SC.wf])
 cases hv:zC5 l with
 | none =>
  (refine zA0 hctr (rs:=res72) true 200 _ _ _ ?_; simp (maxSteps:=1000000) only [VT,jf,aA,qE,qF,qG,qH,qI,qK,qO,qT,qh,qp,ev,qw,qy,qz,zD,zI,zJ,TE.sv,zK,↓reduceIte,reduceCtorEq,Nat.reduceEqDiff,Nat.reduceLT,zP,zQ,zR,zV,zW,hP,hk,res72,kp72,dG0,zH8,hv,Option.getD_none,Option.isSome_none])
  exact ⟨hl,fin _ _ _ (by simp [zD2,zI2,hv])⟩
 | some n =>
  by_cases h1:n < -1099511627776
  ·have c1:decide (n < -1099511627776)=true:=decide_eq_true h1
   (refine zA0 hctr (rs:=res72) true 200 _ _ _ ?_; simp (maxSteps:=1000000) only [VT,jf,jg,jZ,aA,qE,qF,qG,qH,qI,qK,qO,qR,qS,qT,qh,qp,ev,qw,qy,qz,zD,zI,zJ,TE.sv,zK,↓reduceIte,reduceCtorEq,Nat.reduceEqDiff,Nat.reduceLT,zP,zQ,zR,zV,zW,hP,hk,res72,kp72,dG0,zH8,hv,Option.getD_some,Option.isSome_some,c1])
   exact ⟨hl,fin _ _ _ (by simp [zD2,zI2,hv,nearB]; omega)⟩
  have c1:decide (n < -1099511627776)=false:=decide_eq_false h1
  by_cases h2:1099511627776 < n
  ·have c2:decide (1099511627776 < n)=true:=decide_eq_true h2
   (refine zA0 hctr (rs:=res72) true 200 _ _ _ ?_; simp (maxSteps:=1000000) only [VT,jf,jg,jZ,qE,qF,qG,qH,qI,qK,qO,qR,qS,qT,qh,qp,ev,qw,qy,qz,zD,zI,zJ,TE.sv,zK,↓reduceIte,reduceCtorEq,Nat.reduceEqDiff,Nat.reduceLT,zP,zQ,zR,zV,zW,hP,hk,res72,kp72,dG0,zH8,hv,Option.getD_some,Option.isSome_some,c1,c2])
   exact ⟨hl,fin _ _ _ (by simp [zD2,zI2,hv,nearB]; omega)⟩
  have c2:decide (1099511627776 < n)=false:=decide_eq_false h2
  (refine zA0 hctr (rs:=res72) true 200 _ _ _ ?_; simp (maxSteps:=1000000) only [VT,jg,jZ,qE,qF,qG,qH,qI,qK,qO,qR,qS,qT,qh,qp,ev,qw,qy,qz,zD,zI,zJ,TE.sv,zK,↓reduceIte,reduceCtorEq,Nat.reduceEqDiff,Nat.reduceLT,zP,zQ,zR,zV,zW,hP,hk,res72,kp72,dG0,zH8,hv,Option.getD_some,Option.isSome_some,c1,c2])
  have hn:nearB n=true:=by simp [nearB]; omega
  exact ⟨hl,fin _ _ _ (by simp [zD2,zI2,hv,hn])⟩
def slDh (s:List UInt8) (c:UInt8) (j:Nat):List (Nat × SV):=[(5,.c (.i .i64 (j:Int))),(1,.c (.i .u8 (c.toNat:Int))),(0,.c (.s s))]
theorem dhas_w (s:List UInt8) (c:UInt8) (hs:s.length≤9223372036854775806) (w:World):Calls Tryz.prog 104 #[.string ⟨s.toArray⟩,.int .u8 (c.toNat:Int)] w fun e w'=>e=.returned (.bool (s.contains c))∧Below w.heap.size w w':=by
 refine zA1 Tryz.func104 rfl kp104 (S:=Non) (ρ:=fun _=>zG7 0) (en:=[]) [.c (.s s),.c (.i .u8 (c.toNat:Int))] Tryz.ntmps104 (At.nil _ _ _) (by simp [SV.wf,SC.wf]) (by simp) ?_
 intro C hC hP hk
 have hctr:=zR4 hP
 have fin:∀ b en,b=s.contains c→Fin C res104 (.c (.b b)) en:=fun b en hb=>by subst hb; exact zH3 (v:=.c (.b (s.contains c))) hC hres104 rfl trivial
 (refine zA0 hctr (rs:=res104) true 300 _ _ _ ?_; simp (maxSteps:=1000000) only [VT,qH,qI,qK,qO,ev,qz,zI,zJ,zK,↓reduceIte,reduceCtorEq,Nat.reduceEqDiff,Nat.reduceLT,zP,zR,zt,hk,kp104])
 refine zD6 (ι:={ j:Nat // j≤s.length∧s.contains c=(s.drop j).contains c }) (fun j=>slDh s c j.1) (fun _=>[]) (fun j=>s.length - j.1) ⟨0,Nat.zero_le _,rfl⟩ (zB3 ⟨rfl,rfl,rfl,trivial⟩) rfl ?_
 rintro ⟨j,hj,hall⟩ D dP dS dw dn dr dk ddf dPan dRet hX hJ
 have hP0:=hP; have hk0:=hk; have hctr0:=hctr
 have hP:D.P=Tryz.prog:=by rw [dP]; exact hP0
 have hk:D.kp=kp104:=by rw [dk]; exact hk0
 have hctr:zC1 D dG0:=zR4 hP
 have dFin:∀ b en,b=s.contains c→Fin D res104 (.c (.b b)) en:=fun b en hb ρ a w' hw hn hwf hd hr=>dRet _ _ (fin b en hb ρ a w' (hw.toC dS.symm dw.symm dr.symm dn.symm) (by rw [← dn]; exact hn) hwf (hd.trans ddf) (fun fn h=>by rw [← dP]; exact hr fn h))
 show Run D _ _ (slDh s c j) []
 by_cases hjn:j < s.length
 ·obtain ⟨x,hx⟩:∃ x,s[j]?=some x:=⟨_,List.getElem?_eq_getElem hjn⟩
  have hgd:s.getD j 0=x:=by rw [List.getD_eq_getElem?_getD,hx]; rfl
  have q1:decide ((j:Int) < (s.length:Int))=true:=decide_eq_true (by omega)
  have p0:(0:Int)≤(j:Int):=by omega
  have p1:(j:Int) < (s.length:Int):=by omega
  have p3:IntKind.i64.wrap ((j:Int)+1)=((j+1:Nat):Int):=by rw [IntWalk.i64_in _ (by omega)]; rfl
  have hdr:s.drop j=x :: s.drop (j+1):=by
   rw [List.drop_eq_getElem_cons hjn]; congr 1
   exact (List.getElem?_eq_some_iff.1 hx).2
  rw [hdr,List.contains_cons] at hall
  by_cases hxc:x=c
  ·have e0:((x.toNat:Int) == (c.toNat:Int))=true:=by rw [hxc]; simp
   (refine zA0 hctr (rs:=res104) true 300 _ _ _ ?_; simp (maxSteps:=1000000) only [VT,jf,qE,qF,qG,qH,qI,qK,qN,qO,qR,qS,qY,qe,ev,qy,qz,zI,zJ,TE.sv,zM,↓reduceIte,reduceCtorEq,Nat.reduceEqDiff,Nat.reduceLT,zP,zQ,zR,zT,zV,zh,zo,hP,hk,res104,kp104,slDh,p0,p1,hgd,e0])
   exact dFin true _ (by rw [hall,hxc]; simp)
  ·have e0:((x.toNat:Int) == (c.toNat:Int))=false:=by
    rw [beq_eq_false_iff_ne]; intro h; exact hxc (UInt8.toNat_inj.1 (by omega))
   (refine zA0 hctr (rs:=res104) true 300 _ _ _ ?_; simp (maxSteps:=1000000) only [VT,jf,jg,qH,qI,qK,qN,qO,qR,qS,qY,qe,ev,qy,qz,zI,zJ,zM,↓reduceIte,reduceCtorEq,Nat.reduceEqDiff,Nat.reduceLT,zP,zQ,zR,zT,zV,zW,zh,zo,hP,hk,res104,kp104,slDh,p0,p1,p3,hgd,e0])
   refine hJ ⟨j+1,by omega,?_⟩ _ (by show s.length - (j+1) < s.length - j; omega) (zB3 ⟨rfl,rfl,rfl,trivial⟩)
   have:(c == x)=false:=by simpa using fun h=>hxc (Eq.symm h)
   rw [this,Bool.false_or] at hall; exact hall
 ·have q1:decide ((j:Int) < (s.length:Int))=false:=decide_eq_false (by omega)
  (refine zA0 hctr (rs:=res104) true 300 _ _ _ ?_; simp (maxSteps:=1000000) only [VT,jg,qH,qI,qK,qN,qO,qR,qS,qe,ev,qy,zH,zI,zJ,zM,↓reduceIte,reduceCtorEq,Nat.reduceEqDiff,Nat.reduceLT,zP,zQ,zR,zW,hP,hk,res104,kp104,slDh,q1])
  refine hX rfl rfl ?_
  have hP:=hP0; have hk:=hk0; have hctr:=hctr0
  (refine zA0 hctr (rs:=res104) true 300 _ _ _ ?_; simp (maxSteps:=1000000) only [VT,qE,qF,qG,qH,qI,qK,qO,ev,qy,qz,zI,zJ,TE.sv,↓reduceIte,reduceCtorEq,Nat.reduceEqDiff,Nat.reduceLT,zP,zR,hk,res104,kp104])
  rw [List.drop_of_length_le (by omega)] at hall
  exact fin false _ (by rw [hall]; rfl)
def opD (name:List UInt8):Int:=if name=m_mg then 1 else if name=m_ms then 2 else if name=m_md then 5 else if name=m_ma then 3 else 7
theorem dallowed_w (name:List UInt8) (w:World):Calls Tryz.prog 103 #[.string ⟨name.toArray⟩] w fun e w'=>e=.returned (.string ⟨(zF0 name).2.toArray⟩)∧Below w.heap.size w w':=by
 refine zA1 Tryz.func103 rfl kp103 (S:=Non) (ρ:=fun _=>zG7 0) (en:=[]) [.c (.s name)] Tryz.ntmps103 (At.nil _ _ _) (by simp [SV.wf,SC.wf]) (by simp) ?_
 intro C hC hP hk
 have hctr:=zR4 hP
 have fin:∀ l en,(zF0 name).2=l→Fin C res103 (.c (.s l)) en:=fun l en hl=>by subst hl; exact zH3 (v:=.c (.s ((zF0 name).2))) hC hres103 rfl trivial
 by_cases h0:name=m_me
 ·have c0:(name == [109,101])=true:=by rw [h0]; rfl
  (refine zA0 hctr (rs:=res103) true 200 _ _ _ ?_; simp (maxSteps:=1000000) only [VT,jf,qE,qF,qG,qH,qI,qK,qO,qR,qS,ev,qy,qz,zI,zJ,TE.sv,zK,↓reduceIte,reduceCtorEq,Nat.reduceEqDiff,Nat.reduceLT,zP,zQ,zR,zV,hk,res103,kp103,c0])
  exact fin _ _ (by rw [h0]; rfl)
 have c0:(name == [109,101])=false:=Bool.eq_false_iff.2 fun e=>h0 (eq_of_beq e)
 by_cases h1:name=m_mg
 ·have c1:(name == [109,103])=true:=by rw [h1]; rfl
  (refine zA0 hctr (rs:=res103) true 200 _ _ _ ?_; simp (maxSteps:=1000000) only [VT,jf,jg,qE,qF,qG,qH,qI,qK,qO,qR,qS,ev,qy,qz,zI,zJ,TE.sv,zK,↓reduceIte,reduceCtorEq,Nat.reduceEqDiff,Nat.reduceLT,zP,zQ,zR,zV,zW,hk,res103,kp103,c0,c1])
  exact fin _ _ (by rw [h1]; rfl)
 have c1:(name == [109,103])=false:=Bool.eq_false_iff.2 fun e=>h1 (eq_of_beq e)
 by_cases h2:name=m_ms
 ·have c2:(name == [109,115])=true:=by rw [h2]; rfl
  (refine zA0 hctr (rs:=res103) true 200 _ _ _ ?_; simp (maxSteps:=1000000) only [VT,jf,jg,qE,qF,qG,qH,qI,qK,qO,qR,qS,ev,qy,qz,zI,zJ,TE.sv,zK,↓reduceIte,reduceCtorEq,Nat.reduceEqDiff,Nat.reduceLT,zP,zQ,zR,zV,zW,hk,res103,kp103,c0,c1,c2])
  exact fin _ _ (by rw [h2]; rfl)
 have c2:(name == [109,115])=false:=Bool.eq_false_iff.2 fun e=>h2 (eq_of_beq e)
 by_cases h3:name=m_md
 ·have c3:(name == [109,100])=true:=by rw [h3]; rfl
  (refine zA0 hctr (rs:=res103) true 200 _ _ _ ?_; simp (maxSteps:=1000000) only [VT,jf,jg,qE,qF,qG,qH,qI,qK,qO,qR,qS,ev,qy,qz,zI,zJ,TE.sv,zK,↓reduceIte,reduceCtorEq,Nat.reduceEqDiff,Nat.reduceLT,zP,zQ,zR,zV,zW,hk,res103,kp103,c0,c1,c2,c3])
  exact fin _ _ (by rw [h3]; rfl)
 have c3:(name == [109,100])=false:=Bool.eq_false_iff.2 fun e=>h3 (eq_of_beq e)
 by_cases h4:name=m_ma
 ·have c4:(name == [109,97])=true:=by rw [h4]; rfl
  (refine zA0 hctr (rs:=res103) true 200 _ _ _ ?_; simp (maxSteps:=1000000) only [VT,jf,jg,qE,qF,qG,qH,qI,qK,qO,qR,qS,ev,qy,qz,zI,zJ,TE.sv,zK,↓reduceIte,reduceCtorEq,Nat.reduceEqDiff,Nat.reduceLT,zP,zQ,zR,zV,zW,hk,res103,kp103,c0,c1,c2,c3,c4])
  exact fin _ _ (by rw [h4]; rfl)
 have c4:(name == [109,97])=false:=Bool.eq_false_iff.2 fun e=>h4 (eq_of_beq e)
 (refine zA0 hctr (rs:=res103) true 200 _ _ _ ?_; simp (maxSteps:=1000000) only [VT,jg,qE,qF,qG,qH,qI,qK,qO,qR,qS,ev,qy,qz,zI,zJ,TE.sv,zK,↓reduceIte,reduceCtorEq,Nat.reduceEqDiff,Nat.reduceLT,zP,zQ,zR,zW,hk,res103,kp103,c0,c1,c2,c3,c4])
 exact fin _ _ (by simp [zF0,h0,h1,h2,h3,h4])
theorem dop_w (name:List UInt8) (w:World):Calls Tryz.prog 67 #[.string ⟨name.toArray⟩] w fun e w'=>e=.returned (.int .i64 (opD name))∧Below w.heap.size w w':=by
 refine zA1 Tryz.func67 rfl kp67 (S:=Non) (ρ:=fun _=>zG7 0) (en:=[]) [.c (.s name)] Tryz.ntmps67 (At.nil _ _ _) (by simp [SV.wf,SC.wf]) (by simp) ?_
 intro C hC hP hk
 have hctr:=zR4 hP
 have fin:∀ l en,opD name=l→Fin C res67 (.c (.i .i64 l)) en:=fun l en hl=>by subst hl; exact zH3 (v:=.c (.i .i64 (opD name))) hC hres67 rfl trivial
 by_cases h0:name=m_mg
 ·have c0:(name == [109,103])=true:=by rw [h0]; rfl
  (refine zA0 hctr (rs:=res67) true 200 _ _ _ ?_; simp (maxSteps:=1000000) only [VT,jf,qE,qF,qG,qH,qI,qK,qO,qR,qS,ev,qy,qz,zI,zJ,TE.sv,zK,↓reduceIte,reduceCtorEq,Nat.reduceEqDiff,Nat.reduceLT,zP,zQ,zR,zV,hk,res67,kp67,c0])
  exact fin _ _ (by rw [h0]; rfl)
 have c0:(name == [109,103])=false:=Bool.eq_false_iff.2 fun e=>h0 (eq_of_beq e)
 by_cases h1:name=m_ms
 ·have c1:(name == [109,115])=true:=by rw [h1]; rfl
  (refine zA0 hctr (rs:=res67) true 200 _ _ _ ?_; simp (maxSteps:=1000000) only [VT,jf,jg,qE,qF,qG,qH,qI,qK,qO,qR,qS,ev,qy,qz,zI,zJ,TE.sv,zK,↓reduceIte,reduceCtorEq,Nat.reduceEqDiff,Nat.reduceLT,zP,zQ,zR,zV,zW,hk,res67,kp67,c0,c1])
  exact fin _ _ (by rw [h1]; rfl)
 have c1:(name == [109,115])=false:=Bool.eq_false_iff.2 fun e=>h1 (eq_of_beq e)
 by_cases h2:name=m_md
 ·have c2:(name == [109,100])=true:=by rw [h2]; rfl
  (refine zA0 hctr (rs:=res67) true 200 _ _ _ ?_; simp (maxSteps:=1000000) only [VT,jf,jg,qE,qF,qG,qH,qI,qK,qO,qR,qS,ev,qy,qz,zI,zJ,TE.sv,zK,↓reduceIte,reduceCtorEq,Nat.reduceEqDiff,Nat.reduceLT,zP,zQ,zR,zV,zW,hk,res67,kp67,c0,c1,c2])
  exact fin _ _ (by rw [h2]; rfl)
 have c2:(name == [109,100])=false:=Bool.eq_false_iff.2 fun e=>h2 (eq_of_beq e)
 by_cases h3:name=m_ma
 ·have c3:(name == [109,97])=true:=by rw [h3]; rfl
  (refine zA0 hctr (rs:=res67) true 200 _ _ _ ?_; simp (maxSteps:=1000000) only [VT,jf,jg,qE,qF,qG,qH,qI,qK,qO,qR,qS,ev,qy,qz,zI,zJ,TE.sv,zK,↓reduceIte,reduceCtorEq,Nat.reduceEqDiff,Nat.reduceLT,zP,zQ,zR,zV,zW,hk,res67,kp67,c0,c1,c2,c3])
  exact fin _ _ (by rw [h3]; rfl)
 have c3:(name == [109,97])=false:=Bool.eq_false_iff.2 fun e=>h3 (eq_of_beq e)
 (refine zA0 hctr (rs:=res67) true 200 _ _ _ ?_; simp (maxSteps:=1000000) only [VT,jg,qE,qF,qG,qH,qI,qK,qO,qR,qS,ev,qy,qz,zI,zJ,TE.sv,zK,↓reduceIte,reduceCtorEq,Nat.reduceEqDiff,Nat.reduceLT,zP,zQ,zR,zW,hk,res67,kp67,c0,c1,c2,c3])
 exact fin _ _ (by simp [opD,h0,h1,h2,h3])
def slDk (s:List UInt8) (j:Nat):List (Nat × SV):=[(3,.c (.i .i64 (j:Int))),(0,.c (.s s))]
theorem dkey_w (s:List UInt8) (hs:s.length≤9223372036854775806) (w:World):Calls Tryz.prog 71 #[.string ⟨s.toArray⟩] w fun e w'=>e=.returned (.bool (zG3 s))∧Below w.heap.size w w':=by
 refine zA1 Tryz.func71 rfl kp71 (S:=Non) (ρ:=fun _=>zG7 0) (en:=[]) [.c (.s s)] Tryz.ntmps71 (At.nil _ _ _) (by simp [SV.wf,SC.wf]) (by simp) ?_
 intro C hC hP hk
 have hctr:=zR4 hP
 have fin:∀ b en,b=zG3 s→Fin C res71 (.c (.b b)) en:=fun b en hb=>by subst hb; exact zH3 (v:=.c (.b (zG3 s))) hC hres71 rfl trivial
 have hlt8:=fun x:UInt8=>x.toNat_lt
 (refine zA0 hctr (rs:=res71) true 300 _ _ _ ?_; simp (maxSteps:=1000000) only [VT,qH,qI,qK,qO,ev,qz,zI,zJ,zK,↓reduceIte,reduceCtorEq,Nat.reduceEqDiff,Nat.reduceLT,zP,zR,hk,kp71])
 refine zD6 (ι:={ j:Nat // j≤s.length∧(s.all fun c=>decide (32 < c.toNat) && decide (c.toNat ≠ 127))=((s.drop j).all fun c=>decide (32 < c.toNat) && decide (c.toNat ≠ 127)) }) (fun j=>slDk s j.1) (fun _=>[]) (fun j=>s.length - j.1) ⟨0,Nat.zero_le _,rfl⟩ (zB3 ⟨rfl,rfl,trivial⟩) rfl ?_
 rintro ⟨j,hj,hall⟩ D dP dS dw dn dr dk ddf dPan dRet hX hJ
 have hP0:=hP; have hk0:=hk; have hctr0:=hctr
 have hP:D.P=Tryz.prog:=by rw [dP]; exact hP0
 have hk:D.kp=kp71:=by rw [dk]; exact hk0
 have hctr:zC1 D dG0:=zR4 hP
 have dFin:∀ b en,b=zG3 s→Fin D res71 (.c (.b b)) en:=fun b en hb ρ a w' hw hn hwf hd hr=>dRet _ _ (fin b en hb ρ a w' (hw.toC dS.symm dw.symm dr.symm dn.symm) (by rw [← dn]; exact hn) hwf (hd.trans ddf) (fun fn h=>by rw [← dP]; exact hr fn h))
 show Run D _ _ (slDk s j) []
 by_cases hjn:j < s.length
 ·obtain ⟨x,hx⟩:∃ x,s[j]?=some x:=⟨_,List.getElem?_eq_getElem hjn⟩
  have hgd:s.getD j 0=x:=by rw [List.getD_eq_getElem?_getD,hx]; rfl
  have q1:decide ((j:Int) < (s.length:Int))=true:=decide_eq_true (by omega)
  have p0:(0:Int)≤(j:Int):=by omega
  have p1:(j:Int) < (s.length:Int):=by omega
  have p3:IntKind.i64.wrap ((j:Int)+1)=((j+1:Nat):Int):=by rw [IntWalk.i64_in _ (by omega)]; rfl
  have hdr:s.drop j=x :: s.drop (j+1):=by
   rw [List.drop_eq_getElem_cons hjn]; congr 1
   exact (List.getElem?_eq_some_iff.1 hx).2
  rw [hdr,List.all_cons] at hall
  by_cases h1:(x.toNat:Int) < 33
  ·have e0:decide ((x.toNat:Int) < 33)=true:=decide_eq_true h1
   (refine zA0 hctr (rs:=res71) true 300 _ _ _ ?_; simp (maxSteps:=1000000) only [VT,jf,aA,qE,qF,qG,qH,qI,qK,qN,qO,qR,qS,qY,qe,qp,ev,qy,qz,zD,zI,zJ,TE.sv,zM,↓reduceIte,reduceCtorEq,Nat.reduceEqDiff,Nat.reduceLT,zP,zQ,zR,zT,zV,zh,zo,hP,hk,res71,kp71,slDk,p0,p1,hgd,e0])
   refine dFin false _ ?_
   have:decide (32 < x.toNat)=false:=decide_eq_false (by omega)
   rw [this] at hall
   simp only [Bool.false_and] at hall
   unfold zG3; rw [hall]; simp
  have e0:decide ((x.toNat:Int) < 33)=false:=decide_eq_false h1
  by_cases h2:x.toNat=127
  ·have e1:((x.toNat:Int) == 127)=true:=by rw [beq_iff_eq]; omega
   (refine zA0 hctr (rs:=res71) true 300 _ _ _ ?_; simp (maxSteps:=1000000) only [VT,jf,jg,jZ,qE,qF,qG,qH,qI,qK,qN,qO,qR,qS,qY,qe,qp,ev,qy,qz,zD,zI,zJ,TE.sv,zM,↓reduceIte,reduceCtorEq,Nat.reduceEqDiff,Nat.reduceLT,zP,zQ,zR,zT,zV,zW,zh,zo,hP,hk,res71,kp71,slDk,p0,p1,hgd,e0,e1])
   refine dFin false _ ?_
   have:decide (x.toNat ≠ 127)=false:=decide_eq_false (fun h=>h h2)
   rw [this] at hall
   simp only [Bool.and_false,Bool.false_and] at hall
   unfold zG3; rw [hall]; simp
  have e1:((x.toNat:Int) == 127)=false:=by rw [beq_eq_false_iff_ne]; omega
  (refine zA0 hctr (rs:=res71) true 300 _ _ _ ?_; simp (maxSteps:=1000000) only [VT,jf,jg,jZ,qH,qI,qK,qN,qO,qR,qS,qY,qe,qp,ev,qy,qz,zD,zI,zJ,zM,↓reduceIte,reduceCtorEq,Nat.reduceEqDiff,Nat.reduceLT,zP,zQ,zR,zT,zV,zW,zh,zo,hP,hk,res71,kp71,slDk,p0,p1,p3,hgd,e0,e1])
  refine hJ ⟨j+1,by omega,?_⟩ _ (by show s.length - (j+1) < s.length - j; omega) (zB3 ⟨rfl,rfl,trivial⟩)
  have a1:decide (32 < x.toNat)=true:=decide_eq_true (by omega)
  have a2:decide (x.toNat ≠ 127)=true:=decide_eq_true h2
  rw [a1,a2] at hall
  simpa using hall
 ·have q1:decide ((j:Int) < (s.length:Int))=false:=decide_eq_false (by omega)
  (refine zA0 hctr (rs:=res71) true 300 _ _ _ ?_; simp (maxSteps:=1000000) only [VT,jg,qH,qI,qK,qN,qO,qR,qS,qe,ev,qy,zH,zI,zJ,zM,↓reduceIte,reduceCtorEq,Nat.reduceEqDiff,Nat.reduceLT,zP,zQ,zR,zW,hP,hk,res71,kp71,slDk,q1])
  refine hX rfl rfl ?_
  have hP:=hP0; have hk:=hk0; have hctr:=hctr0
  rw [List.drop_of_length_le (by omega)] at hall
  have hkb:zG3 s=(!s.isEmpty && decide (s.length≤250)):=by unfold zG3; rw [hall]; simp
  by_cases h1:(1:Int)≤(s.length:Int)
  ·have e0:decide ((1:Int)≤(s.length:Int))=true:=decide_eq_true h1
   have hne:s.isEmpty=false:=by cases s with
    | nil=>simp at h1
    | cons c t=>rfl
   (refine zA0 hctr (rs:=res71) true 300 _ _ _ ?_; simp (maxSteps:=1000000) only [VT,jf,jZ,qE,qF,qG,qH,qI,qK,qN,qO,qR,qS,qe,qp,ev,qy,qz,zD,zI,zJ,TE.sv,zM,↓reduceIte,reduceCtorEq,Nat.reduceEqDiff,Nat.reduceLT,zP,zQ,zR,zV,hP,hk,res71,kp71,e0])
   refine fin _ _ ?_
   rw [hkb,hne]
   simp
   omega
  ·have e0:decide ((1:Int)≤(s.length:Int))=false:=decide_eq_false h1
   have hne:s=[]:=List.eq_nil_of_length_eq_zero (by omega)
   (refine zA0 hctr (rs:=res71) true 300 _ _ _ ?_; simp (maxSteps:=1000000) only [VT,jg,aA,qE,qF,qG,qH,qI,qK,qN,qO,qR,qS,qe,qp,ev,qy,qz,zD,zI,zJ,TE.sv,zM,↓reduceIte,reduceCtorEq,Nat.reduceEqDiff,Nat.reduceLT,zP,zQ,zR,zW,hP,hk,res71,kp71,e0])
   exact fin _ _ (by rw [hkb,hne]; rfl)
end Go.Proofs.YtcbmlanpianclaaGreatDoor
/- The document's Line, Bad, Front, walked. Printed by gen_edoc2.py. -/
namespace Go.Proofs.YtcbmlanpianclaaGreatDoor
set_option linter.unusedSimpArgs false
set_option linter.unusedVariables false
set_option maxHeartbeats 8000000
open Go.RowKit
set_option maxRecDepth 100000
theorem line_at {b:List UInt8} {j:Nat} (hj:j < b.length) (h10:b[j]=10) (hall:∀ c∈b.take j,c ≠ 10):b.takeWhile (· != 10)=b.take j:=by
 have h:=List.take_append_drop j b
 rw [List.drop_eq_getElem_cons hj,h10] at h
 conv=>lhs; rw [← h]
 rw [List.takeWhile_append_of_pos (by intro c hc; simpa using hall c hc)]
 simp
theorem line_none {b:List UInt8} (hall:∀ c∈b,c ≠ 10):b.takeWhile (· != 10)=b:=by
 have:=List.takeWhile_append_of_pos (p:=(· != (10:UInt8))) (l₁:=b) (l₂:=[]) (fun c hc=>by simpa using hall c hc)
 simpa using this
def slDl (b:List UInt8) (j:Nat):List (Nat × SV):=[(4,.c (.i .i64 (j:Int))),(0,.c (.s b))]
theorem dline_w (b:List UInt8) (hb:b.length≤9223372036854775806) (w:World):Calls Tryz.prog 27 #[.string ⟨b.toArray⟩] w fun e w'=>e=.returned (.tuple #[.string ⟨(zB1 b).1.toArray⟩,.int .i64 ((zB1 b).2:Int)])∧Below w.heap.size w w':=by
 refine zA1 Tryz.func27 rfl kp27 (S:=Non) (ρ:=fun _=>zG7 0) (en:=[]) [.c (.s b)] Tryz.ntmps27 (At.nil _ _ _) (by simp [SV.wf,SC.wf]) (by simp) ?_
 intro C hC hP hk
 have hctr:=zR4 hP
 have fin:∀ l (n:Int) en,(zB1 b).1=l→((zB1 b).2:Int)=n→Fin C res27 (.t [.c (.s l),.c (.i .i64 n)]) en:=fun l n en hl hn=>by subst hl; subst hn; exact zH3 (v:=.t [.c (.s (zB1 b).1),.c (.i .i64 ((zB1 b).2:Int))]) hC hres27 rfl (by simp [SV.wf,TE.wf,SC.wf])
 (refine zA0 hctr (rs:=res27) true 300 _ _ _ ?_; simp (maxSteps:=1000000) only [VT,qH,qI,qK,qO,ev,qz,zI,zJ,zK,↓reduceIte,reduceCtorEq,Nat.reduceEqDiff,Nat.reduceLT,zP,zR,hk,kp27])
 refine zD6 (ι:={ j:Nat // j≤b.length∧∀ c∈b.take j,c ≠ 10 }) (fun j=>slDl b j.1) (fun _=>[]) (fun j=>b.length - j.1) ⟨0,Nat.zero_le _,by simp⟩ (zB3 ⟨rfl,rfl,trivial⟩) rfl ?_
 rintro ⟨j,hj,hall⟩ D dP dS dw dn dr dk ddf dPan dRet hX hJ
 have hP0:=hP; have hk0:=hk; have hctr0:=hctr
 have hP:D.P=Tryz.prog:=by rw [dP]; exact hP0
 have hk:D.kp=kp27:=by rw [dk]; exact hk0
 have hctr:zC1 D dG0:=zR4 hP
 have dFin:∀ l (n:Int) en,(zB1 b).1=l→((zB1 b).2:Int)=n→Fin D res27 (.t [.c (.s l),.c (.i .i64 n)]) en:=fun l n en hl hn ρ a w' hw hn' hwf hd hr=>dRet _ _ (fin l n en hl hn ρ a w' (hw.toC dS.symm dw.symm dr.symm dn.symm) (by rw [← dn]; exact hn') hwf (hd.trans ddf) (fun fn h=>by rw [← dP]; exact hr fn h))
 show Run D _ _ (slDl b j) []
 by_cases hjn:j < b.length
 ·obtain ⟨x,hx⟩:∃ x,b[j]?=some x:=⟨_,List.getElem?_eq_getElem hjn⟩
  have hxg:=(List.getElem?_eq_some_iff.1 hx).2
  have hgd:b.getD j 0=x:=by rw [List.getD_eq_getElem?_getD,hx]; rfl
  have q1:decide ((j:Int) < (b.length:Int))=true:=decide_eq_true (by omega)
  have p0:(0:Int)≤(j:Int):=by omega
  have p1:(j:Int) < (b.length:Int):=by omega
  have p2:(j:Int)≤(b.length:Int):=by omega
  have p3:IntKind.i64.wrap ((j:Int)+1)=((j+1:Nat):Int):=by rw [IntWalk.i64_in _ (by omega)]; rfl
  by_cases h10:x=10
  ·have e0:((x.toNat:Int) != 10)=false:=by rw [h10]; rfl
   have ht:=line_at hjn (hxg.trans h10) hall
   have htl:(b.take j).length=j:=by rw [List.length_take]; omega
   have hv:zB1 b=(if (b.take j).getLast?=some 13 then (b.take j).dropLast else b.take j,j+1):=by
    unfold zB1; rw [ht]; simp only [htl]; rw [if_pos hjn]
   by_cases hj0:j=0
   ·subst hj0
    have q2:decide ((0:Int) < ((0:Nat):Int))=false:=rfl
    (refine zA0 hctr (rs:=res27) true 300 _ _ _ ?_; simp (maxSteps:=1000000) only [VT,jf,jg,aA,qE,qF,qG,qH,qI,qK,qN,qO,qR,qS,qY,qZ,qe,ql,qp,ev,qy,qz,zD,zI,zJ,zM,↓reduceIte,reduceCtorEq,Nat.reduceEqDiff,Nat.reduceLT,zP,zQ,zR,zS,zT,zV,zW,zh,zo,zt,hP,hk,res27,kp27,slDl,p0,p1,p2,p3,hgd,e0,q2])
    exact ⟨Int.le_refl _,dFin _ _ _ (by rw [hv]; rfl) (by rw [hv])⟩
   ·have q2:decide ((0:Int) < (j:Int))=true:=decide_eq_true (by omega)
    obtain ⟨y,hy⟩:∃ y,b[j - 1]?=some y:=⟨_,List.getElem?_eq_getElem (by omega)⟩
    have hgy:b.getD (j - 1) 0=y:=by rw [List.getD_eq_getElem?_getD,hy]; rfl
    have p4:IntKind.i64.wrap ((j:Int) - 1)=((j - 1:Nat):Int):=by rw [IntWalk.i64_in _ (by omega)]; omega
    have p5:(0:Int)≤((j - 1:Nat):Int):=by omega
    have p6:((j - 1:Nat):Int) < (b.length:Int):=by omega
    have p7:((j - 1:Nat):Int)≤(b.length:Int):=by omega
    have hlast:(b.take j).getLast?=some y:=by
     rw [List.getLast?_eq_getElem?,htl,List.getElem?_take_of_lt (by omega)]; exact hy
    have hdl:(b.take j).dropLast=b.take (j - 1):=by
     rw [List.dropLast_eq_take,htl,List.take_take,Nat.min_eq_left (by omega)]
    by_cases h13:y=13
    ·have e1:((y.toNat:Int) == 13)=true:=by rw [h13]; rfl
     (refine zA0 hctr (rs:=res27) true 300 _ _ _ ?_; simp (maxSteps:=1000000) only [VT,jf,jg,jZ,qE,qF,qG,qH,qI,qK,qN,qO,qR,qS,qY,qZ,qe,ql,qp,ev,qy,qz,zD,zI,zJ,zM,↓reduceIte,reduceCtorEq,Nat.reduceEqDiff,Nat.reduceLT,zP,zQ,zR,zS,zT,zV,zW,zh,zo,hP,hk,res27,kp27,slDl,p0,p1,p3,p4,p5,p6,p7,hgd,hgy,e0,e1,q2])
     exact ⟨Int.le_refl _,dFin _ _ _ (by rw [hv,hlast,h13,if_pos rfl,hdl]; rfl) (by rw [hv])⟩
    ·have e1:((y.toNat:Int) == 13)=false:=by
      rw [beq_eq_false_iff_ne]; intro h; exact h13 (UInt8.toNat_inj.1 (by have:(13:UInt8).toNat=13:=rfl; omega))
     (refine zA0 hctr (rs:=res27) true 300 _ _ _ ?_; simp (maxSteps:=1000000) only [VT,jf,jg,jZ,qE,qF,qG,qH,qI,qK,qN,qO,qR,qS,qY,qZ,qe,ql,qp,ev,qy,qz,zD,zI,zJ,zM,↓reduceIte,reduceCtorEq,Nat.reduceEqDiff,Nat.reduceLT,zP,zQ,zR,zS,zT,zV,zW,zh,zo,hP,hk,res27,kp27,slDl,p0,p1,p2,p3,p4,p5,p6,hgd,hgy,e0,e1,q2])
     exact ⟨Int.le_refl _,dFin _ _ _ (by rw [hv,hlast,if_neg (by simpa using h13)]; rfl) (by rw [hv])⟩
  ·have e0:((x.toNat:Int) != 10)=true:=by
    rw [bne_iff_ne]; intro h; exact h10 (UInt8.toNat_inj.1 (by have:(10:UInt8).toNat=10:=rfl; omega))
   (refine zA0 hctr (rs:=res27) true 300 _ _ _ ?_; simp (maxSteps:=1000000) only [VT,jf,qH,qI,qK,qN,qO,qR,qS,qY,qe,ev,qy,qz,zH,zI,zJ,zM,↓reduceIte,reduceCtorEq,Nat.reduceEqDiff,Nat.reduceLT,zP,zQ,zR,zT,zV,zh,zo,hP,hk,res27,kp27,slDl,p0,p1,p3,hgd,e0])
   refine hJ ⟨j+1,by omega,?_⟩ _ (by show b.length - (j+1) < b.length - j; omega) (zB3 ⟨rfl,rfl,trivial⟩)
   intro c hc
   have htk:b.take (j+1)=b.take j++[x]:=by rw [List.take_add_one,hx]; rfl
   simp only [htk,List.mem_append,List.mem_singleton] at hc
   rcases hc with hc | rfl
   ·exact hall c hc
   ·exact h10
 ·have q1:decide ((j:Int) < (b.length:Int))=false:=decide_eq_false (by omega)
  (refine zA0 hctr (rs:=res27) true 300 _ _ _ ?_; simp (maxSteps:=1000000) only [VT,jg,qH,qI,qK,qN,qO,qR,qS,qe,ev,qy,zH,zI,zJ,zM,↓reduceIte,reduceCtorEq,Nat.reduceEqDiff,Nat.reduceLT,zP,zQ,zR,zW,hP,hk,res27,kp27,slDl,q1])
  refine hX rfl rfl ?_
  have hP:=hP0; have hk:=hk0; have hctr:=hctr0
  rw [List.take_of_length_le (by omega)] at hall
  have hv:zB1 b=([],0):=by
   unfold zB1; rw [line_none hall]; simp
  (refine zA0 hctr (rs:=res27) true 300 _ _ _ ?_; simp (maxSteps:=1000000) only [VT,qE,qF,qG,qH,qI,qK,qO,ev,qy,qz,zI,zJ,↓reduceIte,reduceCtorEq,Nat.reduceEqDiff,Nat.reduceLT,zP,zR,hk,res27,kp27])
  exact fin _ _ _ (by rw [hv]) (by rw [hv]; rfl)
theorem dbad_w (l:List UInt8) (w:World) (ρ:Nat→RE):Calls Tryz.prog 45 #[.string ⟨l.toArray⟩] w fun e w'=>e=.returned ((SV.g (mqS noS noS (zD8 l 0))).den ρ)∧Below w.heap.size w w':=by
 refine zA1 Tryz.func45 rfl kp45 (S:=Non) (ρ:=ρ) (en:=[]) [.c (.s l)] Tryz.ntmps45 (At.nil _ _ _) (by simp [SV.wf,SC.wf]) (by simp) ?_
 intro C hC hP hk
 have hctr:=zF8 hP
 (refine zR7 hctr (rs:=res45) 200 _ _ _ ?_; simp (maxSteps:=1000000) only [VC,qE,qF,qG,qH,qI,qJ,qK,qO,qP,qf,qg,q0t,qu,qv,ev,qy,qz,zA,zB,zC,zD,zE,zF,zG,zI,zJ,TE.sv,zK,zM,↓reduceIte,reduceCtorEq,Value.oneCell',Nat.reduceEqDiff,Nat.reduceAdd,Nat.reduceLT,zP,zQ,zR,zt,hP,hk,res45,kp45])
 exact zH3 (v:=.g (mqS noS noS (zD8 l 0))) hC hres45 rfl (by simp [SV.wf,wfs,SC.wf,mqS,noS])
def zJ6:List SV→Option (Prop × SV)
 | [.c (.s b)]=>some (b.length≤9223372036854775806,.t [.c (.s (zB1 b).1),.c (.i .i64 ((zB1 b).2:Int))])
 | _=>none
def zA9:List SV→Option (Prop × SV)
 | [.c (.s l)]=>some (True,.g (mqS noS noS (zD8 l 0)))
 | _=>none
def dF0:Ctr:=fun f _ xs=>match f with
 | 27=>zJ6 xs
 | 45=>zA9 xs
 | _=>none
theorem dF0_ok {C:Cx} (hP:C.P=Tryz.prog):zC1 C dF0:=by
 intro f en xs p v h hp ρ w hup hHp hHo hinj hwf
 unfold dF0 at h
 split at h
 ·rw [hP]
  refine ⟨fun args w=>Tryz.call27 args w,?_⟩
  unfold zJ6 at h
  split at h <;> simp only [Option.some.injEq,Prod.mk.injEq,reduceCtorEq] at h
  obtain ⟨rfl,rfl⟩:=h
  exact ⟨by simp [SV.wf,TE.wf,SC.wf],dline_w _ hp w⟩
 ·rw [hP]
  refine ⟨fun args w=>Tryz.call45 args w,?_⟩
  unfold zA9 at h
  split at h <;> simp only [Option.some.injEq,Prod.mk.injEq,reduceCtorEq] at h
  obtain ⟨rfl,rfl⟩:=h
  exact ⟨by simp [SV.wf,wfs,SC.wf,mqS,noS],dbad_w _ w ρ⟩
 ·cases h
def zB7 (b:List UInt8):List UInt8 × Nat × Mq × Bool:=
 if 0 < (zB1 b).2∧(zB1 b).2≤2048 then ((zB1 b).1,(zB1 b).2,Mq.zero,true)
 else if b.length < 2048 then ([],0,Mq.zero,false) else ([],2048,{ zD8 zL8 0 with close:=true },false)
theorem dfront_w (b:List UInt8) (hb:b.length≤9223372036854775806) (w:World) (ρ:Nat→RE):Calls Tryz.prog 44 #[.string ⟨b.toArray⟩] w fun e w'=>e=.returned ((SV.t [.c (.s (zB7 b).1),.c (.i .i64 ((zB7 b).2.1:Int)),.g (mqS noS noS (zB7 b).2.2.1),.c (.b (zB7 b).2.2.2)]).den ρ)∧Below w.heap.size w w':=by
 refine zA1 Tryz.func44 rfl kp44 (S:=Non) (ρ:=ρ) (en:=[]) [.c (.s b)] Tryz.ntmps44 (At.nil _ _ _) (by simp [SV.wf,SC.wf]) (by simp) ?_
 intro C hC hP hk
 have hctr:=dF0_ok hP
 have fin:∀ l (n:Int) r k en,(zB7 b).1=l→((zB7 b).2.1:Int)=n→(zB7 b).2.2.1=r→(zB7 b).2.2.2=k→Fin C res44 (.t [.c (.s l),.c (.i .i64 n),.g (mqS noS noS r),.c (.b k)]) en:=fun l n r k en h1 h2 h3 h4=>by
  subst h1; subst h2; subst h3; subst h4
  exact zH3 (v:=.t [.c (.s (zB7 b).1),.c (.i .i64 ((zB7 b).2.1:Int)),.g (mqS noS noS (zB7 b).2.2.1),.c (.b (zB7 b).2.2.2)]) hC hres44 rfl (by simp [SV.wf,TE.wf,wfs,SC.wf,mqS,noS])
 obtain ⟨s,n,hL⟩:∃ s n,zB1 b=(s,n):=⟨_,_,rfl⟩
 by_cases h0:(0:Int) < (n:Int)
 ·have c0:decide ((0:Int) < (n:Int))=true:=decide_eq_true h0
  by_cases h1:(n:Int)≤2048
  ·have c1:decide ((n:Int)≤2048)=true:=decide_eq_true h1
   (refine zA0 hctr (rs:=res44) true 300 _ _ _ ?_; simp (maxSteps:=1000000) only [VT,jf,jZ,qE,qF,qG,qH,qI,qJ,qK,qO,qP,qR,qS,qf,qg,qh,qp,q0t,qu,qv,ev,qw,qy,qz,zA,zB,zC,zD,zE,zF,zG,zI,zJ,TE.sv,zK,zM,↓reduceIte,reduceCtorEq,Value.oneCell',Nat.reduceEqDiff,Nat.reduceAdd,Nat.reduceLT,zP,zQ,zR,zV,zt,hP,hk,res44,kp44,dF0,zJ6,hL,c0,c1])
   have hf:zB7 b=(s,n,Mq.zero,true):=by unfold zB7; rw [hL]; rw [if_pos ⟨by simp only; omega,by simp only; omega⟩]
   exact ⟨hb,fin _ _ Mq.zero _ _ (by rw [hf]) (by rw [hf]) (by rw [hf]) (by rw [hf])⟩
  ·have c1:decide ((n:Int)≤2048)=false:=decide_eq_false h1
   by_cases h2:(b.length:Int) < 2048
   ·have c2:decide ((b.length:Int) < 2048)=true:=decide_eq_true h2
    (refine zA0 hctr (rs:=res44) true 300 _ _ _ ?_; simp (maxSteps:=1000000) only [VT,jf,jg,jZ,qE,qF,qG,qH,qI,qJ,qK,qN,qO,qP,qR,qS,qe,qf,qg,qh,qp,q0t,qu,qv,ev,qw,qy,qz,zA,zB,zC,zD,zE,zF,zG,zI,zJ,TE.sv,zK,zM,↓reduceIte,reduceCtorEq,Value.oneCell',Nat.reduceEqDiff,Nat.reduceAdd,Nat.reduceLT,zP,zQ,zR,zV,zW,zt,hP,hk,res44,kp44,dF0,zJ6,hL,c0,c1,c2])
    have hf:zB7 b=([],0,Mq.zero,false):=by unfold zB7; rw [hL]; rw [if_neg (fun h=>by have:=h.1; have:=h.2; simp only at *; omega),if_pos (by omega)]
    exact ⟨hb,fin _ _ Mq.zero _ _ (by rw [hf]) (by rw [hf]; rfl) (by rw [hf]) (by rw [hf])⟩
   ·have c2:decide ((b.length:Int) < 2048)=false:=decide_eq_false h2
    have hf:zB7 b=([],2048,{ zD8 zL8 0 with close:=true },false):=by unfold zB7; rw [hL]; rw [if_neg (fun h=>by have:=h.1; have:=h.2; simp only at *; omega),if_neg (by omega)]
    (refine zA0 hctr (rs:=res44) true 300 _ _ _ ?_; simp (maxSteps:=1000000) only [VT,jf,jg,jZ,qH,qI,qJ,qK,qN,qO,qR,qS,qV,qe,qh,qp,q0t,qu,qv,ev,qw,qy,qz,zC,zD,zE,zF,zG,zI,zJ,TE.sv,zK,zM,↓reduceIte,reduceCtorEq,Value.oneCell',Nat.reduceEqDiff,Nat.reduceAdd,Nat.reduceLT,zP,zQ,zR,zV,zW,zt,hP,hk,res44,kp44,dF0,zJ6,zA9,mqS,noS,zD8,hL,c0,c1,c2])
    refine ⟨hb,?_⟩
    (refine zE5 hctr (by rw [hP]; rfl) rs44_8 [] (ensure_type_of% (Cmp.of (by simp (maxSteps := 1000000) only [qK, qO, qP, q0t, qu, qv, ev, qy, qz, zA, zB, zC, zD, zE, zF, zG, zM, ↓reduceIte, Value.oneCell', Nat.reduceEqDiff, Nat.reduceAdd, zP, zt, cD, cO, jC, jD, jH, jN, hP]; rfl)) "" Cmp.mk) (by kernel_rfl) (by kernel_rfl) (by first | exact zC7 _ | kernel_rfl) (by kernel_rfl) (by rfl) (by rfl) (by first | exact zB2 _ | rfl) (by rfl) (by simp (maxSteps := 1000000) only [qK, qO, qP, q0t, qu, qv, ev, qy, qz, zA, zB, zC, zD, zE, zG, zM, ↓reduceIte, Value.oneCell', Nat.reduceEqDiff, Nat.reduceAdd, Nat.reduceSub, zP, zT, zn, zt, jD, jH, jN, jP, jQ, jR, jS, jT, hP]) ?_; refine zA0 hctr (rs := res44) true 300 _ _ _ ?_; simp (maxSteps := 1000000) only [VT, qE, qF, qG, qP, qy, zA, zB, zD, zG, zI, zJ, zM, ↓reduceIte, reduceCtorEq, Nat.reduceEqDiff, Nat.reduceAdd, zP, zQ, zt, jN, jO, hP, hk, res44, kp44])
    exact fin _ _ { zD8 zL8 0 with close:=true } _ _ (by rw [hf]) (by rw [hf]; rfl) (by rw [hf]) (by rw [hf])
 ·have c0:decide ((0:Int) < (n:Int))=false:=decide_eq_false h0
  by_cases h2:(b.length:Int) < 2048
  ·have c2:decide ((b.length:Int) < 2048)=true:=decide_eq_true h2
   (refine zA0 hctr (rs:=res44) true 300 _ _ _ ?_; simp (maxSteps:=1000000) only [VT,jf,jg,aA,qE,qF,qG,qH,qI,qJ,qK,qN,qO,qP,qR,qS,qe,qf,qg,qh,qp,q0t,qu,qv,ev,qw,qy,qz,zA,zB,zC,zD,zE,zF,zG,zI,zJ,TE.sv,zK,zM,↓reduceIte,reduceCtorEq,Value.oneCell',Nat.reduceEqDiff,Nat.reduceAdd,Nat.reduceLT,zP,zQ,zR,zV,zW,zt,hP,hk,res44,kp44,dF0,zJ6,hL,c0,c2])
   have hf:zB7 b=([],0,Mq.zero,false):=by unfold zB7; rw [hL]; rw [if_neg (fun h=>by have:=h.1; have:=h.2; simp only at *; omega),if_pos (by omega)]
   exact ⟨hb,fin _ _ Mq.zero _ _ (by rw [hf]) (by rw [hf]; rfl) (by rw [hf]) (by rw [hf])⟩
  ·have c2:decide ((b.length:Int) < 2048)=false:=decide_eq_false h2
   have hf:zB7 b=([],2048,{ zD8 zL8 0 with close:=true },false):=by unfold zB7; rw [hL]; rw [if_neg (fun h=>by have:=h.1; have:=h.2; simp only at *; omega),if_neg (by omega)]
   (refine zA0 hctr (rs:=res44) true 300 _ _ _ ?_; simp (maxSteps:=1000000) only [VT,jg,aA,qH,qI,qJ,qK,qN,qO,qR,qS,qV,qe,qh,qp,q0t,qu,qv,ev,qw,qy,qz,zC,zD,zE,zF,zG,zI,zJ,TE.sv,zK,zM,↓reduceIte,reduceCtorEq,Value.oneCell',Nat.reduceEqDiff,Nat.reduceAdd,Nat.reduceLT,zP,zQ,zR,zW,zt,hP,hk,res44,kp44,dF0,zJ6,zA9,mqS,noS,zD8,hL,c0,c2])
   refine ⟨hb,?_⟩
   (refine zE5 hctr (by rw [hP]; rfl) rs44_8 [] (ensure_type_of% (Cmp.of (by simp (maxSteps := 1000000) only [qK, qO, qP, q0t, qu, qv, ev, qy, qz, zA, zB, zC, zD, zE, zF, zG, zM, ↓reduceIte, Value.oneCell', Nat.reduceEqDiff, Nat.reduceAdd, zP, zt, cD, cO, jC, jD, jH, jN, hP]; rfl)) "" Cmp.mk) (by kernel_rfl) (by kernel_rfl) (by first | exact zC7 _ | kernel_rfl) (by kernel_rfl) (by rfl) (by rfl) (by first | exact zB2 _ | rfl) (by rfl) (by simp (maxSteps := 1000000) only [qK, qO, qP, q0t, qu, qv, ev, qy, qz, zA, zB, zC, zD, zE, zG, zM, ↓reduceIte, Value.oneCell', Nat.reduceEqDiff, Nat.reduceAdd, Nat.reduceSub, zP, zT, zn, zt, jD, jH, jN, jP, jQ, jR, jS, jT, hP]) ?_; refine zA0 hctr (rs := res44) true 300 _ _ _ ?_; simp (maxSteps := 1000000) only [VT, qE, qF, qG, qP, qy, zA, zB, zD, zG, zI, zJ, zM, ↓reduceIte, reduceCtorEq, Nat.reduceEqDiff, Nat.reduceAdd, zP, zQ, zt, jN, jO, hP, hk, res44, kp44])
   exact fin _ _ { zD8 zL8 0 with close:=true } _ _ (by rw [hf]) (by rw [hf]; rfl) (by rw [hf]) (by rw [hf])
end Go.Proofs.YtcbmlanpianclaaGreatDoor
/- What the document says of the bytes that a request begins with (ambryref20.Front) is what zE9 reads. No program in sight but the definitions of the walks. -/
namespace Go.Proofs.YtcbmlanpianclaaGreatDoor
set_option linter.unusedSimpArgs false
set_option linter.unusedVariables false
open Go.RowKit
theorem takeW_take (p:UInt8→Bool):∀ (b:List UInt8) (k:Nat),(b.take k).takeWhile p=(b.takeWhile p).take k
 | [],k=>by simp
 | c :: b,0=>by simp
 | c :: b,k+1=>by
  rw [List.take_succ_cons,List.takeWhile_cons,List.takeWhile_cons]
  cases p c with
  | true=>simp [takeW_take p b k]
  | false=>simp
theorem takeW_len (p:UInt8→Bool) (b:List UInt8):(b.takeWhile p).length≤b.length:=(List.takeWhile_sublist p).length_le
theorem line_take (b:List UInt8) (k:Nat):zB1 (b.take k)=if 0 < (zB1 b).2∧(zB1 b).2≤k then zB1 b else ([],0):=by
 obtain ⟨l,hl⟩:∃ l,b.takeWhile (· != 10)=l:=⟨_,rfl⟩
 have hle:l.length≤b.length:=by rw [← hl]; exact takeW_len _ b
 have e:zB1 b=if l.length < b.length then ((if l.getLast?=some 13 then l.dropLast else l),l.length+1) else ([],0):=by unfold zB1; simp only [hl]
 have e2:zB1 (b.take k)=if (l.take k).length < (b.take k).length then ((if (l.take k).getLast?=some 13 then (l.take k).dropLast else l.take k),(l.take k).length+1) else ([],0):=by
  unfold zB1; simp only [takeW_take,hl]
 rw [e2,e]
 by_cases h1:l.length < b.length
 ·rw [if_pos h1]
  by_cases h2:l.length+1≤k
  ·rw [if_pos (show 0 < l.length+1∧l.length+1≤k from ⟨Nat.succ_pos _,h2⟩),List.take_of_length_le (by omega:l.length≤k),if_pos (show l.length < (b.take k).length by rw [List.length_take]; omega)]
  ·rw [if_neg (show ¬ (0 < l.length+1∧l.length+1≤k) from fun h=>h2 h.2),if_neg (show ¬ (l.take k).length < (b.take k).length by rw [List.length_take,List.length_take]; omega)]
 ·rw [if_neg h1,if_neg (show ¬ (l.take k).length < (b.take k).length by rw [List.length_take,List.length_take]; omega)]
  simp
def docP (b:List UInt8):Mq × Int:=
 if (zB7 b).2.2.2 then zR6 (zB7 b).2.1 (b.drop (zB7 b).2.1) (wordsF ((zB7 b).1.length+1) (zB7 b).1) else ((zB7 b).2.2.1,((zB7 b).2.1:Int))
theorem doc_is (b:List UInt8):docP b=zE9 b:=by
 unfold docP zE9 zB7
 simp only [line_take]
 by_cases h:0 < (zB1 b).2∧(zB1 b).2≤2048
 ·simp only [if_pos h,if_true]
  rw [if_neg (by omega)]
 ·simp only [if_neg h,if_true]
  by_cases h2:b.length < 2048
  ·simp only [if_pos h2,Bool.false_eq_true,if_false]; rfl
  ·simp only [if_neg h2,Bool.false_eq_true,if_false]; rfl
end Go.Proofs.YtcbmlanpianclaaGreatDoor
/- A loop whose exit has one shape, so that what follows is walked once. No program in sight. -/
namespace Go.Proofs.YtcbmlanpianclaaGreatDoor
set_option linter.unusedSimpArgs false
set_option linter.unusedVariables false
open Go.RowKit
section
variable {C:Cx} {nt:Nat} {sl:List (Nat × SV)} {en:List EN}
theorem zL1 {κ:Type} {c:Code} {k:List KI} (slJ:κ→List (Nat × SV)) (enJ:κ→List EN) (tail:∀ y,Run C k nt (slJ y) (enJ y)) (use:(∀ y s,sub (slJ y) s→Run C k nt s (enJ y))→Run C (.code c :: k) nt sl en):Run C (.code c :: k) nt sl en:=
 use fun y _ h=>zN2 h (tail y)
end
end Go.Proofs.YtcbmlanpianclaaGreatDoor
/- append of nothing to nothing, in a region that follows the text. No program in sight. -/
namespace Go.Proofs.YtcbmlanpianclaaGreatDoor
set_option linter.unusedSimpArgs false
set_option linter.unusedVariables false
open Go.RowKit
section
variable {C:Cx} {nt:Nat} {sl:List (Nat × SV)} {en:List EN} {k:List KI}
variable {dst:Option Nat} {ty:TypeId} {pos:String} {af:Array Edge} {all r:List Oper}
theorem append_none_op {x y:Operand} {t e:TypeId} {i:TypeInfo} {B:Option Addr} {cp:Nat} (ht:C.P.underlying t=some (.slice e)) (hi:C.P.info? e=some i) (hx:ev sl x=some (.c (.v (.slice none 0 0)))) (hy:ev sl y=some (.c (.v (.slice B 0 cp)))) (hd:∀ d,dst=some d→d < nt)
  (hK:Run C (.ops all r :: k) nt (jN dst (.c (.v (.slice none 0 0))) sl) en):Run C (.ops all (⟨dst,.call ⟨.builtin .append,#[x,y],#[t,t]⟩,ty,pos,af,none⟩ :: r) :: k) nt sl en:=by
 refine Run_soft1 (.c (.v (.slice none 0 0))) (fun ρ a w hr=>⟨?_,trivial⟩) hd hK
 obtain ⟨x1,_⟩:=hr.ev_ok _ _ hx
 obtain ⟨y1,_⟩:=hr.ev_ok _ _ hy
 have x1':a.eval x=.slice none 0 0:=x1
 have y1':a.eval y=.slice B 0 cp:=y1
 have h:=run_append0 (P:=C.P) w (ty:=ty) ht hi none B 0 0 cp (Nat.le_refl _)
 simp [execOp,resolve,invoke,builtin,x1',y1',h,SV.den,SC.den]
end
end Go.Proofs.YtcbmlanpianclaaGreatDoor
