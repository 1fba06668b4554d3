/- The document's answer, walked: Moment, Gone, Find. -/
import Derived.Test.YtfpeholdlkfmoaaGreatDoorBS10
import Derived.Test.YtfpeholdlkfmoaaGreatDoorBS11
import Derived.Test.YtfpeholdlkfmoaaGreatDoorBS03
import Derived.Test.YtfpeholdlkfmoaaGreatDoorBS04
namespace Go.Proofs.YtfpeholdlkfmoaaGreatDoor
set_option linter.unusedSimpArgs false
set_option linter.unusedVariables false
set_option maxHeartbeats 8000000
open Go.RowKit
set_option maxRecDepth 100000
def zS7:List SV→Option (Prop × SV)
 | [.g [.s _,.i .u32 _,.s _,.i .i64 e,.i .u64 _,.i .i64 _,.b _,.b _],.c (.i .i64 now)]=>some (True,.c (.b (!decide (e=0) && decide (e≤now))))
 | _=>none
theorem ref_gone (x:It) (now:Int) (w:World) :
  Calls Tryz.prog 44 #[.agg (itA x),.int .i64 now] w fun e' w'=>e'=.returned (.bool (zE2 now x))∧Below w.heap.size w w':=by
 refine zB8 Tryz.func44 rfl kp44 (S:=Non) (ρ:=fun _=>⟨0,[],[],0,none⟩) (en:=[]) [.g (itS x),.c (.i .i64 now)] Tryz.ntmps44 (At.nil _ _ _) (by simp [SV.wf,SC.wf,wfs,itS]) (by simp) ?_
 intro C hC hP hk
 have hctr:=zE6 hP
 have fin:∀ b:Bool,b=zE2 now x→∀ en,Fin C res44 (.c (.b b)) en:=fun b hb en=>zU4 (v:=.c (.b (zE2 now x))) hC hres44 (by rw [hb]) trivial
 (refine zH1 hctr (rs:=res44) 200 _ _ _ ?_; simp (maxSteps:=1000000) only [VC,qE,qF,qG,qH,qI,qK,qO,qP,qR,qS,qV,qp,q0t,qu,qv,ev,qy,qz,zD,zF,zG,zI,zJ,TE.sv,zK,zM,↓reduceIte,reduceCtorEq,Nat.reduceEqDiff,Nat.reduceLT,zP,zQ,zR,zS,zV,zb,zc,zt,hP,hk,res44,kp44,itS])
 refine ⟨fun h=>fin _ ?_ _,fun h=>fin _ ?_ _⟩
 ·have hx:¬ x.exp=0:=by simpa using h
  unfold zE2; simp [hx]
 ·have hx:x.exp=0:=by simpa using h
  unfold zE2; simp [hx]
def RawI (w:World) (a:Option Addr) (xs:List It):Prop:=∀ k x,xs[k]?=some x→∃ g o,a=some ⟨g,o,none⟩∧g < w.heap.size∧∀ (j:Nat) v,x.cells[j]?=some v→w.cell? ⟨g,o+k * 8+j,none⟩=some v
theorem raw_rd {D:Cx} {w:World} {g o k:Nat} {x:It} (hS:D.S=Non) (hw:D.w0=w) (hg:g < w.heap.size) (hc:∀ (j:Nat) v,x.cells[j]?=some v→w.cell? ⟨g,o+k * 8+j,none⟩=some v) :
  D.rd g (o+k * 8) 8=some (itS x)∧D.rd g (o+k * 8) 1=some [.s x.key]:=by
 refine ⟨rd_arg (vs:=x.cells) hS hw hg (fun j v hv=>hc j v hv) rfl,rd_arg (vs:=[.string ⟨x.key.toArray⟩]) hS hw hg (fun j v hv=>?_) rfl⟩
 have hj:j=0:=by have:=(List.getElem?_eq_some_iff.1 hv).1; simp at this; exact this
 subst hj
 exact hc 0 v hv
end Go.Proofs.YtfpeholdlkfmoaaGreatDoor
/- An entry whose cells were changed by a call; a store at one place of an element of a row. -/
namespace Go.Proofs.YtfpeholdlkfmoaaGreatDoor
set_option linter.unusedSimpArgs false
set_option linter.unusedVariables false
open Go.RowKit
section
variable {α:Type} {f:α→List SC} {z:Nat}
end
end Go.Proofs.YtfpeholdlkfmoaaGreatDoor
/- A call that hands back memory of its own, as a call of a walk: its block becomes an entry. -/
namespace Go.Proofs.YtfpeholdlkfmoaaGreatDoor
set_option linter.unusedSimpArgs false
set_option linter.unusedVariables false
open Go.RowKit
def Made (w w':World) (e:EN) (vals:List Value) (r:RE):Prop:=
 r.pre.length=e.ty.2.1∧e.ty.2.2 r∧(r.nl=none→w.heap.size≤r.blk∧w'.heap[r.blk]?=some (.cells (r.pre++vals++r.post).toArray e.ty.1 (0,0)))∧(r.nl ≠ none→e.cells=[])∧(r.nl ≠ none→w.heap.size≤r.blk)
theorem fresh_h {C:Cx} {nE N:Nat} {mk:Nat→Prop} {en en':List EN} {f:FuncId} {xs:List SV} {v:SV} {e:EN} {vals:List Value} (hent:∀ args w,(callFunc f args).run C.P w=.ok (.enter f args) w)
  (hmk:∀ q,mk q ↔ q=N) (hn0:C.n0≤N) (hN:zD en' N=some e) (hq:∀ q,q ≠ N→zD en' q=zD en q) (hl:e.ty.1 ≠ zE8) (hcells:∀ ρ,zC1 ρ e.cells=vals) (hwf:∀ pr,wfs pr e.cells) (hvw:∀ pr:Nat→Prop,pr N→v.wf pr)
  (h:∀ ρ pr w,Hw C ρ pr en w→(∀ c,c < nE→pr c)→(∀ x∈xs,x.wf pr)→Calls C.P f (xs.map (SV.den ρ)).toArray w fun z w'=>∃ r,Made w w' e vals r∧(∀ ρ':Nat→RE,(∀ c,pr c→ρ' c=ρ c)→ρ' N=r→z=.returned (v.den ρ'))∧Below w.heap.size w w') :
  zP3 C nE mk en en' f xs v:=by
 refine ⟨hent,?_⟩
 intro ρ pr w hpr hmn hw hex hx
 refine (h ρ pr w hw hpr hx).mono ?_
 rintro z w' ⟨r,⟨k1,k2,k3,k4,k6⟩,k5,hb⟩
 have lN:¬ pr N:=hmn _ ((hmk _).2 rfl)
 have hsame:(fun q=>pr q∨mk q)=fun q=>pr q∨q=N:=funext fun q=>propext (or_congr_right (hmk q))
 have hup:zL6 ρ N r N=r:=if_pos rfl
 obtain ⟨g1,g2⟩:=Hw.rebuild (C:=C) (ρ:=ρ) (pr:=pr) (en:=en) (en':=en') (w:=w) (w':=w') (N:=N) (e:=e) (T:=Non) r hw lN hn0 (Upd.of_below hb) (fun _ _ h=>h.elim)
  (fun q hpq=>.inl ⟨hq q (fun e=>lN (e ▸ hpq)),fun _ h=>h⟩) hN
  ⟨fun hh=>by rw [hup] at hh ⊢; rw [hcells]; exact (k3 hh.2).2,hwf _,fun hd=>absurd hd hl,fun hh=>by rw [hup] at hh; exact k4 hh⟩ ⟨k1,k2⟩
  (fun hnl q hpq hd=>by
   rw [hq q (fun e=>lN (e ▸ hpq))] at hd
   have:=hw.lt hpq hd
   have:=(k3 hnl).1
   omega)
  (fun _=>.inr (by
   have:=hw.up.size
   by_cases hnl:r.nl=none
   ·have:=(k3 hnl).1; omega
   ·have:=k6 hnl; omega))
 rw [hsame]
 exact ⟨zL6 ρ N r,g1,k5 _ g1 hup,hvw _ (.inr rfl),g2,fun q hq'=>by rw [(hmk q).1 hq',hN]; exact fun h=>nomatch h⟩
theorem mkC_head {nE j:Nat} {rest:List Cr} (h:Cr.h j ∉ rest) (q:Nat):mkC nE (.h j :: rest) j q ↔ q=nE:=by
 constructor
 ·rintro ⟨h1,h2⟩
  cases hk:q - nE with
  | zero=>omega
  | succ k =>
   rw [hk,List.getElem?_cons_succ] at h2
   exact absurd (List.mem_of_getElem? h2) h
 ·rintro rfl
  exact ⟨Nat.le_refl _,by rw [Nat.sub_self]; rfl⟩
end Go.Proofs.YtfpeholdlkfmoaaGreatDoor
/- A slice in new memory, as a walk hands it back. Printed by gen_refw2.py. -/
namespace Go.Proofs.YtfpeholdlkfmoaaGreatDoor
set_option linter.unusedSimpArgs false
set_option linter.unusedVariables false
open Go.RowKit
def RowOk (b:Nat) (w':World) (r:RE) (e z n:Nat) (vals:List Value):Prop:=
 b≤r.blk∧rowP z n vals.length r∧(r.nl=none→w'.heap[r.blk]?=some (.cells (r.pre++vals++r.post).toArray e (0,0)))∧(r.nl ≠ none→vals=[])
def nilR (b:Nat):RE:=⟨b,[],[],0,some none⟩
theorem RowOk.nil (b:Nat) (w':World) (e z:Nat):RowOk b w' (nilR b) e z 0 []:=
 ⟨Nat.le_refl _,⟨by simp,.inr ⟨rfl,rfl,rfl⟩⟩,(fun h=>by cases h),fun _=>rfl⟩
theorem RowOk.mono {b b':Nat} {w':World} {r:RE} {e z n:Nat} {vals:List Value} (h:RowOk b w' r e z n vals) (hb:b'≤b):RowOk b' w' r e z n vals:=⟨Nat.le_trans hb h.1,h.2⟩
theorem RowOk.upd {b:Nat} {w w':World} {r:RE} {e z n:Nat} {vals:List Value} (h:RowOk b w r e z n vals) (hu:Below w.heap.size w w'):RowOk b w' r e z n vals:=
 ⟨h.1,h.2.1,fun hn=>by
  have h1:=h.2.2.1 hn
  rw [hu.block r.blk (Array.getElem?_eq_some_iff.1 h1).1]; exact h1,h.2.2.2⟩
theorem RowOk.made {w w':World} {r:RE} {e z n:Nat} {vals:List Value} {cells:List SC} (h:RowOk w.heap.size w' r e z n vals) (hc:∀ ρ,zC1 ρ cells=vals):Made w w' (rwE e z n cells) vals r:=by
 obtain ⟨h1,h2,h3,h4⟩:=h
 have hl:cells.length=vals.length:=by rw [← hc (fun _=>⟨0,[],[],0,none⟩),zD5]
 refine ⟨?_,?_,fun hn=>⟨h1,h3 hn⟩,fun hn=>?_,fun _=>h1⟩
 ·rcases h2.2 with h | h
  ·show r.pre.length=0; rw [h.2.1]; rfl
  ·show r.pre.length=0; rw [h.2.2]; rfl
 ·show rowP z n cells.length r
  rw [hl]; exact h2
 ·have:=h4 hn
  rw [this] at hl
  exact List.eq_nil_of_length_eq_zero hl
section
variable {C:Cx} {ρ:Nat→RE} {en:List EN} {w':World} {N e z n:Nat} {cells:List SC}
theorem RowOk.of (hw:Hw C ρ (· < en.length) en w') (hS:C.S=Non) (hN:zD en N=some (rwE e z n cells)) (he:e ≠ zE8):RowOk C.w0.heap.size w' (ρ N) e z n (zC1 ρ cells):=by
 have lN:N < en.length:=by rw [zA5] at hN; exact (List.getElem?_eq_some_iff.1 hN).1
 refine ⟨(hw.mu N _ _ lN hN).resolve_left (by rw [hS]; exact fun h=>h),?_,fun hn=>?_,fun hn=>?_⟩
 ·have:=(hw.ho N _ _ _ lN hN).2
  rw [zD5]; exact this
 ·exact (hw.hp N _ _ _ lN hN).heap ⟨he,hn⟩
 ·have:=(hw.hp N _ _ _ lN hN).non hn
  rw [this]; rfl
theorem RowOk.lit (hw:Hw C ρ (· < en.length) en w') (hS:C.S=Non) (hN:zD en N=some ⟨(e,0,whole),cells,true⟩) (he:e ≠ zE8) (hne:cells ≠ []) (hl:cells.length=n * z) (hn:n≤maxLen) :
  RowOk C.w0.heap.size w' ⟨(ρ N).blk,[],[],n,none⟩ e z n (zC1 ρ cells)∧(SC.sl N 0 n n).den ρ=zE9 ⟨(ρ N).blk,[],[],n,none⟩ n:=by
 have lN:N < en.length:=by rw [zA5] at hN; exact (List.getElem?_eq_some_iff.1 hN).1
 have hnl:(ρ N).nl=none:=Decidable.byContradiction fun hd=>hne ((hw.hp N _ _ _ lN hN).non hd)
 obtain ⟨_,h1,h2⟩:=hw.ho N _ _ _ lN hN
 have hb:=(hw.hp N _ _ _ lN hN).heap ⟨he,hnl⟩
 rw [h1,h2] at hb
 refine ⟨⟨(hw.mu N _ _ lN hN).resolve_left (by rw [hS]; exact fun h=>h),⟨by rw [zD5,hl],.inl ⟨rfl,rfl,by simp [zD5,hl],Nat.le_refl _,hn⟩⟩,fun _=>hb,fun h=>absurd rfl h⟩,?_⟩
 simp only [SC.den,zE9,h1,List.length_nil]
end
end Go.Proofs.YtfpeholdlkfmoaaGreatDoor
/- append of nothing to a slice, in a drawn region: it is the slice. No program in sight. -/
namespace Go.Proofs.YtfpeholdlkfmoaaGreatDoor
set_option linter.unusedSimpArgs false
set_option linter.unusedVariables false
open Go.RowKit
section
variable {C:Cx}
end
end Go.Proofs.YtfpeholdlkfmoaaGreatDoor
/- A slice literal without elements, as a row that may grow. No program in sight. -/
namespace Go.Proofs.YtfpeholdlkfmoaaGreatDoor
set_option linter.unusedSimpArgs false
set_option linter.unusedVariables false
open Go.RowKit
section
variable {C:Cx} {nt:Nat} {sl:List (Nat × SV)} {en:List EN} {k:List KI}
variable {dst:Option Nat} {ty:TypeId} {pos:String} {af:Array Edge} {all r:List Oper} {gd:Option (Nat × Bool)}
theorem build0_op {t e:TypeId} {z:Nat} {i:TypeInfo} (ht:C.P.underlying t=some (.slice e)) (hi:C.P.info? e=some i) (he:e ≠ zE8) (hn0:C.n0≤en.length)
  (hg:gdT all sl gd=true) (hd:∀ d,dst=some d→d < nt)
  (hK:Run C (.ops all r :: k) nt (jN dst (.c (.rw (zG en) 0)) sl) (zF en (rwE e z 0 []))) :
  Run C (.ops all (⟨dst,.buildSlice t 0 #[],ty,pos,af,gd⟩ :: r) :: k) nt sl en:=by
 have hle:(zF en (rwE e z 0 [])).length=en.length+1:=by rw [zE0]; simp
 refine Run_hop _ _ hg (by rw [hle]; omega) ?_ hd hK
 intro ρ a w hrep
 have hw:=hrep.hw
 have hnr:∀ cs:Array Value,(newRow e cs).run C.P w=.ok ⟨w.heap.size,0,none⟩ (w.alloc (.cells cs e)):=fun _=>rfl
 have h00:∀ q:Nat→Value,Array.map q (Array.range 0)=#[]:=fun q=>by apply Array.toList_inj.1; simp
 have hsz:(sizeOf e).run C.P w=.ok i.size w:=zC6 hi
 have hrun:(Instr.buildSlice t 0 #[]).run C.P w=.ok (.slice (some ⟨w.heap.size,0,none⟩) 0 0) (w.alloc (.cells #[] e)):=by
  simp [Instr.buildSlice,zC9 ht,hsz,Instr.fill,hnr,h00]
 obtain ⟨v',hv'⟩:∃ v':Value,v'=.slice (some ⟨w.heap.size,0,none⟩) 0 0:=⟨_,rfl⟩
 obtain ⟨w',hw'⟩:∃ w',w'=w.alloc (.cells #[] e):=⟨_,rfl⟩
 rw [← hv',← hw'] at hrun
 have h2:w'.ownsRow 0 e z v' (0+0) (zC1 ρ ([]++[])):=
  ⟨by simp [zC1],.inr ⟨w.heap.size,0,#[],hv',Nat.zero_le _,by rw [hw']; exact heap_alloc_new w _,Nat.le_refl _,Nat.zero_le _,by simp,by simp [zC1]⟩⟩
 have h3:w.grownBy w' none:=by rw [hw']; exact ⟨rfl,rfl,rfl,by simp,fun k hk _=>Go.heap_alloc_old w _ hk⟩
 obtain ⟨ρ',e0,k1,k2⟩:=zY2 (C:=C) (pr:=(· < en.length)) (N:=en.length) (mk:=fun q=>q=en.length) (en:=en) (en':=zF en (rwE e z (0+0) ([]++[]))) (m:=0) (n:=0) (cells:=[]) (news:=[]) (X:=.v (.slice none 0 0)) (o:=none) (vb:=none) he (.none rfl rfl)
  (fun y hy=>nomatch hy) hn0 (fun _=>Iff.rfl) (by have:=zM9 (en:=en) (e:=rwE e z (0+0) ([]++[])); rwa [zB9] at this)
  (fun q hq=>zC3 (by rw [zB9]; exact hq)) (Nat.lt_irrefl _) hw trivial (fun g h=>by cases h) h2 h3 (.inr (by rw [hv']; rfl))
 refine ⟨ρ',w',?_,k1,?_,k2.iff (fun q=>by rw [hle]; omega)⟩
 ·rw [zB9,e0]
  simp [execOp,hrun]
 ·show zG en < _
  rw [zB9,hle]; omega
end
end Go.Proofs.YtfpeholdlkfmoaaGreatDoor
/- The document's Put, walked. Printed by gen_refw2.py. -/
namespace Go.Proofs.YtfpeholdlkfmoaaGreatDoor
set_option linter.unusedSimpArgs false
set_option linter.unusedVariables false
set_option maxHeartbeats 8000000
open Go.RowKit
set_option maxRecDepth 100000
theorem itS_len (x:It):(itS x).length=8:=rfl
theorem zW9 (pr:Nat→Prop) (x:It):wfs pr (itS x):=by
 intro z hz
 simp only [itS,List.mem_cons,List.not_mem_nil,or_false] at hz
 rcases hz with rfl | rfl | rfl | rfl | rfl | rfl | rfl | rfl <;> trivial
theorem zF4 (pr:Nat→Prop) (l:List It):wfs pr (zB6 itS l):=by
 intro z hz
 obtain ⟨x,_,hx⟩:=List.mem_flatMap.1 hz
 exact zW9 pr x z hx
theorem zC0 (ρ:Nat→RE) (l:List It):zC1 ρ (zB6 itS l)=zD4 l:=by
 induction l with
 | nil=>rfl
 | cons x l ih =>
  show zC1 ρ (itS x++zB6 itS l)=x.cells++zD4 l
  rw [← ih]
  simp only [zC1,List.map_append]
  rfl
theorem infoItD:(Tryz.prog.info? 33).map (fun i=>(i.zero,i.size,i.bytes))=some (some (.agg #[.string ⟨#[]⟩,.int .u32 0,.string ⟨#[]⟩,.int .i64 0,.int .u64 0,.int .i64 0,.bool false,.bool false]),8,72):=by kernel_rfl
theorem mkC_nth {nE j i q:Nat} {crs:List Cr} (h:∀ k,crs[k]?=some (Cr.h j) ↔ k=i):mkC nE crs j q ↔ q=nE+i:=by
 unfold mkC
 constructor
 ·rintro ⟨h1,h2⟩
  have:=(h _).1 h2
  omega
 ·rintro rfl
  exact ⟨Nat.le_add_right _ _,by rw [Nat.add_sub_cancel_left]; exact (h i).2 rfl⟩
def StP (w:World) (L:List It) (cs fl:Int) (e:Ending) (w':World):Prop:=(∃ r,RowOk w.heap.size w' r 33 8 L.length (zD4 L)∧e=.returned (.agg #[zE9 r L.length,.int .u64 cs,.int .i64 fl]))∧Below w.heap.size w w'
end Go.Proofs.YtfpeholdlkfmoaaGreatDoor
/- A loop whose exit has one shape, so that what follows is walked once. No program in sight. -/
namespace Go.Proofs.YtfpeholdlkfmoaaGreatDoor
set_option linter.unusedSimpArgs false
set_option linter.unusedVariables false
open Go.RowKit
section
variable {C:Cx} {nt:Nat} {sl:List (Nat × SV)} {en:List EN}
theorem Run_join {κ:Type} {c:Code} {k:List KI} (slJ:κ→List (Nat × SV)) (enJ:κ→List EN) (tail:∀ y,Run C k nt (slJ y) (enJ y)) (use:(∀ y s,sub (slJ y) s→Run C k nt s (enJ y))→Run C (.code c :: k) nt sl en):Run C (.code c :: k) nt sl en:=
 use fun y _ h=>zS2 h (tail y)
end
end Go.Proofs.YtfpeholdlkfmoaaGreatDoor
/- The document's Live, walked. Printed by gen_refw3.py. -/
namespace Go.Proofs.YtfpeholdlkfmoaaGreatDoor
set_option linter.unusedSimpArgs false
set_option linter.unusedVariables false
set_option maxHeartbeats 8000000
open Go.RowKit
set_option maxRecDepth 100000
def rlC:Ctr:=fun f _ xs=>match f with
 | 44=>zS7 xs
 | _=>none
theorem rlC_ok {C:Cx} (hP:C.P=Tryz.prog):zE4 C rlC:=by
 intro f en xs p v h hp ρ w' hup hHp hHo hinj hwf
 unfold rlC at h
 split at h
 ·rw [hP]
  refine ⟨fun args w=>Tryz.call44 args w,?_⟩
  unfold zS7 at h
  split at h <;> simp only [Option.some.injEq,Prod.mk.injEq,reduceCtorEq] at h
  rename_i k fl vl e cs la st wo now
  obtain ⟨rfl,rfl⟩:=h
  exact ⟨trivial,ref_gone ⟨k,fl,vl,e,cs,la,st,wo⟩ now w'⟩
 ·cases h
def zF0 (now:Int) (l:List It):List It:=l.filter fun x=>!zE2 now x
def lvS (i:Nat) (now:Int):List (Nat × SV):=[(6,.c (.i .i64 (i:Int))),(5,.c (.p 2 0)),(4,.c (.p 1 0)),(2,.c (.p 0 0)),(1,.c (.i .i64 now))]
def lvE (a:Option Addr) (n c:Nat) (cs fl:Int) (L:List It):List EN:=[⟨(25,0,whole),[.v (.slice a n c),.i .u64 cs,.i .i64 fl],true⟩,⟨(25,0,whole),[.v (.slice none 0 0),.i .u64 0,.i .i64 0],true⟩,⟨(25,0,whole),[.rw 3 L.length,.i .u64 cs,.i .i64 fl],true⟩,rwE 33 8 L.length (zB6 itS L)]
theorem zC8 {pr:Nat→Prop} {v:SC} {cs fl:Int} (h:v.wf pr):wfs pr [v,.i .u64 cs,.i .i64 fl]:=by
 intro y hy
 simp only [List.mem_cons,List.not_mem_nil,or_false] at hy
 rcases hy with rfl | rfl | rfl
 ·exact h
 ·trivial
 ·trivial
theorem rlive_w {w:World} {a:Option Addr} {n c:Nat} {X:St} (ha:RawI w a X.items) (hn:n=X.items.length) (hl:n≤100000000) (now:Int) :
  Calls Tryz.prog 19 #[.agg #[.slice a n c,.int .u64 X.cas,.int .i64 X.flush],.int .i64 now] w (StP w (zB1 X now).items (zB1 X now).cas (zB1 X now).flush):=by
 refine zB8 Tryz.func19 rfl kp19 (S:=Non) (ρ:=fun _=>⟨0,[],[],0,none⟩) (en:=[]) [.g [.v (.slice a n c),.i .u64 X.cas,.i .i64 X.flush],.c (.i .i64 now)] Tryz.ntmps19 (At.nil _ _ _) (by intro y hy; simp only [List.mem_cons,List.not_mem_nil,or_false] at hy; rcases hy with rfl | rfl; exact zC8 trivial; trivial) (by simp) ?_
 intro C hC hP hk
 have hS:C.S=Non:=by rw [hC]; rfl
 have hw:C.w0=w:=by rw [hC]; rfl
 have hn0:C.n0=0:=by rw [hC]; rfl
 have hctr:zE4 C rlC:=rlC_ok hP
 by_cases hf:X.flush ≠ 0∧X.flush≤now
 ·have f1:(X.flush != 0)=true:=by rw [bne_iff_ne]; exact hf.1
  have f2:decide (X.flush≤now)=true:=decide_eq_true hf.2
  have hlv:zB1 X now=⟨[],X.cas,0⟩:=by unfold zB1; rw [if_pos hf]
  (refine zB0 hctr (rs:=res19) true 300 _ _ _ ?_; simp (maxSteps:=1000000) only [VT,jf,jZ,qE,qF,qG,qH,qI,qJ,qK,qO,qP,qR,qS,qV,qf,qg,qp,q0t,qu,qv,ev,qy,qz,zA,zB,zC,zD,zE,zF,zG,zI,zJ,TE.sv,zK,zM,↓reduceIte,reduceCtorEq,Value.oneCell',Nat.reduceEqDiff,Nat.reduceAdd,Nat.reduceLT,zP,zQ,zR,zV,zt,hP,hk,res19,kp19,Nat.reduceAdd,f1,f2])
  refine zY6 (v:=.g [.v (.slice none 0 0),.i .u64 X.cas,.i .i64 0]) hC hres19 fun ρ w' hw' _ _=>?_
  have hup:=hw'.up
  rw [hC] at hup
  rw [hlv]
  exact ⟨⟨⟨w.heap.size,[],[],0,some none⟩,⟨Nat.le_refl _,⟨by simp [zD4],.inr ⟨rfl,rfl,rfl⟩⟩,(fun h=>by cases h),fun _=>rfl⟩,rfl⟩,hup.to_below⟩
 have hlv:zB1 X now=⟨zF0 now X.items,X.cas,X.flush⟩:=by unfold zB1; rw [if_neg hf]; rfl
 have fs:(X.flush != 0)=false∨((X.flush != 0)=true∧decide (X.flush≤now)=false):=by
  by_cases h0:X.flush=0
  ·left; simp [h0]
  ·right; exact ⟨by simpa using h0,decide_eq_false (fun h=>hf ⟨h0,h⟩)⟩
 obtain ⟨fb,hfb⟩:∃ fb,(X.flush != 0)=fb:=⟨_,rfl⟩
 have hfb2:fb=true→decide (X.flush≤now)=false:=fun h=>by
  rcases fs with h1 | ⟨_,h2⟩
  ·rw [hfb,h] at h1; cases h1
  ·exact h2
 cases fb
 ·(refine zB0 hctr (rs:=res19) true 300 _ _ _ ?_; simp (maxSteps:=1000000) only [VT,jg,jd,qH,qI,qJ,qK,qO,qP,qR,qS,qV,qf,qg,qp,q0t,qu,qv,ev,qy,qz,zC,zD,zE,zF,zG,zI,zJ,zK,zM,↓reduceIte,reduceCtorEq,Value.oneCell',Nat.reduceEqDiff,Nat.reduceAdd,Nat.reduceLT,zP,zQ,zR,zW,zt,hP,hk,res19,kp19,Nat.reduceAdd,hfb])
  refine zI8 true (en':=[⟨(25,0,whole),[.v (.slice a n c),.i .u64 X.cas,.i .i64 X.flush],true⟩,⟨(25,0,whole),[.v (.slice none 0 0),.i .u64 0,.i .i64 0],true⟩,⟨(25,0,whole),[.rw 3 0,.i .u64 X.cas,.i .i64 X.flush],true⟩]) (sl':=lvS 0 now) (33,0,rowP 8 0 0) rfl (fun _=>⟨rfl,.inr ⟨rfl,rfl,rfl⟩⟩) (fun _=>by show ¬ ((33:Nat)=zE8); decide) ?_ ?_ ?_
  ·refine ⟨⟨rfl,rfl,fun _ _=>rfl,zC8 trivial⟩,⟨rfl,rfl,fun _ _=>rfl,zC8 trivial⟩,⟨rfl,rfl,fun ρ h=>?_,zC8 (by show 3 < 3+1; decide)⟩,trivial⟩
   have h:(ρ 3).nl=some none:=h
   simp only [zC1,List.map_cons,List.map_nil,SC.den,zG4 h]
  ·refine ⟨⟨⟨_,rfl,fun _ _=>rfl⟩,trivial⟩,⟨⟨_,rfl,fun _ _=>rfl⟩,?_⟩,⟨⟨_,rfl,fun _ _=>rfl⟩,?_⟩,⟨⟨_,rfl,fun _ _=>rfl⟩,?_⟩,⟨⟨_,rfl,fun _ _=>rfl⟩,trivial⟩,trivial⟩
   ·show 2 < 3+1; decide
   ·show 1 < 3+1; decide
   ·show 0 < 3+1; decide
  refine zS1 (ι:={ i:Nat // i≤n }) (fun i=>lvS i.1 now) (fun i=>lvE a n c X.cas X.flush (zF0 now (X.items.take i.1))) (fun i=>n - i.1) ⟨0,Nat.zero_le _⟩ (zH6 ⟨rfl,rfl,rfl,rfl,rfl,trivial⟩) rfl ?_
  rintro ⟨i,hi⟩ D dP dS dw dn dr dk ddf dPan dRet hX hJ
  have hP0:=hP; have hk0:=hk; have hctr0:=hctr
  have hi:i≤n:=hi
  have hP:D.P=Tryz.prog:=by rw [dP]; exact hP0
  have hk:D.kp=kp19:=by rw [dk]; exact hk0
  have hctr:zE4 D rlC:=rlC_ok hP
  have hDS:D.S=Non:=by rw [dS]; exact hS
  have hDw:D.w0=w:=by rw [dw]; exact hw
  have hn0':D.n0=0:=by rw [dn]; exact hn0
  obtain ⟨L,hL⟩:∃ L,zF0 now (X.items.take i)=L:=⟨_,rfl⟩
  have hLl:L.length≤i:=by rw [← hL]; exact Nat.le_trans (List.length_filter_le _ _) (by rw [List.length_take]; omega)
  show Run D _ _ (lvS i now) (lvE a n c X.cas X.flush (zF0 now (X.items.take i)))
  rw [hL]
  by_cases hin:i < n
  ·have q1:decide ((i:Int) < (n:Int))=true:=decide_eq_true (by omega)
   have p0:(0:Int)≤(i:Int):=by omega
   have p1:(i:Int) < (n:Int):=by omega
   have p3:IntKind.i64.wrap ((i:Int)+1)=((i+1:Nat):Int):=by rw [IntWalk.i64_in _ (by omega)]; rfl
   obtain ⟨x,hx⟩:∃ x,X.items[i]?=some x:=⟨_,List.getElem?_eq_getElem (by omega)⟩
   obtain ⟨g,oo,rfl,hg,hc⟩:=ha i x hx
   have rx:D.rd g (oo+i * 8) 8=some (itS x):=(raw_rd hDS hDw hg hc).1
   have htk:X.items.take (i+1)=X.items.take i++[x]:=by rw [List.take_add_one,hx]; rfl
   obtain ⟨gb,hgb⟩:∃ gb,(!decide (x.exp=0) && decide (x.exp≤now))=gb:=⟨_,rfl⟩
   cases gb with
   | true =>
    have hnx:zF0 now (X.items.take (i+1))=L:=by
     rw [htk,zF0,List.filter_append,← hL,zF0]
     have:zE2 now x=true:=hgb
     simp [this]
    (refine zB0 hctr (rs:=res19) true 300 _ _ _ ?_; simp (maxSteps:=1000000) only [VT,jf,jg,qH,qI,qK,qN,qO,qP,qR,qS,qT,qV,qX,qe,ev,qw,qy,qz,zD,zI,zJ,zM,↓reduceIte,reduceCtorEq,Nat.reduceEqDiff,Nat.reduceLT,zP,zQ,zR,zT,zV,zW,zh,zo,zu,rwE,hP,hk,res19,kp19,rlC,zS7,itS,lvS,lvE,p0,p1,rx,hgb,p3])
    have hJ':=hJ ⟨i+1,hin⟩ (lvS (i+1) now) (by show n - (i+1) < n - i; omega) (fun d v h=>h)
    have hJ':Run D [] _ (lvS (i+1) now) (lvE (some ⟨g,oo,none⟩) n c X.cas X.flush (zF0 now (X.items.take (i+1)))):=hJ'
    rw [hnx] at hJ'
    exact zS2 (s:=lvS (i+1) now) (zH6 ⟨rfl,rfl,rfl,rfl,rfl,trivial⟩) hJ'
   | false =>
    have hnx:zF0 now (X.items.take (i+1))=L++[x]:=by
     rw [htk,zF0,List.filter_append,← hL,zF0]
     have:zE2 now x=false:=hgb
     simp [this]
    (refine zB0 hctr (rs:=res19) true 300 _ _ _ ?_; simp (maxSteps:=1000000) only [VT,jf,qH,qI,qK,qN,qO,qP,qR,qS,qT,qV,qX,qe,ev,qw,qy,zD,zI,zJ,zM,↓reduceIte,reduceCtorEq,Nat.reduceEqDiff,Nat.reduceLT,zP,zQ,zR,zT,zV,zW,zh,zo,zu,rwE,hP,hk,res19,kp19,rlC,zS7,itS,lvS,lvE,p0,p1,rx,hgb])
    obtain ⟨i0,hi',hz0,hz1,hz2⟩:=info_parts infoItD
    have z1:∀ k,jW k (zB6 itS L)=true:=fun k=>zL2 (zF4 _ _)
    have z2:∀ k,jW k (zB6 itS L++[.s x.key,.i .u32 x.flags,.s x.val,.i .i64 x.exp,.i .u64 x.cas,.i .i64 x.last,.b x.stale,.b x.won])=true:=fun k=>zL2 (fun y hy=>by
     rcases List.mem_append.1 hy with h | h
     ·exact zF4 _ _ y h
     ·exact zW9 _ x y h)
    (refine zG1 hctr (by rw [hP]; rfl) rs19_10 [hap (some 3) 33 8 (L.length + 1) (zB6 itS L ++ itS x)] (ensure_type_of% (Cmp.of (by simp (maxSteps := 1000000) only [qA, qB, qC, qD, qK, qO, qP, qV, qX, qg, q0t, qv, ev, qy, zC, zD, zE, zF, zG, zM, ↓reduceIte, Nat.reduceEqDiff, Nat.reduceAdd, Nat.reduceLT, Nat.reduceLeDiff, zP, zT, zh, zk, zl, zt, zu, cE, jA, hap, zF7, zA4, rwE, jC, jD, jF, jG, jH, jJ, jK, jL, jM, jN, hP, itS, Nat.reduceAdd, Nat.reduceMul, p0, p1, rx, hap, zF7, zA4, rwE]; rfl)) "" Cmp.mk) (by kernel_rfl) (by kernel_rfl) (by first | exact zA2 _ | kernel_rfl) (by kernel_rfl) (by rfl) (by rfl) (by first | exact zA0 _ | rfl) (by rfl) ?_ ?_; rotate_left; refine zB0 hctr (rs := res19) true 300 _ _ _ ?_; simp (maxSteps := 1000000) only [VT, qH, qI, qK, qO, qR, qS, ev, qy, qz, zG, zI, zJ, ↓reduceIte, reduceCtorEq, Nat.reduceEqDiff, Nat.reduceAdd, Nat.reduceLT, zP, zQ, zR, zt, jN, jO, hk, kp19, Nat.reduceAdd, p3]; rotate_left; simp (maxSteps := 1000000) only [qA, qB, qC, qD, qK, qO, qP, qV, qX, qg, q0t, qv, ev, qw, qy, zC, zD, zE, zG, zM, ↓reduceIte, Nat.reduceEqDiff, Nat.reduceAdd, Nat.reduceLT, Nat.reduceSub, Nat.reduceLeDiff, zP, zR, zS, zT, zh, zk, zl, zm, zn, zq, zt, zu, jD, jF, jG, jH, jN, jP, jQ, jR, jS, jT, jU, hP, itS, Nat.reduceAdd, Nat.reduceMul, p0, p1, rx])
    ·exact zN0 (N:=5) (n:=L.length) (m:=1) (z:=8) (bts:=72) (cells:=zB6 itS L) (news:=itS x) (o:=some 3) (by rw [hP]; exact Tryz.underlying22) (by rw [hP]; exact hi') hz0 hz1 hz2 rfl (by decide) (by decide) (.some rfl) (zN7 (c:=4) (o:=0) (L:=8) rfl rfl) rfl rfl (fun pr=>zW9 pr x) (by omega) (by omega) (by rw [hn0']; exact Nat.zero_le _) (fun q=>mkC_nth (nE:=4) (i:=1) (fun k=>by match k with | 0=>simp | 1=>simp | _+2=>simp)) rfl (fun q hq=>by match q with | 0=>rfl | 1=>rfl | 2=>rfl | 3=>rfl | 4=>rfl | 5=>exact absurd rfl hq | _+6=>rfl)
    have hJ':=hJ ⟨i+1,hin⟩ (lvS (i+1) now) (by show n - (i+1) < n - i; omega) (fun d v h=>h)
    have hJ':Run D [] _ (lvS (i+1) now) (lvE (some ⟨g,oo,none⟩) n c X.cas X.flush (zF0 now (X.items.take (i+1)))):=hJ'
    rw [hnx] at hJ'
    have hll:(L++[x]).length=L.length+1:=by simp
    refine zS2 (s:=lvS (i+1) now) (zH6 ⟨rfl,rfl,rfl,rfl,rfl,trivial⟩) ?_
    refine zM3 (f:=fun q=>if q=3 then 5 else q) (enK:=lvE (some ⟨g,oo,none⟩) n c X.cas X.flush (L++[x])) (slK:=lvS (i+1) now) ⟨fun q hq=>absurd hq (by rw [hn0']; exact Nat.not_lt_zero _),by rw [hn0']; exact Nat.zero_le _⟩ (fun p q hp hq h=>?_) ?_ ?_ hJ'
    ·have hp:p < 4:=hp
     have hq:q < 4:=hq
     split at h <;> split at h <;> omega
    ·rw [lvE,hll]
     refine ⟨⟨_,rfl,fun ρ=>rfl,zC8 trivial⟩,⟨_,rfl,fun ρ=>rfl,zC8 trivial⟩,⟨_,rfl,fun ρ=>rfl,zC8 (by show 3 < 4; decide)⟩,⟨_,by rw [zH3,zI3]; rfl,fun ρ=>(zC0 _ _).trans (zC0 _ _).symm,zF4 _ _⟩,trivial⟩
    ·refine ⟨⟨?_,_,rfl,fun ρ=>rfl⟩,⟨?_,_,rfl,fun ρ=>rfl⟩,⟨?_,_,rfl,fun ρ=>rfl⟩,⟨?_,_,rfl,fun ρ=>rfl⟩,⟨?_,_,rfl,fun ρ=>rfl⟩,trivial⟩
     all_goals simp [SV.wf,SC.wf,lvE]
  ·have q1:decide ((i:Int) < (n:Int))=false:=decide_eq_false (by omega)
   (refine zB0 hctr (rs:=res19) true 300 _ _ _ ?_; simp (maxSteps:=1000000) only [VT,jg,qH,qI,qK,qN,qO,qP,qR,qS,qV,qe,ev,qy,zD,zH,zI,zJ,zM,↓reduceIte,reduceCtorEq,Nat.reduceEqDiff,Nat.reduceLT,zP,zQ,zR,zW,zu,rwE,hP,hk,res19,kp19,lvS,lvE,q1])
   refine hX rfl rfl ?_
   have hP:=hP0; have hk:=hk0; have hctr:=hctr0
   (refine zB0 hctr (rs:=res19) true 300 _ _ _ ?_; simp (maxSteps:=1000000) only [VT,qE,qF,qG,qH,qI,qJ,qK,qP,q0t,qu,qv,ev,qy,zA,zB,zC,zD,zE,zG,zI,zJ,TE.sv,zM,↓reduceIte,reduceCtorEq,Nat.reduceEqDiff,Nat.reduceAdd,Nat.reduceLT,zP,zQ,zR,zt,hP,hk,res19,kp19,Nat.reduceAdd])
   have hall:L=zF0 now X.items:=by rw [← hL,show i=X.items.length by omega,List.take_length]
   refine zY6 (v:=.g [.rw 3 L.length,.i .u64 X.cas,.i .i64 X.flush]) hC hres19 fun ρ w' hw' _ _=>?_
   have hup:=hw'.up
   rw [hC] at hup
   have k1:=RowOk.of (N:=3) (n:=L.length) (z:=8) (e:=33) (cells:=zB6 itS L) hw' hS rfl (by decide)
   rw [hw,zC0] at k1
   rw [hlv,← hall]
   exact ⟨⟨ρ 3,k1,rfl⟩,hup.to_below⟩
 ·have hfb3:=hfb2 rfl
  (refine zB0 hctr (rs:=res19) true 300 _ _ _ ?_; simp (maxSteps:=1000000) only [VT,jf,jg,jZ,qH,qI,qJ,qK,qO,qP,qR,qS,qV,qf,qg,qp,q0t,qu,qv,ev,qy,qz,zC,zD,zE,zF,zG,zI,zJ,zK,zM,↓reduceIte,reduceCtorEq,Value.oneCell',Nat.reduceEqDiff,Nat.reduceAdd,Nat.reduceLT,zP,zQ,zR,zV,zW,zt,hP,hk,res19,kp19,Nat.reduceAdd,hfb,hfb3])
  refine zI8 true (en':=[⟨(25,0,whole),[.v (.slice a n c),.i .u64 X.cas,.i .i64 X.flush],true⟩,⟨(25,0,whole),[.v (.slice none 0 0),.i .u64 0,.i .i64 0],true⟩,⟨(25,0,whole),[.rw 3 0,.i .u64 X.cas,.i .i64 X.flush],true⟩]) (sl':=lvS 0 now) (33,0,rowP 8 0 0) rfl (fun _=>⟨rfl,.inr ⟨rfl,rfl,rfl⟩⟩) (fun _=>by show ¬ ((33:Nat)=zE8); decide) ?_ ?_ ?_
  ·refine ⟨⟨rfl,rfl,fun _ _=>rfl,zC8 trivial⟩,⟨rfl,rfl,fun _ _=>rfl,zC8 trivial⟩,⟨rfl,rfl,fun ρ h=>?_,zC8 (by show 3 < 3+1; decide)⟩,trivial⟩
   have h:(ρ 3).nl=some none:=h
   simp only [zC1,List.map_cons,List.map_nil,SC.den,zG4 h]
  ·refine ⟨⟨⟨_,rfl,fun _ _=>rfl⟩,trivial⟩,⟨⟨_,rfl,fun _ _=>rfl⟩,?_⟩,⟨⟨_,rfl,fun _ _=>rfl⟩,?_⟩,⟨⟨_,rfl,fun _ _=>rfl⟩,?_⟩,⟨⟨_,rfl,fun _ _=>rfl⟩,trivial⟩,trivial⟩
   ·show 2 < 3+1; decide
   ·show 1 < 3+1; decide
   ·show 0 < 3+1; decide
  refine zS1 (ι:={ i:Nat // i≤n }) (fun i=>lvS i.1 now) (fun i=>lvE a n c X.cas X.flush (zF0 now (X.items.take i.1))) (fun i=>n - i.1) ⟨0,Nat.zero_le _⟩ (zH6 ⟨rfl,rfl,rfl,rfl,rfl,trivial⟩) rfl ?_
  rintro ⟨i,hi⟩ D dP dS dw dn dr dk ddf dPan dRet hX hJ
  have hP0:=hP; have hk0:=hk; have hctr0:=hctr
  have hi:i≤n:=hi
  have hP:D.P=Tryz.prog:=by rw [dP]; exact hP0
  have hk:D.kp=kp19:=by rw [dk]; exact hk0
  have hctr:zE4 D rlC:=rlC_ok hP
  have hDS:D.S=Non:=by rw [dS]; exact hS
  have hDw:D.w0=w:=by rw [dw]; exact hw
  have hn0':D.n0=0:=by rw [dn]; exact hn0
  obtain ⟨L,hL⟩:∃ L,zF0 now (X.items.take i)=L:=⟨_,rfl⟩
  have hLl:L.length≤i:=by rw [← hL]; exact Nat.le_trans (List.length_filter_le _ _) (by rw [List.length_take]; omega)
  show Run D _ _ (lvS i now) (lvE a n c X.cas X.flush (zF0 now (X.items.take i)))
  rw [hL]
  by_cases hin:i < n
  ·have q1:decide ((i:Int) < (n:Int))=true:=decide_eq_true (by omega)
   have p0:(0:Int)≤(i:Int):=by omega
   have p1:(i:Int) < (n:Int):=by omega
   have p3:IntKind.i64.wrap ((i:Int)+1)=((i+1:Nat):Int):=by rw [IntWalk.i64_in _ (by omega)]; rfl
   obtain ⟨x,hx⟩:∃ x,X.items[i]?=some x:=⟨_,List.getElem?_eq_getElem (by omega)⟩
   obtain ⟨g,oo,rfl,hg,hc⟩:=ha i x hx
   have rx:D.rd g (oo+i * 8) 8=some (itS x):=(raw_rd hDS hDw hg hc).1
   have htk:X.items.take (i+1)=X.items.take i++[x]:=by rw [List.take_add_one,hx]; rfl
   obtain ⟨gb,hgb⟩:∃ gb,(!decide (x.exp=0) && decide (x.exp≤now))=gb:=⟨_,rfl⟩
   cases gb with
   | true =>
    have hnx:zF0 now (X.items.take (i+1))=L:=by
     rw [htk,zF0,List.filter_append,← hL,zF0]
     have:zE2 now x=true:=hgb
     simp [this]
    (refine zB0 hctr (rs:=res19) true 300 _ _ _ ?_; simp (maxSteps:=1000000) only [VT,jf,jg,qH,qI,qK,qN,qO,qP,qR,qS,qT,qV,qX,qe,ev,qw,qy,qz,zD,zI,zJ,zM,↓reduceIte,reduceCtorEq,Nat.reduceEqDiff,Nat.reduceLT,zP,zQ,zR,zT,zV,zW,zh,zo,zu,rwE,hP,hk,res19,kp19,rlC,zS7,itS,lvS,lvE,p0,p1,rx,hgb,p3])
    have hJ':=hJ ⟨i+1,hin⟩ (lvS (i+1) now) (by show n - (i+1) < n - i; omega) (fun d v h=>h)
    have hJ':Run D [] _ (lvS (i+1) now) (lvE (some ⟨g,oo,none⟩) n c X.cas X.flush (zF0 now (X.items.take (i+1)))):=hJ'
    rw [hnx] at hJ'
    exact zS2 (s:=lvS (i+1) now) (zH6 ⟨rfl,rfl,rfl,rfl,rfl,trivial⟩) hJ'
   | false =>
    have hnx:zF0 now (X.items.take (i+1))=L++[x]:=by
     rw [htk,zF0,List.filter_append,← hL,zF0]
     have:zE2 now x=false:=hgb
     simp [this]
    (refine zB0 hctr (rs:=res19) true 300 _ _ _ ?_; simp (maxSteps:=1000000) only [VT,jf,qH,qI,qK,qN,qO,qP,qR,qS,qT,qV,qX,qe,ev,qw,qy,zD,zI,zJ,zM,↓reduceIte,reduceCtorEq,Nat.reduceEqDiff,Nat.reduceLT,zP,zQ,zR,zT,zV,zW,zh,zo,zu,rwE,hP,hk,res19,kp19,rlC,zS7,itS,lvS,lvE,p0,p1,rx,hgb])
    obtain ⟨i0,hi',hz0,hz1,hz2⟩:=info_parts infoItD
    have z1:∀ k,jW k (zB6 itS L)=true:=fun k=>zL2 (zF4 _ _)
    have z2:∀ k,jW k (zB6 itS L++[.s x.key,.i .u32 x.flags,.s x.val,.i .i64 x.exp,.i .u64 x.cas,.i .i64 x.last,.b x.stale,.b x.won])=true:=fun k=>zL2 (fun y hy=>by
     rcases List.mem_append.1 hy with h | h
     ·exact zF4 _ _ y h
     ·exact zW9 _ x y h)
    (refine zG1 hctr (by rw [hP]; rfl) rs19_10 [hap (some 3) 33 8 (L.length + 1) (zB6 itS L ++ itS x)] (ensure_type_of% (Cmp.of (by simp (maxSteps := 1000000) only [qA, qB, qC, qD, qK, qO, qP, qV, qX, qg, q0t, qv, ev, qy, zC, zD, zE, zF, zG, zM, ↓reduceIte, Nat.reduceEqDiff, Nat.reduceAdd, Nat.reduceLT, Nat.reduceLeDiff, zP, zT, zh, zk, zl, zt, zu, cE, jA, hap, zF7, zA4, rwE, jC, jD, jF, jG, jH, jJ, jK, jL, jM, jN, hP, itS, Nat.reduceAdd, Nat.reduceMul, p0, p1, rx, hap, zF7, zA4, rwE]; rfl)) "" Cmp.mk) (by kernel_rfl) (by kernel_rfl) (by first | exact zA2 _ | kernel_rfl) (by kernel_rfl) (by rfl) (by rfl) (by first | exact zA0 _ | rfl) (by rfl) ?_ ?_; rotate_left; refine zB0 hctr (rs := res19) true 300 _ _ _ ?_; simp (maxSteps := 1000000) only [VT, qH, qI, qK, qO, qR, qS, ev, qy, qz, zG, zI, zJ, ↓reduceIte, reduceCtorEq, Nat.reduceEqDiff, Nat.reduceAdd, Nat.reduceLT, zP, zQ, zR, zt, jN, jO, hk, kp19, Nat.reduceAdd, p3]; rotate_left; simp (maxSteps := 1000000) only [qA, qB, qC, qD, qK, qO, qP, qV, qX, qg, q0t, qv, ev, qw, qy, zC, zD, zE, zG, zM, ↓reduceIte, Nat.reduceEqDiff, Nat.reduceAdd, Nat.reduceLT, Nat.reduceSub, Nat.reduceLeDiff, zP, zR, zS, zT, zh, zk, zl, zm, zn, zq, zt, zu, jD, jF, jG, jH, jN, jP, jQ, jR, jS, jT, jU, hP, itS, Nat.reduceAdd, Nat.reduceMul, p0, p1, rx])
    ·exact zN0 (N:=5) (n:=L.length) (m:=1) (z:=8) (bts:=72) (cells:=zB6 itS L) (news:=itS x) (o:=some 3) (by rw [hP]; exact Tryz.underlying22) (by rw [hP]; exact hi') hz0 hz1 hz2 rfl (by decide) (by decide) (.some rfl) (zN7 (c:=4) (o:=0) (L:=8) rfl rfl) rfl rfl (fun pr=>zW9 pr x) (by omega) (by omega) (by rw [hn0']; exact Nat.zero_le _) (fun q=>mkC_nth (nE:=4) (i:=1) (fun k=>by match k with | 0=>simp | 1=>simp | _+2=>simp)) rfl (fun q hq=>by match q with | 0=>rfl | 1=>rfl | 2=>rfl | 3=>rfl | 4=>rfl | 5=>exact absurd rfl hq | _+6=>rfl)
    have hJ':=hJ ⟨i+1,hin⟩ (lvS (i+1) now) (by show n - (i+1) < n - i; omega) (fun d v h=>h)
    have hJ':Run D [] _ (lvS (i+1) now) (lvE (some ⟨g,oo,none⟩) n c X.cas X.flush (zF0 now (X.items.take (i+1)))):=hJ'
    rw [hnx] at hJ'
    have hll:(L++[x]).length=L.length+1:=by simp
    refine zS2 (s:=lvS (i+1) now) (zH6 ⟨rfl,rfl,rfl,rfl,rfl,trivial⟩) ?_
    refine zM3 (f:=fun q=>if q=3 then 5 else q) (enK:=lvE (some ⟨g,oo,none⟩) n c X.cas X.flush (L++[x])) (slK:=lvS (i+1) now) ⟨fun q hq=>absurd hq (by rw [hn0']; exact Nat.not_lt_zero _),by rw [hn0']; exact Nat.zero_le _⟩ (fun p q hp hq h=>?_) ?_ ?_ hJ'
    ·have hp:p < 4:=hp
     have hq:q < 4:=hq
     split at h <;> split at h <;> omega
    ·rw [lvE,hll]
     refine ⟨⟨_,rfl,fun ρ=>rfl,zC8 trivial⟩,⟨_,rfl,fun ρ=>rfl,zC8 trivial⟩,⟨_,rfl,fun ρ=>rfl,zC8 (by show 3 < 4; decide)⟩,⟨_,by rw [zH3,zI3]; rfl,fun ρ=>(zC0 _ _).trans (zC0 _ _).symm,zF4 _ _⟩,trivial⟩
    ·refine ⟨⟨?_,_,rfl,fun ρ=>rfl⟩,⟨?_,_,rfl,fun ρ=>rfl⟩,⟨?_,_,rfl,fun ρ=>rfl⟩,⟨?_,_,rfl,fun ρ=>rfl⟩,⟨?_,_,rfl,fun ρ=>rfl⟩,trivial⟩
     all_goals simp [SV.wf,SC.wf,lvE]
  ·have q1:decide ((i:Int) < (n:Int))=false:=decide_eq_false (by omega)
   (refine zB0 hctr (rs:=res19) true 300 _ _ _ ?_; simp (maxSteps:=1000000) only [VT,jg,qH,qI,qK,qN,qO,qP,qR,qS,qV,qe,ev,qy,zD,zH,zI,zJ,zM,↓reduceIte,reduceCtorEq,Nat.reduceEqDiff,Nat.reduceLT,zP,zQ,zR,zW,zu,rwE,hP,hk,res19,kp19,lvS,lvE,q1])
   refine hX rfl rfl ?_
   have hP:=hP0; have hk:=hk0; have hctr:=hctr0
   (refine zB0 hctr (rs:=res19) true 300 _ _ _ ?_; simp (maxSteps:=1000000) only [VT,qE,qF,qG,qH,qI,qJ,qK,qP,q0t,qu,qv,ev,qy,zA,zB,zC,zD,zE,zG,zI,zJ,TE.sv,zM,↓reduceIte,reduceCtorEq,Nat.reduceEqDiff,Nat.reduceAdd,Nat.reduceLT,zP,zQ,zR,zt,hP,hk,res19,kp19,Nat.reduceAdd])
   have hall:L=zF0 now X.items:=by rw [← hL,show i=X.items.length by omega,List.take_length]
   refine zY6 (v:=.g [.rw 3 L.length,.i .u64 X.cas,.i .i64 X.flush]) hC hres19 fun ρ w' hw' _ _=>?_
   have hup:=hw'.up
   rw [hC] at hup
   have k1:=RowOk.of (N:=3) (n:=L.length) (z:=8) (e:=33) (cells:=zB6 itS L) hw' hS rfl (by decide)
   rw [hw,zC0] at k1
   rw [hlv,← hall]
   exact ⟨⟨ρ 3,k1,rfl⟩,hup.to_below⟩
end Go.Proofs.YtfpeholdlkfmoaaGreatDoor
