/- strings.Builder: copyCheck, walked. -/
import Derived.Test.YtcbmlanpianclaaGreatDoorBS05
import Derived.Shelf.Strings.BuilderX
import Derived.Lib.Builder
import Derived.WalkKit
import Derived.Laws.Externs
import Derived.Lib.BufferMore
import Derived.Lib.BufferWrite
import Derived.Lib.FrozenHead
import Derived.Shelf.Strings.BuilderK
import Derived.Shelf.LaysM
import Derived.Shelf.LaysC
import Derived.Test.YtcbmlanpianclaaGreatDoorProg
import Derived.Test.YtcbmlanpianclaaGreatDoorBS00
import Derived.Laws.BitsAllLaws
import Derived.Shelf.Small.Wraps
import Derived.Shelf.Strings.Prefix
import Derived.Shelf.Strings.Trim
import Derived.Shelf.Strings.Cut
import Derived.Test.YtcbmlanpianclaaGreatDoorBS04
import Derived.Lib.IndexMore
import Derived.Lib.IndexBytes
import Derived.RangeFuncNested
import Derived.RangeFuncBound
import Derived.RangeFuncCalls
import Derived.RangeFuncLeaves
import Derived.Shelf.Abstract
import Derived.Shelf.RegionOpen
import Derived.OwnWalkIn
import Derived.TacticsInMore
import Derived.LoopNIn
import Derived.LoopIn
import Derived.RangeFuncBox
import Derived.Maps.AppendAt
namespace Go.Proofs.YtcbmlanpianclaaGreatDoor
set_option linter.unusedSimpArgs false
set_option linter.unusedVariables false
open Go.RowKit
set_option maxRecDepth 100000
theorem sizeBld:(Tryz.prog.info? 118).map (·.size)=some 2:=by kernel_rfl
theorem liesBld:liesAt Tryz.prog Tryz.prog.depth 118 (2 / Tryz.prog.cellsOf 118) 0 118 1=true:=by kernel_rfl
set_option maxHeartbeats 1000000 in
theorem cc_used (b:Nat) (w:World) (h0:w.cell? ⟨b,0,none⟩=some (.pointer (some ⟨b,0,none⟩))) :
  Calls Tryz.prog 120 #[.pointer (some ⟨b,0,none⟩)] w fun e w'=>e=.returned (.tuple #[])∧w'=w:=by
 obtain ⟨j,hj,_⟩:=Option.map_eq_some_iff.1 sizeBld
 go_enter Tryz.func120,Tryz.ntmps120
 go_wp2
 rw [Lib.run_neq_ptr_same w _ Tryz.underlying115 hj]
 go_wp2
 go_end0
 exact ⟨rfl,rfl⟩
set_option maxHeartbeats 1000000 in
theorem cc_fresh (b:Nat) (w:World) (h0:w.cell? ⟨b,0,none⟩=some (.pointer none)) (hsh:w.shape? b=some (118,2)) (hfz:w.frozen? ⟨b,0,none⟩=false) :
  Calls Tryz.prog 120 #[.pointer (some ⟨b,0,none⟩)] w fun e w'=>e=.returned (.tuple #[])∧w'=w.setCell ⟨b,0,none⟩ (.pointer (some ⟨b,0,none⟩)):=by
 obtain ⟨j,hj,hjs⟩:=Option.map_eq_some_iff.1 sizeBld
 go_enter Tryz.func120,Tryz.ntmps120
 go_wp2
 rw [Lib.run_to_unsafe w ⟨b,0,none⟩ Tryz.underlying115 Tryz.underlying149 hj (by rw [hjs]; decide) hsh (Nat.zero_lt_succ 1)]
 simp only [Result.andThen]
 rw [Oper.upon_value]
 go_wp2
 rw [run_callFunc_extern Tryz.func133 (by kernel_rfl) (by kernel_rfl) (by kernel_rfl) (e:=Extern.AbiNoEscape.same) (by kernel_rfl)]
 rw [Lib.run_noEscape]
 simp only [Result.andThen]
 rw [Oper.upon_value]
 go_wp2
 rw [Lib.run_from_unsafe w ⟨b,0,none⟩ Tryz.underlying149 Tryz.underlying115 hj hsh liesBld]
 simp only [Result.andThen]
 rw [Oper.upon_value]
 go_wp2
 go_end0
 exact ⟨rfl,rfl⟩
def zX9 (X Y:SC):EN:=⟨(118,0,whole),[X,Y],true⟩
theorem set_same {en:List EN} {c:Nat} {e:EN} (h:zD en c=some e):zE en c e=en:=by
 rw [zN8]
 rw [zA3] at h
 obtain ⟨hcl,he⟩:=List.getElem?_eq_some_iff.1 h
 rw [← he,List.set_getElem_self]
theorem cc_h {C:Cx} {nE c:Nat} {mk:Nat→Prop} {en:List EN} {X Y:SC} (hP:C.P=Tryz.prog) (hmk:∀ q,¬ mk q) (hc:zD en c=some (zX9 X Y)) (hX:X=.v (.pointer none)∨X=.p c 0) :
  zJ0 C nE mk en (zE en c (zX9 (.p c 0) Y)) 120 [.c (.p c 0)] (.t []):=by
 refine ⟨fun args w=>by rw [hP]; exact Tryz.call120 args w,?_⟩
 intro ρ pr w hpr hmn hw hex hx
 have hcp:pr c:=hx (.c (.p c 0)) (by simp)
 have hpl:∀ q,pr q→q < en.length:=fun q hq=>by
  have:=hex q hq
  rw [zA3] at this
  rcases Nat.lt_or_ge q en.length with h | h
  ·exact h
  ·exact absurd (List.getElem?_eq_none h) this
 obtain ⟨k1,k2,k3,k4,k5⟩:=zO4 hw.hp hw.ho hcp hc (by decide) (by simp)
 have hpt:(SC.p c 0).den ρ=.pointer (some ⟨(ρ c).blk,0,none⟩):=k2
 have e0:(List.map (SV.den ρ) [.c (.p c 0)]).toArray=#[.pointer (some ⟨(ρ c).blk,0,none⟩)]:=by simp [SV.den,hpt]
 rw [e0,hP]
 have hset:∀ w',Hw C ρ pr (zE en c (zX9 (.p c 0) Y)) w'→Hw C ρ (fun q=>pr q∨mk q) (zE en c (zX9 (.p c 0) Y)) w':=fun w' h=>h.iff fun q=>⟨fun h=>h.resolve_right (hmk q),.inl⟩
 have hres:∀ ρ':Nat→RE,Ending.returned (.tuple #[])=.returned ((SV.t []).den ρ'):=fun _=>rfl
 rcases hX with rfl | rfl
 ·have hb:w.heap[(ρ c).blk]?=some (.cells #[.pointer none,Y.den ρ] 118 (0,0)):=by simpa [Blk,zB8,SC.den] using k1
  refine (cc_fresh (ρ c).blk w (by simp [World.cell?,hb]) (by simp [World.shape?,hb]) (Lib.frozen_of_heap hb 0)).mono ?_
  rintro e w' ⟨rfl,rfl⟩
  refine ⟨ρ,fun _ _=>rfl,hres ρ,(by intro y hy; simp at hy),hset _ ?_,fun q hq=>absurd hq (hmk q)⟩
  have hg:=Lib.grownBy_setCell w (ρ c).blk 0 (.pointer (some ⟨(ρ c).blk,0,none⟩))
  refine Hw.turn hw hpl hcp hc (by decide) k5 ⟨hg.os,hg.tape,hg.output,hg.size,fun q hq hne=>hg.block q hq (fun h=>hne (by have:=Option.some.inj h; exact this))⟩ ?_ ?_
  ·rw [Lib.heap_setCell_same hb,k3,k4]
   simp [zB8,hpt]
  ·intro y hy
   simp only [List.mem_cons,List.not_mem_nil,or_false] at hy
   rcases hy with rfl | rfl
   ·exact hcp
   ·exact (hw.hp c _ _ _ hcp hc).wf _ (by simp)
 ·have hb:w.heap[(ρ c).blk]?=some (.cells #[.pointer (some ⟨(ρ c).blk,0,none⟩),Y.den ρ] 118 (0,0)):=by simpa [Blk,zB8,hpt] using k1
  refine (cc_used (ρ c).blk w (by simp [World.cell?,hb])).mono ?_
  rintro e w' ⟨rfl,rfl⟩
  refine ⟨ρ,fun _ _=>rfl,hres ρ,(by intro y hy; simp at hy),hset _ ?_,fun q hq=>absurd hq (hmk q)⟩
  rw [set_same hc]; exact hw
end Go.Proofs.YtcbmlanpianclaaGreatDoor
/- The contracts of library functions that this claim uses, laid at this translation by the guide's shelf tools: each is one application of a theorem of the library. -/
namespace Go.Proofs
set_option linter.unusedSimpArgs false
set_option linter.unusedVariables false
open Go.Shelf
def Tryz.lays169_ren:Go.Shelf.Ren:=⟨fun | 169=>89 | n=>n,fun | 70=>115 | 9=>9 | 0=>0 | 72=>118 | 37=>116 | 127=>141 | 3=>3 | 5=>5 | n=>n,fun | n=>n⟩
theorem Tryz.lays169:Go.Proofs.Lays.n169 Tryz.prog Tryz.lays169_ren:={
 mixed:=by kernel_rfl
 f169:=Tryz.func89.trans (congrArg some (by kernel_rfl))
 t0:=Tryz.underlying0
 a0:=Tryz.isAgg0
 z0:=Tryz.sizeOf0
 v0:=Tryz.zeroValue0
 t3:=Tryz.underlying3
 a3:=Tryz.isAgg3
 z3:=Tryz.sizeOf3
 v3:=Tryz.zeroValue3
 t9:=Tryz.underlying9
 a9:=Tryz.isAgg9
 z9:=Tryz.sizeOf9
 v9:=Tryz.zeroValue9
 t37:=Tryz.underlying116
 a37:=Tryz.isAgg116
 z37:=Tryz.sizeOf116
 v37:=Tryz.zeroValue116
 t70:=Tryz.underlying115
 a70:=Tryz.isAgg115
 z70:=Tryz.sizeOf115
 v70:=Tryz.zeroValue115
 t72:=Tryz.underlying118
 a72:=Tryz.isAgg118
 z72:=Tryz.sizeOf118
 v72:=Tryz.zeroValue118
 t127:=Tryz.underlying141
 a127:=Tryz.isAgg141
 z127:=Tryz.sizeOf141
 v127:=Tryz.zeroValue141 }
theorem Tryz.Builder_Extra_169:Builder.Extra Tryz.prog Tryz.lays169_ren:={
 sizeBuilder:=by kernel_rfl
 liesBuilder:=by kernel_rfl
 t5:=Tryz.underlying5
 a5:=Tryz.isAgg5
 z5:=Tryz.sizeOf5
 v5:=Tryz.zeroValue5
 infoByte:=by kernel_rfl
 cellsByte:=by kernel_rfl
 sizeByte:=by kernel_rfl
 neB5:=by decide }
open Go.RowKit in
theorem Tryz.Builder_String_any_k (B b:Nat) (l:List UInt8) (w:World) (h:Lib.IsBuilderF 118 5 B b (Lib.byteCells l) w) (hBw:B≤w.heap.size) :
  Calls Tryz.prog 89 #[.pointer (some ⟨b,0,none⟩)] w fun e w'=>e=.returned (.string ⟨l.toArray⟩)∧(Lib.IsBuilderF 118 5 B b (Lib.byteCells l) w'∧Below B w w'∧Lib.OthersKept 5 (some b) w w'):=Any.Builder_String_any_k Tryz.lays169 Tryz.Builder_Extra_169 B b l w h hBw
end Go.Proofs
/- strings.Builder: WriteByte, walked; as a call of a walk. Printed by gen_ewb.py. -/
namespace Go.Proofs.YtcbmlanpianclaaGreatDoor
set_option linter.unusedSimpArgs false
set_option linter.unusedVariables false
set_option maxHeartbeats 8000000
open Go.RowKit
set_option maxRecDepth 100000
theorem u8d:¬ ((5:Nat)=zC9):=by decide
theorem infoU8b:(Tryz.prog.info? 5).map (fun i=>(i.zero,i.size,i.bytes))=some (some (.int .u8 0),1,1):=by kernel_rfl
def rwB (l:List UInt8):EN:=rwE 5 1 l.length (zD5 l)
def RowB (w:World) (r:RE) (l:List UInt8):Prop:=rowP 1 l.length l.length r∧(r.nl=none→w.heap[r.blk]?=some (.cells (r.pre++Lib.strCells ⟨l.toArray⟩++r.post).toArray 5 (0,0)))
theorem wb_w {w:World} {b:Nat} {X:SC} {r:RE} {l:List UInt8} {x:UInt8} (hX:X=.v (.pointer none)∨X=.p 0 0) (hb:w.heap[b]?=some (.cells #[X.den (fun _=>zG7 b),zL3 r l.length] 118 (0,0))) (hr:RowB w r l) (hne:r.nl=none→r.blk ≠ b) (hnl:r.nl ≠ none→r.blk=w.heap.size) (hl:l.length+1≤100000000000) :
  Calls Tryz.prog 88 #[.pointer (some ⟨b,0,none⟩),.int .u8 (x.toNat:Int)] w fun e w'=>e=.returned .nilIface∧Upd (fun k=>k=b∨k=r.blk) w w' ∧
   ∃ r',RowB w' r' (l++[x])∧w'.heap[b]?=some (.cells #[.pointer (some ⟨b,0,none⟩),zL3 r' (l++[x]).length] 118 (0,0))∧(r'.nl=none→(r.nl=none∧r'.blk=r.blk)∨w.heap.size≤r'.blk)∧(r'.nl=none→r'.blk ≠ b)∧(r'.blk=b∨r'.blk=r.blk∨w.heap.size≤r'.blk):=by
 obtain ⟨ρ0,hρ0⟩:∃ ρ0:Nat→RE,ρ0=fun c=>if c=0 then zG7 b else r:=⟨_,rfl⟩
 have zP:ρ0 0=zG7 b:=by rw [hρ0]; rfl
 have zQ:ρ0 1=r:=by rw [hρ0]; rfl
 have hXd:X.den ρ0=X.den (fun _=>zG7 b):=by
  rcases hX with rfl | rfl
  ·rfl
  ·simp [SC.den,zE1,zP]
 have hat:At (fun k=>k=b∨k=r.blk) ρ0 [zX9 X (.rw 1 l.length),rwB l] w:=by
  have cs:∀ c,c < 2→c=0∨c=1:=fun c hc=>by omega
  refine ⟨?_,?_,?_,?_⟩
  ·intro c ty cells mu hc he
   rcases cs c hc with rfl | rfl
   ·simp only [zX9,zD,Option.some.injEq,EN.mk.injEq] at he
    obtain ⟨rfl,rfl,rfl⟩:=he
    refine ⟨fun _=>?_,?_,fun hd=>absurd hd (by decide),fun hn=>absurd (by rw [zP]; rfl) hn⟩
    ·rw [zP]
     have e2:zB8 ρ0 [X,.rw 1 l.length]=[X.den (fun _=>zG7 b),zL3 r l.length]:=by
      simp only [zB8,List.map_cons,List.map_nil,hXd]
      rw [show (SC.rw 1 l.length).den ρ0=zL3 (ρ0 1) l.length from rfl,zQ]
     rw [e2]; exact hb
    ·intro y hy
     simp only [List.mem_cons,List.not_mem_nil,or_false] at hy
     rcases hy with rfl | rfl
     ·rcases hX with rfl | rfl
      ·trivial
      ·exact Nat.zero_lt_two
     ·exact Nat.one_lt_two
   ·simp only [rwB,rwE,zD,Option.some.injEq,EN.mk.injEq] at he
    obtain ⟨rfl,rfl,rfl⟩:=he
    refine ⟨fun hh=>?_,zO5 _ _,fun hd=>absurd (show (5:Nat)=zC9 from hd) (by decide),fun hn=>?_⟩
    ·rw [zQ] at hh ⊢
     rw [zH1]; exact hr.2 hh.2
    ·rw [zQ] at hn
     obtain ⟨_,h | h⟩:=hr.1
     ·exact absurd h.1 hn
     ·have:l=[]:=List.eq_nil_of_length_eq_zero h.2.1
      rw [this]; rfl
  ·intro c ty cells mu hc he
   rcases cs c hc with rfl | rfl
   ·simp only [zX9,zD,Option.some.injEq,EN.mk.injEq] at he
    obtain ⟨rfl,rfl,rfl⟩:=he
    rw [zP]; exact ⟨rfl,rfl,rfl⟩
   ·simp only [rwB,rwE,zD,Option.some.injEq,EN.mk.injEq] at he
    obtain ⟨rfl,rfl,rfl⟩:=he
    rw [zQ,zI0]
    refine ⟨?_,hr.1⟩
    obtain ⟨_,h | h⟩:=hr.1
    ·show r.pre.length=0; rw [h.2.1]; rfl
    ·show r.pre.length=0; rw [h.2.2]; rfl
  ·intro c d hc hd h1 h2 h3
   have dl:∀ c,c < 2→zG5 (ρ0 c) (zD [zX9 X (.rw 1 l.length),rwB l] c)=false→c=1→r.nl=none:=fun c _ h e=>by
    subst e
    rw [zQ] at h
    exact ((zA4 (r:=r) (en:=[zX9 X (.rw 1 l.length),rwB l]) (c:=1) rfl).1 h).2
   rcases cs c hc with rfl | rfl <;> rcases cs d hd with rfl | rfl
   ·rfl
   ·rw [zP,zQ] at h3
    exact absurd h3.symm (hne (dl 1 hd h2 rfl))
   ·rw [zP,zQ] at h3
    exact absurd h3 (hne (dl 1 hc h1 rfl))
   ·rfl
  ·intro c ty cells hc he
   rcases cs c hc with rfl | rfl
   ·rw [zP]; exact .inl rfl
   ·rw [zQ]; exact .inr rfl
 have hargs:(List.map (SV.den ρ0) [.c (.p 0 0),.c (.i .u8 (x.toNat:Int))]).toArray=#[.pointer (some ⟨b,0,none⟩),.int .u8 (x.toNat:Int)]:=by
  simp [SV.den,SC.den,zE1,zP,zG7]
 rw [← hargs]
 refine zA1 Tryz.func88 rfl kp88 [.c (.p 0 0),.c (.i .u8 (x.toNat:Int))] Tryz.ntmps88 hat (by intro x hx; simp only [List.mem_cons,List.not_mem_nil,or_false] at hx; rcases hx with rfl | rfl; exact Nat.zero_lt_two; trivial) (by simp) ?_
 intro C hC hP hk
 have hctr:=zF8 hP
 have hn0:C.n0=2:=by rw [hC]; rfl
 (refine zA0 hctr (rs:=res88) true 300 _ _ _ ?_; simp (maxSteps:=1000000) only [VT,qH,qI,qK,qO,ev,qw,qy,qz,zI,zJ,zK,↓reduceIte,reduceCtorEq,Nat.reduceEqDiff,Nat.reduceLT,zR,zt,rwE,hk,kp88,noC,zX9,rwB,rwE,cond_true])
 refine zA6 rfl (.t []) [zX9 (.p 0 0) (.rw 1 l.length),rwB l] (cc_h (c:=0) (X:=X) (Y:=.rw 1 l.length) hP (fun q hq=>by simp only [zG] at hq; omega) rfl hX) (by simp [zG]) (by simp) ?_
 (refine zA0 hctr (rs:=res88) true 300 _ _ _ ?_; simp (maxSteps:=1000000) only [VT,qA,qB,qC,qD,qH,qI,qK,qN,qO,qP,qQ,qV,qg,q0t,ev,qy,zC,zD,zF,zG,zI,zJ,zM,↓reduceIte,reduceCtorEq,Nat.reduceEqDiff,Nat.reduceAdd,Nat.reduceLT,zR,zt,rwE,jN,hP,hk,kp88,zX9,rwB,rwE,cond_true,cond_false])
 obtain ⟨i0,hi',hz0,hz1,hz2⟩:=info_parts infoU8b
 refine zH9 (X:=.rw 1 l.length) (Y:=.sl 2 0 1 1) (o:=some 1) (n:=l.length) (m:=1) (z:=1) (bts:=1) (cells:=zD5 l) (news:=[.i .u8 (x.toNat:Int)]) (e:=5) (by rw [hP]; exact Tryz.underlying116) (by rw [hP]; exact hi') hz0 hz1 hz2 rfl Nat.zero_lt_one u8d (.some rfl) rfl rfl (zU5 (L:=1) rfl rfl) rfl rfl (fun pr y hy=>by simp only [List.mem_cons,List.not_mem_nil,or_false] at hy; subst hy; trivial) hl (by omega) (by rw [hn0]; simp) rfl (by simp) ?_
 rw [show zD5 l++[SC.i .u8 (x.toNat:Int)]=zD5 (l++[x]) from zZ6 l [x]]
 (refine zA0 hctr (rs:=res88) true 300 _ _ _ ?_; simp (maxSteps:=1000000) only [VT,qE,qF,qG,qH,qI,qJ,qK,qO,qQ,qV,q0t,qv,ev,qy,qz,zC,zD,zE,zF,zG,zI,zJ,TE.sv,zM,↓reduceIte,reduceCtorEq,Nat.reduceEqDiff,Nat.reduceAdd,Nat.reduceLT,zR,zt,zM2,zH4,rwE,jN,hP,hk,res88,kp88,rwE,cond_true,cond_false,zM2,zH4])
 refine zC3 hC hres88 fun ρ w' hw hn _=>?_
 have q0:ρ 0=zG7 b:=by rw [hw.ini 0 (by rw [hn0]; omega),hC]; exact zP
 have k0:=(hw.hp 0 _ _ _ (by simp) rfl).heap ⟨by decide,by rw [q0]; rfl⟩
 have o2:=hw.ho 3 _ _ _ (by simp) rfl
 have m0:=hw.mu 0 _ _ (by simp) rfl
 have m2:=hw.mu 3 _ _ (by simp) rfl
 have hup:=hw.up
 rw [hC] at hup m2
 have h2:rowP 1 (l++[x]).length (l++[x]).length (ρ 3):=by
  have:=o2.2
  rw [zI0] at this
  rw [show (l++[x]).length=l.length+1 by simp] at this ⊢
  exact this
 have hl2:(l++[x]).length=l.length+1:=by simp
 refine ⟨rfl,hup,ρ 3,⟨h2,fun hnl2=>?_⟩,?_,fun hnl2=>?_,fun hnl2 hbb=>?_,?_⟩
 ·have:=(hw.hp 3 _ _ _ (by simp) rfl).heap ⟨u8d,hnl2⟩
  rwa [zH1] at this
 ·rw [q0] at k0
  rw [hl2]
  simpa [zG7,zB8,SC.den,zE1,q0] using k0
 ·rcases m2 with h | h
  ·rcases h with h | h
   ·have hj:=hw.inj 3 0 (by simp) (by simp) ((zA4 (r:=ρ 3) (c:=3) rfl).2 ⟨u8d,hnl2⟩) ((zA4 (r:=ρ 0) (c:=0) rfl).2 ⟨by decide,by rw [q0]; rfl⟩) (by rw [q0]; exact h)
    cases hj
   ·cases hrn:r.nl with
    | none=>exact .inl ⟨rfl,h⟩
    | some p=>exact .inr (by rw [h,hnl (by rw [hrn]; simp)]; exact Nat.le_refl _)
  ·exact .inr h
 ·have hj:=hw.inj 3 0 (by simp) (by simp) ((zA4 (r:=ρ 3) (c:=3) rfl).2 ⟨u8d,hnl2⟩) ((zA4 (r:=ρ 0) (c:=0) rfl).2 ⟨by decide,by rw [q0]; rfl⟩) (by rw [q0]; exact hbb)
  cases hj
 ·rcases m2 with (h | h) | h
  ·exact .inl h
  ·exact .inr (.inl h)
  ·exact .inr (.inr h)
theorem wb_h {C:Cx} {nE c d N:Nat} {mk:Nat→Prop} {en en':List EN} {X:SC} {l:List UInt8} {x:UInt8} (hP:C.P=Tryz.prog) (hX:X=.v (.pointer none)∨X=.p c 0) (hc:zD en c=some (zX9 X (.rw d l.length))) (hd:zD en d=some (rwB l)) (hl:l.length+1≤100000000000) (hn0:C.n0≤N)
  (hmk:∀ q,mk q ↔ q=N) (hNe:zD en' N=some (rwB (l++[x]))) (hce:zD en' c=some (zX9 (.p c 0) (.rw N (l++[x]).length))) (hde:zD en' d=some (zH4 (rwB l))) (hq:∀ q,q ≠ N→q ≠ c→q ≠ d→zD en' q=zD en q) :
  zJ0 C nE mk en en' 88 [.c (.p c 0),.c (.i .u8 (x.toNat:Int))] (.c (.v .nilIface)):=by
 refine ⟨fun args w=>by rw [hP]; exact Tryz.call88 args w,?_⟩
 intro ρ pr w hpr hmn hw hex hx
 have hcp:pr c:=hx (.c (.p c 0)) (by simp)
 have hdp:pr d:=(hw.hp c _ _ _ hcp hc).wf (.rw d l.length) (by simp)
 have lN:¬ pr N:=hmn N ((hmk N).2 rfl)
 obtain ⟨k1,k2,k3,k4,k5⟩:=zO4 hw.hp hw.ho hcp hc (by decide) (by simp)
 have e0:(List.map (SV.den ρ) [.c (.p c 0),.c (.i .u8 (x.toNat:Int))]).toArray=#[.pointer (some ⟨(ρ c).blk,0,none⟩),.int .u8 (x.toNat:Int)]:=by
  show #[zE1 ρ c 0,.int .u8 (x.toNat:Int)]=_
  rw [k2]
 rw [e0,hP]
 have od:=hw.ho d _ _ _ hdp hd
 obtain ⟨r0,hr0,hr1,hr2,hr3⟩:∃ r0:RE,(∀ n,zL3 r0 n=zL3 (ρ d) n)∧r0.nl=(ρ d).nl∧(r0.nl=none→r0=ρ d)∧(r0.nl ≠ none→r0.blk=w.heap.size∧r0.pre=(ρ d).pre∧r0.post=(ρ d).post∧r0.cap=(ρ d).cap):=by
  cases h:(ρ d).nl with
  | none=>exact ⟨ρ d,fun _=>rfl,h,fun _=>rfl,fun hh=>absurd h hh⟩
  | some p=>exact ⟨⟨w.heap.size,(ρ d).pre,(ρ d).post,(ρ d).cap,some p⟩,fun n=>by unfold zL3; simp only [h],rfl,(fun hh=>by cases hh),fun _=>⟨rfl,rfl,rfl,rfl⟩⟩
 have hrow:RowB w r0 l:=by
  cases h:r0.nl with
  | none =>
   rw [hr2 h]
   refine ⟨by have:=od.2; rwa [zI0] at this,fun hn=>?_⟩
   have:=(hw.hp d _ _ _ hdp hd).heap ⟨u8d,hn⟩
   rwa [zH1] at this
  | some p =>
   obtain ⟨g1,g2,g3,g4⟩:=hr3 (by rw [h]; simp)
   refine ⟨?_,fun hn=>by rw [h] at hn; cases hn⟩
   have:=od.2
   rw [zI0] at this
   obtain ⟨t1,t2⟩:=this
   refine ⟨t1,?_⟩
   rw [hr1,g2,g3,g4]; exact t2
 have hcd:c ≠ d:=fun h=>by
  subst h; rw [hc] at hd
  have:=congrArg (Option.map fun e:EN=>e.ty.1) hd
  simp [zX9,rwB,rwE] at this
 have live_c:zG5 (ρ c) (zD en c)=false:=(zA4 hc).2 ⟨by decide,k5⟩
 have live_d:r0.nl=none→zG5 (ρ d) (zD en d)=false:=fun h=>(zA4 hd).2 ⟨u8d,by rw [← hr1]; exact h⟩
 have hXd:X.den (fun _=>zG7 (ρ c).blk)=X.den ρ∨True:=.inr trivial
 obtain ⟨X',hX',hXX⟩:∃ X':SC,(X'=.v (.pointer none)∨X'=.p 0 0)∧X'.den (fun _=>zG7 (ρ c).blk)=X.den ρ:=by
  rcases hX with rfl | rfl
  ·exact ⟨_,.inl rfl,rfl⟩
  ·exact ⟨_,.inr rfl,by rw [show (SC.p c 0).den ρ=_ from k2]; rfl⟩
 refine (wb_w (w:=w) (x:=x) (b:=(ρ c).blk) (X:=X') (r:=r0) (l:=l) hX' ?_ hrow (fun h hb=>?_) (fun h=>(hr3 h).1) hl).mono ?_
 ·rw [hXX,hr0]
  simpa [Blk,zB8,SC.den] using k1
 ·rw [hr2 h] at hb
  exact hcd (hw.inj d c hdp hcp (live_d h) live_c hb).symm
 rintro e w' ⟨rfl,hU,r',hrow',hb',hbl,hbn,hba⟩
 have hT:∀ q,pr q→q ≠ c→q ≠ d→zG5 (ρ q) (zD en q)=false→¬ ((ρ q).blk=(ρ c).blk∨(ρ q).blk=r0.blk):=by
  intro q hqp hqc hqd hlq h
  rcases h with h | h
  ·exact hqc (hw.inj q c hqp hcp hlq live_c h)
  ·cases hn:r0.nl with
   | none =>
    rw [hr2 hn] at h
    exact hqd (hw.inj q d hqp hdp hlq (live_d hn) h)
   | some p =>
    have:=hw.lt hqp hlq
    rw [h,(hr3 (by rw [hn]; simp)).1] at this
    exact Nat.lt_irrefl _ this
 have hup:zK7 ρ N r' N=r':=if_pos rfl
 have hoc:zK7 ρ N r' c=ρ c:=if_neg (fun h:c=N=>lN (h ▸ hcp))
 obtain ⟨k1',k2'⟩:=Hw.rebuild (C:=C) (ρ:=ρ) (pr:=pr) (en:=en) (en':=en') (w:=w) (w':=w') (N:=N) (e:=rwB (l++[x])) (T:=fun k=>k=(ρ c).blk∨k=r0.blk) r' hw lN hn0 hU
  (fun k hk h=>by
   rcases h with rfl | rfl
   ·exact (hw.mu c _ _ hcp hc).resolve_right (by omega)
   ·cases hn:r0.nl with
    | none=>rw [hr2 hn] at hk ⊢; exact (hw.mu d _ _ hdp hd).resolve_right (by omega)
    | some p =>
     rw [(hr3 (by rw [hn]; simp)).1] at hk
     have:=hw.up.size
     omega)
  (fun q hqp=>by
   have hqN:q ≠ N:=fun h=>lN (h ▸ hqp)
   by_cases hqc:q=c
   ·subst hqc
    refine .inr (.inr ⟨_,_,_,_,hc,hce,by decide,⟨fun _=>?_,?_,fun hd=>absurd hd (by decide),fun hn=>absurd (by rw [hoc]; exact k5) hn⟩⟩)
    ·rw [hoc,k3,k4,hb']
     have e1:(SC.p q 0).den (zK7 ρ N r')=.pointer (some ⟨(ρ q).blk,0,none⟩):=by
      show zE1 (zK7 ρ N r') q 0=_
      simp only [zE1,hoc,k3]; rfl
     have e2:(SC.rw N (l++[x]).length).den (zK7 ρ N r')=zL3 r' (l++[x]).length:=by
      show zL3 (zK7 ρ N r' N) _=_
      rw [hup]
     simp only [zB8,List.map_cons,List.map_nil,e1,e2,List.nil_append,List.append_nil]
    ·intro y hy
     simp only [List.mem_cons,List.not_mem_nil,or_false] at hy
     rcases hy with rfl | rfl
     ·exact .inl hcp
     ·exact .inr rfl
   ·by_cases hqd:q=d
    ·subst hqd
     exact .inr (.inl ⟨_,hd,hde⟩)
    ·exact .inl ⟨hq q hqN hqc hqd,fun hlq=>hT q hqp hqc hqd hlq⟩)
  hNe ⟨fun hl=>by
    rw [hup] at hl ⊢
    show w'.heap[r'.blk]?=some (.cells (r'.pre++zB8 (zK7 ρ N r') (zD5 (l++[x]))++r'.post).toArray _ (0,0))
    rw [zH1]; exact hrow'.2 hl.2,zO5 _ _,(fun hd=>absurd (show (5:Nat)=zC9 from hd) u8d),(fun hn=>by
    rw [hup] at hn
    obtain ⟨_,h | h⟩:=hrow'.1
    ·exact absurd h.1 hn
    ·have:l++[x]=[]:=List.eq_nil_of_length_eq_zero h.2.1
     show zD5 (l++[x])=[]
     rw [this]; rfl)⟩
  ⟨(by
    obtain ⟨_,h | h⟩:=hrow'.1
    ·show r'.pre.length=0; rw [h.2.1]; rfl
    ·show r'.pre.length=0; rw [h.2.2]; rfl),(by
    show rowP 1 (l++[x]).length (zD5 (l++[x])).length r'
    rw [zI0]; exact hrow'.1)⟩
  (fun hnl q hqp hlq hbq=>by
   have hqN:q ≠ N:=fun h=>lN (h ▸ hqp)
   by_cases hqc:q=c
   ·subst hqc; exact hbn hnl hbq.symm
   ·by_cases hqd:q=d
    ·subst hqd
     rw [hde] at hlq
     simp [zH4,zG5] at hlq
    ·rw [hq q hqN hqc hqd] at hlq
     rcases hbl hnl with ⟨h1,h2⟩ | h1
     ·exact hT q hqp hqc hqd hlq (.inr (by rw [hbq,h2]))
     ·have:=hw.lt hqp hlq
      omega)
  (fun _=>by
   cases hnl:r'.nl with
   | some p =>
    rcases hba with h | h | h
    ·rw [h]; exact hw.mu c _ _ hcp hc
    ·cases hn:r0.nl with
     | none=>rw [h,hr2 hn]; exact hw.mu d _ _ hdp hd
     | some p'=>exact .inr (by rw [h,(hr3 (by rw [hn]; simp)).1]; exact hw.up.size)
    ·exact .inr (Nat.le_trans hw.up.size h)
   | none =>
    rcases hbl hnl with ⟨h1,h2⟩ | h1
    ·rw [h2,hr2 h1]; exact hw.mu d _ _ hdp hd
    ·exact .inr (Nat.le_trans hw.up.size h1))
 have hsame:(fun q=>pr q∨mk q)=fun q=>pr q∨q=N:=funext fun q=>propext (or_congr_right (hmk q))
 rw [hsame]
 exact ⟨zK7 ρ N r',k1',rfl,trivial,k2',fun q hq=>by rw [(hmk q).1 hq,hNe]; simp⟩
def bX (t:List UInt8):SC:=if t=[] then .v (.pointer none) else .p 0 0
theorem bX_or (t:List UInt8):bX t=.v (.pointer none)∨bX t=.p 0 0:=by unfold bX; split <;> simp
section
variable {C:Cx} {nt:Nat} {sl:List (Nat × SV)} {en:List EN} {k:List KI}
variable {dst:Option Nat} {ty:TypeId} {pos:String} {af:Array Edge} {all r:List Oper} {gd:Option (Nat × Bool)}
theorem Run_bstr {X:SC} {l:List UInt8} {c d:Nat} {args:Array Operand} {tys:Array TypeId} (hP:C.P=Tryz.prog) (hS:C.S=Non) (hn0:C.n0=0) (hX:X=.v (.pointer none)∨X=.p c 0) (hc:zD en c=some (zX9 X (.rw d l.length))) (hd:zD en d=some (rwB l)) (hx:qw sl args.toList=some [.c (.p c 0)]) (hg:gdT all sl gd=true) (hdst:∀ d,dst=some d→d < nt)
  (hK:Run C (.ops all r :: k) nt (jN dst (.c (.s l)) []) []):Run C (.ops all (⟨dst,.call ⟨.value (.func 89),args,tys⟩,ty,pos,af,gd⟩ :: r) :: k) nt sl en:=by
 refine zF9 hx hg (fun args w=>by rw [hP]; exact Tryz.call89 args w) fun ρ a w hr hwf=>?_
 have hw:=hr.hw
 have lc:c < en.length:=hwf (.c (.p c 0)) (by simp)
 have ld:d < en.length:=(hw.hp c _ _ _ lc hc).wf (.rw d l.length) (by simp)
 obtain ⟨k1,k2,k3,k4,k5⟩:=zO4 hw.hp hw.ho lc hc (by decide) (by simp)
 have hpt:(SC.p c 0).den ρ=.pointer (some ⟨(ρ c).blk,0,none⟩):=k2
 have e0:(List.map (SV.den ρ) [.c (.p c 0)]).toArray=#[.pointer (some ⟨(ρ c).blk,0,none⟩)]:=by
  show #[zE1 ρ c 0]=_
  rw [k2]
 have own:∀ c cells ty,c < en.length→zD en c=some ⟨ty,cells,true⟩→C.w0.heap.size≤(ρ c).blk:=fun c cells ty hl he=>(hw.mu c ty cells hl he).resolve_left (by rw [hS]; exact fun h=>h)
 have hb:w.heap[(ρ c).blk]?=some (.cells #[X.den ρ,zL3 (ρ d) l.length] 118 (0,0)):=by
  have e1:zB8 ρ [X,.rw d l.length]=[X.den ρ,zL3 (ρ d) l.length]:=by
   simp only [zB8,List.map_cons,List.map_nil]; rfl
  rw [e1] at k1; exact k1
 have hbc:Lib.byteCells l=zB8 ρ (zD5 l):=by rw [zH1]; rfl
 have hlen:(Lib.byteCells l).length=l.length:=by rw [hbc,zD1,zI0]
 obtain ⟨_,hO⟩:=hw.ho d _ _ _ ld hd
 have hcd:c ≠ d:=fun h=>by
  subst h; rw [hc] at hd
  have:=congrArg (Option.map fun e:EN=>e.ty.1) hd
  simp [zX9,rwB,rwE] at this
 have hbld:Lib.IsBuilderF 118 5 C.w0.heap.size (ρ c).blk (Lib.byteCells l) w:=by
  have hor:Lib.BuilderAt 118 5 C.w0.heap.size (ρ c).blk (X.den ρ) (Lib.byteCells l) w→Lib.IsBuilderF 118 5 C.w0.heap.size (ρ c).blk (Lib.byteCells l) w:=fun h=>by
   rcases hX with rfl | rfl
   ·exact .inl (Lib.BuilderAtF.of h)
   ·rw [hpt] at h; exact .inr (Lib.BuilderAtF.of h)
  refine hor ⟨own c _ _ lc hc,_,hb,?_,?_⟩
  ·rw [hlen,hbc]
   refine ⟨by rw [zD1,zI0,Nat.mul_one],?_⟩
   obtain ⟨_,h⟩:=hO
   rcases h with ⟨h1,h2,h3,h4,h5⟩ | ⟨h1,h2,h3⟩
   ·have hh:=(hw.hp d _ _ _ ld hd).heap ⟨u8d,h1⟩
    refine .inr ⟨(ρ d).blk,(ρ d).cap,_,zI3 h1 _,own d _ _ ld hd,hh,h4,h5,?_,?_⟩
    ·simpa [h2,zD1] using h3
    ·rw [h2]; simp only [List.nil_append]
     rw [List.take_append_of_le_length (by simp [zD1,zI0]),List.take_of_length_le (by simp [zD1,zI0])]
   ·exact .inl ⟨by rw [zF1 h1,h2],h2⟩
  ·obtain ⟨_,h⟩:=hO
   rcases h with ⟨h1,_⟩ | ⟨h1,_⟩
   ·rw [zI3 h1]
    intro h
    simp only [Value.ownBlock,Option.some.injEq] at h
    exact hcd (hw.inj d c ld lc ((zA4 hd).2 ⟨u8d,h1⟩) ((zA4 hc).2 ⟨by decide,k5⟩) h).symm
   ·rw [zF1 h1]; intro h; cases h
 rw [e0,hP]
 refine (Tryz.Builder_String_any_k C.w0.heap.size (ρ c).blk l w hbld hw.up.size).mono ?_
 rintro e w' ⟨rfl,_,hbl,_⟩
 refine .inl ⟨_,rfl,hK ρ _ w' ?_⟩
 have hup:Upd C.S C.w0 w':=⟨hbl.os.trans hw.up.os,hbl.tape.trans hw.up.tape,hbl.output.trans hw.up.output,Nat.le_trans hw.up.size hbl.size,fun q hq hs=>(hbl.block q hq).trans (hw.up.block q hq hs)⟩
 have hr0:Rep C ρ nt [] [] a w':=⟨⟨fun c _ _ _ h=>absurd h (Nat.not_lt_zero c),fun c _ _ _ h=>absurd h (Nat.not_lt_zero c),fun c _ h=>absurd h (Nat.not_lt_zero c),hup,fun c _ _ h=>absurd h (Nat.not_lt_zero c),fun c h=>by rw [hn0] at h; exact absurd h (Nat.not_lt_zero c)⟩,fun d v h=>by simp [qy] at h,hr.sz,hr.df,by rw [hn0]; exact Nat.zero_le _⟩
 cases dst with
 | none=>exact hr0
 | some q=>exact hr0.put (hdst q rfl) (v:=.c (.s l)) trivial
end
end Go.Proofs.YtcbmlanpianclaaGreatDoor
/- Shifts and bits of numbers that are natural. No program in sight. -/
namespace Go.Proofs.YtcbmlanpianclaaGreatDoor
set_option linter.unusedSimpArgs false
set_option linter.unusedVariables false
theorem bvN (n a:Nat):BitVec.ofInt n (a:Int)=BitVec.ofNat n a:=by
 apply BitVec.eq_of_toNat_eq
 rw [BitVec.toNat_ofInt,BitVec.toNat_ofNat]
 rw [show ((a:Int) % ((2 ^ n:Nat):Int))=((a % 2 ^ n:Nat):Int) from (Int.natCast_emod _ _).symm,Int.toNat_natCast]
theorem u32w (a:Nat):IntKind.u32.wrap (a:Int)=((a % 4294967296:Nat):Int):=by rw [IntKind.wrap_u32']; omega
theorem u8w (a:Nat):IntKind.u8.wrap (a:Int)=((a % 256:Nat):Int):=by rw [IntKind.wrap_u8']; omega
theorem u32i {a:Nat} (h:a < 4294967296):IntKind.u32.wrap (a:Int)=(a:Int):=by rw [u32w,Nat.mod_eq_of_lt h]
theorem orN {a b:Nat} (ha:a < 4294967296) (hb:b < 4294967296):orZ .u32 (a:Int) (b:Int)=((a ||| b:Nat):Int):=by
 unfold orZ
 rw [show IntKind.u32.bits=32 from rfl,bvN,bvN,BitVec.toNat_or,BitVec.toNat_ofNat,BitVec.toNat_ofNat,Nat.mod_eq_of_lt (b:=2 ^ 32) ha,Nat.mod_eq_of_lt (b:=2 ^ 32) hb]
 exact u32i (Nat.or_lt_two_pow (n:=32) ha hb)
theorem andN {a b:Nat} (ha:a < 4294967296) (hb:b < 4294967296):andZ .u32 (a:Int) (b:Int)=((a &&& b:Nat):Int):=by
 unfold andZ
 rw [show IntKind.u32.bits=32 from rfl,bvN,bvN,BitVec.toNat_and,BitVec.toNat_ofNat,BitVec.toNat_ofNat,Nat.mod_eq_of_lt (b:=2 ^ 32) ha,Nat.mod_eq_of_lt (b:=2 ^ 32) hb]
 exact u32i (Nat.lt_of_le_of_lt Nat.and_le_left ha)
theorem shlN (a n:Nat) (hn:n≤32):shlZ .u32 (a:Int) (n:Int)=((a * 2 ^ n % 4294967296:Nat):Int):=by
 unfold shlZ
 rw [show IntKind.u32.bits=32 from rfl,Int.toNat_natCast,Nat.min_eq_left hn,← u32w]
 congr 1
theorem shrN (a n:Nat) (hn:n≤32):shrZ .u32 (a:Int) (n:Int)=((a / 2 ^ n:Nat):Int):=by
 unfold shrZ
 rw [show IntKind.u32.bits=32 from rfl,Int.toNat_natCast,Nat.min_eq_left hn]
 rw [show ((2:Int) ^ n)=((2 ^ n:Nat):Int) by rw [Int.natCast_pow]; rfl]
 exact Int.ofNat_fdiv _ _ |>.symm
theorem and_mask (b n:Nat):b &&& (2 ^ n - 1)=b % 2 ^ n:=Nat.and_two_pow_sub_one_eq_mod b n
theorem and63 (b:Nat):b &&& 63=b % 64:=Nat.and_two_pow_sub_one_eq_mod b 6
end Go.Proofs.YtcbmlanpianclaaGreatDoor
/- What b64.Encode computes, and that Decode undoes it. No program in sight. -/
namespace Go.Proofs.YtcbmlanpianclaaGreatDoor
set_option linter.unusedSimpArgs false
set_option linter.unusedVariables false
open Go.Lib
def zM7 (k:Nat):UInt8:=b64L.getD k 0
def encEm:Nat→Nat→Nat→List UInt8→Nat × List UInt8
 | 0,_,n,out=>(n,out)
 | f+1,b,n,out=>if 6≤n then encEm f b (n - 6) (out++[zM7 (b / 2 ^ (n - 6) % 64)]) else (n,out)
def zU2:List UInt8→Nat→Nat→List UInt8→Nat × Nat × List UInt8
 | [],b,n,out=>(b,n,out)
 | c :: l,b,n,out=>zU2 l ((b * 256 % 4294967296) ||| c.toNat) (encEm 3 ((b * 256 % 4294967296) ||| c.toNat) (n+8) out).1 (encEm 3 ((b * 256 % 4294967296) ||| c.toNat) (n+8) out).2
def zZ3 (r:Nat × Nat × List UInt8):List UInt8:=if 0 < r.2.1 then r.2.2++[zM7 (r.1 * 2 ^ (6 - r.2.1) % 4294967296 % 64)] else r.2.2
def encB (s:List UInt8):List UInt8:=zZ3 (zU2 s 0 0 [])++List.replicate ((4 - (zZ3 (zU2 s 0 0 [])).length % 4) % 4) 61
def zR3:List UInt8→List UInt8
 | x :: y :: z :: l=>zM7 (x.toNat / 4) :: zM7 (x.toNat % 4 * 16+y.toNat / 16) :: zM7 (y.toNat % 16 * 4+z.toNat / 64) :: zM7 (z.toNat % 64) :: zR3 l
 | [x,y]=>[zM7 (x.toNat / 4),zM7 (x.toNat % 4 * 16+y.toNat / 16),zM7 (y.toNat % 16 * 4)]
 | [x]=>[zM7 (x.toNat / 4),zM7 (x.toNat % 4 * 16)]
 | []=>[]
theorem or8 (b c:Nat) (hc:c < 256):(b * 256 % 4294967296) ||| c=b % 16777216 * 256+c:=by
 have h:=Nat.shiftLeft_add_eq_or_of_lt (i:=8) (b:=c) hc (b % 16777216)
 rw [Nat.shiftLeft_eq] at h
 rw [show b * 256 % 4294967296=b % 16777216 * 2 ^ 8 by omega,← h]
theorem or6 (b c:Nat) (hc:c < 64):(b * 64 % 4294967296) ||| c=b % 67108864 * 64+c:=by
 have h:=Nat.shiftLeft_add_eq_or_of_lt (i:=6) (b:=c) hc (b % 67108864)
 rw [Nat.shiftLeft_eq] at h
 rw [show b * 64 % 4294967296=b % 67108864 * 2 ^ 6 by omega,← h]
theorem lt8 (x:UInt8):x.toNat < 256:=x.toNat_lt
theorem encGo_0 (x:UInt8) (l:List UInt8) (b:Nat) (out:List UInt8):zU2 (x :: l) b 0 out=zU2 l (b % 16777216 * 256+x.toNat) 2 (out++[zM7 (x.toNat / 4)]):=by
 have hx:=lt8 x
 rw [zU2,or8 _ _ hx]
 have e:(b % 16777216 * 256+x.toNat) / 2 ^ (0+8 - 6) % 64=x.toNat / 4:=by simp only [Nat.zero_add,Nat.reduceSub,Nat.reducePow]; omega
 simp only [encEm,e,show (6≤0+8)=True by simp,if_true,show (6≤0+8 - 6)=False by simp,if_false]
theorem encGo_2 (x:UInt8) (l:List UInt8) (b:Nat) (out:List UInt8):zU2 (x :: l) b 2 out=zU2 l (b % 16777216 * 256+x.toNat) 4 (out++[zM7 (b % 4 * 16+x.toNat / 16)]):=by
 have hx:=lt8 x
 rw [zU2,or8 _ _ hx]
 have e:(b % 16777216 * 256+x.toNat) / 2 ^ (2+8 - 6) % 64=b % 4 * 16+x.toNat / 16:=by simp only [Nat.reduceAdd,Nat.reduceSub,Nat.reducePow]; omega
 simp only [encEm,e,show (6≤2+8)=True by simp,if_true,show (6≤2+8 - 6)=False by simp,if_false]
theorem encGo_4 (x:UInt8) (l:List UInt8) (b:Nat) (out:List UInt8):zU2 (x :: l) b 4 out=zU2 l (b % 16777216 * 256+x.toNat) 0 (out++[zM7 (b % 16 * 4+x.toNat / 64),zM7 (x.toNat % 64)]):=by
 have hx:=lt8 x
 rw [zU2,or8 _ _ hx]
 have e:(b % 16777216 * 256+x.toNat) / 2 ^ (4+8 - 6) % 64=b % 16 * 4+x.toNat / 64:=by simp only [Nat.reduceAdd,Nat.reduceSub,Nat.reducePow]; omega
 have e':(b % 16777216 * 256+x.toNat) / 2 ^ (4+8 - 6 - 6) % 64=x.toNat % 64:=by simp only [Nat.reduceAdd,Nat.reduceSub,Nat.reducePow]; omega
 simp only [encEm,e,e',show (6≤4+8)=True by simp,if_true,show (6≤4+8 - 6)=True by simp,show (6≤4+8 - 6 - 6)=False by simp,if_false,List.append_assoc,List.cons_append,List.nil_append]
theorem m16 (t y:Nat):(t * 256+y) % 16=y % 16:=by omega
theorem enc_is:∀ (s:List UInt8) (b:Nat) (out:List UInt8),zZ3 (zU2 s b 0 out)=out++zR3 s
 | [],b,out=>by simp [zU2,zZ3,zR3]
 | [x],b,out=>by
  rw [encGo_0,zU2,zZ3]
  have hx:=lt8 x
  have e:(b % 16777216 * 256+x.toNat) * 2 ^ (6 - 2) % 4294967296 % 64=x.toNat % 4 * 16:=by simp only [Nat.reduceSub,Nat.reducePow]; omega
  simp only [e,zR3,show (0 < 2)=True by simp,if_true,List.append_assoc,List.cons_append,List.nil_append]
 | [x,y],b,out=>by
  rw [encGo_0,encGo_2,zU2,zZ3]
  have hx:=lt8 x
  have hy:=lt8 y
  have e0:(b % 16777216 * 256+x.toNat) % 4=x.toNat % 4:=by omega
  have e:((b % 16777216 * 256+x.toNat) % 16777216 * 256+y.toNat) * 2 ^ (6 - 4) % 4294967296 % 64=y.toNat % 16 * 4:=by simp only [Nat.reduceSub,Nat.reducePow]; omega
  simp only [e,e0,zR3,show (0 < 4)=True by simp,if_true,List.append_assoc,List.cons_append,List.nil_append]
 | x :: y :: z :: l,b,out=>by
  rw [encGo_0,encGo_2,encGo_4,enc_is l]
  have hx:=lt8 x
  have hy:=lt8 y
  have e0:(b % 16777216 * 256+x.toNat) % 4=x.toNat % 4:=by omega
  have e1:((b % 16777216 * 256+x.toNat) % 16777216 * 256+y.toNat) % 16=y.toNat % 16:=m16 _ _
  simp only [e0,e1,zR3,List.append_assoc,List.cons_append,List.nil_append]
set_option maxRecDepth 8000 in
theorem zZ1:∀ k < 64,indexByte b64L (zM7 k)=(k:Int):=by decide +kernel
theorem let_ok:∀ k < 64,zM7 k ≠ 61∧zM7 k ≠ 32∧zM7 k ≠ 10∧zM7 k ≠ 13:=by decide +kernel
theorem zZ5 (k:Nat) (hk:k < 64) (l:List UInt8) (b:Nat) (out:List UInt8):zL7 (zM7 k :: l) b 0 out=zL7 l (b % 67108864 * 64+k) 6 out:=by
 simp only [zL7,zV4,zZ1 k hk,show ¬ ((k:Int) < 0) by omega,if_false,Int.toNat_natCast,or6 _ _ hk,show ¬ (8≤0+6) by omega,Nat.zero_add]
theorem zM4 (n:Nat) (hn:2≤n) (k:Nat) (hk:k < 64) (l:List UInt8) (b:Nat) (out:List UInt8) (x:UInt8) (hx:(b % 67108864 * 64+k) / 2 ^ (n - 2) % 256=x.toNat):zL7 (zM7 k :: l) b n out=zL7 l (b % 67108864 * 64+k) (n - 2) (out++[x]):=by
 have e:UInt8.ofNat ((b % 67108864 * 64+k) / 2 ^ (n - 2))=x:=by
  apply UInt8.toNat_inj.1; rw [UInt8.toNat_ofNat']; exact hx
 simp only [zL7,zV4,zZ1 k hk,show ¬ ((k:Int) < 0) by omega,if_false,Int.toNat_natCast,or6 _ _ hk,show (8≤n+6)=True by simp; omega,if_true,e]
theorem dec_is:∀ (s:List UInt8) (b:Nat) (out:List UInt8),∃ b' n',zL7 (zR3 s) b 0 out=some (b',n',out++s)∧b' % 2 ^ n'=0
 | [],b,out=>⟨b,0,by simp [zR3,zL7],by simp [Nat.mod_one]⟩
 | [x],b,out=>by
  have hx:=lt8 x
  refine ⟨(b % 67108864 * 64+x.toNat / 4) % 67108864 * 64+x.toNat % 4 * 16,4,?_,?_⟩
  ·rw [zR3,zZ5 _ (by omega),zM4 6 (by omega) _ (by omega) _ _ _ x (by simp only [Nat.reduceSub,Nat.reducePow]; omega),zL7]
  ·simp only [Nat.reducePow]; omega
 | [x,y],b,out=>by
  have hx:=lt8 x
  have hy:=lt8 y
  refine ⟨((b % 67108864 * 64+x.toNat / 4) % 67108864 * 64+(x.toNat % 4 * 16+y.toNat / 16)) % 67108864 * 64+y.toNat % 16 * 4,2,?_,?_⟩
  ·rw [zR3,zZ5 _ (by omega),zM4 6 (by omega) _ (by omega) _ _ _ x (by simp only [Nat.reduceSub,Nat.reducePow]; omega),zM4 4 (by omega) _ (by omega) _ _ _ y (by simp only [Nat.reduceSub,Nat.reducePow]; omega),zL7,List.append_assoc]; rfl
  ·simp only [Nat.reducePow]; omega
 | x :: y :: z :: l,b,out=>by
  have hx:=lt8 x
  have hy:=lt8 y
  have hz:=lt8 z
  rw [zR3,zZ5 _ (by omega),zM4 6 (by omega) _ (by omega) _ _ _ x (by simp only [Nat.reduceSub,Nat.reducePow]; omega),zM4 4 (by omega) _ (by omega) _ _ _ y (by simp only [Nat.reduceSub,Nat.reducePow]; omega),zM4 2 (by omega) _ (by omega) _ _ _ z (by simp only [Nat.reduceSub,Nat.reducePow]; omega)]
  obtain ⟨b',n',h1,h2⟩:=dec_is l _ (out++[x]++[y]++[z])
  exact ⟨b',n',by rw [h1]; simp,h2⟩
theorem enc4_mem:∀ (s:List UInt8),∀ c∈zR3 s,c ≠ 61∧c ≠ 32∧c ≠ 10∧c ≠ 13
 | [],c,h=>by simp [zR3] at h
 | [x],c,h=>by
  have hx:=lt8 x
  simp only [zR3,List.mem_cons,List.not_mem_nil,or_false] at h
  rcases h with rfl | rfl <;> exact let_ok _ (by omega)
 | [x,y],c,h=>by
  have hx:=lt8 x
  have hy:=lt8 y
  simp only [zR3,List.mem_cons,List.not_mem_nil,or_false] at h
  rcases h with rfl | rfl | rfl <;> exact let_ok _ (by omega)
 | x :: y :: z :: l,c,h=>by
  have hx:=lt8 x
  have hy:=lt8 y
  have hz:=lt8 z
  simp only [zR3,List.mem_cons] at h
  rcases h with rfl | rfl | rfl | rfl | h
  ·exact let_ok _ (by omega)
  ·exact let_ok _ (by omega)
  ·exact let_ok _ (by omega)
  ·exact let_ok _ (by omega)
  ·exact enc4_mem l c h
theorem enc4_len:∀ (s:List UInt8),(zR3 s).length=(4 * s.length+2) / 3
 | []=>rfl
 | [x]=>by simp [zR3]
 | [x,y]=>by simp [zR3]
 | x :: y :: z :: l=>by simp only [zR3,List.length_cons,enc4_len l]; omega
theorem encB_is (s:List UInt8):encB s=zR3 s++List.replicate ((4 - (zR3 s).length % 4) % 4) 61:=by
 unfold encB; rw [enc_is,List.nil_append]
theorem noFill_is (s:List UInt8) (m:Nat):zD4 (zR3 s++List.replicate m 61)=zR3 s:=by
 unfold zD4
 rw [List.reverse_append,List.reverse_replicate,List.dropWhile_append_of_pos (by intro a ha; rw [List.eq_of_mem_replicate ha]; decide)]
 cases hr:(zR3 s).reverse with
 | nil=>have:zR3 s=[]:=by simpa using hr
        rw [this]; rfl
 | cons c l =>
  have hc:=enc4_mem s c (by rw [← List.mem_reverse,hr]; simp)
  rw [List.dropWhile_cons_of_neg (by simp [hc.1]),← hr,List.reverse_reverse]
theorem dec_enc (s:List UInt8):zU3 (encB s)=some s:=by
 obtain ⟨b',n',h1,h2⟩:=dec_is s 0 []
 have hl:=enc4_len s
 rw [encB_is]
 unfold zU3
 simp only [noFill_is,List.length_append,List.length_replicate,h1,List.nil_append,h2,if_true]
 rw [if_neg]
 omega
theorem encB_len (s:List UInt8):(encB s).length=(s.length+2) / 3 * 4:=by
 have hl:=enc4_len s
 rw [encB_is,List.length_append,List.length_replicate]; omega
end Go.Proofs.YtcbmlanpianclaaGreatDoor
/- What b64.Decode takes is what b64.Encode wrote. No program in sight. -/
namespace Go.Proofs.YtcbmlanpianclaaGreatDoor
set_option linter.unusedSimpArgs false
set_option linter.unusedVariables false
open Go.Lib
set_option maxRecDepth 8000 in
theorem idx_back':∀ n < 256,indexByte b64L (UInt8.ofNat n) < 0∨((indexByte b64L (UInt8.ofNat n)).toNat < 64∧UInt8.ofNat n=zM7 (indexByte b64L (UInt8.ofNat n)).toNat):=by decide +kernel
theorem idx_back (c:UInt8):indexByte b64L c < 0∨∃ k,k < 64∧c=zM7 k:=by
 have h:=idx_back' c.toNat c.toNat_lt
 rw [UInt8.ofNat_toNat] at h
 rcases h with h | h
 ·exact .inl h
 ·exact .inr ⟨_,h.1,h.2⟩
theorem zK6 {c:UInt8} {l:List UInt8} {b n:Nat} {out:List UInt8} {r:Nat × Nat × List UInt8} (h:zL7 (c :: l) b n out=some r):∃ k,k < 64∧c=zM7 k:=by
 rcases idx_back c with hc | hc
 ·simp [zL7,zV4,hc] at h
 ·exact hc
theorem toN (n:Nat) (h:n < 256):(UInt8.ofNat n).toNat=n:=by rw [UInt8.toNat_ofNat']; exact Nat.mod_eq_of_lt h
theorem g1 (k1 k2:Nat) (h1:k1 < 64) (h2:k2 < 64):(UInt8.ofNat (k1 * 4+k2 / 16)).toNat=k1 * 4+k2 / 16:=toN _ (by omega)
theorem g2 (k2 k3:Nat) (h2:k2 < 64) (h3:k3 < 64):(UInt8.ofNat (k2 % 16 * 16+k3 / 4)).toNat=k2 % 16 * 16+k3 / 4:=toN _ (by omega)
theorem g3 (k3 k4:Nat) (h3:k3 < 64) (h4:k4 < 64):(UInt8.ofNat (k3 % 4 * 64+k4)).toNat=k3 % 4 * 64+k4:=toN _ (by omega)
theorem dec_back':∀ (s:List UInt8) (b:Nat) (out:List UInt8) (r:Nat × Nat × List UInt8),zL7 s b 0 out=some r→s.length % 4 ≠ 1→r.1 % 2 ^ r.2.1=0→∃ t,r.2.2=out++t∧s=zR3 t
 | [],b,out,r,h,_,_=>⟨[],by simp only [zL7,Option.some.injEq] at h; rw [← h]; simp,rfl⟩
 | [c],b,out,r,h,hl,_=>absurd rfl hl
 | [c,d],b,out,r,h,_,hz=>by
  obtain ⟨k1,h1,rfl⟩:=zK6 h
  rw [zZ5 _ h1] at h
  obtain ⟨k2,h2,rfl⟩:=zK6 h
  have e1:=g1 k1 k2 h1 h2
  rw [zM4 6 (by omega) _ h2 _ _ _ (UInt8.ofNat (k1 * 4+k2 / 16)) (by rw [e1]; simp only [Nat.reduceSub,Nat.reducePow]; omega),zL7] at h
  simp only [Option.some.injEq] at h
  subst h
  simp only [Nat.reduceSub,Nat.reducePow] at hz
  refine ⟨[UInt8.ofNat (k1 * 4+k2 / 16)],rfl,?_⟩
  rw [zR3,e1,show (k1 * 4+k2 / 16) / 4=k1 by omega,show (k1 * 4+k2 / 16) % 4 * 16=k2 by omega]
 | [c,d,e],b,out,r,h,_,hz=>by
  obtain ⟨k1,h1,rfl⟩:=zK6 h
  rw [zZ5 _ h1] at h
  obtain ⟨k2,h2,rfl⟩:=zK6 h
  have e1:=g1 k1 k2 h1 h2
  rw [zM4 6 (by omega) _ h2 _ _ _ (UInt8.ofNat (k1 * 4+k2 / 16)) (by rw [e1]; simp only [Nat.reduceSub,Nat.reducePow]; omega)] at h
  obtain ⟨k3,h3,rfl⟩:=zK6 h
  have e2:=g2 k2 k3 h2 h3
  rw [zM4 4 (by omega) _ h3 _ _ _ (UInt8.ofNat (k2 % 16 * 16+k3 / 4)) (by rw [e2]; simp only [Nat.reduceSub,Nat.reducePow]; omega),zL7] at h
  simp only [Option.some.injEq] at h
  subst h
  simp only [Nat.reduceSub,Nat.reducePow] at hz
  refine ⟨[UInt8.ofNat (k1 * 4+k2 / 16),UInt8.ofNat (k2 % 16 * 16+k3 / 4)],by simp,?_⟩
  rw [zR3,e1,e2,show (k1 * 4+k2 / 16) / 4=k1 by omega,show (k1 * 4+k2 / 16) % 4 * 16+(k2 % 16 * 16+k3 / 4) / 16=k2 by omega,show (k2 % 16 * 16+k3 / 4) % 16 * 4=k3 by omega]
 | c :: d :: e :: f :: l,b,out,r,h,hl,hz=>by
  obtain ⟨k1,h1,rfl⟩:=zK6 h
  rw [zZ5 _ h1] at h
  obtain ⟨k2,h2,rfl⟩:=zK6 h
  have e1:=g1 k1 k2 h1 h2
  rw [zM4 6 (by omega) _ h2 _ _ _ (UInt8.ofNat (k1 * 4+k2 / 16)) (by rw [e1]; simp only [Nat.reduceSub,Nat.reducePow]; omega)] at h
  obtain ⟨k3,h3,rfl⟩:=zK6 h
  have e2:=g2 k2 k3 h2 h3
  rw [zM4 4 (by omega) _ h3 _ _ _ (UInt8.ofNat (k2 % 16 * 16+k3 / 4)) (by rw [e2]; simp only [Nat.reduceSub,Nat.reducePow]; omega)] at h
  obtain ⟨k4,h4,rfl⟩:=zK6 h
  have e3:=g3 k3 k4 h3 h4
  rw [zM4 2 (by omega) _ h4 _ _ _ (UInt8.ofNat (k3 % 4 * 64+k4)) (by rw [e3]; simp only [Nat.reduceSub,Nat.reducePow]; omega)] at h
  obtain ⟨t,ht,hs⟩:=dec_back' l _ _ r h (by intro e; apply hl; simp only [List.length_cons]; omega) hz
  refine ⟨UInt8.ofNat (k1 * 4+k2 / 16) :: UInt8.ofNat (k2 % 16 * 16+k3 / 4) :: UInt8.ofNat (k3 % 4 * 64+k4) :: t,by rw [ht]; simp,?_⟩
  rw [zR3,e1,e2,e3,← hs,show (k1 * 4+k2 / 16) / 4=k1 by omega,show (k1 * 4+k2 / 16) % 4 * 16+(k2 % 16 * 16+k3 / 4) / 16=k2 by omega,show (k2 % 16 * 16+k3 / 4) % 16 * 4+(k3 % 4 * 64+k4) / 64=k3 by omega,show (k3 % 4 * 64+k4) % 64=k4 by omega]
theorem noFill_pad (s:List UInt8):s=zD4 s++List.replicate (s.length - (zD4 s).length) 61:=by
 have h:=List.takeWhile_append_dropWhile (p:=(· == (61:UInt8))) (l:=s.reverse)
 have hr:s=zD4 s++(s.reverse.takeWhile (· == 61)).reverse:=by
  have:=congrArg List.reverse h
  rw [List.reverse_append,List.reverse_reverse] at this
  exact this.symm
 have hl:(s.reverse.takeWhile (· == (61:UInt8))).reverse=List.replicate (s.length - (zD4 s).length) 61:=by
  apply List.eq_replicate_iff.2
  constructor
  ·have:=congrArg List.length hr
   rw [List.length_append] at this
   omega
  ·intro x hx
   have:=List.all_eq_true.1 (List.all_takeWhile (p:=(· == (61:UInt8))) (l:=s.reverse)) x (List.mem_reverse.1 hx)
   simpa using this
 rw [hl] at hr
 exact hr
theorem dec_back {s t:List UInt8} (h:zU3 s=some t):s=encB t:=by
 unfold zU3 at h
 simp only at h
 split at h
 ·cases h
 rename_i hc
 have hp:=noFill_pad s
 have hlen:(zD4 s).length≤s.length:=by
  have:=congrArg List.length hp
  rw [List.length_append] at this; omega
 cases hd:zL7 (zD4 s) 0 0 [] with
 | none=>rw [hd] at h; cases h
 | some r =>
  obtain ⟨b,n,out⟩:=r
  rw [hd] at h
  simp only at h
  split at h
  ·rename_i hz
   simp only [Option.some.injEq] at h
   subst h
   obtain ⟨t,ht,hs⟩:=dec_back' _ _ _ _ hd (by omega) hz
   simp only [List.nil_append] at ht
   subst ht
   rw [encB_is,← hs]
   have:s.length - (zD4 s).length=(4 - (zD4 s).length % 4) % 4:=by omega
   rw [← this]
   exact hp
  ·cases h
theorem decB_iff (s t:List UInt8):zU3 s=some t ↔ s=encB t:=⟨dec_back,fun h=>by rw [h]; exact dec_enc t⟩
end Go.Proofs.YtcbmlanpianclaaGreatDoor
/- b64.Decode, walked. -/
namespace Go.Proofs.YtcbmlanpianclaaGreatDoor
set_option linter.unusedSimpArgs false
set_option linter.unusedVariables false
set_option maxHeartbeats 8000000
open Go.RowKit
set_option maxRecDepth 100000
def zW2:List SV→Option (Prop × SV)
 | [.c (.s l),.c (.s [61])]=>some (l.length≤9223372036854775807,.c (.s (zD4 l)))
 | _=>none
def rowIB:List SV→Option (Prop × SV)
 | [.c (.s l),.c (.i .u8 n)]=>some (True,.c (.i .i64 (Lib.indexByte l n.toNat.toUInt8)))
 | _=>none
def dC0:Ctr:=fun f _ xs=>match f with
 | 87=>zW2 xs
 | 24=>rowIB xs
 | _=>none
theorem trimR_is (l:List UInt8):Lib.trimRightB l 61=zD4 l:=by
 unfold zD4
 first | rfl | (unfold Lib.trimRightB; rfl)
theorem dC0_ok {C:Cx} (hP:C.P=Tryz.prog):zC1 C dC0:=by
 intro f en xs p v h hp ρ w hup hHp hHo hinj hwf
 unfold dC0 at h
 split at h
 ·rw [hP]
  refine ⟨fun args w=>Tryz.call87 args w,?_⟩
  unfold zW2 at h
  split at h <;> simp only [Option.some.injEq,Prod.mk.injEq,reduceCtorEq] at h
  rename_i l
  obtain ⟨rfl,rfl⟩:=h
  refine ⟨trivial,(Tryz.strings_TrimRight_one ⟨l.toArray⟩ 61 (by decide) w (by simpa [ByteArray.size] using hp)).mono ?_⟩
  rintro e w' ⟨rfl,rfl⟩
  exact ⟨by rw [← trimR_is]; rfl,Below.refl _ _⟩
 ·rw [hP]
  refine ⟨fun args w=>Tryz.call24 args w,?_⟩
  unfold rowIB at h
  split at h <;> simp only [Option.some.injEq,Prod.mk.injEq,reduceCtorEq] at h
  rename_i l n
  obtain ⟨rfl,rfl⟩:=h
  refine ⟨trivial,(Tryz.strings_IndexByte ⟨l.toArray⟩ n w).mono ?_⟩
  rintro e w' ⟨rfl,rfl⟩
  exact ⟨rfl,Below.refl _ _⟩
 ·cases h
def slDec (s body:List UInt8) (i b n:Nat):List (Nat × SV):=[(26,.c (.i .i64 (i:Int))),(25,.c (.i .i64 (body.length:Int))),(7,.c (.i .i64 (n:Int))),(6,.c (.i .u32 (b:Int))),(5,.c (.p 0 0)),(4,.c (.s body)),(0,.c (.s s))]
def enDec (out:List UInt8):List EN:=[zX9 (bX out) (.rw 1 out.length),rwB out]
theorem nf_le (l:List UInt8):(zD4 l).length≤l.length:=by
 unfold zD4
 rw [List.length_reverse]
 have:=(List.dropWhile_sublist (fun x:UInt8=>x == 61) (l:=l.reverse)).length_le
 rwa [List.length_reverse] at this
theorem decode_w (s:List UInt8) (hs:s.length≤5000) (w:World) (hE:Env w):Calls Tryz.prog 59 #[.string ⟨s.toArray⟩] w fun e w'=>e=.returned (.tuple #[.string ⟨((zU3 s).getD []).toArray⟩,.bool (zU3 s).isSome])∧Below w.heap.size w w':=by
 refine zA1 Tryz.func59 rfl kp59 (S:=Non) (ρ:=fun _=>zG7 0) (en:=[]) [.c (.s s)] Tryz.ntmps59 (At.nil _ _ _) (by simp [SV.wf,SC.wf]) (by simp) ?_
 intro C hC hP hk
 have hctr:=dC0_ok hP
 have fin:∀ (x:List UInt8) (b:Bool) en,x=(zU3 s).getD []→b=(zU3 s).isSome→Fin C res59 (.t [.c (.s x),.c (.b b)]) en:=fun x b en h1 h2=>by
  subst h1; subst h2
  refine zC3 (v:=.t [.c (.s ((zU3 s).getD [])),.c (.b (zU3 s).isSome)]) hC hres59 fun ρ w' hw _ _=>?_
  have hup:=hw.up
  rw [hC] at hup
  exact ⟨rfl,hup.to_below⟩
 have hnf:=nf_le s
 have hn0:C.n0=0:=by rw [hC]; rfl
 have w2:IntKind.i64.wrap ((s.length:Int) - ((zD4 s).length:Int))=((s.length - (zD4 s).length:Nat):Int):=by rw [IntWalk.i64_in _ (by omega)]; omega
 have w3:IntKind.i64.wrap (((s.length:Int)).tmod 4)=((s.length % 4:Nat):Int):=by rw [Int.tmod_eq_emod_of_nonneg (by omega),IntWalk.i64_in _ (by omega)]; omega
 have w4:((s.length:Int)).tmod 4=((s.length % 4:Nat):Int):=by rw [Int.tmod_eq_emod_of_nonneg (by omega)]; omega
 by_cases h1:s.length % 4 ≠ 0
 ·have c1:(((s.length % 4:Nat):Int) != 0)=true:=by simp; omega
  (refine zA0 hctr (rs:=res59) true 300 _ _ _ ?_; simp (maxSteps:=1000000) only [VT,jf,aA,qE,qF,qG,qH,qI,qK,qN,qO,qR,qS,qe,qp,ev,qw,qy,qz,zD,zI,zJ,zK,zM,↓reduceIte,reduceCtorEq,Nat.reduceEqDiff,Nat.reduceLT,zP,zQ,zR,zV,zi,hP,hk,res59,kp59,dC0,zW2,w4,c1])
  exact ⟨by omega,by decide,fin _ _ _ (by unfold zU3; rw [if_pos (.inl h1)]; rfl) (by unfold zU3; rw [if_pos (.inl h1)]; rfl)⟩
 have c1:(((s.length % 4:Nat):Int) != 0)=false:=by simp; omega
 by_cases h2:2 < s.length - (zD4 s).length
 ·have c2:decide ((2:Int) < ((s.length - (zD4 s).length:Nat):Int))=true:=decide_eq_true (by omega)
  (refine zA0 hctr (rs:=res59) true 300 _ _ _ ?_; simp (maxSteps:=1000000) only [VT,jf,jg,jZ,qE,qF,qG,qH,qI,qK,qN,qO,qR,qS,qe,qp,ev,qw,qy,qz,zD,zI,zJ,zK,zM,↓reduceIte,reduceCtorEq,Nat.reduceEqDiff,Nat.reduceLT,zP,zQ,zR,zV,zW,zi,hP,hk,res59,kp59,dC0,zW2,w4,c1,w2,c2])
  exact ⟨by omega,by decide,fin _ _ _ (by unfold zU3; rw [if_pos (.inr h2)]; rfl) (by unfold zU3; rw [if_pos (.inr h2)]; rfl)⟩
 have c2:decide ((2:Int) < ((s.length - (zD4 s).length:Nat):Int))=false:=decide_eq_false (by omega)
 (refine zA0 hctr (rs:=res59) true 300 _ _ _ ?_; simp (maxSteps:=1000000) only [VT,jg,jZ,qH,qI,qK,qN,qO,qR,qS,qe,qp,ev,qw,qy,qz,zD,zF,zG,zI,zJ,zK,zM,↓reduceIte,reduceCtorEq,Nat.reduceEqDiff,Nat.reduceLT,zP,zQ,zR,zW,zi,hP,hk,res59,kp59,dC0,zW2,w4,c1,w2,c2])
 refine ⟨by omega,by decide,?_⟩
 refine zG2 true (en':=[zX9 (.v (.pointer none)) (.rw 1 0)]) (sl':=slDec s (zD4 s) 0 0 0) (5,0,rowP 1 0 0) rfl (fun _=>⟨rfl,.inr ⟨rfl,rfl,rfl⟩⟩) (fun _=>by show ¬ ((5:Nat)=zC9); decide) ?_ ?_ ?_
 ·refine ⟨⟨rfl,rfl,fun ρ h=>?_,?_⟩,trivial⟩
  ·have h:(ρ 1).nl=some none:=h
   simp only [zX9,zB8,List.map_cons,List.map_nil,SC.den,zF1 h]
  ·intro y hy
   simp only [zX9,List.mem_cons,List.not_mem_nil,or_false] at hy
   rcases hy with rfl | rfl
   ·trivial
   ·show 1 < _; simp [zG]
 ·refine ⟨⟨⟨_,rfl,fun ρ h=>rfl⟩,?_⟩,⟨⟨_,rfl,fun ρ h=>rfl⟩,?_⟩,⟨⟨_,rfl,fun ρ h=>rfl⟩,?_⟩,⟨⟨_,rfl,fun ρ h=>rfl⟩,?_⟩,⟨⟨_,rfl,fun ρ h=>rfl⟩,?_⟩,⟨⟨_,rfl,fun ρ h=>rfl⟩,?_⟩,⟨⟨_,rfl,fun ρ h=>rfl⟩,?_⟩,trivial⟩
  all_goals simp [SV.wf,SC.wf,zG]
 refine zD6 (ι:={ y:Nat × Nat × Nat × List UInt8 // y.1≤(zD4 s).length∧y.2.1 < 4294967296∧y.2.2.1 < 8∧y.2.2.2.length≤y.1∧zL7 ((zD4 s).drop y.1) y.2.1 y.2.2.1 y.2.2.2=zL7 (zD4 s) 0 0 [] }) (fun y=>slDec s (zD4 s) y.1.1 y.1.2.1 y.1.2.2.1) (fun y=>enDec y.1.2.2.2) (fun y=>(zD4 s).length - y.1.1) ⟨(0,0,0,[]),Nat.zero_le _,by decide,by decide,Nat.le_refl _,rfl⟩ (zB3 ⟨rfl,rfl,rfl,rfl,rfl,rfl,rfl,trivial⟩) rfl ?_
 rintro ⟨⟨j,b,n,out⟩,hj,hb,hn,ho,hall⟩ D dP dS dw dn dr dk ddf dPan dRet hX hJ
 have hP0:=hP; have hk0:=hk; have hctr0:=hctr
 have hP:D.P=Tryz.prog:=by rw [dP]; exact hP0
 have hk:D.kp=kp59:=by rw [dk]; exact hk0
 have hctr:zC1 D dC0:=dC0_ok hP
 simp only at hj hb hn ho hall
 show Run D _ _ (slDec s (zD4 s) j b n) (enDec out)
 by_cases hjn:j < (zD4 s).length
 ·have q1:decide ((j:Int) < ((zD4 s).length:Int))=true:=decide_eq_true (by omega)
  have p0:(0:Int)≤(j:Int):=by omega
  have p1:(j:Int) < ((zD4 s).length:Int):=by omega
  have dFin:∀ (x:List UInt8) (b:Bool) en,x=(zU3 s).getD []→b=(zU3 s).isSome→Fin D res59 (.t [.c (.s x),.c (.b b)]) en:=fun x b en h1 h2 ρ a w' hw hn hwf hd hr=>dRet _ _ (fin x b en h1 h2 ρ a w' (hw.toC dS.symm dw.symm dr.symm dn.symm) (by rw [← dn]; exact hn) hwf (hd.trans ddf) (fun fn h=>by rw [← dP]; exact hr fn h))
  obtain ⟨x,hx⟩:∃ x,(zD4 s)[j]?=some x:=⟨_,List.getElem?_eq_getElem hjn⟩
  have hgd:(zD4 s).getD j 0=x:=by rw [List.getD_eq_getElem?_getD,hx]; rfl
  have hdr:(zD4 s).drop j=x :: (zD4 s).drop (j+1):=by
   rw [List.drop_eq_getElem_cons hjn]; congr 1
   exact (List.getElem?_eq_some_iff.1 hx).2
  have e8:x.toNat.toUInt8=x:=by simp
  rw [hdr] at hall
  have hbx:=bX_or out
  obtain ⟨bx,hbx0⟩:∃ bx,bX out=bx:=⟨_,rfl⟩
  rw [hbx0] at hbx
  rcases idx_back x with hi | ⟨k,hk64,rfl⟩
  ·have i1:decide (Lib.indexByte [65,66,67,68,69,70,71,72,73,74,75,76,77,78,79,80,81,82,83,84,85,86,87,88,89,90,97,98,99,100,101,102,103,104,105,106,107,108,109,110,111,112,113,114,115,116,117,118,119,120,121,122,48,49,50,51,52,53,54,55,56,57,43,47] x < 0)=true:=decide_eq_true hi
   have hnone:zL7 (zD4 s) 0 0 []=none:=by rw [← hall]; simp [zL7,zV4,hi]
   have hdn:zU3 s=none:=by unfold zU3; simp only [hnone]; split <;> rfl
   (refine zA0 hctr (rs:=res59) true 300 _ _ _ ?_; simp (maxSteps:=1000000) only [VT,jf,qE,qF,qG,qH,qI,qK,qO,qR,qS,qY,ev,qw,qy,qz,zI,zJ,zM,↓reduceIte,reduceCtorEq,Nat.reduceEqDiff,Nat.reduceLT,zP,zQ,zR,zT,zV,zh,zo,rwE,hP,hk,res59,kp59,dC0,rowIB,slDec,enDec,zX9,rwB,rwE,hbx0,p0,p1,hgd,e8,i1])
   exact dFin [] false _ (by rw [hdn]; rfl) (by rw [hdn]; rfl)
  ·have i0:Lib.indexByte [65,66,67,68,69,70,71,72,73,74,75,76,77,78,79,80,81,82,83,84,85,86,87,88,89,90,97,98,99,100,101,102,103,104,105,106,107,108,109,110,111,112,113,114,115,116,117,118,119,120,121,122,48,49,50,51,52,53,54,55,56,57,43,47] (zM7 k)=(k:Int):=zZ1 k hk64
   have i1:decide ((k:Int) < 0)=false:=decide_eq_false (by omega)
   obtain ⟨B,hB⟩:∃ B,(b * 64 % 4294967296) ||| k=B:=⟨_,rfl⟩
   have hBl:B < 4294967296:=by rw [← hB,or6 _ _ hk64]; omega
   have f1:orZ .u32 (shlZ .u32 (b:Int) 6) (IntKind.u32.wrap (k:Int))=(B:Int):=by
    rw [show (6:Int)=((6:Nat):Int) from rfl,shlN _ _ (by decide),u32i (by omega),orN (Nat.mod_lt _ (by decide)) (by omega),← hB]
   have f2:IntKind.i64.wrap ((n:Int)+6)=((n+6:Nat):Int):=by rw [IntWalk.i64_in _ (by omega)]; omega
   have p3:IntKind.i64.wrap ((j:Int)+1)=((j+1:Nat):Int):=by rw [IntWalk.i64_in _ (by omega)]; rfl
   by_cases hn2:2≤n
   ·have c8:decide ((8:Int)≤((n+6:Nat):Int))=true:=decide_eq_true (by omega)
    have f3:IntKind.i64.wrap (((n+6:Nat):Int) - 8)=((n - 2:Nat):Int):=by rw [IntWalk.i64_in _ (by omega)]; omega
    obtain ⟨x,hx'⟩:∃ x,UInt8.ofNat (B / 2 ^ (n - 2))=x:=⟨_,rfl⟩
    have f4:IntKind.u8.wrap (shrZ .u32 (B:Int) ((n - 2:Nat):Int))=(x.toNat:Int):=by
     rw [shrN _ _ (by omega),u8w,← hx',UInt8.toNat_ofNat']
    have f5:(0:Int)≤((n - 2:Nat):Int):=by omega
    simp only [zL7,zV4,zZ1 k hk64,show ¬ ((k:Int) < 0) by omega,if_false,Int.toNat_natCast,hB,show (8≤n+6)=True by simp; omega,if_true,hx'] at hall
    (refine zA0 hctr (rs:=res59) true 300 _ _ _ ?_; simp (maxSteps:=1000000) only [VT,jf,jg,qH,qI,qK,qO,qR,qS,qU,qY,ev,qw,qy,qz,zI,zJ,zM,↓reduceIte,reduceCtorEq,Nat.reduceEqDiff,Nat.reduceLT,zP,zQ,zR,zT,zV,zW,zh,zo,rwE,hP,hk,res59,kp59,dC0,rowIB,slDec,enDec,zX9,rwB,rwE,hbx0,p0,p1,hgd,e8,i0,i1,f1,f2,f3,f4,f5,c8])
    refine ⟨by decide,?_⟩
    refine zA6 rfl (.c (.v .nilIface)) [zX9 (.p 0 0) (.rw 2 (out++[x]).length),zH4 (rwB out),rwB (out++[x])] (wb_h (c:=0) (d:=1) (N:=2) (l:=out) (x:=x) hP hbx rfl rfl (by omega) (by rw [dn,hn0]; exact Nat.zero_le _) (zR1 rfl) rfl rfl rfl (fun q h1 h2 h3=>by match q with | 0=>exact absurd rfl h2 | 1=>exact absurd rfl h3 | 2=>exact absurd rfl h1 | _+3=>rfl)) (by simp [zG]) (by simp) ?_
    (refine zA0 hctr (rs:=res59) true 300 _ _ _ ?_; simp (maxSteps:=1000000) only [VT,qH,qI,qK,qO,qR,qS,ev,qy,qz,zI,zJ,↓reduceIte,reduceCtorEq,Nat.reduceEqDiff,Nat.reduceLT,zP,zQ,zR,zH4,rwE,jN,hk,kp59,zX9,rwB,rwE,zH4,p3])
    have hJ':=hJ ⟨(j+1,B,n - 2,out++[x]),by simp only; omega,hBl,by simp only; omega,by simp only [List.length_append,List.length_cons,List.length_nil]; omega,hall⟩ (slDec s (zD4 s) (j+1) B (n - 2)) (by show (zD4 s).length - (j+1) < (zD4 s).length - j; omega) (fun d v h=>h)
    rw [enDec,show bX (out++[x])=.p 0 0 from if_neg (by simp)] at hJ'
    refine zI6 (f:=fun c=>if c=1 then 2 else c) (enK:=[zX9 (.p 0 0) (.rw 1 (out++[x]).length),rwB (out++[x])]) (slK:=slDec s (zD4 s) (j+1) B (n - 2)) ⟨fun q hq=>absurd hq (by rw [dn,hn0]; exact Nat.not_lt_zero _),by rw [dn,hn0]; exact Nat.zero_le _⟩ (fun p q hp hq h=>?_) ?_ ?_ hJ'
    ·have hp:p < 2:=hp
     have hq:q < 2:=hq
     have h:(if p=1 then 2 else p)=(if q=1 then 2 else q):=h
     split at h <;> split at h <;> omega
    ·refine ⟨⟨_,rfl,fun ρ=>rfl,?_⟩,⟨_,rfl,fun ρ=>?_,zO5 _ _⟩,trivial⟩
     ·intro y hy
      simp only [zX9,List.mem_cons,List.not_mem_nil,or_false] at hy
      rcases hy with rfl | rfl
      ·exact Nat.zero_lt_two
      ·exact Nat.one_lt_two
     ·show zB8 _ (zD5 (out++[x]))=zB8 ρ (zD5 (out++[x]))
      rw [zH1,zH1]
    ·refine ⟨⟨?_,_,rfl,fun ρ=>rfl⟩,⟨?_,_,rfl,fun ρ=>rfl⟩,⟨?_,_,rfl,fun ρ=>rfl⟩,⟨?_,_,rfl,fun ρ=>rfl⟩,⟨?_,_,rfl,fun ρ=>rfl⟩,⟨?_,_,rfl,fun ρ=>rfl⟩,⟨?_,_,rfl,fun ρ=>rfl⟩,trivial⟩
     all_goals simp [SV.wf,SC.wf]
   ·have c8:decide ((8:Int)≤((n+6:Nat):Int))=false:=decide_eq_false (by omega)
    simp only [zL7,zV4,zZ1 k hk64,show ¬ ((k:Int) < 0) by omega,if_false,Int.toNat_natCast,hB,show (8≤n+6)=False by simp; omega] at hall
    (refine zA0 hctr (rs:=res59) true 300 _ _ _ ?_; simp (maxSteps:=1000000) only [VT,jf,jg,qH,qI,qK,qO,qR,qS,qU,qY,ev,qw,qy,qz,zI,zJ,zM,↓reduceIte,reduceCtorEq,Nat.reduceEqDiff,Nat.reduceLT,zP,zQ,zR,zT,zV,zW,zh,zo,rwE,hP,hk,res59,kp59,dC0,rowIB,slDec,enDec,zX9,rwB,rwE,hbx0,p0,p1,hgd,e8,i0,i1,f1,f2,p3,c8])
    refine ⟨by decide,?_⟩
    have hJ':=fun s' (hs:sub (slDec s (zD4 s) (j+1) B (n+6)) s')=>hJ ⟨(j+1,B,n+6,out),by simp only; omega,hBl,by simp only; omega,by simp only; omega,hall⟩ s' (by show (zD4 s).length - (j+1) < (zD4 s).length - j; omega) hs
    simp only [enDec,hbx0] at hJ'
    exact hJ' _ (zB3 ⟨rfl,rfl,rfl,rfl,rfl,rfl,rfl,trivial⟩)
 ·have hjn':j=(zD4 s).length:=by omega
  have q1:decide ((j:Int) < ((zD4 s).length:Int))=false:=decide_eq_false (by omega)
  have hbx:=bX_or out
  obtain ⟨bx,hbx0⟩:∃ bx,bX out=bx:=⟨_,rfl⟩
  rw [hbx0] at hbx
  rw [List.drop_of_length_le (by omega),zL7] at hall
  have pn:2 ^ n≤2 ^ 7:=Nat.pow_le_pow_right (by decide) (by omega)
  have pn0:0 < 2 ^ n:=Nat.pow_pos (by decide)
  have g0:(0:Int)≤(n:Int):=by omega
  have g1:IntKind.u32.wrap (shlZ .u32 1 (n:Int) - 1)=((2 ^ n - 1:Nat):Int):=by
   rw [show (1:Int)=((1:Nat):Int) from rfl,shlN _ _ (by omega),Nat.one_mul,Nat.mod_eq_of_lt (by omega),← Int.natCast_sub (by omega),u32i (by omega)]
  have g2:andZ .u32 (b:Int) ((2 ^ n - 1:Nat):Int)=((b % 2 ^ n:Nat):Int):=by rw [andN hb (by omega),and_mask]
  obtain ⟨m,hm⟩:∃ m,b % 2 ^ n=m:=⟨_,rfl⟩
  rw [hm] at g2
  have hdc:zU3 s=if m=0 then some out else none:=by
   unfold zU3
   simp only [← hall,hm]
   rw [if_neg (by omega)]
  (refine zA0 hctr (rs:=res59) true 300 _ _ _ ?_; simp (maxSteps:=1000000) only [VT,jg,qH,qI,qK,qR,qS,ev,qy,zH,zI,zJ,↓reduceIte,reduceCtorEq,Nat.reduceEqDiff,Nat.reduceLT,zP,zR,zW,rwE,hk,res59,kp59,slDec,enDec,zX9,rwB,rwE,hbx0,q1])
  refine hX rfl rfl ?_
  have hP:=hP0; have hk:=hk0; have hctr:=hctr0
  by_cases hm0:m=0
  ·have c9:((m:Int) != 0)=false:=by subst hm0; rfl
   rw [if_pos hm0] at hdc
   (refine zA0 hctr (rs:=res59) true 300 _ _ _ ?_; simp (maxSteps:=1000000) only [VT,jg,qH,qI,qK,qO,qR,qS,ev,qw,qy,qz,zI,zJ,↓reduceIte,reduceCtorEq,Nat.reduceEqDiff,Nat.reduceLT,zP,zQ,zR,zW,hk,res59,kp59,dC0,g0,g1,g2,c9])
   refine Run_bstr (X:=bx) (c:=0) (d:=1) (l:=out) hP (by rw [hC]; rfl) hn0 hbx rfl rfl rfl rfl (by simp) ?_
   (refine zA0 hctr (rs:=res59) true 300 _ _ _ ?_; simp (maxSteps:=1000000) only [VT,qE,qF,qG,qH,qI,qK,qO,ev,qy,qz,zI,zJ,↓reduceIte,reduceCtorEq,Nat.reduceEqDiff,Nat.reduceLT,zP,zQ,zR,jN,hk,res59,kp59])
   exact fin out true _ (by rw [hdc]; rfl) (by rw [hdc]; rfl)
  ·have c9:((m:Int) != 0)=true:=by simpa using hm0
   rw [if_neg hm0] at hdc
   (refine zA0 hctr (rs:=res59) true 300 _ _ _ ?_; simp (maxSteps:=1000000) only [VT,jf,qE,qF,qG,qH,qI,qK,qO,qR,qS,ev,qy,qz,zI,zJ,↓reduceIte,reduceCtorEq,Nat.reduceEqDiff,Nat.reduceLT,zP,zQ,zR,zV,hk,res59,kp59,g0,g1,g2,c9])
   exact fin [] false _ (by rw [hdc]; rfl) (by rw [hdc]; rfl)
end Go.Proofs.YtcbmlanpianclaaGreatDoor
/- The contracts of library functions that this claim uses, laid at this translation by the guide's shelf tools: each is one application of a theorem of the library. -/
namespace Go.Proofs
set_option linter.unusedSimpArgs false
set_option linter.unusedVariables false
open Go.Shelf
def Tryz.lays104_ren:Go.Shelf.Ren:=⟨fun | 104=>61 | 211=>90 | 207=>76 | n=>n,fun | 9=>9 | 4=>4 | 24=>92 | 3=>3 | n=>n,fun | n=>n⟩
theorem Tryz.lays104:Go.Proofs.Lays.n104 Tryz.prog Tryz.lays104_ren:={
 mixed:=by kernel_rfl
 f104:=Tryz.func61.trans (congrArg some (by kernel_rfl))
 f207:=Tryz.func76.trans (congrArg some (by kernel_rfl))
 f211:=Tryz.func90.trans (congrArg some (by kernel_rfl))
 t3:=Tryz.underlying3
 a3:=Tryz.isAgg3
 z3:=Tryz.sizeOf3
 v3:=Tryz.zeroValue3
 t4:=Tryz.underlying4
 a4:=Tryz.isAgg4
 z4:=Tryz.sizeOf4
 v4:=Tryz.zeroValue4
 t9:=Tryz.underlying9
 a9:=Tryz.isAgg9
 z9:=Tryz.sizeOf9
 v9:=Tryz.zeroValue9
 t24:=Tryz.underlying92
 a24:=Tryz.isAgg92
 z24:=Tryz.sizeOf92
 v24:=Tryz.zeroValue92 }
open Go.RowKit in
theorem Tryz.strings_CutSuffix (s p:ByteArray) (w:World) (hs:s.size≤9223372036854775807) :
  Calls Tryz.prog 61 #[.string s,.string p] w fun e w'=>e=.returned (.tuple #[.string ⟨(Lib.trimSuffix s.data.toList p.data.toList).toArray⟩,.bool (Lib.hasSuffix s.data.toList p.data.toList)])∧w'=w:=Any.strings_CutSuffix Tryz.lays104 s p w hs
def Tryz.lays99_ren:Go.Shelf.Ren:=⟨fun | 99=>91 | 206=>121 | n=>n,fun | 9=>9 | 4=>4 | 3=>3 | n=>n,fun | n=>n⟩
theorem Tryz.lays99:Go.Proofs.Lays.n99 Tryz.prog Tryz.lays99_ren:={
 mixed:=by kernel_rfl
 f99:=Tryz.func91.trans (congrArg some (by kernel_rfl))
 f206:=Tryz.func121.trans (congrArg some (by kernel_rfl))
 t3:=Tryz.underlying3
 a3:=Tryz.isAgg3
 z3:=Tryz.sizeOf3
 v3:=Tryz.zeroValue3
 t4:=Tryz.underlying4
 a4:=Tryz.isAgg4
 z4:=Tryz.sizeOf4
 v4:=Tryz.zeroValue4
 t9:=Tryz.underlying9
 a9:=Tryz.isAgg9
 z9:=Tryz.sizeOf9
 v9:=Tryz.zeroValue9 }
open Go.RowKit Go.Lib in
theorem Tryz.strings_HasPrefix (s p:ByteArray) (w:World) :
  Calls Tryz.prog 91 #[.string s,.string p] w fun e w'=>e=.returned (.bool (Lib.hasPrefix s.data.toList p.data.toList))∧w'=w:=Any.strings_HasPrefix Tryz.lays99 s p w
def Tryz.lays100_ren:Go.Shelf.Ren:=⟨fun | 100=>96 | 207=>76 | n=>n,fun | 9=>9 | 4=>4 | 3=>3 | n=>n,fun | n=>n⟩
theorem Tryz.lays100:Go.Proofs.Lays.n100 Tryz.prog Tryz.lays100_ren:={
 mixed:=by kernel_rfl
 f100:=Tryz.func96.trans (congrArg some (by kernel_rfl))
 f207:=Tryz.func76.trans (congrArg some (by kernel_rfl))
 t3:=Tryz.underlying3
 a3:=Tryz.isAgg3
 z3:=Tryz.sizeOf3
 v3:=Tryz.zeroValue3
 t4:=Tryz.underlying4
 a4:=Tryz.isAgg4
 z4:=Tryz.sizeOf4
 v4:=Tryz.zeroValue4
 t9:=Tryz.underlying9
 a9:=Tryz.isAgg9
 z9:=Tryz.sizeOf9
 v9:=Tryz.zeroValue9 }
open Go.RowKit Go.Lib in
theorem Tryz.strings_HasSuffix (s p:ByteArray) (w:World) (hs:s.size≤9223372036854775807) :
  Calls Tryz.prog 96 #[.string s,.string p] w fun e w'=>e=.returned (.bool (Lib.hasSuffix s.data.toList p.data.toList))∧w'=w:=Any.strings_HasSuffix Tryz.lays100 s p w hs
def Tryz.lays102_ren:Go.Shelf.Ren:=⟨fun | 102=>31 | 209=>50 | 207=>76 | n=>n,fun | 9=>9 | 4=>4 | 3=>3 | n=>n,fun | n=>n⟩
theorem Tryz.lays102:Go.Proofs.Lays.n102 Tryz.prog Tryz.lays102_ren:={
 mixed:=by kernel_rfl
 f102:=Tryz.func31.trans (congrArg some (by kernel_rfl))
 f207:=Tryz.func76.trans (congrArg some (by kernel_rfl))
 f209:=Tryz.func50.trans (congrArg some (by kernel_rfl))
 t3:=Tryz.underlying3
 a3:=Tryz.isAgg3
 z3:=Tryz.sizeOf3
 v3:=Tryz.zeroValue3
 t4:=Tryz.underlying4
 a4:=Tryz.isAgg4
 z4:=Tryz.sizeOf4
 v4:=Tryz.zeroValue4
 t9:=Tryz.underlying9
 a9:=Tryz.isAgg9
 z9:=Tryz.sizeOf9
 v9:=Tryz.zeroValue9 }
open Go.RowKit Go.Lib in
theorem Tryz.strings_TrimSuffix (s p:ByteArray) (w:World) (hs:s.size≤9223372036854775807) :
  Calls Tryz.prog 31 #[.string s,.string p] w fun e w'=>e=.returned (.string ⟨(Lib.trimSuffix s.data.toList p.data.toList).toArray⟩)∧w'=w:=Any.strings_TrimSuffix Tryz.lays102 s p w hs
end Go.Proofs
/- The contracts of library functions that this claim uses, laid at this translation by the guide's shelf tools: each is one application of a theorem of the library. -/
namespace Go.Proofs
set_option linter.unusedSimpArgs false
set_option linter.unusedVariables false
open Go.Shelf
def Tryz.lays161_ren:Go.Shelf.Ren:=⟨fun | 161=>23 | 231=>33 | 227=>34 | 233=>35 | 235=>36 | 228=>52 | 197=>53 | 151=>54 | 260=>80 | 152=>81 | 137=>24 | 119=>110 | 224=>78 | 225=>77 | 217=>37 | 266=>55 | n=>n,fun | 9=>9 | 4=>4 | 3=>3 | 5=>5 | 117=>63 | 116=>62 | 0=>0 | 124=>66 | 105=>82 | 21=>21 | 119=>134 | 46=>107 | 139=>137 | 138=>136 | n=>n,fun | 3=>1 | 4=>2 | n=>n⟩
theorem Tryz.lays161:Go.Proofs.Lays.n161 Tryz.prog Tryz.lays161_ren:={
 mixed:=by kernel_rfl
 f119:=Tryz.func110.trans (congrArg some (by kernel_rfl))
 f137:=Tryz.func24.trans (congrArg some (by kernel_rfl))
 f151:=Tryz.func54.trans (congrArg some (by kernel_rfl))
 f152:=Tryz.func81.trans (congrArg some (by kernel_rfl))
 f161:=Tryz.func23.trans (congrArg some (by kernel_rfl))
 f197:=Tryz.func53.trans (congrArg some (by kernel_rfl))
 f217:=Tryz.func37.trans (congrArg some (by kernel_rfl))
 f224:=Tryz.func78.trans (congrArg some (by kernel_rfl))
 f225:=Tryz.func77.trans (congrArg some (by kernel_rfl))
 f227:=Tryz.func34.trans (congrArg some (by kernel_rfl))
 f228:=Tryz.func52.trans (congrArg some (by kernel_rfl))
 f231:=Tryz.func33.trans (congrArg some (by kernel_rfl))
 f233:=Tryz.func35.trans (congrArg some (by kernel_rfl))
 f235:=Tryz.func36.trans (congrArg some (by kernel_rfl))
 f260:=Tryz.func80.trans (congrArg some (by kernel_rfl))
 f266:=Tryz.func55.trans (congrArg some (by kernel_rfl))
 t0:=Tryz.underlying0
 a0:=Tryz.isAgg0
 z0:=Tryz.sizeOf0
 v0:=Tryz.zeroValue0
 t3:=Tryz.underlying3
 a3:=Tryz.isAgg3
 z3:=Tryz.sizeOf3
 v3:=Tryz.zeroValue3
 t4:=Tryz.underlying4
 a4:=Tryz.isAgg4
 z4:=Tryz.sizeOf4
 v4:=Tryz.zeroValue4
 t5:=Tryz.underlying5
 a5:=Tryz.isAgg5
 z5:=Tryz.sizeOf5
 v5:=Tryz.zeroValue5
 t9:=Tryz.underlying9
 a9:=Tryz.isAgg9
 z9:=Tryz.sizeOf9
 v9:=Tryz.zeroValue9
 t21:=Tryz.underlying21
 a21:=Tryz.isAgg21
 z21:=Tryz.sizeOf21
 v21:=Tryz.zeroValue21
 t46:=Tryz.underlying107
 a46:=Tryz.isAgg107
 z46:=Tryz.sizeOf107
 v46:=Tryz.zeroValue107
 t105:=Tryz.underlying82
 a105:=Tryz.isAgg82
 z105:=Tryz.sizeOf82
 v105:=Tryz.zeroValue82
 t116:=Tryz.underlying62
 a116:=Tryz.isAgg62
 z116:=Tryz.sizeOf62
 t117:=Tryz.underlying63
 a117:=Tryz.isAgg63
 z117:=Tryz.sizeOf63
 v117:=Tryz.zeroValue63
 t119:=Tryz.underlying134
 a119:=Tryz.isAgg134
 z119:=Tryz.sizeOf134
 t124:=Tryz.underlying66
 a124:=Tryz.isAgg66
 z124:=Tryz.sizeOf66
 v124:=Tryz.zeroValue66
 t138:=Tryz.underlying136
 a138:=Tryz.isAgg136
 z138:=Tryz.sizeOf136
 v138:=Tryz.zeroValue136
 t139:=Tryz.underlying137
 a139:=Tryz.isAgg137
 z139:=Tryz.sizeOf137
 v139:=Tryz.zeroValue137
 g3:=by kernel_rfl
 g4:=by kernel_rfl }
open Go.RowKit in
theorem Tryz.strings_TrimLeft_one (s:ByteArray) (c:UInt8) (hc:c.toNat < 128) (w:World) :
  Calls Tryz.prog 23 #[.string s,.string ⟨#[c]⟩] w fun e w'=>e=.returned (.string ⟨(Lib.trimLeftB s.data.toList c).toArray⟩)∧w'=w:=Any.strings_TrimLeft_one Tryz.lays161 s c hc w
def Tryz.lays145_ren:Go.Shelf.Ren:=⟨fun | 145=>22 | 220=>32 | 219=>51 | 217=>37 | 225=>77 | 224=>78 | 267=>79 | 266=>55 | 314=>109 | n=>n,fun | 9=>9 | 4=>4 | 59=>55 | 3=>3 | 5=>5 | 46=>107 | 146=>132 | 51=>49 | n=>n,fun | 1=>0 | n=>n⟩
theorem Tryz.lays145:Go.Proofs.Lays.n145 Tryz.prog Tryz.lays145_ren:={
 mixed:=by kernel_rfl
 f145:=Tryz.func22.trans (congrArg some (by kernel_rfl))
 f217:=Tryz.func37.trans (congrArg some (by kernel_rfl))
 f219:=Tryz.func51.trans (congrArg some (by kernel_rfl))
 f220:=Tryz.func32.trans (congrArg some (by kernel_rfl))
 f224:=Tryz.func78.trans (congrArg some (by kernel_rfl))
 f225:=Tryz.func77.trans (congrArg some (by kernel_rfl))
 f266:=Tryz.func55.trans (congrArg some (by kernel_rfl))
 f267:=Tryz.func79.trans (congrArg some (by kernel_rfl))
 f314:=Tryz.func109.trans (congrArg some (by kernel_rfl))
 t3:=Tryz.underlying3
 a3:=Tryz.isAgg3
 z3:=Tryz.sizeOf3
 v3:=Tryz.zeroValue3
 t4:=Tryz.underlying4
 a4:=Tryz.isAgg4
 z4:=Tryz.sizeOf4
 v4:=Tryz.zeroValue4
 t5:=Tryz.underlying5
 a5:=Tryz.isAgg5
 z5:=Tryz.sizeOf5
 v5:=Tryz.zeroValue5
 t9:=Tryz.underlying9
 a9:=Tryz.isAgg9
 z9:=Tryz.sizeOf9
 v9:=Tryz.zeroValue9
 t46:=Tryz.underlying107
 a46:=Tryz.isAgg107
 z46:=Tryz.sizeOf107
 v46:=Tryz.zeroValue107
 t51:=Tryz.underlying49
 a51:=Tryz.isAgg49
 z51:=Tryz.sizeOf49
 v51:=Tryz.zeroValue49
 t59:=Tryz.underlying55
 a59:=Tryz.isAgg55
 z59:=Tryz.sizeOf55
 v59:=Tryz.zeroValue55
 t146:=Tryz.underlying132
 a146:=Tryz.isAgg132
 z146:=Tryz.sizeOf132
 v146:=Tryz.zeroValue132
 g1:=by kernel_rfl }
open Go.RowKit Go.Lib in
theorem Tryz.strings_Cut (s sep:ByteArray) (m:Int) (w:World) (hs:s.size < 4294967281) (hm:w.cell? ⟨0,0,none⟩=some (.int .i64 m)) :
  Calls Tryz.prog 22 #[.string s,.string sep] w fun e w'=>e=.returned (.tuple #[.string ⟨(Lib.cut s.data.toList sep.data.toList).1.toArray⟩,.string ⟨(Lib.cut s.data.toList sep.data.toList).2.1.toArray⟩,.bool (Lib.cut s.data.toList sep.data.toList).2.2])∧∃ n,w'=w.drewN n:=Any.strings_Cut Tryz.lays145 s sep m w hs hm
end Go.Proofs
/- Cut at a blank, by what stands ahead of it and behind it. No program in sight. -/
namespace Go.Proofs.YtcbmlanpianclaaGreatDoor
set_option linter.unusedSimpArgs false
set_option linter.unusedVariables false
open Go.Lib
theorem cut_cases (c:UInt8) (l:List UInt8):(indexByte l c=-1∧l.takeWhile (· != c)=l∧l.dropWhile (· != c)=[])∨(∃ k:Nat,indexByte l c=(k:Int)∧l.takeWhile (· != c)=l.take k∧l.dropWhile (· != c)=l.drop k):=by
 induction l with
 | nil=>exact .inl ⟨rfl,rfl,rfl⟩
 | cons b l ih =>
  by_cases hb:b=c
  ·subst hb
   exact .inr ⟨0,by simp [indexByte],by simp,by simp⟩
  ·have hb2:(b == c)=false:=by simpa using hb
   have hb3:(b != c)=true:=by simpa using hb
   rcases ih with ⟨h1,h2,h3⟩ | ⟨k,h1,h2,h3⟩
   ·refine .inl ⟨by simp [indexByte,hb2,h1],?_,?_⟩
    ·rw [List.takeWhile_cons,if_pos hb3,h2]
    ·rw [List.dropWhile_cons,if_pos hb3,h3]
   ·refine .inr ⟨k+1,?_,?_,?_⟩
    ·have:¬ ((k:Int)=-1):=by omega
     simp [indexByte,hb2,h1,this]
    ·rw [List.takeWhile_cons,if_pos hb3,h2,List.take_succ_cons]
    ·rw [List.dropWhile_cons,if_pos hb3,h3,List.drop_succ_cons]
theorem zP5 (c:UInt8) (l:List UInt8):(cut l [c]).1=l.takeWhile (· != c)∧(cut l [c]).2.1=(l.dropWhile (· != c)).drop 1:=by
 unfold cut
 rw [index_one]
 rcases cut_cases c l with ⟨h1,h2,h3⟩ | ⟨k,h1,h2,h3⟩
 ·rw [h1,if_neg (by decide),h2,h3]
  exact ⟨rfl,rfl⟩
 ·rw [h1,if_pos (by omega),h2,h3]
  refine ⟨by simp,?_⟩
  simp [List.drop_drop]
end Go.Proofs.YtcbmlanpianclaaGreatDoor
/- words.words: the iterator, for every body that keeps its word. UNDER WAY. -/
namespace Go.Proofs.YtcbmlanpianclaaGreatDoor
set_option linter.unusedSimpArgs false
set_option linter.unusedVariables false
open Go.RowKit Go.Shelf
attribute [local go_sem] Oper.semAt_some
theorem zI7 (k:Nat) (s:List UInt8):wordsF (k+1) s=if s.dropWhile (· == 32)=[] then [] else (s.dropWhile (· == 32)).takeWhile (· != 32) :: wordsF k (((s.dropWhile (· == 32)).dropWhile (· != 32)).drop 1):=rfl
theorem words_fuel:∀ (k:Nat) (l:List UInt8),l.length < k→wordsF k l=wordsF (l.length+1) l:=by
 have key:∀ (n k j:Nat) (l:List UInt8),l.length≤n→l.length < k→l.length < j→wordsF k l=wordsF j l:=by
  intro n
  induction n with
  | zero =>
   intro k j l h hk hj
   obtain rfl:l=[]:=List.length_eq_zero_iff.1 (by omega)
   cases k <;> cases j <;> first | (simp at hk; done) | (simp at hj; done) | rfl
  | succ n ih =>
   intro k j l h hk hj
   cases k with
   | zero=>omega
   | succ k =>
    cases j with
    | zero=>omega
    | succ j =>
     rw [zI7,zI7]
     split
     ·rfl
     ·rename_i hne
      have h1:=(List.dropWhile_sublist (p:=(· == (32:UInt8))) (l:=l)).length_le
      have h2:=(List.dropWhile_sublist (p:=(· != (32:UInt8))) (l:=l.dropWhile (· == 32))).length_le
      have h3:0 < (l.dropWhile (· == 32)).length:=List.length_pos_iff.2 hne
      rw [ih k j _ (by rw [List.length_drop]; omega) (by rw [List.length_drop]; omega) (by rw [List.length_drop]; omega)]
 intro k l h
 exact key l.length k (l.length+1) l (Nat.le_refl _) h (by omega)
def boxLen (Bn:Nat) (W:World):Nat:=match W.cell? ⟨Bn,0,none⟩ with | some (.string b)=>b.size | _=>0
def Box (Bn:Nat) (W:World) (s:List UInt8):Prop:=s.length≤100000∧W.cell? ⟨Bn,0,none⟩=some (.string ⟨s.toArray⟩)∧W.frozen? ⟨Bn,0,none⟩=false
theorem Box.len {Bn:Nat} {W:World} {s:List UInt8} (h:Box Bn W s):boxLen Bn W=s.length:=by unfold boxLen; rw [h.2.1]; rfl
theorem words1 (l Bn:Nat) (m:Int) (J:List (List UInt8)→World→Prop) (s0:List UInt8) (L:List (List UInt8))
  (hset:∀ pre W v,J pre W→J pre (W.setCell ⟨Bn,0,none⟩ v)) (hdrew:∀ pre W k,J pre W→J pre (W.drewN k))
  (hmax:∀ pre W,J pre W→W.cell? ⟨0,0,none⟩=some (.int .i64 m))
  (n:Nat) (hn:1≤n)
  (hY:∀ pre x W s,J pre W→Box Bn W s→pre.length < L.length→YieldAt .wide (n - 1) Tryz.prog l #[.string ⟨x.toArray⟩] W fun e W'=>e=.returned (.bool true)∧J (pre++[x]) W'∧Box Bn W' s)
  (W:World) (h0:J [] W) (hb0:Box Bn W s0) (hL:L=wordsF (s0.length+1) s0) :
  CallsIn .wide n Tryz.prog 82 #[.func (.yield l) #[] #[],.pointer (some ⟨Bn,0,none⟩)] W fun e W'=>(∃ v,e=.returned v)∧J L W':=by
 refine callsIn_of_wp Tryz.func82 rfl trivial ?_ rfl
 simp only [Tryz.ntmps82,List.size_toArray,List.length_cons,List.length_nil,Nat.reduceAdd,Nat.reduceSub,Array.replicate_succ,Array.replicate_zero,List.push_toArray,List.append_toArray,List.nil_append,List.cons_append]
 gi_wp2
 gi_loopw [3] (fun _ wr=>∃ (pre:List (List UInt8)) (s:List UInt8),J pre wr∧Box Bn wr s∧L=pre++wordsF (s.length+1) s) (fun _ wr=>boxLen Bn wr)
 case atStart=>exact ⟨[],s0,h0,hb0,hL⟩
 case round =>
  obtain ⟨pre,s,hJ,hB,hL⟩:=hrel
  have hc:=hB.2.1
  have hf:=hB.2.2
  have hT:=Tryz.strings_TrimLeft_one ⟨s.toArray⟩ 32 (by decide)
  rw [show Lib.trimLeftB (⟨s.toArray⟩:ByteArray).data.toList 32=s.dropWhile (· == 32) from rfl] at hT
  obtain ⟨t,ht⟩:∃ t,t=s.dropWhile (· == 32):=⟨_,rfl⟩
  have htl:t.length≤s.length:=by rw [ht]; exact (List.dropWhile_sublist _).length_le
  rw [← ht] at hT
  have HT:=Lib.hid hT; have HE:=Lib.hid ht; clear hT ht
  gi_wp2
  refine ⟨trivial,?_⟩
  refine (callsIn_wide.2 (HT.out _)).mono ?_
  rintro e w1 ⟨rfl,rfl⟩
  have hJ1:=hset pre _ (.string ⟨t.toArray⟩) hJ
  gi_wp2
  ·have ht0:t=[]:=by have h:t.isEmpty=true:=by assumption
                     simpa using h
   refine bodyPost_ret (results_none rfl _ _ _) rfl ?_
   refine ⟨⟨_,rfl⟩,?_⟩
   rw [hL,zI7,← HE.out,if_pos ht0,List.append_nil]
   exact hJ1
  ·have ht1:t ≠ []:=by have h:t.isEmpty=false:=by assumption
                       intro e; rw [e] at h; cases h
   have hr:((t.dropWhile (· != 32)).drop 1).length < s.length:=by
    have h2:=(List.dropWhile_sublist (p:=(· != (32:UInt8))) (l:=t)).length_le
    have h3:=List.length_pos_iff.2 ht1
    rw [List.length_drop]; omega
   have hm:=hmax _ _ hJ1
   have hC:=Tryz.strings_Cut ⟨t.toArray⟩ ⟨#[32]⟩ m _ (by show t.toArray.size < 4294967281; have:=hB.1; simp; omega) hm
   refine ⟨trivial,?_⟩
   refine (callsIn_wide.2 hC).mono ?_
   rintro e w2 ⟨rfl,q,rfl⟩
   have hJ2:=hset pre _ (.string ⟨(Lib.cut t [32]).2.1.toArray⟩) (hdrew pre _ q hJ1)
   have hB2:Box Bn (((w1.setCell ⟨Bn,0,none⟩ (.string ⟨t.toArray⟩)).drewN q).setCell ⟨Bn,0,none⟩ (.string ⟨(Lib.cut t [32]).2.1.toArray⟩)) (Lib.cut t [32]).2.1:=by
    refine ⟨?_,World.cell?_setCell_same' _ _ _ ?_,?_⟩
    ·rw [(zP5 32 t).2]; have h1:=(List.dropWhile_sublist (p:=(· != (32:UInt8))) (l:=t)).length_le; have:=hB.1; simp; omega
    ·rw [World.cell?_drewN,World.cell?_setCell_same' _ _ _ (by rw [hc]; rfl)]; rfl
    ·rw [World.frozen?_setCell,World.frozen?_drewN,World.frozen?_setCell]; exact hf
   have hLt:pre.length < L.length:=by rw [hL,zI7,← HE.out,if_neg ht1,List.length_append,List.length_cons]; omega
   obtain ⟨fn,tmps,assign,body,hy,hR⟩:=hY pre (Lib.cut t [32]).1 _ _ hJ2 hB2 hLt
   have HLt:=Lib.hid hLt; clear hLt
   gi_wp2
   refine hR.mono ?_
   rintro e W' ⟨rfl,hJ3,hB3⟩
   gi_wp2
   go_roundw
   case rel =>
    refine ⟨pre++[(Lib.cut t [32]).1],(Lib.cut t [32]).2.1,hJ3,hB3,?_⟩
    rw [hL,zI7,← HE.out,if_neg ht1,(zP5 32 t).1,(zP5 32 t).2,words_fuel s.length _ hr,List.append_assoc]
    rfl
   case measure=>rw [hB3.len,hB.len,(zP5 32 t).2]; exact hr
end Go.Proofs.YtcbmlanpianclaaGreatDoor
/- words.Split: a new list of a line's words. -/
namespace Go.Proofs.YtcbmlanpianclaaGreatDoor
set_option linter.unusedSimpArgs false
set_option linter.unusedVariables false
open Go.RowKit Go.Shelf
attribute [local go_sem] Oper.semAt_some
theorem Box.of {Bn:Nat} {W W':World} {s:List UInt8} (h:Box Bn W s) (hc:W'.heap[Bn]?=W.heap[Bn]?):Box Bn W' s:=by
 refine ⟨h.1,?_,?_⟩
 ·have:=h.2.1; simpa [World.cell?,hc] using this
 ·have:=h.2.2; simpa [World.frozen?,hc] using this
theorem range_words {g:Operand} {ps:Array Tmp} {assign body:Code} {Q:Exit→Act→World→Prop} {a:Act} {w:World} (n:Nat) (hn:2≤n) (Bn:Nat) (hBn:Bn < w.heap.size) (m:Int) (s0:List UInt8)
  (hg:a.eval g=.func (.func 82) #[] #[.pointer (some ⟨Bn,0,none⟩)]) (hps:ps.size=1) (hbox:Box Bn w s0)
  (I:List (List UInt8)→World→Prop) (hset:∀ pre W v,I pre W→I pre (W.setCell ⟨Bn,0,none⟩ v)) (hdrew:∀ pre W k,I pre W→I pre (W.drewN k))
  (hmax:∀ pre W,I pre W→W.cell? ⟨0,0,none⟩=some (.int .i64 m))
  (halloc:∀ pre W o,I pre W→I pre (W.alloc o)) (hput:∀ pre W l o o',I pre W→w.heap.size≤l→W.heap[l]?=some o→o.isCells=false→I pre (W.putObj l o'))
  (h0:I [] w) (a₁:List UInt8→Act)
  (hassign:∀ (l:Nat) (x:List UInt8) (W:World) (K:Act→World→Prop),K (a₁ x) W →
   assign.wpIn (Fence.wide.inRound l) (n - 1 - 1) Tryz.prog (Exit.then K (fun _ _ _=>False)) { tmps:=(ps.zip #[Value.string ⟨x.toArray⟩]).foldl (fun t (p,v)=>t.setIfInBounds p v) a.tmps,defers:=[] } W)
  (hbody:∀ (l:Nat) (pre:List (List UInt8)) (x:List UInt8) (W:World) (s:List UInt8),I pre W→Box Bn W s→pre.length < (wordsF (s0.length+1) s0).length →
   body.wpIn (Fence.wide.inRound l) (n - 1 - 1) Tryz.prog (ownPostG w.heap.size (fun _ W'=>Box Bn W' s) I (fun _ _ _=>False) (pre++[x]) W) (a₁ x) W)
  (hdone:∀ (D:Nat) (W:World),w.heap.size≤D→I (wordsF (s0.length+1) s0) W→W.heap[D]?=some (.deferred (some []))→Q .normal { a with defers:={ target:=.collected D,args:=#[] } :: a.defers } W) :
  (Code.rangeFunc g ps assign body).wpIn .wide n Tryz.prog Q a w:=by
 refine wpIn_rangeFunc ?_
 intro fn hfn
 obtain ⟨rec,hrec⟩:∃ rec:LoopState→Option Code→Loop,rec=fun st pe=>{ state:=st,pending:=pe,fn,tmps:=a.tmps,params:=ps,assign,body,defers:=w.heap.size }:=⟨_,rfl⟩
 obtain ⟨W1,hW1⟩:∃ W1,(w.alloc (.deferred (some []))).alloc (.loop (rec .ready none))=W1:=⟨_,rfl⟩
 have hL1:W1.heap[w.heap.size+1]?=some (.loop (rec .ready none)):=by
  rw [← hW1]; have:=World.alloc_heap_new (w.alloc (.deferred (some []))) (.loop (rec .ready none)); rwa [World.size_alloc] at this
 have hK1:W1.heap[w.heap.size]?=some (.deferred (some [])):=by
  rw [← hW1]; exact (Below.heap_alloc _ _ _ (by simp)).trans (World.alloc_heap_new w _)
 have hI1:I [] W1:=by rw [← hW1]; exact halloc _ _ _ (halloc _ _ _ h0)
 have hX1:Box Bn W1 s0:=hbox.of (by rw [← hW1,Below.heap_alloc _ _ _ (by simp; omega),Below.heap_alloc _ _ _ hBn])
 refine ⟨w.heap.size+1,[{ target:=.collected w.heap.size,args:=#[] }],W1,{ target:=.fn (.func 82) #[.pointer (some ⟨Bn,0,none⟩)],args:=#[.func (.yield (w.heap.size+1)) #[] #[]] },W1,82,
  #[.func (.yield (w.heap.size+1)) #[] #[]]++#[.pointer (some ⟨Bn,0,none⟩)],W1,?_,?_,?_,?_,fun _=>by omega,?_⟩
 ·rw [← hW1,hrec]; exact run_enterLoop_outer _ _ _ _ _
 ·simp only [resolve,hg]
  simp [go_sem]
 ·intro f' hf'; trivial
 ·simp [invoke,go_sem]
 ·refine (words1 (w.heap.size+1) Bn m (fun pre W=>I pre W∧W.heap[w.heap.size+1]?=some (.loop (rec .ready none))∧W.heap[w.heap.size]?=some (.deferred (some [])))
   s0 _ ?_ ?_ (fun pre W h=>hmax pre W h.1) (n - 1) (by omega) ?_ W1 ⟨hI1,hL1,hK1⟩ hX1 rfl).mono ?_
  ·rintro pre W v ⟨h1,h2,h3⟩
   exact ⟨hset _ _ _ h1,(Below.heap_setCell _ _ _ _ (by show _ ≠ Bn; omega)).trans h2,(Below.heap_setCell _ _ _ _ (by show _ ≠ Bn; omega)).trans h3⟩
  ·rintro pre W k ⟨h1,h2,h3⟩
   exact ⟨hdrew _ _ _ h1,h2,h3⟩
  ·rintro pre x W s ⟨hi,hl,hk⟩ hB hlen
   have hlt:w.heap.size+1 < W.heap.size:=(Array.getElem?_eq_some_iff.1 hl).1
   have hy:=run_yield (P:=Tryz.prog) (args:=#[Value.string ⟨x.toArray⟩]) hl (by rw [hrec]; exact hps.symm)
   rw [hrec] at hy
   refine ⟨fn,_,assign,body,hy,roundIn_of_wpIn hfn (hassign _ x W _ ?_)⟩
   refine ⟨_,run_beginRound hl (by rw [hrec]),?_⟩
   have hl2:(W.putObj (w.heap.size+1) (.loop { rec .ready none with state:=.busy })).heap[w.heap.size+1]?=some (.loop { rec .ready none with state:=.busy }):=World.putObj_heap_same hlt
   have hk2:(W.putObj (w.heap.size+1) (.loop { rec .ready none with state:=.busy })).heap[w.heap.size]?=some (.deferred (some [])):=(World.putObj_heap_other (by omega)).trans hk
   have hb2:Box Bn (W.putObj (w.heap.size+1) (.loop { rec .ready none with state:=.busy })) s:=hB.of (World.putObj_heap_other (by omega))
   refine wpIn_mono (hbody _ pre x _ s (hput _ _ _ _ _ hi (by omega) hl rfl) hb2 hlen) ?_
   rintro e a3 W3 hp
   cases e with
   | normal =>
    obtain ⟨hk3,hkp3,hi3⟩:=hp
    have hl3:=hk3.same _ _ (by omega) hl2 rfl
    have hr:=run_endRound (P:=Tryz.prog) none hl3
    rw [hrec] at hr
    have hl4:=World.putObj_heap_same (o:=.loop (rec .ready none)) (Array.getElem?_eq_some_iff.1 hl3).1
    refine ⟨_,_,hr,rfl,⟨hput _ _ _ _ _ hi3 (by omega) hl3 rfl,?_,?_⟩,hkp3.of (World.putObj_heap_other (by omega))⟩
    ·rw [hrec] at hl4 ⊢; exact hl4
    ·exact (World.putObj_heap_other (by omega)).trans (hk3.same _ _ (Nat.le_refl _) hk2 rfl)
   | ret=>exact hp.2.elim
   | exit id=>exact hp.2.elim
   | goto t=>exact hp.2.elim
   | panic ch=>exact hp.elim
   | outgrown=>exact hp.elim
  ·rintro e W2 ⟨⟨v,rfl⟩,hi,hl,hk⟩
   exact ⟨none,_,by have:=run_endLoop (P:=Tryz.prog) hl (by rw [hrec]; simp); rw [hrec] at this; exact this,hdone _ _ (Nat.le_refl _) (hput _ _ _ _ _ hi (by omega) hl rfl) ((World.putObj_heap_other (by omega)).trans hk)⟩
theorem wordsIn (n:Nat) (s:List UInt8) (w:World):CallsIn .wide n Tryz.prog 56 #[.string ⟨s.toArray⟩] w fun e w'=>e=.returned (.func (.func 82) #[] #[.pointer (some ⟨w.heap.size,0,none⟩)])∧w'=w.alloc (.cells #[.string ⟨s.toArray⟩] 9):=by
 refine callsIn_of_wp Tryz.func56 rfl trivial ?_ rfl
 simp only [Tryz.ntmps56,List.size_toArray,List.length_cons,List.length_nil,Nat.reduceAdd,Nat.reduceSub,Array.replicate_succ,Array.replicate_zero,List.push_toArray,List.append_toArray,List.nil_append,List.cons_append]
 gi_wp2
 go_ret
 exact ⟨rfl,rfl⟩
theorem infoStrW:(Tryz.prog.info? 9).map (fun i=>(i.zero,i.size,i.bytes))=some (some (.string ⟨#[]⟩),1,16):=by kernel_rfl
theorem zS7 {W:World} {b b':Nat} {e:TypeId} {size:Nat} {v:Value} {k:Nat} {xs:List Value} (h:W.ownsRow b e size v k xs) (hb:b'≤b):W.ownsRow b' e size v k xs:=
 ⟨h.1,h.2.imp id fun ⟨g,cap,cur,h1,h2,h3⟩=>⟨g,cap,cur,h1,Nat.le_trans hb h2,h3⟩⟩
def encW (x:List UInt8):Value:=.string ⟨x.toArray⟩
theorem zP7:∀ (k:Nat) (l:List UInt8),(wordsF k l).length≤l.length:=by
 intro k
 induction k with
 | zero=>intro l; exact Nat.zero_le _
 | succ k ih =>
  intro l
  rw [zI7]
  split
  ·exact Nat.zero_le _
  ·rename_i hne
   have h1:=(List.dropWhile_sublist (p:=(· == (32:UInt8))) (l:=l)).length_le
   have h2:=(List.dropWhile_sublist (p:=(· != (32:UInt8))) (l:=l.dropWhile (· == 32))).length_le
   have h3:0 < (l.dropWhile (· == 32)).length:=List.length_pos_iff.2 hne
   have h4:=ih (((l.dropWhile (· == 32)).dropWhile (· != 32)).drop 1)
   rw [List.length_drop] at h4
   by_cases h5:((l.dropWhile (· == 32)).dropWhile (· != 32)).length=0
   ·rw [List.length_cons]; omega
   ·rw [List.length_cons]; omega
def SplitI (n₀:Nat) (w:World) (pre:List (List UInt8)) (W:World):Prop:=
 (∃ v,Boxed W n₀ 33 v∧W.ownsRow (n₀+2) 9 1 v pre.length (pre.map encW))∧Below n₀ w W∧n₀+2≤W.heap.size
theorem SplitI.new {n₀:Nat} {w:World} {pre:List (List UInt8)} {W W':World} (h:SplitI n₀ w pre W) (hsz:W.heap.size≤W'.heap.size)
  (hk:∀ k,k < W.heap.size→k ≠ n₀+1→∀ c t fr,W.heap[k]?=some (.cells c t fr)→W'.heap[k]?=some (.cells c t fr)) (hb:Below n₀ w W'):SplitI n₀ w pre W':=by
 obtain ⟨⟨v,hv,hr⟩,hB,hs⟩:=h
 refine ⟨⟨v,?_,?_⟩,hb,by omega⟩
 ·exact hk _ (by omega) (by omega) _ _ _ hv
 ·refine ⟨hr.1,hr.2.imp id ?_⟩
  rintro ⟨g,cap,cur,h1,h2,h3,h4⟩
  exact ⟨g,cap,cur,h1,h2,hk _ (Array.getElem?_eq_some_iff.1 h3).1 (by omega) _ _ _ h3,h4⟩
theorem zY9 {w:World} {b o:Nat} {v:Value} (h:w.cell? ⟨b,o,none⟩=some v):b < w.heap.size:=by
 refine Decidable.byContradiction fun hc=>?_
 simp [World.cell?,show w.heap[b]?=none from Array.getElem?_eq_none (by omega)] at h
set_option maxRecDepth 100000 in
set_option maxHeartbeats 1000000 in
theorem split_any (s:List UInt8) (hs:s.length≤100000) (m:Int) (w:World) (hm:w.cell? ⟨0,0,none⟩=some (.int .i64 m)) :
  Calls Tryz.prog 39 #[.string ⟨s.toArray⟩] w fun e W'=>∃ v,e=.returned v ∧
   W'.ownsRow w.heap.size 9 1 v (wordsF (s.length+1) s).length ((wordsF (s.length+1) s).map encW)∧Below w.heap.size w W':=by
 have h7:=zY9 hm
 obtain ⟨i0,hi,hz0,hz1,hz2⟩:=info_parts infoStrW
 have hwl:=zP7 (s.length+1) s
 refine (callsIn_wide (n:=5)).1 ?_
 refine callsIn_of_wp_marks Tryz.func39 rfl trivial ?_ rfl
 simp only [Tryz.ntmps39,List.size_toArray,List.length_cons,List.length_nil,Nat.reduceAdd,Nat.reduceSub,Array.replicate_succ,Array.replicate_zero,List.push_toArray,List.append_toArray,List.nil_append,List.cons_append]
 gi_wp2
 refine ⟨trivial,?_⟩
 refine (wordsIn _ s _).mono ?_
 rintro e w' ⟨rfl,rfl⟩
 gi_wp2
 have bO:=Boxed.new w 33 (.slice none 0 0)
 have bN:=Boxed.new (w.alloc (.cells #[.slice none 0 0] 33)) 9 (.string ⟨s.toArray⟩)
 rw [World.size_alloc] at bN
 have hB0:Below w.heap.size w ((w.alloc (.cells #[.slice none 0 0] 33)).alloc (.cells #[.string ⟨s.toArray⟩] 9)):=((Below.refl _ w).alloc (Nat.le_refl _) _).alloc (by simp) _
 refine range_words 5 (by omega) (w.heap.size+1) (by simp) m s rfl rfl ⟨hs,bN.cell,bN.frozen⟩ (SplitI w.heap.size w) ?hset ?hdrew ?hmax ?halloc ?hput ⟨⟨_,bO.alloc _,World.ownsRow_nil _ _ _ _⟩,hB0,by simp⟩
  (fun x=>{ tmps:=#[.string ⟨s.toArray⟩,undef,.slice none 0 0,.pointer (some ⟨w.heap.size,0,none⟩),.string ⟨x.toArray⟩,.string ⟨s.toArray⟩,.func (.func 82) #[] #[.pointer (some ⟨w.heap.size+1,0,none⟩)],.string ⟨x.toArray⟩,undef,undef,undef,undef,undef],defers:=[] }) ?assign ?body ?done
 case hset =>
  intro pre W v h
  exact h.new (by simp) (fun k _ h1 c t fr h2=>(Below.heap_setCell _ _ _ _ h1).trans h2) (h.2.1.setCell (by show _≤w.heap.size+1; omega) _)
 case hdrew =>
  intro pre W k h
  exact ⟨h.1,⟨h.2.1.os,h.2.1.tape,h.2.1.output,h.2.1.size,h.2.1.block⟩,h.2.2⟩
 case hmax =>
  intro pre W h
  exact (h.2.1.cell (p:=⟨0,0,none⟩) h7).trans hm
 case halloc =>
  intro pre W o h
  exact h.new (by simp) (fun k hk _ c t fr h2=>(Below.heap_alloc _ _ _ hk).trans h2) (h.2.1.alloc (by have:=h.2.2; omega) _)
 case hput =>
  intro pre W l o o' h hl ho hc
  have hl':w.heap.size+2≤l:=by simpa using hl
  refine h.new (by simp) (fun k hk _ c t fr h2=>(World.putObj_heap_other ?_).trans h2) (h.2.1.trans ((Below.refl _ W).grown (grownBy_putObj' W l o') (by have:=h.2.2; omega) (fun k e=>by cases e; omega)))
  rintro rfl; rw [h2] at ho; cases ho; cases hc
 case assign =>
  intro l x W K hK
  gi_wp2
  exact hK
 case body =>
  rintro l pre x W s' ⟨⟨v,hv,hrow⟩,hB,hsz⟩ hbox hlen
  have hc:=hv.cell
  gi_wp2_with (gi_at_builtin; refine wpListIn_append_own _ rfl _ _ 33 rfl (w.heap.size+2) 9 i0 _ 1 16 Tryz.underlying33 hi hz0 hz1 hz2 rfl (by decide) _ _ _ rfl (hrow.alloc _) ⟨W.heap.size,0,none⟩ 1 1 [.string ⟨x.toArray⟩] rfl rfl (cell_one_new _ _ _) (by simp [Value.oneCell']) (by unfold maxLen; omega) (by omega) (by simp; omega) ?_; intro v' w1 hown' hgrow _; obtain ⟨g',cap',rfl⟩:=ownsRow_succ hown'; obtain ⟨hv1,hv2,hr2,hk2,hb2⟩:=hv.appended (by decide) (zS7 hrow (by omega)) hB.size (Nat.le_refl _) (zS7 hown' (by omega)) hgrow; have hc1:=hv1.cell; have hf1:=hv1.frozen)
  have hg':=(hown'.lt g' rfl).1
  have hvb:∀ k,v.ownBlock=some k→w.heap.size+2≤k:=fun k e=>(hrow.lt k e).1
  have hown2:=hown'.kept (grownBy_setCell' w1 w.heap.size (.slice (some ⟨g',0,none⟩) (pre.length+1) cap')) (.inr (by intro e; have e2:g'=w.heap.size:=Option.some.inj e; omega))
  refine ⟨hk2.from _,hbox.of ?_,⟨_,hv2,?_⟩,hB.trans hb2,?_⟩
  ·refine (Below.heap_setCell _ _ _ _ (by show _ ≠ w.heap.size; omega)).trans ?_
   refine (hgrow.block _ (by simp; omega) (fun e=>?_)).trans (Below.heap_alloc _ _ _ (by omega))
   have:=hvb _ e.symm; omega
  ·rw [List.length_append,List.length_singleton,List.map_append]; exact hown2
  ·have:=hb2.size; omega
 case done =>
  rintro D W hD ⟨⟨v,hv,hrow⟩,hB,hsz⟩ hK
  have hc:=hv.cell
  gi_wp2
  refine ⟨by simp,.inl ⟨_,_,rfl,run_takeDeferred hK,?_⟩⟩
  exact ⟨_,results_tmp rfl _ _ _,v,rfl,ownsRow_putObj (zS7 hrow (by omega)) _ hK rfl,hB.trans (belowK_b (w:=w) (Nat.le_refl _) W D _ _ (by simp at hD; omega) hK rfl rfl)⟩
end Go.Proofs.YtcbmlanpianclaaGreatDoor
/- A call that hands back memory of its own, as a call of a walk: its block becomes an entry. -/
namespace Go.Proofs.YtcbmlanpianclaaGreatDoor
set_option linter.unusedSimpArgs false
set_option linter.unusedVariables false
open Go.RowKit
def Made (w w':World) (e:EN) (vals:List Value) (r:RE):Prop:=
 r.pre.length=e.ty.2.1∧e.ty.2.2 r∧(r.nl=none→w.heap.size≤r.blk∧w'.heap[r.blk]?=some (.cells (r.pre++vals++r.post).toArray e.ty.1 (0,0)))∧(r.nl ≠ none→e.cells=[])∧(r.nl ≠ none→w.heap.size≤r.blk)
theorem zZ2 {C:Cx} {nE N:Nat} {mk:Nat→Prop} {en en':List EN} {f:FuncId} {xs:List SV} {v:SV} {e:EN} {vals:List Value} (hent:∀ args w,(callFunc f args).run C.P w=.ok (.enter f args) w)
  (hmk:∀ q,mk q ↔ q=N) (hn0:C.n0≤N) (hN:zD en' N=some e) (hq:∀ q,q ≠ N→zD en' q=zD en q) (hl:e.ty.1 ≠ zC9) (hcells:∀ ρ,zB8 ρ e.cells=vals) (hwf:∀ pr,wfs pr e.cells) (hvw:∀ pr:Nat→Prop,pr N→v.wf pr)
  (h:∀ ρ pr w,Hw C ρ pr en w→(∀ c,c < nE→pr c)→(∀ x∈xs,x.wf pr)→Calls C.P f (xs.map (SV.den ρ)).toArray w fun z w'=>∃ r,Made w w' e vals r∧(∀ ρ':Nat→RE,(∀ c,pr c→ρ' c=ρ c)→ρ' N=r→z=.returned (v.den ρ'))∧Below w.heap.size w w') :
  zJ0 C nE mk en en' f xs v:=by
 refine ⟨hent,?_⟩
 intro ρ pr w hpr hmn hw hex hx
 refine (h ρ pr w hw hpr hx).mono ?_
 rintro z w' ⟨r,⟨k1,k2,k3,k4,k6⟩,k5,hb⟩
 have lN:¬ pr N:=hmn _ ((hmk _).2 rfl)
 have hsame:(fun q=>pr q∨mk q)=fun q=>pr q∨q=N:=funext fun q=>propext (or_congr_right (hmk q))
 have hup:zK7 ρ N r N=r:=if_pos rfl
 obtain ⟨g1,g2⟩:=Hw.rebuild (C:=C) (ρ:=ρ) (pr:=pr) (en:=en) (en':=en') (w:=w) (w':=w') (N:=N) (e:=e) (T:=Non) r hw lN hn0 (Upd.of_below hb) (fun _ _ h=>h.elim)
  (fun q hpq=>.inl ⟨hq q (fun e=>lN (e ▸ hpq)),fun _ h=>h⟩) hN
  ⟨fun hh=>by rw [hup] at hh ⊢; rw [hcells]; exact (k3 hh.2).2,hwf _,fun hd=>absurd hd hl,fun hh=>by rw [hup] at hh; exact k4 hh⟩ ⟨k1,k2⟩
  (fun hnl q hpq hd=>by
   rw [hq q (fun e=>lN (e ▸ hpq))] at hd
   have:=hw.lt hpq hd
   have:=(k3 hnl).1
   omega)
  (fun _=>.inr (by
   have:=hw.up.size
   by_cases hnl:r.nl=none
   ·have:=(k3 hnl).1; omega
   ·have:=k6 hnl; omega))
 rw [hsame]
 exact ⟨zK7 ρ N r,g1,k5 _ g1 hup,hvw _ (.inr rfl),g2,fun q hq'=>by rw [(hmk q).1 hq',hN]; exact fun h=>nomatch h⟩
theorem mkC_no {nE j:Nat} {crs:List Cr} (h:Cr.h j ∉ crs) (q:Nat):¬ mkC nE crs j q:=fun ⟨_,h2⟩=>h (List.mem_of_getElem? h2)
theorem zX0 {nE j:Nat} {rest:List Cr} (h:Cr.h j ∉ rest) (q:Nat):mkC nE (.h j :: rest) j q ↔ q=nE:=by
 constructor
 ·rintro ⟨h1,h2⟩
  cases hk:q - nE with
  | zero=>omega
  | succ k =>
   rw [hk,List.getElem?_cons_succ] at h2
   exact absurd (List.mem_of_getElem? h2) h
 ·rintro rfl
  exact ⟨Nat.le_refl _,by rw [Nat.sub_self]; rfl⟩
theorem soft_h {C:Cx} {nE:Nat} {mk:Nat→Prop} {en:List EN} {f:FuncId} {xs:List SV} {v:SV} (hent:∀ args w,(callFunc f args).run C.P w=.ok (.enter f args) w) (hmk:∀ q,¬ mk q)
  (h:∀ ρ pr w,Hw C ρ pr en w→(∀ c,c < nE→pr c)→(∀ x∈xs,x.wf pr)→v.wf pr∧Calls C.P f (xs.map (SV.den ρ)).toArray w fun z w'=>z=.returned (v.den ρ)∧Below w.heap.size w w'):zJ0 C nE mk en en f xs v:=by
 refine ⟨hent,?_⟩
 intro ρ pr w hpr hmn hw hex hx
 obtain ⟨hv,hc⟩:=h ρ pr w hw hpr hx
 refine hc.mono ?_
 rintro z w' ⟨rfl,hb⟩
 exact ⟨ρ,fun _ _=>rfl,rfl,SV.wf_mono hv (fun _ h=>.inl h),(hw.same hb).iff (fun q=>⟨fun h=>h.resolve_right (hmk q),.inl⟩),fun q hq=>absurd hq (hmk q)⟩
end Go.Proofs.YtcbmlanpianclaaGreatDoor
