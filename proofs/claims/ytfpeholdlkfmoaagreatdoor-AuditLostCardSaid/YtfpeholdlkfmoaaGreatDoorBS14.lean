/- (from XRNums) The reference's reader of numbers: a text says one number or none. -/
import Derived.Test.YtfpeholdlkfmoaaGreatDoorBS00
import Derived.Test.YtfpeholdlkfmoaaGreatDoorBS09
import Derived.Test.YtfpeholdlkfmoaaGreatDoorBS13
import Derived.Test.YtfpeholdlkfmoaaGreatDoorBS12
import Derived.Test.YtfpeholdlkfmoaaGreatDoorBS10
import Derived.Test.YtfpeholdlkfmoaaGreatDoorBS04
namespace Go.Proofs.YtfpeholdlkfmoaaGreatDoor
set_option linter.unusedSimpArgs false
set_option linter.unusedVariables false
open Go.Shelf Go.RowKit
end Go.Proofs.YtfpeholdlkfmoaaGreatDoor
/- The reference's text of a number. -/
namespace Go.Proofs.YtfpeholdlkfmoaaGreatDoor
set_option linter.unusedSimpArgs false
set_option linter.unusedVariables false
open Go.Shelf Go.RowKit Go.Sort Go.Lib
end Go.Proofs.YtfpeholdlkfmoaaGreatDoor
/- The reference's sums. -/
namespace Go.Proofs.YtfpeholdlkfmoaaGreatDoor
set_option linter.unusedSimpArgs false
set_option linter.unusedVariables false
open Go.Shelf Go.RowKit
end Go.Proofs.YtfpeholdlkfmoaaGreatDoor
/- The document's math, walked. Printed by gen_refw8.py. -/
namespace Go.Proofs.YtfpeholdlkfmoaaGreatDoor
set_option linter.unusedSimpArgs false
set_option linter.unusedVariables false
set_option maxHeartbeats 8000000
open Go.RowKit
set_option maxRecDepth 100000
end Go.Proofs.YtfpeholdlkfmoaaGreatDoor
/- The document's Key and may, walked. Printed by gen_refw9.py. -/
namespace Go.Proofs.YtfpeholdlkfmoaaGreatDoor
set_option linter.unusedSimpArgs false
set_option linter.unusedVariables false
set_option maxHeartbeats 8000000
open Go.RowKit
set_option maxRecDepth 100000
end Go.Proofs.YtfpeholdlkfmoaaGreatDoor
/- ambryref16.Same of two states that are the same, at raw places. -/
namespace Go.Proofs.YtfpeholdlkfmoaaGreatDoor
set_option linter.unusedSimpArgs false
set_option linter.unusedVariables false
set_option maxHeartbeats 8000000
open Go.RowKit
def enSr (a b:Option Addr) (n c d:Nat) (cas flush:Int):List EN:=[⟨(25,0,whole),[.v (.slice a n c),.i .u64 cas,.i .i64 flush],true⟩,⟨(25,0,whole),[.v (.slice b n d),.i .u64 cas,.i .i64 flush],true⟩]
def slSr (i:Nat):List (Nat × SV):=[(5,.c (.i .i64 (i:Int))),(3,.c (.p 1 0)),(2,.c (.p 0 0))]
set_option maxRecDepth 100000
theorem same_raw (xs:List It) (cas flush:Int) (a b:Option Addr) (c d:Nat) (w:World) (ha:RawI w a xs) (hb:RawI w b xs) (hn:xs.length≤100000000) :
  Calls Tryz.prog 13 #[.agg #[.slice a xs.length c,.int .u64 cas,.int .i64 flush],.agg #[.slice b xs.length d,.int .u64 cas,.int .i64 flush]] w fun e w'=>e=.returned (.bool true)∧Below w.heap.size w w':=by
 obtain ⟨n,hnn⟩:∃ n,n=xs.length:=⟨_,rfl⟩
 rw [← hnn] at hn ⊢
 refine zB8 Tryz.func13 rfl kp13 (S:=Non) (ρ:=fun _=>⟨0,[],[],0,none⟩) (en:=[]) [.g [.v (.slice a n c),.i .u64 cas,.i .i64 flush],.g [.v (.slice b n d),.i .u64 cas,.i .i64 flush]] Tryz.ntmps13 (At.nil _ _ _) (by simp [SV.wf,SC.wf,wfs]) (by simp) ?_
 intro C hC hP hk
 have hctr:=zE6 hP
 have hn0:C.n0=0:=by rw [hC]; rfl
 have hS:C.S=Non:=by rw [hC]; rfl
 have hw0:C.w0=w:=by rw [hC]; rfl
 (refine zB0 hctr (rs:=res13) true 300 _ _ _ ?_; simp (maxSteps:=1000000) only [VT,jg,jZ,qH,qI,qK,qN,qO,qP,qR,qS,qV,qe,qp,q0t,qu,qv,ev,qy,qz,zD,zF,zG,zI,zJ,zK,zM,↓reduceIte,reduceCtorEq,Value.oneCell',Nat.reduceEqDiff,Nat.reduceLT,zP,zQ,zR,zW,zt,zu,hP,hk,res13,kp13,bne_self_eq_false])
 refine Run_loopD (slSr) (fun _=>enSr a b n c d cas flush) (fun i=>n+1 - i) 0 (zH6 ⟨rfl,rfl,rfl,trivial⟩) rfl ?_
 intro i D dP dS dw dn dk _ hX hJ
 have hP0:=hP; have hk1:=hk; have hctr0:=hctr; have hn00:=hn0
 have hP:D.P=Tryz.prog:=by rw [dP]; exact hP0
 have hk:D.kp=kp13:=by rw [dk]; exact hk1
 have hctr:=zE6 hP
 have hn0:D.n0=0:=by rw [dn]; exact hn00
 have hS':D.S=Non:=by rw [dS]; exact hS
 have hw':D.w0=w:=by rw [dw]; exact hw0
 obtain ⟨j,hj⟩:∃ j:Int,j=(i:Int):=⟨_,rfl⟩
 show Run D _ _ [(5,.c (.i .i64 (i:Int))),(3,.c (.p 1 0)),(2,.c (.p 0 0))] [⟨(25,0,whole),[.v (.slice a n c),.i .u64 cas,.i .i64 flush],true⟩,⟨(25,0,whole),[.v (.slice b n d),.i .u64 cas,.i .i64 flush],true⟩]
 rw [← hj]
 by_cases hjn:j < (n:Int)
 ·have c1:decide (j < (n:Int))=true:=decide_eq_true hjn
  have p1:0≤j:=by omega
  have p3:IntKind.i64.wrap (j+1)=j+1:=IntWalk.i64_in _ (by omega)
  obtain ⟨x,hx⟩:∃ x,xs[i]?=some x:=⟨xs[i]'(by omega),List.getElem?_eq_getElem _⟩
  obtain ⟨g,o,rfl,hg,hc⟩:=ha i x hx
  obtain ⟨g2,o2,rfl,hg2,hc2⟩:=hb i x hx
  have hji:j.toNat=i:=by omega
  have hrA:D.rd g (o+j.toNat * 8) 8=some (itS x):=by rw [hji]; exact (raw_rd hS' hw' hg hc).1
  have hrB:D.rd g2 (o2+j.toNat * 8) 8=some (itS x):=by rw [hji]; exact (raw_rd hS' hw' hg2 hc2).1
  (refine zB0 hctr (rs:=res13) true 300 _ _ _ ?_; simp (maxSteps:=1000000) only [VT,jf,qH,qI,qK,qN,qO,qP,qR,qS,qV,qe,ev,qy,zD,zI,zJ,zM,↓reduceIte,reduceCtorEq,Nat.reduceEqDiff,Nat.reduceLT,zP,zQ,zR,zV,zu,hP,hk,res13,kp13,c1])
  (refine zG1 hctr (by rw [hP]; rfl) rs13_6 [] (ensure_type_of% (Cmp.of (by simp (maxSteps := 1000000) only [qK, qL, qM, qO, qP, qR, qV, qX, ev, qy, zD, zM, ↓reduceIte, Nat.reduceEqDiff, zT, zV, zu, zx, cE, jA, jC, jD, jN, hP, hrA, hrB, p1, hjn, itS, steq_it, beq_self_eq_true]; rfl)) "" Cmp.mk) (by kernel_rfl) (by kernel_rfl) (by first | exact zA2 _ | kernel_rfl) (by kernel_rfl) (by rfl) (by rfl) (by first | exact zA0 _ | rfl) (by rfl) ?_ ?_; rotate_left; refine zB0 hctr (rs := res13) true 300 _ _ _ ?_; simp (maxSteps := 1000000) only [VT, jg, qH, qI, qK, qO, qR, qS, ev, qy, qz, zG, zI, zJ, ↓reduceIte, reduceCtorEq, Nat.reduceEqDiff, Nat.reduceAdd, Nat.reduceLT, zP, zQ, zR, zW, zt, jN, jO, hk, res13, kp13, p3]; rotate_left; simp (maxSteps := 1000000) only [qK, qL, qM, qO, qP, qR, qV, qX, ev, qy, zD, zM, ↓reduceIte, Nat.reduceEqDiff, zT, zV, zn, zt, zu, zx, jD, jN, jP, jQ, jR, jS, jT, hP, hrA, hrB, p1, hjn, itS, steq_it, beq_self_eq_true])
  refine Run_keep (f:=fun c=>c) (enK:=enSr (some ⟨g,o,none⟩) (some ⟨g2,o2,none⟩) n c d cas flush) (slK:=slSr (i+1)) hn0 (fun _ _ _ _ h=>h) ?_ ?_ (hJ (i+1) _ (by omega) (fun d v h=>h))
  ·refine ⟨⟨_,rfl,fun ρ=>rfl,?_⟩,⟨_,rfl,fun ρ=>rfl,?_⟩,trivial⟩ <;> simp [wfs,SC.wf,enSr]
  ·refine ⟨⟨?_,_,rfl,fun ρ=>?_⟩,⟨?_,_,rfl,fun ρ=>rfl⟩,⟨?_,_,rfl,fun ρ=>rfl⟩,trivial⟩
   case refine_2=>show Value.int .i64 _=Value.int .i64 _; rw [hj]; rfl
   all_goals simp [SV.wf,SC.wf,enSr]
 ·have c1:decide (j < (n:Int))=false:=decide_eq_false hjn
  (refine zB0 hctr (rs:=res13) true 300 _ _ _ ?_; simp (maxSteps:=1000000) only [VT,jg,qH,qI,qK,qN,qO,qP,qR,qS,qV,qe,ev,qy,zD,zH,zI,zJ,zM,↓reduceIte,reduceCtorEq,Nat.reduceEqDiff,Nat.reduceLT,zP,zQ,zR,zW,zu,hP,hk,res13,kp13,c1])
  refine hX rfl rfl ?_
  have hP:=hP0; have hk:=hk1; have hctr:=hctr0; have hn0:=hn00
  (refine zB0 hctr (rs:=res13) true 300 _ _ _ ?_; simp (maxSteps:=1000000) only [VT,qE,qF,qG,qH,qI,qK,qO,ev,qy,qz,zI,zJ,TE.sv,↓reduceIte,reduceCtorEq,Nat.reduceEqDiff,Nat.reduceLT,zP,zR,hk,res13,kp13])
  exact lawFin hC hres13 rfl
theorem zS9 {base:Nat} {w:World} {v:Value} {xs:List It} (h:OwnI base w v xs):∃ a c,v=.slice a xs.length c∧RawI w a xs:=by
 rcases h with ⟨p,rfl,rfl⟩ | ⟨g,cap,R,rfl,_,_,hI⟩
 ·exact ⟨p,0,rfl,fun k x hx=>by simp at hx⟩
 ·refine ⟨_,_,rfl,fun k x hx=>⟨g,0,rfl,hI.lt,fun j v hv=>?_⟩⟩
  have hj:j < 8:=(List.getElem?_eq_some_iff.1 hv).1
  rw [Nat.zero_add,← hv]
  exact hI.at hx j hj
theorem RawI.below {w w':World} {a:Option Addr} {xs:List It} (h:RawI w a xs) (hb:Below w.heap.size w w'):RawI w' a xs:=fun k x hx=>by
 obtain ⟨g,o,e,hg,hc⟩:=h k x hx
 refine ⟨g,o,e,Nat.lt_of_lt_of_le hg hb.size,fun j v hv=>?_⟩
 rw [← hc j v hv]
 unfold World.cell?
 rw [hb.block g hg]
end Go.Proofs.YtfpeholdlkfmoaaGreatDoor
/- What the document's Apply calls, on a state whose items are a row; its ends. -/
namespace Go.Proofs.YtfpeholdlkfmoaaGreatDoor
set_option linter.unusedSimpArgs false
set_option linter.unusedVariables false
open Go.RowKit
set_option maxRecDepth 100000
section
variable {C:Cx} {nt:Nat} {sl:List (Nat × SV)} {en:List EN} {k:List KI} {dst:Option Nat} {ty:TypeId} {pos:String} {af:Array Edge} {all r:List Oper} {args:Array Operand} {tys:Array TypeId}
end
end Go.Proofs.YtfpeholdlkfmoaaGreatDoor
/- A walk: values told in another way, where a fact on where entries lie makes them the same; a row as a slice with a room that is a letter. No program in sight. -/
namespace Go.Proofs.YtfpeholdlkfmoaaGreatDoor
set_option linter.unusedSimpArgs false
set_option linter.unusedVariables false
open Go.RowKit
section
variable {C:Cx} {nt:Nat} {sl:List (Nat × SV)} {en:List EN} {k:List KI}
end
end Go.Proofs.YtfpeholdlkfmoaaGreatDoor
