/- ambrylaw24.shown, walked. Printed by gen_aushown.py. -/
import Derived.Test.YtfpeholdlkfmoaaGreatDoorBS18
import Derived.Test.YtfpeholdlkfmoaaGreatDoorBS10
import Derived.Test.YtfpeholdlkfmoaaGreatDoorBS12
namespace Go.Proofs.YtfpeholdlkfmoaaGreatDoor
set_option linter.unusedSimpArgs false
set_option linter.unusedVariables false
set_option maxHeartbeats 8000000
open Go.RowKit
set_option maxRecDepth 100000
def asC1:Cd:=⟨2,0,[107],[118],0,0,false,0,false,0,0,false,false,0,-1,false⟩
def asX1:It:=⟨[107],0,[118],0,1,0,false,false⟩
def asA1:An:=⟨2,asX1,0,false,false,false⟩
def asE0:Ev:=⟨1,5,0,1,0,asC1,asA1,[]⟩
def asE1:Ev:=⟨2,5,0,0,0,Cd.zero,An.zero,[[107]]⟩
def asE2:Ev:=⟨1,6,0,2,0,getC [107],zA7 5,[]⟩
theorem as1:zB0 St.zero 5 asC1 99=(⟨[asX1],1,0⟩,asA1):=by
 rw [show St.zero=none' 0 from rfl,app_nil ⟨by decide,by decide,by decide⟩]
 simp [doF,asC1,zA8,zE0,zK8,zJ3,none',zF0,itF,asX1,asA1,It.zero,zB4,wrap64]
theorem as_r1:(zH8 (au0 99) [asE0] 0).1.X=⟨[asX1],1,0⟩:=by rfl
theorem as_r3:(zH8 (au0 99) [asE0,asE1,asE2] 0).2=-1:=by rfl
theorem as_r2:(zH8 (au0 99) [asE0,asE2] 0).2=1:=by rfl
theorem as_r4:(zH8 (au0 99) [asE0,asE1,asE1] 0).2=2:=by rfl
structure AsI (w0:World) (m:Nat × Nat × Nat × Nat) (w:World):Prop where
 up:Upd Non w0 w
 el:∃ g,RawEv w (some ⟨m.1,0,none⟩) [⟨asE0,none,0,0⟩,⟨asE1,some ⟨g,0,none⟩,1,1⟩,⟨asE2,none,0,0⟩]
 em:RawEv w (some ⟨m.2.1,0,none⟩) [⟨asE0,none,0,0⟩,⟨asE2,none,0,0⟩]
 eN:∃ g,RawEv w (some ⟨m.2.2.1,0,none⟩) [⟨asE0,none,0,0⟩,⟨asE1,some ⟨g,0,none⟩,1,1⟩,⟨asE1,some ⟨g,0,none⟩,1,1⟩]
 ne:m.1 ≠ m.2.2.1
 lm:m.1 ≠ m.2.1
 mn:m.2.1 ≠ m.2.2.1
 s:∃ a c,w.heap[m.2.2.2]?=some (.cells #[.slice a 1 c,.int .u64 1,.int .i64 0] 25 (0,0))∧RawI w a [asX1]
theorem AsI.upd {w0 w w':World} {m:Nat × Nat × Nat × Nat} (h:AsI w0 m w) (hu:Upd Non w w'):AsI w0 m w':=by
 obtain ⟨h1,⟨g,h2⟩,h3,⟨g',h4⟩,h5,h6,h7,a,c,h8,h9⟩:=h
 exact ⟨h1.trans hu (fun _ _ h=>h),⟨g,h2.upd hu⟩,h3.upd hu,⟨g',h4.upd hu⟩,h5,h6,h7,a,c,by rw [hu.block _ (Array.getElem?_eq_some_iff.1 h8).1 (fun h=>h)]; exact h8,h9.below hu.to_below⟩
def slAs (m:Nat × Nat × Nat × Nat):List (Nat × SV):=[(7,.c (.v (.slice (some ⟨m.2.2.1,0,none⟩) 3 3))),(6,.c (.v (.slice (some ⟨m.2.1,0,none⟩) 2 2))),(5,.c (.v (.slice (some ⟨m.1,0,none⟩) 3 3))),(2,.c (.v (.pointer (some ⟨m.2.2.2,0,none⟩)))),(0,.c (.b false))]
theorem as_cd1:CdOk asC1:=⟨by decide,by decide,by decide,by decide,by decide,by decide⟩
theorem as_cd2:CdOk (getC [107]):=⟨by decide,by decide,by decide,by decide,by decide,by decide⟩
theorem ashown_w {w:World} (hE:Env w):Calls Tryz.prog 14 #[] w fun e w'=>e=.returned (.bool true)∧Below w.heap.size w w':=by
 refine zB7 Tryz.func14 rfl kp14 (S:=Non) (ρ:=fun _=>⟨0,[],[],0,none⟩) (en:=[]) [] Tryz.ntmps14 (At.nil _ _ _) (by simp) (by simp) ?_
 intro C hC hP hk
 have hctr:=zE5 hP
 have hEC:=envC_of hC hE
 have hn0:C.n0=0:=by rw [hC]; rfl
 (refine zA9 hctr (rs:=res14) true 300 _ _ _ ?_; simp (maxSteps:=1000000) only [VT,qH,qI,qJ,qK,qO,qP,qf,qg,q0t,qu,qv,ev,qw,qy,qz,zA,zB,zC,zD,zE,zF,zG,zI,zJ,zK,zM,↓reduceIte,reduceCtorEq,Nat.reduceEqDiff,Nat.reduceAdd,Nat.reduceLT,zP,zQ,zR,zt,hP,hk,kp14,noC,Nat.reduceAdd])
 refine Run_apply (⟨[asX1],1,0⟩,asA1) (X:=St.zero) (c:=asC1) (now:=5) (most:=99) as1.symm hP hEC (.inl ⟨rfl,rfl⟩) (good_nil _ _) as_cd1 (by rw [hn0]; exact Nat.zero_le _) rfl (by simp) ?_
 (refine zA9 hctr (rs:=res14) true 300 _ _ _ ?_; simp (maxSteps:=1000000) only [VT,qA,qB,qC,qD,qH,qI,qJ,qK,qO,qP,qf,qg,qh,q0t,qu,qv,ev,qy,qz,zA,zB,zC,zD,zE,zF,zG,zI,zJ,TE.sv,zM,↓reduceIte,reduceCtorEq,Nat.reduceEqDiff,Nat.reduceAdd,Nat.reduceLT,Nat.reduceLeDiff,zP,zQ,zR,zT,zk,zl,zt,jN,hP,hk,kp14,Nat.reduceAdd,Nat.reduceMul,srcE,anS,asX1,asA1])
 have b0:(0:Int) < ((3:Nat):Int):=by decide
 have b1:(1:Int) < ((3:Nat):Int):=by decide
 have b2:(2:Int) < ((3:Nat):Int):=by decide
 have b3:(0:Int)≤2:=by decide
 have b4:(0:Int)≤1:=by decide
 (refine zF5 hctr (by rw [hP]; rfl) rs14_5 [] (ensure_type_of% (Cmp.of (by simp (maxSteps := 1000000) only [qA, qB, qC, qD, qK, qO, qP, qX, qg, ev, qy, qz, zA, zB, zC, zD, zF, zG, zM, ↓reduceIte, Nat.reduceEqDiff, Nat.reduceAdd, Nat.reduceLT, Nat.reduceLeDiff, zT, zk, zl, zt, zu, cE, jA, jC, jD, jF, jG, jJ, jN, hP, Int.le_refl, Nat.reduceAdd, Nat.reduceMul, b0, b2, b3, Int.toNat_zero, Int.reduceToNat, Nat.zero_mul]; rfl)) "" Cmp.mk) (by kernel_rfl) (by kernel_rfl) (by first | exact zA2 _ | kernel_rfl) (by kernel_rfl) (by rfl) (by rfl) (by first | exact zA0 _ | rfl) (by rfl) ?_ ?_; rotate_left; refine zA9 hctr (rs := res14) true 300 _ _ _ ?_; simp (maxSteps := 1000000) only [VT, zG, zI, zJ, ↓reduceIte, reduceCtorEq, Nat.reduceEqDiff, Nat.reduceAdd, zP, zQ, zt, jN, jO, hk, kp14, Nat.reduceAdd]; rotate_left; simp (maxSteps := 1000000) only [qA, qB, qC, qD, qK, qO, qP, qX, qg, ev, qy, qz, zA, zB, zC, zD, zG, zM, ↓reduceIte, Nat.reduceEqDiff, Nat.reduceAdd, Nat.reduceLT, Nat.reduceLeDiff, zT, zk, zl, zm, zn, zq, zt, zu, jD, jF, jG, jN, jP, jQ, jR, jS, jT, hP, Int.le_refl, Nat.reduceAdd, Nat.reduceMul, b0, b2, b3, Int.toNat_zero, Int.reduceToNat, Nat.zero_mul])
 (refine zF5 hctr (by rw [hP]; rfl) rs14_6 [] (ensure_type_of% (Cmp.of (by simp (maxSteps := 1000000) only [qA, qB, qC, qD, qK, qO, qP, qX, qg, ev, qy, qz, zA, zB, zC, zD, zF, zG, zM, ↓reduceIte, Nat.reduceEqDiff, Nat.reduceAdd, Nat.reduceLT, Nat.reduceLeDiff, zT, zk, zl, zt, zu, cE, jA, jC, jD, jF, jG, jJ, jN, hP, Int.le_refl, Nat.reduceAdd, Nat.reduceMul, b0, b1, b4, Int.toNat_zero, Int.toNat_one, Nat.zero_mul, Nat.one_mul]; rfl)) "" Cmp.mk) (by kernel_rfl) (by kernel_rfl) (by first | exact zA2 _ | kernel_rfl) (by kernel_rfl) (by rfl) (by rfl) (by first | exact zA0 _ | rfl) (by rfl) ?_ ?_; rotate_left; refine zA9 hctr (rs := res14) true 300 _ _ _ ?_; simp (maxSteps := 1000000) only [VT, qH, qI, qK, qO, qZ, ql, ev, qw, qy, qz, zG, zI, zJ, zM, ↓reduceIte, reduceCtorEq, Nat.reduceEqDiff, Nat.reduceAdd, Nat.reduceLT, zP, zQ, zR, zn, zt, zu, jN, jO, hP, hk, kp14, noC, Int.le_refl, Nat.reduceAdd, b4, Int.toNat_zero, Int.toNat_one, Nat.zero_mul]; rotate_left; simp (maxSteps := 1000000) only [qA, qB, qC, qD, qK, qO, qP, qX, qg, ev, qy, qz, zA, zB, zC, zD, zG, zM, ↓reduceIte, Nat.reduceEqDiff, Nat.reduceAdd, Nat.reduceLT, Nat.reduceLeDiff, zT, zk, zl, zm, zn, zq, zt, zu, jD, jF, jG, jN, jP, jQ, jR, jS, jT, hP, Int.le_refl, Nat.reduceAdd, Nat.reduceMul, b0, b1, b4, Int.toNat_zero, Int.toNat_one, Nat.zero_mul, Nat.one_mul])
 refine ⟨by decide,?_⟩
 refine Run_W (M:=Nat × Nat × Nat × Nat) (I:=fun m _ w'=>AsI w m w') (sl':=fun m=>(44,.c (.v (.slice (some ⟨m.1,0,none⟩) 1 3))) :: slAs m) (en':=fun _=>[]) ?_ ?_
 ·intro ρ' a' w' hr'
  obtain ⟨p5,b5⟩:=zO1 (c:=5) hr'.hw rfl (by simp) (by decide)
  obtain ⟨p6,b6⟩:=zO1 (c:=6) hr'.hw rfl (by simp) (by decide)
  obtain ⟨p7,b7⟩:=zO1 (c:=7) hr'.hw rfl (by simp) (by decide)
  obtain ⟨p8,b8⟩:=zO1 (c:=8) hr'.hw rfl (by simp) (by decide)
  obtain ⟨p2,b2⟩:=zO1 (c:=2) hr'.hw rfl (by simp) (by decide)
  have n68:=ent_ne (c:=6) (d:=8) hr'.hw rfl (by simp) (by decide) rfl (by simp) (by decide) (by decide)
  have n67:=ent_ne (c:=6) (d:=7) hr'.hw rfl (by simp) (by decide) rfl (by simp) (by decide) (by decide)
  have n78:=ent_ne (c:=7) (d:=8) hr'.hw rfl (by simp) (by decide) rfl (by simp) (by decide) (by decide)
  have ho:OwnI 0 w' (zF6 (ρ' 1) 1) [asX1]:=own_hp (xs:=[asX1]) hr'.hw.hp hr'.hw.ho (by decide) rfl
  obtain ⟨aX,cX,hv,hR⟩:=zW1 ho
  have hu:Upd Non w w':=by have:=hr'.hw.up; rw [hC] at this; exact this
  have e5:(⟨(ρ' 5).blk,(ρ' 5).pre.length,none⟩:Addr)=⟨(ρ' 5).blk,0,none⟩:=by rw [p5]; rfl
  refine ⟨((ρ' 6).blk,(ρ' 7).blk,(ρ' 8).blk,(ρ' 2).blk),fun i=>ρ' (([]:List Nat).getD i 0),hr'.wt.pick [] rfl (fun i hi=>nomatch hi) (fun i t cells mu hi=>by simp [zD] at hi) (fun d v' hd=>zL7 (s:=_) ?_ d v' hd),?_⟩
  ·exact ⟨⟨_,rfl,by simp only [SV.den,SC.den,p6,List.length_nil,Nat.zero_add],trivial⟩,⟨_,rfl,by simp only [SV.den,SC.den,p8,List.length_nil,Nat.zero_add],trivial⟩,⟨_,rfl,by simp only [SV.den,SC.den,p7,List.length_nil,Nat.zero_add],trivial⟩,⟨_,rfl,by simp only [SV.den,SC.den,p6,List.length_nil,Nat.zero_add],trivial⟩,⟨_,rfl,by simp only [SV.den,SC.den,p2,zG4,List.length_nil,Nat.zero_add],trivial⟩,⟨_,rfl,rfl,trivial⟩,trivial⟩
  ·have q5:(SC.sl 5 0 1 1).den ρ'=.slice (some ⟨(ρ' 5).blk,0,none⟩) 1 1:=by simp only [SC.den,p5,List.length_nil,Nat.zero_add]
   have c1:LosK w' ⟨asE1,some ⟨(ρ' 5).blk,0,none⟩,1,1⟩:=los_one (k:=[107]) (post:=[]) rfl b5
   have c0:LosK w' ⟨asE0,none,0,0⟩:=los_none rfl
   have c2:LosK w' ⟨asE2,none,0,0⟩:=los_none rfl
   refine ⟨hu,⟨(ρ' 5).blk,RawEv.of (t:=48) (m:=(0,0)) (ρ:=ρ') (post:=[]) (b6.trans ?_) fun x hx=>?_⟩,RawEv.of (t:=48) (m:=(0,0)) (ρ:=ρ') (post:=[]) (b7.trans ?_) fun x hx=>?_,⟨(ρ' 5).blk,RawEv.of (t:=48) (m:=(0,0)) (ρ:=ρ') (post:=[]) (b8.trans ?_) fun x hx=>?_⟩,n68,n67,n78,aX,cX,b2.trans ?_,hR⟩
   ·rw [List.append_nil]
    exact congrArg (fun v=>some (Obj.cells (zB9 ρ' (evC ⟨asE0,none,0,0⟩)++((zB9 ρ' (evC ⟨asE1,none,0,0⟩)).dropLast++[v]++zB9 ρ' (evC ⟨asE2,none,0,0⟩))).toArray 48 (0,0))) q5
   ·simp only [List.mem_cons,List.not_mem_nil,or_false] at hx; rcases hx with rfl | rfl | rfl <;> assumption
   ·rw [List.append_nil]; rfl
   ·simp only [List.mem_cons,List.not_mem_nil,or_false] at hx; rcases hx with rfl | rfl <;> assumption
   ·rw [List.append_nil]
    exact congrArg (fun v=>some (Obj.cells (zB9 ρ' (evC ⟨asE0,none,0,0⟩)++((zB9 ρ' (evC ⟨asE1,none,0,0⟩)).dropLast++[v]++((zB9 ρ' (evC ⟨asE1,none,0,0⟩)).dropLast++[v]))).toArray 48 (0,0))) q5
   ·simp only [List.mem_cons,List.not_mem_nil,or_false] at hx; rcases hx with rfl | rfl | rfl <;> assumption
   ·simp only [zB9,List.map_cons,List.map_nil,SC.den]; rw [hv]; rfl
 rintro m ρ1 w1 _ hI
 obtain ⟨G,hG⟩:∃ G,G=cxW C ρ1 w1 []:=⟨_,rfl⟩
 have hI:AsI w m w1:=hI
 show Run (cxW C ρ1 w1 []) _ 64 ((44,.c (.v (.slice (some ⟨m.1,0,none⟩) 1 3))) :: slAs m) []
 rw [← hG]
 have hP0:=hP; have hk0:=hk
 have hP:G.P=Tryz.prog:=by rw [hG]; exact hP0
 have hk:G.kp=kp14:=by rw [hG]; exact hk0
 have hctr:zE1 G noC:=zE5 hP
 have hCx:Ctx C Tryz.prog Tryz.f14 (fun e w'=>e=.returned (.bool true)∧Below w.heap.size w w'):=by rw [hC]; exact zL3
 have hCxG:Ctx G Tryz.prog Tryz.f14 (fun e w'=>e=.returned (.bool true)∧Below w.heap.size w w'):=by rw [hG]; exact hCx.cxW _ _ _
 have hU:∀ w',Upd G.S G.w0 w'→Upd Non w1 w':=by
  rw [hG]
  exact fun w' hu=>hu.mono fun q _ hq=>absurd hq no_wr
 refine zO2 (M:=Option Addr × Nat) (I:=fun r _ w'=>AsI w m w'∧RawI w' r.1 [asX1]) (sl':=fun r=>(45,.g [.v (.slice r.1 1 r.2),.i .u64 1,.i .i64 0]) :: slAs m) (en':=fun _=>[]) rfl (fun args w=>by rw [hP]; exact Tryz.call17 args w) ?_ ?_
 ·intro ρ2 a2 w2 hr2
  have hI2:=hI.upd (hU w2 hr2.hw.up)
  obtain ⟨g5,hl⟩:=hI2.el
  rw [hP]
  have hE2:Evs w2 (some ⟨m.1,0,none⟩) 1 [⟨asE0,none,0,0⟩] 99:=Evs.of (hl.take 1) rfl (by decide) (fun x hx=>by simp only [List.mem_cons,List.not_mem_nil,or_false] at hx; subst hx; exact as_cd1) (hE.below hI2.up.to_below)
  refine (replay_w (c:=3) hE2).mono ?_
  rintro z w3 ⟨v,rfl,ho,hu3⟩
  rw [show (zH8 (au0 99) ([(⟨asE0,none,0,0⟩:EvR)].map (·.e)) 0).1.X=⟨[asX1],1,0⟩ from as_r1] at ho ⊢
  obtain ⟨a9,c9,rfl,hR⟩:=zW1 ho
  exact ⟨(a9,c9),ρ2,_,rfl,zU9 (v0:=.g [.v (.slice a9 1 c9),.i .u64 1,.i .i64 0]) (s:=slAs m) hr2 (At.nil (fun _=>True) ρ2 w3) (by decide) (zD1 trivial) ⟨⟨_,rfl,rfl,trivial⟩,⟨_,rfl,rfl,trivial⟩,⟨_,rfl,rfl,trivial⟩,⟨_,rfl,rfl,trivial⟩,⟨_,rfl,rfl,trivial⟩,trivial⟩,hI2.upd hu3,hR⟩
 rintro ⟨a9,c9⟩ ρ3 w3 _ ⟨hI3,hR9⟩
 have hI3:AsI w m w3:=hI3
 have hR9:RawI w3 a9 [asX1]:=hR9
 obtain ⟨H,hH⟩:∃ H,H=cxW G ρ3 w3 []:=⟨_,rfl⟩
 show Run (cxW G ρ3 w3 []) _ 64 ((45,.g [.v (.slice a9 1 c9),.i .u64 1,.i .i64 0]) :: slAs m) []
 rw [← hH]
 obtain ⟨g6,g7,g8,g2⟩:=m
 have hP1:=hP; have hk1:=hk
 have hP:H.P=Tryz.prog:=by rw [hH]; exact hP1
 have hk:H.kp=kp14:=by rw [hH]; exact hk1
 have hCxH:Ctx H Tryz.prog Tryz.f14 (fun e w'=>e=.returned (.bool true)∧Below w.heap.size w w'):=by rw [hH]; exact hCxG.cxW _ _ _
 have hU3:∀ w',Upd H.S H.w0 w'→Upd Non w3 w':=by
  rw [hH]
  exact fun w' hu=>hu.mono fun q _ hq=>absurd hq no_wr
 obtain ⟨V,hV⟩:∃ V:Option Addr→Nat→Int,V=fun a _=>if a=some ⟨g6,0,none⟩ then -1 else if a=some ⟨g7,0,none⟩ then 1 else 2:=⟨_,rfl⟩
 have hctr:zE1 H (auC w3 V):=zZ7 hP hU3
 have hne:g6 ≠ g8:=hI3.ne
 have hlm:g6 ≠ g7:=hI3.lm
 have hmn:g7 ≠ g8:=hI3.mn
 have v1:V (some ⟨g6,0,none⟩) 3=-1:=by rw [hV]; simp
 have v2:V (some ⟨g7,0,none⟩) 2=1:=by rw [hV]; simp []
 have v3:V (some ⟨g8,0,none⟩) 3=2:=by rw [hV]; simp []
 have hE3:Env w3:=hE.below hI3.up.to_below
 have k1:CkP w3 V (some ⟨g6,0,none⟩) 3 99:=by
  obtain ⟨g5,hl⟩:=hI3.el
  exact ⟨_,Evs.of hl rfl (by simp) (fun x hx=>by simp only [List.mem_cons,List.not_mem_nil,or_false] at hx; rcases hx with rfl | rfl | rfl; exact as_cd1; exact cd_zero; exact as_cd2) hE3,by rw [v1]; exact as_r3⟩
 have k2:CkP w3 V (some ⟨g7,0,none⟩) 2 99:=
  ⟨_,Evs.of hI3.em rfl (by decide) (fun x hx=>by simp only [List.mem_cons,List.not_mem_nil,or_false] at hx; rcases hx with rfl | rfl; exact as_cd1; exact as_cd2) hE3,by rw [v2]; exact as_r2⟩
 have k3:CkP w3 V (some ⟨g8,0,none⟩) 3 99:=by
  obtain ⟨g5,hl⟩:=hI3.eN
  exact ⟨_,Evs.of hl rfl (by simp) (fun x hx=>by simp only [List.mem_cons,List.not_mem_nil,or_false] at hx; rcases hx with rfl | rfl | rfl; exact as_cd1; exact cd_zero; exact cd_zero) hE3,by rw [v3]; exact as_r4⟩
 obtain ⟨aX,cX,hst,hRX⟩:=hI3.s
 have k4:SrP w3 aX 1 a9 1:=⟨[asX1],hRX,hR9,rfl,rfl,by decide⟩
 have hst:w3.heap[g2]?=some (.cells #[.slice aX 1 cX,.int .u64 1,.int .i64 0] 25 (0,0)):=hst
 have hrd:H.rd g2 0 3=some [.v (.slice aX 1 cX),.i .u64 1,.i .i64 0]:=rd_of (vs:=[.slice aX 1 cX,.int .u64 1,.int .i64 0]) (fun w' hu j v hv=>by
  have hu:=hU3 w' hu
  rw [Go.cell_of_row w' _ _ _ _ (0,0) ((hu.block _ (Array.getElem?_eq_some_iff.1 hst).1 (fun h=>h)).trans hst)]
  match j with
  | 0=>exact hv
  | 1=>exact hv
  | 2=>exact hv
  | _+3=>simp at hv) rfl
 (refine zA9 hctr (rs:=res14) true 300 _ _ _ ?_; simp (maxSteps:=1000000) only [VT,jf,jZ,qE,qF,qG,qH,qI,qJ,qK,qO,qP,qR,qS,qp,q0t,qu,qv,ev,qw,qy,qz,zA,zB,zC,zD,zE,zF,zG,zI,zJ,TE.sv,zM,↓reduceIte,reduceCtorEq,Value.oneCell',Nat.reduceEqDiff,Nat.reduceAdd,Nat.reduceLT,zP,zQ,zR,zT,zV,zt,hP,hk,res14,kp14,auC,Nat.reduceAdd,slAs,rowCk,rowSr,v1,v2,v3,k1,k2,k3,k4,hrd,beq_self_eq_true])
 refine zG3 hCxH hres14 fun ρ' w' hw' _ _=>⟨rfl,?_⟩
 exact (hI3.up.trans (hU3 w' hw'.up) (fun _ _ h=>h)).to_below
end Go.Proofs.YtfpeholdlkfmoaaGreatDoor
/- AuditOne, walked. Printed by gen_auone.py. -/
namespace Go.Proofs.YtfpeholdlkfmoaaGreatDoor
set_option linter.unusedSimpArgs false
set_option linter.unusedVariables false
set_option maxHeartbeats 8000000
open Go.RowKit
set_option maxRecDepth 100000
def ashC:Ctr:=fun f _ xs=>match f with
 | 14=>(match xs with
  | []=>some (True,.c (.b true))
  | _=>none)
 | _=>none
theorem ashC_ok {C:Cx} (hP:C.P=Tryz.prog) (hE:EnvC C):zE1 C ashC:=by
 intro f en xs p v h hp ρ w hup hHp hHo hinj hwf
 unfold ashC at h
 split at h
 ·rw [hP]
  refine ⟨fun args w=>Tryz.call14 args w,?_⟩
  split at h <;> simp only [Option.some.injEq,Prod.mk.injEq,reduceCtorEq] at h
  obtain ⟨rfl,rfl⟩:=h
  exact ⟨trivial,ashown_w (hE w hup)⟩
 ·cases h
theorem CmdsAt.up {w w':World} {A:Option Addr} {n:Nat} {cs:Nat→Cd} (h:CmdsAt w A n cs) (hu:Upd Non w w'):CmdsAt w' A n cs:=fun k hk=>by
 obtain ⟨b,o,e,hb,hc,hd⟩:=h k hk
 exact ⟨b,o,e,Nat.lt_of_lt_of_le hb hu.size,fun j v hv=>by rw [hu.cell (p:=⟨b,o+k * 16+j,none⟩) hb (fun h=>h)]; exact hc j v hv,hd⟩
theorem StepsAt.up {w w':World} {a:Option Addr} {n:Nat} (h:StepsAt w a n) (hu:Upd Non w w'):StepsAt w' a n:=fun k hk=>by
 obtain ⟨g,o,z,e,hg,hc⟩:=h k hk
 exact ⟨g,o,z,e,Nat.lt_of_lt_of_le hg hu.size,by rw [hu.cell (p:=⟨g,o+k,none⟩) hg (fun h=>h)]; exact hc⟩
structure TolI (w0:World) (most:Int) (t:ToI most) (a:Option Addr) (w:World):Prop where
 i:t.i≤40
 up:Upd Non w0 w
 raw:RawEv w a t.L
theorem TolI.run {w0 w:World} {most:Int} {t:ToI most} {a:Option Addr} (_:TolI w0 most t a w):(zH8 (au0 most) (t.L.map (·.e)) 0).2=-1:=by
 obtain ⟨now',tn,hr,_⟩:=t.h.run
 rw [hr]
end Go.Proofs.YtfpeholdlkfmoaaGreatDoor
/- What is spoilt is found: the plain law. No program in sight. -/
namespace Go.Proofs.YtfpeholdlkfmoaaGreatDoor
set_option linter.unusedSimpArgs false
set_option linter.unusedVariables false
open Go.RowKit
set_option maxRecDepth 100000
theorem rDo_key {P:List UInt8→Prop} {X:St} {now:Int} {c:Cd} {most:Int} {x:It} {is:Bool} (hc:c.op ≠ 6→P c.key) (hX:∀ y∈X.items,P y.key) (hx:is=true→P x.key) {y:It} (hy:y∈(rDo X now c most x is).1.items):P y.key:=by
 have fit:∀ {st num:Int} {z:It},P z.key→y∈(rFit X most st num z).1.items→P y.key:=fun {st num z} hz hy=>by
  unfold rFit at hy
  split at hy
  ·exact hX y hy
  ·rcases zI6 hy with rfl | h
   ·exact hz
   ·exact hX y h
 unfold rDo at hy
 split at hy
 ·rename_i ho
  unfold rGet at hy
  split at hy
  ·exact hX y hy
  split at hy
  ·rcases zI6 hy with rfl | h
   ·exact hc (by omega)
   ·exact hX y h
  ·rename_i hns
   have his:is=true:=by cases is with | true=>rfl | false=>exact absurd rfl hns
   rcases zI6 hy with rfl | h
   ·exact hx his
   ·exact hX y h
 split at hy
 ·rename_i ho
  unfold zT5 at hy
  split at hy
  ·exact hX y hy
  rename_i hq
  split at hy
  ·exact hX y hy
  split at hy
  ·exact hX y hy
  refine fit ?_ hy
  unfold rNew
  have hi:c.mode=3∨c.mode=4→is=true:=fun h=>by
   cases is with
   | true=>rfl
   | false=>exact absurd (by rcases h with h | h <;> simp [h]) hq
  split
  ·rename_i h3
   exact hx (hi (.inl h3))
  split
  ·rename_i h4
   exact hx (hi (.inr h4))
  ·exact hc (by omega)
 split at hy
 ·rename_i ho
  unfold rMath at hy
  split at hy
  ·exact hX y hy
  split at hy
  ·exact fit (by exact hc (by omega)) hy
  rename_i hns
  have his:is=true:=by cases is with | true=>rfl | false=>exact absurd rfl hns
  split at hy
  ·exact hX y hy
  split at hy
  ·exact hX y hy
  ·rename_i v hv
   exact fit (z:={ x with val:=v,exp:=if c.hasExp then zX9 now c.exp else x.exp }) (hx his) hy
 split at hy
 ·split at hy
  ·exact hX y hy
  ·cases hy
 split at hy
 ·exact hX y hy
 rename_i hns
 have his:is=true:=by cases is with | true=>rfl | false=>exact absurd rfl hns
 split at hy
 ·unfold zP7 at hy
  split at hy
  ·exact hX y hy
  split at hy
  ·unfold rDrop at hy
   split at hy
   ·simp only [List.mem_append] at hy
    rcases hy with h | h
    ·exact hX y (List.mem_of_mem_take h)
    ·exact hX y (List.mem_of_mem_drop h)
   ·exact hX y hy
  ·rcases zI6 hy with rfl | h
   ·exact hx his
   ·exact hX y h
 split at hy
 ·exact hX y hy
 ·rcases zI6 hy with rfl | h
  ·exact hx his
  ·exact hX y h
def KeyV (X:St):Prop:=∀ y∈X.items,keyB y.key=true
theorem KeyV.live {X:St} (h:KeyV X) (now:Int):KeyV (zB8 X now):=fun y hy=>h y (live_mem hy)
theorem app_key {X:St} {now:Int} {c:Cd} {most:Int} (hs:Sorted X.items) (h:KeyV X):KeyV (zB0 X now c most).1:=by
 rw [← ref_eq hs]
 intro y hy
 unfold refF at hy
 split at hy
 ·rename_i hm
  refine rDo_key (P:=fun k=>keyB k=true) (fun ho=>(zW4 hm.1).1.resolve_left ho) (h.live now) (fun his=>?_) hy
  have hlt:=zG7 his
  rw [if_pos his]
  refine h.live now _ ?_
  have:itF (zB8 X now).items (atF (zB8 X now).items c.key)=(zB8 X now).items[atF (zB8 X now).items c.key]:=by unfold itF; rw [List.getD_eq_getElem?_getD,List.getElem?_eq_getElem hlt]; rfl
  rw [this]
  exact List.getElem_mem hlt
 ·cases hy
theorem isF_mem {l:List It} {k:List UInt8} (h:isF l k=true):∃ x∈l,x.key=k:=by
 unfold isF at h
 split at h
 ·rename_i x hx
  exact ⟨x,List.mem_of_getElem? hx,by simpa using h⟩
 ·cases h
def zK9:List UInt8:=[110,111,32,107,101,121]
theorem no_key {X:St} (h:KeyV X):isF X.items zK9=false:=by
 cases hx:isF X.items zK9 with
 | false=>rfl
 | true =>
  obtain ⟨x,hm,hk⟩:=isF_mem hx
  have:=h x hm
  rw [hk] at this
  exact absurd this (by decide)
structure WellF (k:Nat) (W:Au):Prop where
 nice:NiceV k W.X
 key:KeyV W.X
 now:1≤W.now
theorem goes_well {k:Nat} {W W':Au} {e:Ev} (h:WellF k W) (hc:CdOk e.cmd) (hg:zC6 W e=some W'):WellF (k+1) W'∧W'.now=e.now∧W.now≤e.now:=by
 have hn:=goes_nice h.nice hc hg
 unfold zC6 at hg
 split at hg
 ·cases hg
 rename_i h1
 split at hg
 ·cases hg
 split at hg
 ·cases hg
 rename_i s hs
 have hsub:=zM2 hs
 have hk:KeyV s:=fun y hy=>h.key.live e.now y (hsub.1 y hy)
 have hso:=zX2 (h.nice.live e.now) hs
 have h0:=h.now
 have key:W'.now=e.now∧KeyV W'.X:=by
  split at hg
  ·split at hg
   ·cases hg; exact ⟨rfl,hk⟩
   ·cases hg
  split at hg
  ·split at hg
   ·cases hg
   split at hg
   ·cases hg
   split at hg
   ·split at hg
    ·cases hg; exact ⟨rfl,hk⟩
    ·cases hg
   split at hg
   ·cases hg; exact ⟨rfl,app_key hso.sorted hk⟩
   ·cases hg
  ·cases hg
 exact ⟨⟨hn,key.2,by rw [key.1]; omega⟩,key.1,by omega⟩
theorem well0 (most:Int):WellF 0 (au0 most):=⟨⟨Sorted.nil,Nat.le_refl _,(fun x hx=>nomatch hx)⟩,(fun y hy=>nomatch hy),Int.le_refl 1⟩
theorem run_well {most:Int}:∀ {qw:List Ev} {k i:Nat} {W W':Au},WellF k W→(∀ e∈qw,CdOk e.cmd)→zH8 W qw i=(W',-1)→WellF (k+qw.length) W':=by
 intro qw
 induction qw with
 | nil =>
  intro k i W W' h _ hr
  simp only [zH8,Prod.mk.injEq,and_true] at hr
  subst hr
  exact h
 | cons x r ih =>
  intro k i W W' h hc hr
  simp only [zH8] at hr
  cases hx:zC6 W x with
  | none=>rw [hx] at hr; simp only [Prod.mk.injEq] at hr; omega
  | some W2 =>
   rw [hx] at hr
   have:=ih (goes_well h (hc x (List.mem_cons_self ..)) hx).1 (fun e he=>hc e (List.mem_cons_of_mem _ he)) hr
   rw [List.length_cons]
   exact (show k+(r.length+1)=k+1+r.length by omega) ▸ this
theorem run_at {W W':Au} {x:Ev} {b:List Ev}:∀ {a:List Ev} {i:Nat},zH8 W a i=(W',-1)→zC6 W' x=none→(zH8 W (a++x :: b) i).2=((i+a.length:Nat):Int):=by
 intro a
 induction a generalizing W with
 | nil =>
  intro i h hx
  simp only [zH8,Prod.mk.injEq,and_true] at h
  subst h
  simp only [List.nil_append,zH8,hx,List.length_nil,Nat.add_zero]
 | cons y r ih =>
  intro i h hx
  simp only [List.cons_append,zH8] at h ⊢
  cases hy:zC6 W y with
  | none=>rw [hy] at h; simp only [Prod.mk.injEq] at h; omega
  | some W2 =>
   rw [hy] at h
   simp only at h ⊢
   rw [ih h hx,List.length_cons]
   congr 1; omega
theorem run_split {most:Int} {qw:List Ev} {W:Au} (hr:zH8 (au0 most) qw 0=(W,-1)) (hc:∀ e∈qw,CdOk e.cmd) {j:Nat} {e:Ev} (hj:qw[j]?=some e) :
  ∃ W1 W2,zH8 (au0 most) (qw.take j) 0=(W1,-1)∧zC6 W1 e=some W2∧WellF j W1:=by
 have hjl:=(List.getElem?_eq_some_iff.1 hj).1
 have hs:qw=qw.take j++(e :: qw.drop (j+1)):=by
  conv=>lhs; rw [← List.take_append_drop j qw]
  congr 1
  rw [List.drop_eq_getElem_cons hjl]
  congr 1
  exact (List.getElem?_eq_some_iff.1 hj).2
 have hr2:=hr
 rw [hs] at hr2
 obtain ⟨W1,h1⟩:=run_pre hr2
 have hw:=run_well (most:=most) (well0 most) (fun x hx=>hc x (List.mem_of_mem_take hx)) h1
 rw [Nat.zero_add,List.length_take,Nat.min_eq_left (by omega)] at hw
 cases hg:zC6 W1 e with
 | some W2=>exact ⟨W1,W2,h1,hg,hw⟩
 | none =>
  have:=run_at (b:=qw.drop (j+1)) h1 hg
  rw [hr2] at this
  simp only at this
  omega
theorem zQ7 {most:Int} {qw:List Ev} {W:Au} (hr:zH8 (au0 most) qw 0=(W,-1)) (hc:∀ e∈qw,CdOk e.cmd) {j:Nat} {e e':Ev} (hj:qw[j]?=some e)
  (hno:∀ W1 W2,zH8 (au0 most) (qw.take j) 0=(W1,-1)→zC6 W1 e=some W2→WellF j W1→zC6 W1 e'=none) :
  (zH8 (au0 most) (qw.set j e') 0).2=(j:Int)∧(zH8 (au0 most) ((qw.set j e').take j) 0).2=-1:=by
 obtain ⟨W1,W2,h1,h2,h3⟩:=run_split hr hc hj
 have hjl:=(List.getElem?_eq_some_iff.1 hj).1
 have hn:=hno W1 W2 h1 h2 h3
 refine ⟨?_,?_⟩
 ·rw [List.set_eq_take_append_cons_drop,if_pos hjl,run_at h1 hn,List.length_take,Nat.min_eq_left (by omega),Nat.zero_add]
 ·rw [List.take_set_of_le (Nat.le_refl j),h1]
theorem goes_hi {W W':Au} {e:Ev} (hg:zC6 W e=some W'):e.now≤1099511627776:=by
 unfold zC6 at hg
 split at hg
 ·cases hg
 split at hg
 ·cases hg
 ·omega
theorem run_now {most:Int} {qw:List Ev} {W:Au} (hr:zH8 (au0 most) qw 0=(W,-1)) (hc:∀ e∈qw,CdOk e.cmd) {j:Nat} {e:Ev} (hj:qw[j]?=some e) :
  ∃ W1,zH8 (au0 most) (qw.take (j+1)) 0=(W1,-1)∧W1.now=e.now∧1≤e.now∧e.now≤1099511627776:=by
 obtain ⟨W0,W2,h1,h2,h3⟩:=run_split hr hc hj
 have hw:=goes_well h3 (hc e (List.mem_of_getElem? hj)) h2
 have:=h3.now
 refine ⟨W2,?_,hw.2.1,by omega,goes_hi h2⟩
 rw [List.take_add_one,hj]
 show zH8 (au0 most) (qw.take j++[e]) 0=(W2,-1)
 rw [zU3 h1,h2]
theorem eqAn_of {a b:An} (h:zY0 a b=true):a.st=b.st∧a.num=b.num:=by
 refine ⟨?_,?_⟩
 ·by_cases hx:a.st=b.st
  ·exact hx
  ·rw [eqAn_st hx] at h; cases h
 ·by_cases hx:a.num=b.num
  ·exact hx
  ·rw [eqAn_num hx] at h; cases h
theorem wrap_succ (n:Int):IntKind.u64.wrap (n+1) ≠ n:=by rw [IntKind.wrap_u64]; omega
theorem spoil_num {W W2:Au} {e:Ev} (hg:zC6 W e=some W2) (hs:Sorted W.X.items) (hk:e.kind=1):zC6 W { e with ans:={ e.ans with num:=IntKind.u64.wrap (e.ans.num+1) } }=none:=by
 unfold zC6 at hg ⊢
 split at hg
 ·cases hg
 rename_i h1
 split at hg
 ·cases hg
 rename_i h2
 split at hg
 ·cases hg
 rename_i s hds
 rw [if_neg h1,if_neg h2]
 simp only [hds]
 have k2:¬ e.kind=2:=by omega
 rw [if_neg k2] at hg
 try rw [if_pos hk] at hg
 rw [if_neg k2,if_pos hk]
 have hso:=(zM2 hds).2.2.2.2 (zE2 _ hs)
 have h12:(zB0 s e.now e.cmd W.most).2.st ≠ 12:=st_ne12 hso
 split at hg
 ·cases hg
 rename_i h3
 split at hg
 ·cases hg
 rename_i h4
 rw [if_neg (by exact h3),if_neg h4]
 have hnn:=wrap_succ e.ans.num
 split at hg
 ·rename_i h5
  obtain ⟨q1,q2⟩:=eqAn_of h5
  have q1:e.ans.st=12:=q1
  rw [if_neg (by rw [eqAn_num (by show IntKind.u64.wrap (e.ans.num+1) ≠ noMem.num; rw [← q2]; exact hnn)]; decide),if_neg (by rw [eqAn_st (by show e.ans.st ≠ _; rw [q1]; exact fun h=>h12 h.symm)]; decide)]
 ·split at hg
  ·rename_i h6
   obtain ⟨q1,q2⟩:=eqAn_of h6
   rw [if_neg (by rw [eqAn_st (b:=noMem) (by show e.ans.st ≠ 12; rw [q1]; exact h12)]; decide),if_neg (by rw [eqAn_num (by show IntKind.u64.wrap (e.ans.num+1) ≠ _; rw [← q2]; exact hnn)]; decide)]
  ·cases hg
theorem drops_no:∀ {ks:List (List UInt8)} {X:St},KeyV X→zF9 X (ks++[zK9])=none
 | [],X,h=>by
  simp only [List.nil_append,zF9,zQ3,no_key h]
  rfl
 | k :: ks,X,h=>by
  simp only [List.cons_append,zF9]
  cases hd:zQ3 X k with
  | none=>rfl
  | some Y=>exact drops_no (X:=Y) fun y hy=>h y ((dropF_sub hd).1 y hy)
theorem zY5 {W:Au} {e:Ev} (hk:KeyV W.X):zC6 W { e with lost:=e.lost++[zK9] }=none:=by
 unfold zC6
 split
 ·rfl
 split
 ·rfl
 simp only [drops_no (hk.live e.now)]
theorem spoil_now {W:Au} {e:Ev} {n:Int} (hn:n < W.now):zC6 W { e with now:=n }=none:=by
 unfold zC6
 rw [if_pos (by exact hn)]
theorem spoil_idx {W W2:Au} {e:Ev} (hg:zC6 W e=some W2) (hk:e.kind=1) (hi:e.idx=0):zC6 W { e with idx:=2 }=none:=by
 unfold zC6 at hg ⊢
 split at hg
 ·cases hg
 rename_i h1
 split at hg
 ·cases hg
 rename_i h2
 split at hg
 ·cases hg
 rename_i s hds
 rw [if_neg h1,if_neg h2]
 simp only [hds]
 have k2:¬ e.kind=2:=by omega
 rw [if_neg k2] at hg
 try rw [if_pos hk] at hg
 rw [if_neg k2,if_pos hk]
 split at hg
 ·cases hg
 rename_i h3
 rw [if_pos]
 unfold zP2 at h3 ⊢
 split at h3
 ·exact absurd rfl h3
 rename_i c1
 split at h3
 ·exact absurd rfl h3
 rename_i c2
 rw [if_neg c1,if_neg c2]
 split at h3
 ·rename_i c3
  rw [if_pos c3]
  rfl
 ·rename_i c3
  rw [if_neg c3]
  rw [hi] at h3
  have h3:((e.seq == ((W.tn e.conn).getD (0,0)).1 && decide (((W.tn e.conn).getD (0,0)).2 < 0)) && (IntKind.i64.wrap (0 - 1) == ((W.tn e.conn).getD (0,0)).2))=true:=by
   revert h3
   cases ((e.seq == ((W.tn e.conn).getD (0,0)).1 && decide (((W.tn e.conn).getD (0,0)).2 < 0)) && (IntKind.i64.wrap (0 - 1) == ((W.tn e.conn).getD (0,0)).2)) <;> simp
  simp only [Bool.and_eq_true,beq_iff_eq,decide_eq_true_eq] at h3
  have h7:((W.tn e.conn).getD (0,0)).2 < 0:=h3.1.2
  have:(IntKind.i64.wrap (2 - 1) == ((W.tn e.conn).getD (0,0)).2)=false:=by
   rw [beq_eq_false_iff_ne]
   intro h
   rw [show IntKind.i64.wrap (2 - 1)=1 by decide] at h
   omega
  rw [this,Bool.and_false]
end Go.Proofs.YtfpeholdlkfmoaaGreatDoor
/- AuditSpoils, walked. Printed by gen_auspo.py. -/
namespace Go.Proofs.YtfpeholdlkfmoaaGreatDoor
set_option linter.unusedSimpArgs false
set_option linter.unusedVariables false
set_option maxHeartbeats 8000000
open Go.RowKit
set_option maxRecDepth 100000
theorem row_at {w:World} {b e z n:Nat} {r:RE} {cells:List SC} (h:RowOk b w r e z n (zB9 (fun _=>r) cells)) (hwf:∀ pr,wfs pr cells) (he:e ≠ zE4):At (fun q=>q=r.blk) (fun _=>r) [rwE e z n cells] w:=by
 obtain ⟨_,h2,h3,h4⟩:=h
 have hl:(zB9 (fun _=>r) cells).length=cells.length:=List.length_map ..
 rw [hl] at h2
 refine ⟨?_,?_,?_,?_⟩
 ·intro q ty cs mu hq hh
  obtain rfl:q=0:=by simp at hq; omega
  simp only [zD,Option.some.injEq,rwE,EN.mk.injEq] at hh
  obtain ⟨rfl,rfl,rfl⟩:=hh
  exact ⟨fun hl=>h3 hl.2,hwf _,fun hd=>absurd (show e=zE4 from hd) he,fun hn=>by
   have:=h4 hn
   rw [zB9,List.map_eq_nil_iff] at this
   exact this⟩
 ·intro q ty cs mu hq hh
  obtain rfl:q=0:=by simp at hq; omega
  simp only [zD,Option.some.injEq,rwE,EN.mk.injEq] at hh
  obtain ⟨rfl,rfl,rfl⟩:=hh
  have hpre:r.pre=[]:=by rcases h2.2 with h | h; exact h.2.1; exact h.2.2
  exact ⟨by rw [hpre]; rfl,h2⟩
 ·intro q d hq hd _ _ _; simp at hq hd; omega
 ·intro q ty cs hq hh
  obtain rfl:q=0:=by simp at hq; omega
  rfl
structure SpI (w0:World) (most:Int) (r:RE) (t:ToI most) (w:World):Prop where
 i:t.i≤40
 up:Upd Non w0 w
 row:RowOk w0.heap.size w r 48 35 t.L.length (zB9 (fun _=>⟨0,[],[],0,none⟩) (zB1 evC t.L))
 los:∀ x∈t.L,LosK w x∧x.ln≤1∧∀ a',x.la=some a'→a'.block ≠ r.blk
theorem LosK.upd {S:Nat→Prop} {w w':World} {x:EvR} (h:LosK w x) (hu:Upd S w w') (hS:∀ a',x.la=some a'→¬ S a'.block):LosK w' x:=by
 obtain ⟨h1,h2,h3,h4⟩:=h
 refine ⟨fun k s hk=>?_,h2,h3,fun a' ha=>Nat.lt_of_lt_of_le (h4 a' ha) hu.size⟩
 obtain ⟨g,o,e,hg,hc⟩:=h1 k s hk
 exact ⟨g,o,e,Nat.lt_of_lt_of_le hg hu.size,by rw [hu.cell (p:=⟨g,o+k,none⟩) hg (show ¬ S g from hS ⟨g,o,none⟩ e)]; exact hc⟩
theorem sp_end {C:Cx} {ρ:Nat→RE} {w:World} {en:List EN} {L':List EvR} {cells:List SC} {n k m:Nat} (hw:Hw C ρ (· < en.length) en w) (h0:zD en 0=some ⟨(48,0,rowP 35 n k),cells,true⟩) (hd:zB9 ρ cells=zB9 ρ (zB1 evC L')) (hn:n ≠ 0) (hK:∀ x∈L',LosK w x) :
  (SC.sl 0 0 n m).den ρ=.slice (some ⟨(ρ 0).blk,0,none⟩) n m∧RawEv w (some ⟨(ρ 0).blk,0,none⟩) L':=by
 have l0:0 < en.length:=by rw [zA5] at h0; exact (List.getElem?_eq_some_iff.1 h0).1
 obtain ⟨_,_,hO⟩:=hw.ho 0 _ _ _ l0 h0
 rcases hO with ⟨h1,h2,_⟩ | ⟨_,h2,_⟩
 ·have hb:=(hw.hp 0 _ _ _ l0 h0).heap ⟨(by show ¬ (48:Nat)=zE4; decide),h1⟩
  rw [h2,List.nil_append,hd] at hb
  exact ⟨by simp only [SC.den,h2,List.length_nil,Nat.zero_add],RawEv.of hb hK⟩
 ·exact absurd h2 hn
theorem infoTx:(Tryz.prog.info? 9).map (fun i=>(i.zero,i.size,i.bytes))=some (some (.string ⟨#[]⟩),1,16):=by kernel_rfl
section
variable {C:Cx} {nt:Nat} {sl:List (Nat × SV)} {en:List EN} {k:List KI}
theorem append0_opT {dst:Option Nat} {x y:Operand} {t e:TypeId} {i:TypeInfo} {X:SC} {B:Option Addr} {cp:Nat} {ty:TypeId} {pos:String} {af:Array Edge} {all r:List Oper} (ht:C.P.underlying t=some (.slice e)) (hi:C.P.info? e=some i) (hx:ev sl x=some (.c X)) (hy:ev sl y=some (.c (.v (.slice B 0 cp)))) (hX:∀ ρ:Nat→RE,∃ A n c,X.den ρ=.slice A n c∧n≤c) (hwf:X.wf (· < en.length)) (hd:∀ d,dst=some d→d < nt)
  (hK:Run C (.ops all r :: k) nt (jN dst (.c X) sl) en):Run C (.ops all (⟨dst,.call ⟨.builtin .append,#[x,y],#[t,t]⟩,ty,pos,af,none⟩ :: r) :: k) nt sl en:=by
 refine Run_soft1 (.c X) (fun ρ a w hr=>⟨?_,hwf⟩) hd hK
 obtain ⟨x1,_⟩:=hr.ev_ok _ _ hx
 obtain ⟨y1,_⟩:=hr.ev_ok _ _ hy
 obtain ⟨A,n,c,hA,hnc⟩:=hX ρ
 have x1':a.eval x=.slice A n c:=x1.trans hA
 have y1':a.eval y=.slice B 0 cp:=y1
 have h:=run_append0 (P:=C.P) w (ty:=ty) ht hi A B n c cp hnc
 rw [show (SV.c X).den ρ=.slice A n c from hA]
 simp [execOp,resolve,invoke,builtin,x1',y1',h]
end
def fW (p:EvR × SC):List SC:=(evC p.1).set 34 p.2
theorem fW_len (p:EvR × SC):(fW p).length=35:=by unfold fW; rw [List.length_set]; rfl
def gW (x:EvR):EvR × SC:=(x,.v (.slice x.la x.ln x.lc))
theorem fW_g (L:List EvR):zB1 fW (L.map gW)=zB1 evC L:=by
 induction L with
 | nil=>rfl
 | cons x L ih =>
  show fW (gW x)++zB1 fW (L.map gW)=evC x++zB1 evC L
  rw [ih]; rfl
theorem fW_lay {L:List EvR} {j:Nat} {x:EvR} {v:SC} (hx:L[j]?=some x):zC (j * 35+34) [v] (zB1 evC L)=some (zB1 fW ((L.map gW).set j (x,v))):=by
 rw [← fW_g]
 refine zO8 (x:=gW x) fW_len (by rw [List.getElem?_map,hx]; rfl) (by decide) ?_
 show (evC x).set 34 v=((evC x).set 34 _).set 34 v
 rw [List.set_set]
theorem fW_den {ρ:Nat→RE}:∀ {L:List EvR} {j:Nat} {p:EvR × SC} {y:EvR},zB9 ρ (fW p)=zB9 ρ (evC y)→zB9 ρ (zB1 fW ((L.map gW).set j p))=zB9 ρ (zB1 evC (L.set j y))
 | [],j,p,y,h=>by cases j <;> rfl
 | z :: L,0,p,y,h=>by
  show zB9 ρ (fW p++zB1 fW (L.map gW))=zB9 ρ (evC y++zB1 evC L)
  rw [fW_g]
  unfold zB9 at h ⊢
  rw [List.map_append,List.map_append,h]
 | z :: L,j+1,p,y,h=>by
  show zB9 ρ (fW (gW z)++zB1 fW ((L.map gW).set j p))=zB9 ρ (evC z++zB1 evC (L.set j y))
  have ih:=fW_den (L:=L) (j:=j) h
  unfold zB9 at ih ⊢
  rw [List.map_append,List.map_append,ih]; rfl
theorem fW_one {ρ:Nat→RE} {x:EvR} {v:SC} {la:Option Addr} {ln lc:Nat} {ws:List (List UInt8)} (hv:v.den ρ=.slice la ln lc):zB9 ρ (fW (x,v))=zB9 ρ (evC ⟨{ x.e with lost:=ws },la,ln,lc⟩):=by
 show zB9 ρ ((evC x).set 34 v)=zB9 ρ ((evC x).set 34 (.v (.slice la ln lc)))
 unfold zB9
 rw [List.map_set,List.map_set,hv]; rfl
theorem row_ws {C:Cx} {ρ:Nat→RE} {w:World} {en:List EN} {N n:Nat} {ws:List (List UInt8)} {e:Ev} (hw:Hw C ρ (· < en.length) en w) (h0:zD en N=some (rwE 9 1 n (ws.map SC.s))) (hn:ws ≠ []) (he:e.lost=ws) (hl:ws.length≤100) :
  ∃ c,(SC.rw N n).den ρ=.slice (some ⟨(ρ N).blk,0,none⟩) ws.length c∧LosK w ⟨e,some ⟨(ρ N).blk,0,none⟩,ws.length,c⟩:=by
 have l0:N < en.length:=by rw [zA5] at h0; exact (List.getElem?_eq_some_iff.1 h0).1
 obtain ⟨_,hL,hO⟩:=hw.ho N _ _ _ l0 h0
 rw [List.length_map,Nat.mul_one] at hL
 rcases hO with ⟨h1,h2,_⟩ | ⟨_,h2,_⟩
 ·have hb:=(hw.hp N _ _ _ l0 h0).heap ⟨(by show ¬ (9:Nat)=zE4; decide),h1⟩
  rw [h2,List.nil_append] at hb
  have hlt:=(Array.getElem?_eq_some_iff.1 hb).1
  refine ⟨(ρ N).cap,by rw [hL]; exact zG1 h1 n,fun i s hi=>?_,by rw [he],by show ws.length≤9223372036854775807; omega,fun a' ha=>by cases ha; exact hlt⟩
  rw [he] at hi
  refine ⟨_,0,rfl,hlt,?_⟩
  rw [Go.cell_of_row w _ _ _ _ _ hb,List.getElem?_toArray,Nat.zero_add,zB9,List.map_map,List.getElem?_append_left (by rw [List.length_map]; exact (List.getElem?_eq_some_iff.1 hi).1),List.getElem?_map,hi]
  rfl
 ·exact absurd (List.eq_nil_of_length_eq_zero (by omega)) hn
structure SqI (w0:World) (most:Int) (j n:Nat) (m:Nat) (a:Option Addr) (w:World):Prop where
 up:Upd Non w0 w
 xs:∃ L':List EvR,RawEv w a L'∧L'.length=n∧n≤80∧(∀ x∈L',CdOk x.e.cmd)∧(zH8 (au0 most) (L'.map (·.e)) 0).2=(j:Int)∧(zH8 (au0 most) ((L'.map (·.e)).take j) 0).2=-1
 jn:j < n
 nm:n≤m
theorem SqI.upd {w0 w w':World} {most:Int} {j n m:Nat} {a:Option Addr} (h:SqI w0 most j n m a w) (hu:Upd Non w w'):SqI w0 most j n m a w':=by
 obtain ⟨h1,⟨L',h2,h3⟩,h4,h5⟩:=h
 exact ⟨h1.trans hu (fun _ _ h=>h),⟨L',h2.upd hu,h3⟩,h4,h5⟩
def spV (n:Nat) (j:Nat):Option Addr→Nat→Int:=fun _ k=>if k=n then (j:Int) else -1
theorem SqI.one {w0 w:World} {most:Int} {j n m:Nat} {a:Option Addr} (h:SqI w0 most j n m a w) (hE:Env w0):CkP w (spV n j) a n most:=by
 obtain ⟨h1,⟨L',h2,h3,h3',h4,h5,h6⟩,h7,h8⟩:=h
 exact ⟨L',Evs.of h2 h3.symm (by omega) h4 (hE.below h1.to_below),by rw [h5]; simp [spV]⟩
theorem SqI.two {w0 w:World} {most:Int} {j n m:Nat} {a:Option Addr} (h:SqI w0 most j n m a w) (hE:Env w0):CkP w (spV n j) a j most:=by
 obtain ⟨h1,⟨L',h2,h3,h3',h4,h5,h6⟩,h7,h8⟩:=h
 exact ⟨L'.take j,Evs.of (h2.take j) (by rw [List.length_take]; omega) (by rw [List.length_take]; omega) (fun x hx=>h4 x (List.mem_of_mem_take hx)) (hE.below h1.to_below),by rw [← List.map_take] at h6; rw [h6]; simp [spV]; omega⟩
theorem auspo_w {w:World} {A Bs:Option Addr} {nl lc ns sc:Nat} {cs:Nat→Cd} (most at_ how:Int) (hat:-9223372036854775808≤at_∧at_≤9223372036854775807) (hCm:CmdsAt w A nl cs) (hSt:StepsAt w Bs ns) (hnl:nl≤9223372036854775807) (hns:ns≤9223372036854775807) (hE:Env w) :
  Calls Tryz.prog 5 #[.slice A nl lc,.slice Bs ns sc,.int .i64 most,.int .i64 at_,.int .i64 how] w fun e w'=>e=.returned (.bool true)∧Below w.heap.size w w':=by
 refine zB7 Tryz.func5 rfl kp5 (S:=Non) (ρ:=fun _=>⟨0,[],[],0,none⟩) (en:=[]) [.c (.v (.slice A nl lc)),.c (.v (.slice Bs ns sc)),.c (.i .i64 most),.c (.i .i64 at_),.c (.i .i64 how)] Tryz.ntmps5 (At.nil _ _ _) (by intro y hy; simp only [List.mem_cons,List.not_mem_nil,or_false] at hy; rcases hy with rfl | rfl | rfl | rfl | rfl <;> trivial) (by simp) ?_
 intro C hC hP hk
 have hEC:=envC_of hC hE
 have hn0:C.n0=0:=by rw [hC]; rfl
 have hctr:zE1 C ashC:=ashC_ok hP hEC
 (refine zA9 hctr (rs:=res5) true 300 _ _ _ ?_; simp (maxSteps:=1000000) only [VT,qH,qI,qK,qO,ev,qw,qy,qz,zI,zJ,zK,↓reduceIte,reduceCtorEq,Nat.reduceEqDiff,Nat.reduceAdd,Nat.reduceLT,zP,zQ,zR,zt,hk,kp5,ashC,Nat.reduceAdd])
 have hCx:Ctx C Tryz.prog Tryz.f5 (fun e w'=>e=.returned (.bool true)∧Below w.heap.size w w'):=by rw [hC]; exact zL3
 have hU0:∀ w',Upd C.S C.w0 w'→Upd Non w w':=by rw [hC]; exact fun w' hu=>hu
 refine zO2 (M:=(ToI most) × RE) (I:=fun m ρ w'=>SpI w most m.2 m.1 w'∧ρ 0=m.2) (sl':=fun m=>[(17,.c (.rw 0 m.1.L.length)),(11,.c (.b true)),(4,.c (.i .i64 how)),(3,.c (.i .i64 at_)),(2,.c (.i .i64 most))]) (en':=fun m=>[rwE 48 35 m.1.L.length (zB1 evC m.1.L)]) rfl (fun args w=>by rw [hP]; exact Tryz.call16 args w) ?_ ?_
 ·intro ρ1 a1 w1 hr1
  have hu:=hU0 w1 hr1.hw.up
  rw [hP]
  refine (told_w (w:=w1) most (hCm.up hu) (hSt.up hu) hnl hns (hE.below hu.to_below)).mono ?_
  rintro z w2 ⟨r,t,rfl,hi,hu2,hO,hK⟩
  have hO2:=hO
  rw [zI2 _ (fun _=>r)] at hO2
  refine ⟨(t,r),fun _=>r,_,rfl,zU9 (v0:=.c (.rw 0 t.L.length)) (s:=_) hr1 (row_at hO2 (fun pr=>zJ1 pr _) (by decide)) (by decide) (by show 0 < 1; decide) ⟨⟨_,rfl,rfl,trivial⟩,⟨_,rfl,rfl,trivial⟩,⟨_,rfl,rfl,trivial⟩,⟨_,rfl,rfl,trivial⟩,trivial⟩,⟨hi,hu.trans hu2 (fun _ _ h=>h),hO.mono hu.size,hK⟩,rfl⟩
 rintro ⟨t,r⟩ ρ1 w1 _ ⟨hI,hρ0⟩
 have hI:SpI w most r t w1:=hI
 have hρ0:ρ1 0=r:=hρ0
 obtain ⟨G,hG⟩:∃ G,G=cxW C ρ1 w1 [rwE 48 35 t.L.length (zB1 evC t.L)]:=⟨_,rfl⟩
 show Run (cxW C ρ1 w1 [rwE 48 35 t.L.length (zB1 evC t.L)]) _ 123 [(17,.c (.rw 0 t.L.length)),(11,.c (.b true)),(4,.c (.i .i64 how)),(3,.c (.i .i64 at_)),(2,.c (.i .i64 most))] [rwE 48 35 t.L.length (zB1 evC t.L)]
 rw [← hG]
 have hP0:=hP; have hk0:=hk
 have hP:G.P=Tryz.prog:=by rw [hG]; exact hP0
 have hk:G.kp=kp5:=by rw [hG]; exact hk0
 have hCxG:Ctx G Tryz.prog Tryz.f5 (fun e w'=>e=.returned (.bool true)∧Below w.heap.size w w'):=by rw [hG]; exact hCx.cxW _ _ _
 have hctr:zE1 G noC:=zE5 hP
 have hnG:G.n0=1:=by rw [hG]; rfl
 have hlen:=t.len hI.i
 obtain ⟨L,hL⟩:∃ L,t.L=L:=⟨_,rfl⟩
 rw [hL] at hlen ⊢
 have hfin:∀ {en:List EN} {ρ':Nat→RE} {w':World},Hw G ρ' (· < en.length) en w'→Below w.heap.size w w':=by
  intro en ρ' w' hw'
  have hup:=hw'.up
  rw [hG] at hup
  refine (hI.up.trans hup fun q hq hs=>?_).to_below
  obtain ⟨c,t',cells,hc,rfl⟩:=hs
  match c with
  | 0=>exact absurd hI.row.1 (by rw [← hρ0]; exact Nat.not_le.2 hq)
  | c+1=>simp [zD] at hc
 by_cases hz:L.length=0
 ·have z0:((L.length:Int) == 0)=true:=by rw [beq_iff_eq]; omega
  (refine zA9 hctr (rs:=res5) true 300 _ _ _ ?_; simp (maxSteps:=1000000) only [VT,jf,qE,qF,qG,qH,qI,qK,qN,qO,qR,qS,qe,ev,qy,qz,zI,zJ,TE.sv,zM,↓reduceIte,reduceCtorEq,Nat.reduceEqDiff,Nat.reduceLT,zP,zQ,zR,zV,rwE,hP,hk,res5,kp5,rwE,z0])
  exact zG3 hCxG hres5 fun ρ' w' hw' _ _=>⟨rfl,hfin hw'⟩
 have z0:((L.length:Int) == 0)=false:=by rw [beq_eq_false_iff_ne]; omega
 (refine zA9 hctr (rs:=res5) true 12 _ _ _ ?_; simp (maxSteps:=1000000) only [VT,jg,qH,qI,qK,qN,qO,qR,qS,qe,ev,qy,qz,zI,zJ,zM,↓reduceIte,reduceCtorEq,Nat.reduceEqDiff,Nat.reduceLT,zP,zQ,zR,zW,rwE,hP,hk,res5,kp5,rwE,z0])
 have hLl:L.length≤maxLen:=by unfold maxLen; omega
 refine Run_alias (M:={ m:Nat // L.length≤m∧m≤maxLen }) (Φ:=fun m ρ=>(SC.sl 0 0 L.length m.1).den ρ=(SC.rw 0 L.length).den ρ) (en':=fun _=>[rwE 48 35 L.length (zB1 evC L)]) (sl':=fun m=>[(12,.c (.sl 0 0 L.length m.1)),(11,.c (.b true)),(4,.c (.i .i64 how)),(3,.c (.i .i64 at_)),(2,.c (.i .i64 most))]) (fun ρ w hw=>row_sl (N:=0) (n:=L.length) hw rfl hz) (fun _=>aliE_same _ _ _) (fun m=>⟨⟨_,rfl,fun _ h=>h,id⟩,⟨_,rfl,fun _ _=>rfl,id⟩,⟨_,rfl,fun _ _=>rfl,id⟩,⟨_,rfl,fun _ _=>rfl,id⟩,⟨_,rfl,fun _ _=>rfl,id⟩,trivial⟩) fun m=>?_
 refine Run_join (κ:={ k:Int // 0≤k∧k≤9223372036854775807 }) (fun k=>[(12,.c (.sl 0 0 L.length m.1)),(11,.c (.b true)),(4,.c (.i .i64 how)),(3,.c (.i .i64 k.1)),(2,.c (.i .i64 most))]) (fun _=>[rwE 48 35 L.length (zB1 evC L)]) (fun k=>?_) fun use=>?_
 rotate_left
 ·by_cases hneg:at_ < 0
  ·have a0:decide (at_ < 0)=true:=decide_eq_true hneg
   have w1:IntKind.i64.wrap (at_+1)=at_+1:=IntWalk.i64_in _ (by omega)
   have w2:IntKind.i64.wrap (0 - (at_+1))=-(at_+1):=by rw [IntWalk.i64_in _ (by omega)]; omega
   (refine zA9 hctr (rs:=res5) true 12 _ _ _ ?_; simp (maxSteps:=1000000) only [VT,jf,qH,qI,qK,qO,qR,qS,qT,ev,qy,qz,zI,zJ,↓reduceIte,reduceCtorEq,Nat.reduceEqDiff,Nat.reduceLT,zP,zQ,zR,zV,rwE,hk,res5,kp5,rwE,a0,w1,w2])
   exact use ⟨-(at_+1),by omega,by omega⟩ _ (zH6 ⟨rfl,rfl,rfl,rfl,rfl,trivial⟩)
  ·have a0:decide (at_ < 0)=false:=decide_eq_false hneg
   (refine zA9 hctr (rs:=res5) true 7 _ _ _ ?_; simp (maxSteps:=1000000) only [VT,jg,qH,qI,qK,qO,qR,qS,ev,qy,qz,zI,zJ,↓reduceIte,reduceCtorEq,Nat.reduceEqDiff,Nat.reduceLT,zP,zQ,zR,zW,rwE,hk,res5,kp5,rwE,a0])
   exact use ⟨at_,by omega,by omega⟩ _ (zH6 ⟨rfl,rfl,rfl,rfl,rfl,trivial⟩)
 obtain ⟨at2,hat2⟩:∃ at2,k.1=at2:=⟨_,rfl⟩
 rw [hat2]
 have hk2:=k.2
 rw [hat2] at hk2
 obtain ⟨j,hj,hjl⟩:∃ j:Nat,at2.tmod (L.length:Int)=(j:Int)∧j < L.length:=by
  have h1:at2.tmod (L.length:Int)=at2 % (L.length:Int):=Int.tmod_eq_emod_of_nonneg hk2.1
  have h2:=Int.emod_nonneg at2 (show (L.length:Int) ≠ 0 by omega)
  have h3:=Int.emod_lt_of_pos at2 (show (0:Int) < (L.length:Int) by omega)
  exact ⟨(at2 % (L.length:Int)).toNat,by omega,by omega⟩
 have hLn:¬ (L.length:Int)=0:=by omega
 obtain ⟨x,hx⟩:∃ x,L[j]?=some x:=⟨_,List.getElem?_eq_getElem hjl⟩
 have p0:(0:Int)≤(j:Int):=by omega
 have p1:(j:Int) < (L.length:Int):=by omega
 obtain ⟨h3,hh3⟩:∃ h3,andZ .i64 how 3=h3:=⟨_,rfl⟩
 have hb3:0≤h3∧h3≤3:=by rw [← hh3]; exact and_le how 3 (by decide) (by decide)
 have hxm:x∈L:=List.mem_of_getElem? hx
 have h4:h3=0∨h3=1∨h3=2∨h3=3:=by omega
 have hform:EvF x.e:=t.h.form x.e (by rw [hL]; exact List.mem_map.2 ⟨x,hxm,rfl⟩)
 have zZ:((1:Int) == 0)=false:=rfl
 have zj:((2:Int) == 0)=false:=rfl
 have zk:((2:Int) == 1)=false:=rfl
 have zu:((3:Int) == 0)=false:=rfl
 have zw:((3:Int) == 1)=false:=rfl
 have zx:((3:Int) == 2)=false:=rfl
 have f0:zD (zB1 evC L) (j * 35)=some (.i .i64 x.e.kind):=by have:=zR7 (j:=0) zM7 hx (by decide); rw [Nat.add_zero] at this; rw [this]; rfl
 have hrunL:∃ W,zH8 (au0 most) (L.map (·.e)) 0=(W,-1):=by
  obtain ⟨now',tn,hr,_⟩:=t.h.run
  rw [hL] at hr
  exact ⟨_,hr⟩
 obtain ⟨WL,hrunL⟩:=hrunL
 have hcdx:∀ z∈L,CdOk z.e.cmd:=fun z hz=>t.cd z (by rw [hL]; exact hz)
 have hcdL:∀ e∈L.map (·.e),CdOk e.cmd:=fun e he=>by obtain ⟨z,hz,rfl⟩:=List.mem_map.1 he; exact hcdx z hz
 have hxe:(L.map (·.e))[j]?=some x.e:=by rw [List.getElem?_map,hx]; rfl
 have hlos:=hI.los
 rw [hL] at hlos
 have hS0:∀ {q:Nat},G.S q→q=r.blk:=by
  intro q hs
  rw [hG] at hs
  obtain ⟨c,t',cells,hc,rfl⟩:=hs
  match c with
  | 0=>rw [hρ0]
  | c+1=>simp [zD] at hc
 have hKs:∀ {en:List EN} {ρ':Nat→RE} {w':World},Hw G ρ' (· < en.length) en w'→∀ z∈L,LosK w' z:=by
  intro en ρ' w' hw' z hz
  have hup:=hw'.up
  rw [show G.w0=w1 by rw [hG]; rfl] at hup
  obtain ⟨q1,q2,q3⟩:=hlos z hz
  exact q1.upd hup fun a' ha hs=>q3 a' ha (hS0 hs)
 have hupG:∀ {en:List EN} {ρ':Nat→RE} {w':World},Hw G ρ' (· < en.length) en w'→Upd Non w w':=by
  intro en ρ' w' hw'
  have hup:=hw'.up
  rw [show G.w0=w1 by rw [hG]; rfl] at hup
  refine hI.up.trans hup fun q hq hs=>?_
  rw [hS0 hs] at hq
  exact absurd hI.row.1 (Nat.not_le.2 hq)
 have hk01:x.e.kind=1∨x.e.kind=2:=hform.imp (fun h=>h.1) (fun h=>h.1)
 rcases h4 with rfl | rfl | rfl | rfl
 ·rcases hk01 with hkd | hkd
  rotate_left
  ·have g0:(x.e.kind != 1)=true:=by rw [hkd]; rfl
   (refine zA9 hctr (rs:=res5) true 300 _ _ _ ?_; simp (maxSteps:=1000000) only [VT,jf,qE,qF,qG,qH,qI,qK,qN,qO,qP,qR,qS,qV,qX,qe,ev,qy,qz,zD,zI,zJ,TE.sv,zM,↓reduceIte,reduceCtorEq,Nat.reduceEqDiff,Nat.reduceLT,zP,zQ,zR,zT,zV,zh,zi,zt,rwE,hP,hk,res5,kp5,Nat.add_zero,rwE,hj,hh3,hLn,p0,p1,not_false_eq_true,beq_self_eq_true,f0,g0])
   exact zG3 hCxG hres5 fun ρ' w' hw' _ _=>⟨rfl,hfin hw'⟩
  have g0:(x.e.kind != 1)=false:=by rw [hkd]; rfl
  have f30:zD (zB1 evC L) (j * 35+30)=some (.i .u64 x.e.ans.num):=by rw [zR7 (j:=30) zM7 hx (by decide)]; rfl
  have y30:zC (j * 35+30) [.i .u64 (IntKind.u64.wrap (x.e.ans.num+1))] (zB1 evC L)=some (zB1 evC (L.set j (⟨{ x.e with ans:={ x.e.ans with num:=IntKind.u64.wrap (x.e.ans.num+1) } },x.la,x.ln,x.lc⟩))):=zO8 zM7 hx (by decide) rfl
  (refine zA9 hctr (rs:=res5) true 300 _ _ _ ?_; simp (maxSteps:=1000000) only [VT,jf,jg,jZ,qE,qF,qG,qH,qI,qJ,qK,qN,qO,qP,qR,qS,qV,qX,qe,qp,q0t,qv,ev,qw,qy,qz,zD,zE,zG,zI,zJ,TE.sv,zM,↓reduceIte,reduceCtorEq,Nat.reduceEqDiff,Nat.reduceLT,zP,zQ,zR,zT,zV,zW,zh,zi,zt,rwE,hP,hk,res5,kp5,noC,Nat.add_zero,rwE,hj,hh3,hLn,p0,p1,not_false_eq_true,beq_self_eq_true,f0,g0,f30,y30])
  have hsp:=zQ7 (most:=most) hrunL hcdL (j:=j) (e:=x.e) (e':=(⟨{ x.e with ans:={ x.e.ans with num:=IntKind.u64.wrap (x.e.ans.num+1) } },x.la,x.ln,x.lc⟩:EvR).e) hxe (fun W1 W2 _ h2 h3=>spoil_num h2 h3.nice.sorted hkd)
  refine Run_W (M:=Nat) (I:=fun q _ w'=>SqI w most j L.length m.1 (some ⟨q,0,none⟩) w') (sl':=fun q=>[(110,.c (.i .i64 most)),(109,.c (.v (.slice (some ⟨q,0,none⟩) L.length m.1))),(108,.c (.b true)),(12,.c (.v (.slice (some ⟨q,0,none⟩) L.length m.1))),(3,.c (.i .i64 (j:Int))),(2,.c (.i .i64 most))]) (en':=fun _=>[]) ?_ ?_
  ·intro ρ' a' w' hr'
   have hw':=hr'.hw
   have hmapL:((L.set j (⟨{ x.e with ans:={ x.e.ans with num:=IntKind.u64.wrap (x.e.ans.num+1) } },x.la,x.ln,x.lc⟩:EvR)).map (·.e))=(L.map (·.e)).set j (⟨{ x.e with ans:={ x.e.ans with num:=IntKind.u64.wrap (x.e.ans.num+1) } },x.la,x.ln,x.lc⟩:EvR).e:=by rw [List.map_set]
   obtain ⟨d1,d2⟩:=sp_end (L':=L.set j (⟨{ x.e with ans:={ x.e.ans with num:=IntKind.u64.wrap (x.e.ans.num+1) } },x.la,x.ln,x.lc⟩:EvR)) (n:=L.length) (m:=m.1) hw' rfl rfl hz (by
    intro z hz
    rcases List.mem_or_eq_of_mem_set hz with hz | rfl
    ·exact hKs hw' z hz
    ·obtain ⟨k1,k2,k3,k4⟩:=hKs hw' x hxm
     exact ⟨k1,k2,k3,k4⟩)
   refine ⟨(ρ' 0).blk,fun i=>ρ' (([]:List Nat).getD i 0),hr'.wt.pick [] rfl (fun i hi=>nomatch hi) (fun i t cells mu hi=>by simp [zD] at hi) (fun d v' hd=>zL7 (s:=_) ?_ d v' hd),hupG hw',⟨L.set j (⟨{ x.e with ans:={ x.e.ans with num:=IntKind.u64.wrap (x.e.ans.num+1) } },x.la,x.ln,x.lc⟩:EvR),d2,by rw [List.length_set],hlen,fun z hz=>?_,by rw [hmapL]; exact hsp.1,by rw [hmapL]; exact hsp.2⟩,hjl,m.2.1⟩
   ·exact ⟨⟨_,rfl,rfl,trivial⟩,⟨_,rfl,d1.symm,trivial⟩,⟨_,rfl,rfl,trivial⟩,⟨_,rfl,d1.symm,trivial⟩,⟨_,rfl,rfl,trivial⟩,⟨_,rfl,rfl,trivial⟩,trivial⟩
   ·rcases List.mem_or_eq_of_mem_set hz with hz | rfl
    ·exact hcdx z hz
    ·exact hcdx x hxm
  rintro q ρ3 w3 _ hQ
  have hQ:SqI w most j L.length m.1 (some ⟨q,0,none⟩) w3:=hQ
  obtain ⟨H,hH⟩:∃ H,H=cxW G ρ3 w3 []:=⟨_,rfl⟩
  show Run (cxW G ρ3 w3 []) _ 123 [(110,.c (.i .i64 most)),(109,.c (.v (.slice (some ⟨q,0,none⟩) L.length m.1))),(108,.c (.b true)),(12,.c (.v (.slice (some ⟨q,0,none⟩) L.length m.1))),(3,.c (.i .i64 (j:Int))),(2,.c (.i .i64 most))] []
  rw [← hH]
  have hP1:=hP; have hk1:=hk
  have hP:H.P=Tryz.prog:=by rw [hH]; exact hP1
  have hk:H.kp=kp5:=by rw [hH]; exact hk1
  have hCxH:Ctx H Tryz.prog Tryz.f5 (fun e w'=>e=.returned (.bool true)∧Below w.heap.size w w'):=by rw [hH]; exact hCxG.cxW _ _ _
  have hU3:∀ w',Upd H.S H.w0 w'→Upd Non w3 w':=by
   rw [hH]
   exact fun w' hu=>hu.mono fun q _ hq=>absurd hq no_wr
  have hctr:zE1 H (auC w3 (spV L.length j)):=zZ7 hP hU3
  have k1:=hQ.one hE
  have k2:=hQ.two hE
  have v1:spV L.length j (some ⟨q,0,none⟩) L.length=(j:Int):=by simp [spV]
  have v2:spV L.length j (some ⟨q,0,none⟩) j=-1:=by simp [spV]; omega
  have j1:(j:Int)≤(L.length:Int):=by omega
  have j2:(j:Int)≤(m.1:Int):=by have:=m.2.1; omega
  (refine zA9 hctr (rs:=res5) true 300 _ _ _ ?_; simp (maxSteps:=1000000) only [VT,jf,jZ,qE,qF,qG,qH,qI,qK,qO,qR,qS,qZ,ql,qp,ev,qw,qy,qz,zD,zI,zJ,TE.sv,zM,↓reduceIte,reduceCtorEq,Nat.reduceEqDiff,Nat.reduceLT,zP,zQ,zR,zT,zV,zh,zn,hP,hk,res5,kp5,auC,Nat.add_zero,Int.le_refl,rowCk,v1,v2,k1,k2,p0,j2,beq_self_eq_true,Int.toNat_zero,Nat.zero_mul,ite_self])
  exact zG3 hCxH hres5 fun ρ' w' hw' _ _=>⟨rfl,(hQ.up.trans (hU3 w' hw'.up) (fun _ _ h=>h)).to_below⟩
 ·obtain ⟨q1,q2,q3⟩:=hlos x hxm
  have f34:zD (zB1 evC L) (j * 35+34)=some (.v (.slice x.la x.ln x.lc)):=by rw [zR7 (j:=34) zM7 hx (by decide)]; rfl
  obtain ⟨is,his,hse0,hse1,hse2⟩:=info_parts infoTx
  have hU46:G.P.underlying 46=some (.slice 9):=by rw [hP]; exact Tryz.underlying46
  have his2:G.P.info? 9=some is:=by rw [hP]; exact his
  have hl01:x.ln=0∨x.ln=1:=by omega
  rcases hl01 with hl0 | hl1
  ·rw [hl0] at f34
   have hlost:x.e.lost=[]:=List.eq_nil_of_length_eq_zero (by rw [← q1.2.1]; exact hl0)
   (refine zA9 hctr (rs:=res5) true 300 _ _ _ ?_; simp (maxSteps:=1000000) only [VT,jf,jg,qD,qH,qI,qK,qN,qO,qP,qR,qS,qV,qX,qe,ev,qy,qz,zD,zF,zG,zI,zJ,zM,↓reduceIte,reduceCtorEq,Nat.reduceEqDiff,Nat.reduceLT,zP,zQ,zR,zT,zV,zW,zh,zi,zt,rwE,hP,hk,res5,kp5,rwE,hj,hh3,hLn,p0,p1,not_false_eq_true,beq_self_eq_true,zZ,f34])
   refine append0_opT (X:=.sl 1 0 0 0) hU46 his2 rfl rfl (fun ρ=>⟨_,_,_,rfl,Nat.le_refl _⟩) (by show 1 < 2; decide) (by simp) ?_
   (refine zA9 hctr (rs:=res5) true 300 _ _ _ ?_; simp (maxSteps:=1000000) only [VT,qA,qB,qC,qD,qH,qI,qK,qN,qg,q0t,ev,qz,zC,zD,zF,zG,zM,↓reduceIte,Nat.reduceAdd,Nat.reduceLT,Nat.reduceLeDiff,zT,zt,jN,hP,Nat.reduceAdd,Nat.reduceMul])
   refine zK7 (n:=0) (m:=1) (z:=1) (bts:=16) (cells:=[]) (news:=[.s zK9]) (o:=none) (X:=.sl 1 0 0 0) (Y:=.sl 2 0 1 1) hU46 his2 hse0 hse1 hse2 rfl (by decide) (by decide) (.zero rfl rfl (by decide)) rfl rfl (zP4 (c:=2) (o:=0) (L:=1) rfl rfl) rfl rfl (fun pr z hz=>by simp only [List.mem_cons,List.not_mem_nil,or_false] at hz; subst hz; trivial) (by omega) (by omega) (by rw [hnG]; exact Nat.succ_le_succ (Nat.zero_le _)) rfl (by simp) ?_
   have y34:zC (j * 35+34) [.rw 3 1] (zB1 evC L)=some (zB1 fW ((L.map gW).set j (x,.rw 3 1))):=fW_lay hx
   (refine zA9 hctr (rs:=res5) true 300 _ _ _ ?_; simp (maxSteps:=1000000) only [VT,jf,jZ,qE,qF,qG,qH,qI,qJ,qK,qO,qV,qX,qp,q0t,qv,ev,qw,qy,qz,zD,zE,zF,zG,zI,zJ,TE.sv,zM,↓reduceIte,reduceCtorEq,Nat.reduceEqDiff,Nat.reduceAdd,Nat.reduceLT,zP,zQ,zR,zT,zV,zh,zt,zG5,rwE,jN,hP,hk,res5,kp5,noC,Nat.reduceAdd,rwE,p0,p1,y34,rwE,zG5])
   have hsp:=zQ7 (most:=most) hrunL hcdL (j:=j) (e:=x.e) (e':=(⟨{ x.e with lost:=x.e.lost++[zK9] },none,0,0⟩:EvR).e) hxe (fun W1 W2 _ _ h3=>zY5 h3.key)
   refine Run_W (M:=Nat) (I:=fun q _ w'=>SqI w most j L.length m.1 (some ⟨q,0,none⟩) w') (sl':=fun q=>[(110,.c (.i .i64 most)),(109,.c (.v (.slice (some ⟨q,0,none⟩) L.length m.1))),(108,.c (.b true)),(12,.c (.v (.slice (some ⟨q,0,none⟩) L.length m.1))),(3,.c (.i .i64 (j:Int))),(2,.c (.i .i64 most))]) (en':=fun _=>[]) ?_ ?_
   ·intro ρ' a' w' hr'
    have hw':=hr'.hw
    obtain ⟨cN,hcN,hlN⟩:=row_ws (N:=3) (n:=1) (ws:=[zK9]) (e:={ x.e with lost:=x.e.lost++[zK9] }) hw' rfl (by simp) (by show x.e.lost++[zK9]=_; rw [hlost]; rfl) (by simp)
    have hmapL:((L.set j (⟨{ x.e with lost:=x.e.lost++[zK9] },some ⟨(ρ' 3).blk,0,none⟩,1,cN⟩:EvR)).map (·.e))=(L.map (·.e)).set j (⟨{ x.e with lost:=x.e.lost++[zK9] },none,0,0⟩:EvR).e:=by rw [List.map_set]
    obtain ⟨d1,d2⟩:=sp_end (L':=L.set j (⟨{ x.e with lost:=x.e.lost++[zK9] },some ⟨(ρ' 3).blk,0,none⟩,1,cN⟩:EvR)) (n:=L.length) (m:=m.1) hw' rfl (fW_den (fW_one hcN)) hz (by
     intro z hz
     rcases List.mem_or_eq_of_mem_set hz with hz | rfl
     ·exact hKs hw' z hz
     ·exact hlN)
    refine ⟨(ρ' 0).blk,fun i=>ρ' (([]:List Nat).getD i 0),hr'.wt.pick [] rfl (fun i hi=>nomatch hi) (fun i t cells mu hi=>by simp [zD] at hi) (fun d v' hd=>zL7 (s:=_) ?_ d v' hd),hupG hw',⟨L.set j (⟨{ x.e with lost:=x.e.lost++[zK9] },some ⟨(ρ' 3).blk,0,none⟩,1,cN⟩:EvR),d2,by rw [List.length_set],hlen,fun z hz=>?_,by rw [hmapL]; exact hsp.1,by rw [hmapL]; exact hsp.2⟩,hjl,m.2.1⟩
    ·exact ⟨⟨_,rfl,rfl,trivial⟩,⟨_,rfl,d1.symm,trivial⟩,⟨_,rfl,rfl,trivial⟩,⟨_,rfl,d1.symm,trivial⟩,⟨_,rfl,rfl,trivial⟩,⟨_,rfl,rfl,trivial⟩,trivial⟩
    ·rcases List.mem_or_eq_of_mem_set hz with hz | rfl
     ·exact hcdx z hz
     ·exact hcdx x hxm
   rintro q ρ3 w3 _ hQ
   have hQ:SqI w most j L.length m.1 (some ⟨q,0,none⟩) w3:=hQ
   obtain ⟨H,hH⟩:∃ H,H=cxW G ρ3 w3 []:=⟨_,rfl⟩
   show Run (cxW G ρ3 w3 []) _ 123 [(110,.c (.i .i64 most)),(109,.c (.v (.slice (some ⟨q,0,none⟩) L.length m.1))),(108,.c (.b true)),(12,.c (.v (.slice (some ⟨q,0,none⟩) L.length m.1))),(3,.c (.i .i64 (j:Int))),(2,.c (.i .i64 most))] []
   rw [← hH]
   have hP1:=hP; have hk1:=hk
   have hP:H.P=Tryz.prog:=by rw [hH]; exact hP1
   have hk:H.kp=kp5:=by rw [hH]; exact hk1
   have hCxH:Ctx H Tryz.prog Tryz.f5 (fun e w'=>e=.returned (.bool true)∧Below w.heap.size w w'):=by rw [hH]; exact hCxG.cxW _ _ _
   have hU3:∀ w',Upd H.S H.w0 w'→Upd Non w3 w':=by
    rw [hH]
    exact fun w' hu=>hu.mono fun q _ hq=>absurd hq no_wr
   have hctr:zE1 H (auC w3 (spV L.length j)):=zZ7 hP hU3
   have k1:=hQ.one hE
   have k2:=hQ.two hE
   have v1:spV L.length j (some ⟨q,0,none⟩) L.length=(j:Int):=by simp [spV]
   have v2:spV L.length j (some ⟨q,0,none⟩) j=-1:=by simp [spV]; omega
   have j1:(j:Int)≤(L.length:Int):=by omega
   have j2:(j:Int)≤(m.1:Int):=by have:=m.2.1; omega
   (refine zA9 hctr (rs:=res5) true 300 _ _ _ ?_; simp (maxSteps:=1000000) only [VT,jf,jZ,qE,qF,qG,qH,qI,qK,qO,qR,qS,qZ,ql,qp,ev,qw,qy,qz,zD,zI,zJ,TE.sv,zM,↓reduceIte,reduceCtorEq,Nat.reduceEqDiff,Nat.reduceLT,zP,zQ,zR,zT,zV,zh,zn,hP,hk,res5,kp5,auC,Nat.add_zero,Int.le_refl,rowCk,v1,v2,k1,k2,p0,j2,beq_self_eq_true,Int.toNat_zero,Nat.zero_mul,ite_self])
   exact zG3 hCxH hres5 fun ρ' w' hw' _ _=>⟨rfl,(hQ.up.trans (hU3 w' hw'.up) (fun _ _ h=>h)).to_below⟩
  ·rw [hl1] at f34
   obtain ⟨key,hlost⟩:∃ key,x.e.lost=[key]:=List.length_eq_one_iff.1 (by rw [← q1.2.1]; exact hl1)
   obtain ⟨g1,o1,hla,hg1,hc1⟩:=q1.1 0 key (by rw [hlost]; rfl)
   rw [hla] at f34
   (refine zA9 hctr (rs:=res5) true 300 _ _ _ ?_; simp (maxSteps:=1000000) only [VT,jf,jg,qD,qH,qI,qK,qN,qO,qP,qR,qS,qV,qX,qe,ev,qy,qz,zD,zF,zG,zI,zJ,zM,↓reduceIte,reduceCtorEq,Nat.reduceEqDiff,Nat.reduceLT,zP,zQ,zR,zT,zV,zW,zh,zi,zt,rwE,hP,hk,res5,kp5,rwE,hj,hh3,hLn,p0,p1,not_false_eq_true,beq_self_eq_true,zZ,f34])
   refine zK7 (n:=0) (m:=1) (z:=1) (bts:=16) (cells:=[]) (news:=[.s key]) (o:=none) (X:=.sl 1 0 0 0) (Y:=.v (.slice (some ⟨g1,o1,none⟩) 1 x.lc)) hU46 his2 hse0 hse1 hse2 rfl (by decide) (by decide) (.zero rfl rfl (by decide)) rfl rfl (fun ρ pr w' hw' _=>⟨_,_,rfl,fun i u hi=>?_⟩) rfl rfl (fun pr z hz=>by simp only [List.mem_cons,List.not_mem_nil,or_false] at hz; subst hz; trivial) (by omega) (by omega) (by rw [hnG]; exact Nat.succ_le_succ (Nat.zero_le _)) rfl (by simp) ?_
   ·have hup:=hw'.up
    rw [show G.w0=w1 by rw [hG]; rfl] at hup
    match i with
    | 0 =>
     simp only [zB9,List.map_cons,List.map_nil,List.getElem?_cons_zero,Option.some.injEq] at hi; subst hi
     have:(⟨g1,o1,none⟩:Addr).add 0=⟨g1,o1+0,none⟩:=rfl
     rw [this,hup.cell (p:=⟨g1,o1+0,none⟩) hg1 (fun hs=>q3 _ hla (hS0 hs))]
     exact hc1
    | i+1=>simp [zB9] at hi
   (refine zA9 hctr (rs:=res5) true 300 _ _ _ ?_; simp (maxSteps:=1000000) only [VT,qA,qB,qC,qD,qH,qI,qK,qN,qg,q0t,ev,qz,zC,zD,zF,zG,zM,↓reduceIte,Nat.reduceAdd,Nat.reduceLT,Nat.reduceLeDiff,zT,zt,zG5,rwE,jN,hP,Nat.reduceAdd,Nat.reduceMul,rwE,rwE,zG5])
   refine zK7 (n:=1) (m:=1) (z:=1) (bts:=16) (cells:=[.s key]) (news:=[.s zK9]) (o:=some 2) (X:=.rw 2 1) (Y:=.sl 3 0 1 1) hU46 his2 hse0 hse1 hse2 rfl (by decide) (by decide) (.some rfl) rfl rfl (zP4 (c:=3) (o:=0) (L:=1) rfl rfl) rfl rfl (fun pr z hz=>by simp only [List.mem_cons,List.not_mem_nil,or_false] at hz; subst hz; trivial) (by omega) (by omega) (by rw [hnG]; exact Nat.succ_le_succ (Nat.zero_le _)) rfl (by simp) ?_
   have y34:zC (j * 35+34) [.rw 4 2] (zB1 evC L)=some (zB1 fW ((L.map gW).set j (x,.rw 4 2))):=fW_lay hx
   (refine zA9 hctr (rs:=res5) true 300 _ _ _ ?_; simp (maxSteps:=1000000) only [VT,jf,jZ,qE,qF,qG,qH,qI,qJ,qK,qO,qV,qX,qp,q0t,qv,ev,qw,qy,qz,zD,zE,zF,zG,zI,zJ,TE.sv,zM,↓reduceIte,reduceCtorEq,Nat.reduceEqDiff,Nat.reduceAdd,Nat.reduceLT,zP,zQ,zR,zT,zV,zh,zt,zG5,zA4,rwE,jN,hP,hk,res5,kp5,noC,Nat.reduceAdd,rwE,p0,p1,y34,rwE,zG5,zA4])
   have hsp:=zQ7 (most:=most) hrunL hcdL (j:=j) (e:=x.e) (e':=(⟨{ x.e with lost:=x.e.lost++[zK9] },none,0,0⟩:EvR).e) hxe (fun W1 W2 _ _ h3=>zY5 h3.key)
   refine Run_W (M:=Nat) (I:=fun q _ w'=>SqI w most j L.length m.1 (some ⟨q,0,none⟩) w') (sl':=fun q=>[(110,.c (.i .i64 most)),(109,.c (.v (.slice (some ⟨q,0,none⟩) L.length m.1))),(108,.c (.b true)),(12,.c (.v (.slice (some ⟨q,0,none⟩) L.length m.1))),(3,.c (.i .i64 (j:Int))),(2,.c (.i .i64 most))]) (en':=fun _=>[]) ?_ ?_
   ·intro ρ' a' w' hr'
    have hw':=hr'.hw
    obtain ⟨cN,hcN,hlN⟩:=row_ws (N:=4) (n:=2) (ws:=[key,zK9]) (e:={ x.e with lost:=x.e.lost++[zK9] }) hw' rfl (by simp) (by show x.e.lost++[zK9]=_; rw [hlost]; rfl) (by simp)
    have hmapL:((L.set j (⟨{ x.e with lost:=x.e.lost++[zK9] },some ⟨(ρ' 4).blk,0,none⟩,2,cN⟩:EvR)).map (·.e))=(L.map (·.e)).set j (⟨{ x.e with lost:=x.e.lost++[zK9] },none,0,0⟩:EvR).e:=by rw [List.map_set]
    obtain ⟨d1,d2⟩:=sp_end (L':=L.set j (⟨{ x.e with lost:=x.e.lost++[zK9] },some ⟨(ρ' 4).blk,0,none⟩,2,cN⟩:EvR)) (n:=L.length) (m:=m.1) hw' rfl (fW_den (fW_one hcN)) hz (by
     intro z hz
     rcases List.mem_or_eq_of_mem_set hz with hz | rfl
     ·exact hKs hw' z hz
     ·exact hlN)
    refine ⟨(ρ' 0).blk,fun i=>ρ' (([]:List Nat).getD i 0),hr'.wt.pick [] rfl (fun i hi=>nomatch hi) (fun i t cells mu hi=>by simp [zD] at hi) (fun d v' hd=>zL7 (s:=_) ?_ d v' hd),hupG hw',⟨L.set j (⟨{ x.e with lost:=x.e.lost++[zK9] },some ⟨(ρ' 4).blk,0,none⟩,2,cN⟩:EvR),d2,by rw [List.length_set],hlen,fun z hz=>?_,by rw [hmapL]; exact hsp.1,by rw [hmapL]; exact hsp.2⟩,hjl,m.2.1⟩
    ·exact ⟨⟨_,rfl,rfl,trivial⟩,⟨_,rfl,d1.symm,trivial⟩,⟨_,rfl,rfl,trivial⟩,⟨_,rfl,d1.symm,trivial⟩,⟨_,rfl,rfl,trivial⟩,⟨_,rfl,rfl,trivial⟩,trivial⟩
    ·rcases List.mem_or_eq_of_mem_set hz with hz | rfl
     ·exact hcdx z hz
     ·exact hcdx x hxm
   rintro q ρ3 w3 _ hQ
   have hQ:SqI w most j L.length m.1 (some ⟨q,0,none⟩) w3:=hQ
   obtain ⟨H,hH⟩:∃ H,H=cxW G ρ3 w3 []:=⟨_,rfl⟩
   show Run (cxW G ρ3 w3 []) _ 123 [(110,.c (.i .i64 most)),(109,.c (.v (.slice (some ⟨q,0,none⟩) L.length m.1))),(108,.c (.b true)),(12,.c (.v (.slice (some ⟨q,0,none⟩) L.length m.1))),(3,.c (.i .i64 (j:Int))),(2,.c (.i .i64 most))] []
   rw [← hH]
   have hP1:=hP; have hk1:=hk
   have hP:H.P=Tryz.prog:=by rw [hH]; exact hP1
   have hk:H.kp=kp5:=by rw [hH]; exact hk1
   have hCxH:Ctx H Tryz.prog Tryz.f5 (fun e w'=>e=.returned (.bool true)∧Below w.heap.size w w'):=by rw [hH]; exact hCxG.cxW _ _ _
   have hU3:∀ w',Upd H.S H.w0 w'→Upd Non w3 w':=by
    rw [hH]
    exact fun w' hu=>hu.mono fun q _ hq=>absurd hq no_wr
   have hctr:zE1 H (auC w3 (spV L.length j)):=zZ7 hP hU3
   have k1:=hQ.one hE
   have k2:=hQ.two hE
   have v1:spV L.length j (some ⟨q,0,none⟩) L.length=(j:Int):=by simp [spV]
   have v2:spV L.length j (some ⟨q,0,none⟩) j=-1:=by simp [spV]; omega
   have j1:(j:Int)≤(L.length:Int):=by omega
   have j2:(j:Int)≤(m.1:Int):=by have:=m.2.1; omega
   (refine zA9 hctr (rs:=res5) true 300 _ _ _ ?_; simp (maxSteps:=1000000) only [VT,jf,jZ,qE,qF,qG,qH,qI,qK,qO,qR,qS,qZ,ql,qp,ev,qw,qy,qz,zD,zI,zJ,TE.sv,zM,↓reduceIte,reduceCtorEq,Nat.reduceEqDiff,Nat.reduceLT,zP,zQ,zR,zT,zV,zh,zn,hP,hk,res5,kp5,auC,Nat.add_zero,Int.le_refl,rowCk,v1,v2,k1,k2,p0,j2,beq_self_eq_true,Int.toNat_zero,Nat.zero_mul,ite_self])
   exact zG3 hCxH hres5 fun ρ' w' hw' _ _=>⟨rfl,(hQ.up.trans (hU3 w' hw'.up) (fun _ _ h=>h)).to_below⟩
 ·by_cases hj0:j=0
  ·have g0:((j:Int) == 0)=true:=by rw [beq_iff_eq]; omega
   (refine zA9 hctr (rs:=res5) true 300 _ _ _ ?_; simp (maxSteps:=1000000) only [VT,jf,jg,jd,qE,qF,qG,qH,qI,qK,qN,qO,qR,qS,qe,qp,ev,qy,qz,zD,zI,zJ,TE.sv,zM,↓reduceIte,reduceCtorEq,Nat.reduceEqDiff,Nat.reduceLT,zP,zQ,zR,zT,zV,zW,zi,rwE,hP,hk,res5,kp5,rwE,hj,hh3,hLn,not_false_eq_true,beq_self_eq_true,zj,zk,g0])
   exact zG3 hCxG hres5 fun ρ' w' hw' _ _=>⟨rfl,hfin hw'⟩
  have g0:((j:Int) == 0)=false:=by rw [beq_eq_false_iff_ne]; omega
  have w3:IntKind.i64.wrap ((j:Int) - 1)=((j - 1:Nat):Int):=by rw [IntWalk.i64_in _ (by omega)]; omega
  obtain ⟨x2,hx2⟩:∃ x2,L[j - 1]?=some x2:=⟨_,List.getElem?_eq_getElem (by omega)⟩
  have p2:(0:Int)≤((j - 1:Nat):Int):=by omega
  have p3:((j - 1:Nat):Int) < (L.length:Int):=by omega
  have f1:zD (zB1 evC L) ((j - 1) * 35+1)=some (.i .i64 x2.e.now):=by rw [zR7 (j:=1) zM7 hx2 (by decide)]; rfl
  obtain ⟨W9,hW9,hnow9,hlo9,hhi9⟩:=run_now hrunL hcdL (j:=j - 1) (e:=x2.e) (by rw [List.getElem?_map,hx2]; rfl)
  rw [show j - 1+1=j by omega] at hW9
  by_cases hn1:x2.e.now=1
  ·have g1:(x2.e.now == 1)=true:=by rw [beq_iff_eq]; exact hn1
   (refine zA9 hctr (rs:=res5) true 300 _ _ _ ?_; simp (maxSteps:=1000000) only [VT,jf,jg,jZ,qE,qF,qG,qH,qI,qK,qN,qO,qP,qR,qS,qV,qX,qe,qp,ev,qy,qz,zD,zI,zJ,TE.sv,zM,↓reduceIte,reduceCtorEq,Nat.reduceEqDiff,Nat.reduceLT,zP,zQ,zR,zT,zV,zW,zh,zi,zt,rwE,hP,hk,res5,kp5,rwE,hj,hh3,hLn,not_false_eq_true,beq_self_eq_true,zj,zk,g0,g1,w3,p2,p3,f1])
   exact zG3 hCxG hres5 fun ρ' w' hw' _ _=>⟨rfl,hfin hw'⟩
  have g1:(x2.e.now == 1)=false:=by rw [beq_eq_false_iff_ne]; exact hn1
  have w4:IntKind.i64.wrap (x2.e.now - 1)=x2.e.now - 1:=IntWalk.i64_in _ (by omega)
  have y1:zC (j * 35+1) [.i .i64 (x2.e.now - 1)] (zB1 evC L)=some (zB1 evC (L.set j (⟨{ x.e with now:=x2.e.now - 1 },x.la,x.ln,x.lc⟩))):=zO8 zM7 hx (by decide) rfl
  (refine zA9 hctr (rs:=res5) true 300 _ _ _ ?_; simp (maxSteps:=1000000) only [VT,jf,jg,jZ,qE,qF,qG,qH,qI,qJ,qK,qN,qO,qP,qR,qS,qV,qX,qe,qp,q0t,qv,ev,qw,qy,qz,zD,zE,zG,zI,zJ,TE.sv,zM,↓reduceIte,reduceCtorEq,Nat.reduceEqDiff,Nat.reduceLT,zP,zQ,zR,zT,zV,zW,zh,zi,zt,rwE,hP,hk,res5,kp5,noC,rwE,hj,hh3,hLn,p0,p1,not_false_eq_true,beq_self_eq_true,zj,zk,g0,g1,w3,w4,p2,p3,f1,y1])
  have hsp:=zQ7 (most:=most) hrunL hcdL (j:=j) (e:=x.e) (e':=(⟨{ x.e with now:=x2.e.now - 1 },x.la,x.ln,x.lc⟩:EvR).e) hxe (fun W1 W2 h1 _ _=>spoil_now (by rw [hW9] at h1; cases h1; omega))
  refine Run_W (M:=Nat) (I:=fun q _ w'=>SqI w most j L.length m.1 (some ⟨q,0,none⟩) w') (sl':=fun q=>[(110,.c (.i .i64 most)),(109,.c (.v (.slice (some ⟨q,0,none⟩) L.length m.1))),(108,.c (.b true)),(12,.c (.v (.slice (some ⟨q,0,none⟩) L.length m.1))),(3,.c (.i .i64 (j:Int))),(2,.c (.i .i64 most))]) (en':=fun _=>[]) ?_ ?_
  ·intro ρ' a' w' hr'
   have hw':=hr'.hw
   have hmapL:((L.set j (⟨{ x.e with now:=x2.e.now - 1 },x.la,x.ln,x.lc⟩:EvR)).map (·.e))=(L.map (·.e)).set j (⟨{ x.e with now:=x2.e.now - 1 },x.la,x.ln,x.lc⟩:EvR).e:=by rw [List.map_set]
   obtain ⟨d1,d2⟩:=sp_end (L':=L.set j (⟨{ x.e with now:=x2.e.now - 1 },x.la,x.ln,x.lc⟩:EvR)) (n:=L.length) (m:=m.1) hw' rfl rfl hz (by
    intro z hz
    rcases List.mem_or_eq_of_mem_set hz with hz | rfl
    ·exact hKs hw' z hz
    ·obtain ⟨k1,k2,k3,k4⟩:=hKs hw' x hxm
     exact ⟨k1,k2,k3,k4⟩)
   refine ⟨(ρ' 0).blk,fun i=>ρ' (([]:List Nat).getD i 0),hr'.wt.pick [] rfl (fun i hi=>nomatch hi) (fun i t cells mu hi=>by simp [zD] at hi) (fun d v' hd=>zL7 (s:=_) ?_ d v' hd),hupG hw',⟨L.set j (⟨{ x.e with now:=x2.e.now - 1 },x.la,x.ln,x.lc⟩:EvR),d2,by rw [List.length_set],hlen,fun z hz=>?_,by rw [hmapL]; exact hsp.1,by rw [hmapL]; exact hsp.2⟩,hjl,m.2.1⟩
   ·exact ⟨⟨_,rfl,rfl,trivial⟩,⟨_,rfl,d1.symm,trivial⟩,⟨_,rfl,rfl,trivial⟩,⟨_,rfl,d1.symm,trivial⟩,⟨_,rfl,rfl,trivial⟩,⟨_,rfl,rfl,trivial⟩,trivial⟩
   ·rcases List.mem_or_eq_of_mem_set hz with hz | rfl
    ·exact hcdx z hz
    ·exact hcdx x hxm
  rintro q ρ3 w3 _ hQ
  have hQ:SqI w most j L.length m.1 (some ⟨q,0,none⟩) w3:=hQ
  obtain ⟨H,hH⟩:∃ H,H=cxW G ρ3 w3 []:=⟨_,rfl⟩
  show Run (cxW G ρ3 w3 []) _ 123 [(110,.c (.i .i64 most)),(109,.c (.v (.slice (some ⟨q,0,none⟩) L.length m.1))),(108,.c (.b true)),(12,.c (.v (.slice (some ⟨q,0,none⟩) L.length m.1))),(3,.c (.i .i64 (j:Int))),(2,.c (.i .i64 most))] []
  rw [← hH]
  have hP1:=hP; have hk1:=hk
  have hP:H.P=Tryz.prog:=by rw [hH]; exact hP1
  have hk:H.kp=kp5:=by rw [hH]; exact hk1
  have hCxH:Ctx H Tryz.prog Tryz.f5 (fun e w'=>e=.returned (.bool true)∧Below w.heap.size w w'):=by rw [hH]; exact hCxG.cxW _ _ _
  have hU3:∀ w',Upd H.S H.w0 w'→Upd Non w3 w':=by
   rw [hH]
   exact fun w' hu=>hu.mono fun q _ hq=>absurd hq no_wr
  have hctr:zE1 H (auC w3 (spV L.length j)):=zZ7 hP hU3
  have k1:=hQ.one hE
  have k2:=hQ.two hE
  have v1:spV L.length j (some ⟨q,0,none⟩) L.length=(j:Int):=by simp [spV]
  have v2:spV L.length j (some ⟨q,0,none⟩) j=-1:=by simp [spV]; omega
  have j1:(j:Int)≤(L.length:Int):=by omega
  have j2:(j:Int)≤(m.1:Int):=by have:=m.2.1; omega
  (refine zA9 hctr (rs:=res5) true 300 _ _ _ ?_; simp (maxSteps:=1000000) only [VT,jf,jZ,qE,qF,qG,qH,qI,qK,qO,qR,qS,qZ,ql,qp,ev,qw,qy,qz,zD,zI,zJ,TE.sv,zM,↓reduceIte,reduceCtorEq,Nat.reduceEqDiff,Nat.reduceLT,zP,zQ,zR,zT,zV,zh,zn,hP,hk,res5,kp5,auC,Nat.add_zero,Int.le_refl,rowCk,v1,v2,k1,k2,p0,j2,beq_self_eq_true,Int.toNat_zero,Nat.zero_mul,ite_self])
  exact zG3 hCxH hres5 fun ρ' w' hw' _ _=>⟨rfl,(hQ.up.trans (hU3 w' hw'.up) (fun _ _ h=>h)).to_below⟩
 ·rcases hk01 with hkd | hkd
  rotate_left
  ·have g0:(x.e.kind != 1)=true:=by rw [hkd]; rfl
   (refine zA9 hctr (rs:=res5) true 300 _ _ _ ?_; simp (maxSteps:=1000000) only [VT,jf,jg,qE,qF,qG,qH,qI,qK,qN,qO,qP,qR,qS,qV,qX,qe,ev,qy,qz,zD,zI,zJ,TE.sv,zM,↓reduceIte,reduceCtorEq,Nat.reduceEqDiff,Nat.reduceLT,zP,zQ,zR,zT,zV,zW,zh,zi,zt,rwE,hP,hk,res5,kp5,Nat.add_zero,rwE,hj,hh3,hLn,p0,p1,not_false_eq_true,beq_self_eq_true,zu,zw,zx,f0,g0])
   exact zG3 hCxG hres5 fun ρ' w' hw' _ _=>⟨rfl,hfin hw'⟩
  have g0:(x.e.kind != 1)=false:=by rw [hkd]; rfl
  have y4:zC (j * 35+4) [.i .i64 2] (zB1 evC L)=some (zB1 evC (L.set j (⟨{ x.e with idx:=2 },x.la,x.ln,x.lc⟩))):=zO8 zM7 hx (by decide) rfl
  (refine zA9 hctr (rs:=res5) true 300 _ _ _ ?_; simp (maxSteps:=1000000) only [VT,jf,jg,jZ,qE,qF,qG,qH,qI,qJ,qK,qN,qO,qP,qR,qS,qV,qX,qe,qp,q0t,qv,ev,qw,qy,qz,zD,zE,zG,zI,zJ,TE.sv,zM,↓reduceIte,reduceCtorEq,Nat.reduceEqDiff,Nat.reduceLT,zP,zQ,zR,zT,zV,zW,zh,zi,zt,rwE,hP,hk,res5,kp5,noC,Nat.add_zero,rwE,hj,hh3,hLn,p0,p1,not_false_eq_true,beq_self_eq_true,zu,zw,zx,f0,g0,y4])
  have hsp:=zQ7 (most:=most) hrunL hcdL (j:=j) (e:=x.e) (e':=(⟨{ x.e with idx:=2 },x.la,x.ln,x.lc⟩:EvR).e) hxe (fun W1 W2 _ h2 _=>spoil_idx h2 hkd (hform.elim (fun h=>h.2.2.1) (fun h=>absurd h.1 (by omega))))
  refine Run_W (M:=Nat) (I:=fun q _ w'=>SqI w most j L.length m.1 (some ⟨q,0,none⟩) w') (sl':=fun q=>[(110,.c (.i .i64 most)),(109,.c (.v (.slice (some ⟨q,0,none⟩) L.length m.1))),(108,.c (.b true)),(12,.c (.v (.slice (some ⟨q,0,none⟩) L.length m.1))),(3,.c (.i .i64 (j:Int))),(2,.c (.i .i64 most))]) (en':=fun _=>[]) ?_ ?_
  ·intro ρ' a' w' hr'
   have hw':=hr'.hw
   have hmapL:((L.set j (⟨{ x.e with idx:=2 },x.la,x.ln,x.lc⟩:EvR)).map (·.e))=(L.map (·.e)).set j (⟨{ x.e with idx:=2 },x.la,x.ln,x.lc⟩:EvR).e:=by rw [List.map_set]
   obtain ⟨d1,d2⟩:=sp_end (L':=L.set j (⟨{ x.e with idx:=2 },x.la,x.ln,x.lc⟩:EvR)) (n:=L.length) (m:=m.1) hw' rfl rfl hz (by
    intro z hz
    rcases List.mem_or_eq_of_mem_set hz with hz | rfl
    ·exact hKs hw' z hz
    ·obtain ⟨k1,k2,k3,k4⟩:=hKs hw' x hxm
     exact ⟨k1,k2,k3,k4⟩)
   refine ⟨(ρ' 0).blk,fun i=>ρ' (([]:List Nat).getD i 0),hr'.wt.pick [] rfl (fun i hi=>nomatch hi) (fun i t cells mu hi=>by simp [zD] at hi) (fun d v' hd=>zL7 (s:=_) ?_ d v' hd),hupG hw',⟨L.set j (⟨{ x.e with idx:=2 },x.la,x.ln,x.lc⟩:EvR),d2,by rw [List.length_set],hlen,fun z hz=>?_,by rw [hmapL]; exact hsp.1,by rw [hmapL]; exact hsp.2⟩,hjl,m.2.1⟩
   ·exact ⟨⟨_,rfl,rfl,trivial⟩,⟨_,rfl,d1.symm,trivial⟩,⟨_,rfl,rfl,trivial⟩,⟨_,rfl,d1.symm,trivial⟩,⟨_,rfl,rfl,trivial⟩,⟨_,rfl,rfl,trivial⟩,trivial⟩
   ·rcases List.mem_or_eq_of_mem_set hz with hz | rfl
    ·exact hcdx z hz
    ·exact hcdx x hxm
  rintro q ρ3 w3 _ hQ
  have hQ:SqI w most j L.length m.1 (some ⟨q,0,none⟩) w3:=hQ
  obtain ⟨H,hH⟩:∃ H,H=cxW G ρ3 w3 []:=⟨_,rfl⟩
  show Run (cxW G ρ3 w3 []) _ 123 [(110,.c (.i .i64 most)),(109,.c (.v (.slice (some ⟨q,0,none⟩) L.length m.1))),(108,.c (.b true)),(12,.c (.v (.slice (some ⟨q,0,none⟩) L.length m.1))),(3,.c (.i .i64 (j:Int))),(2,.c (.i .i64 most))] []
  rw [← hH]
  have hP1:=hP; have hk1:=hk
  have hP:H.P=Tryz.prog:=by rw [hH]; exact hP1
  have hk:H.kp=kp5:=by rw [hH]; exact hk1
  have hCxH:Ctx H Tryz.prog Tryz.f5 (fun e w'=>e=.returned (.bool true)∧Below w.heap.size w w'):=by rw [hH]; exact hCxG.cxW _ _ _
  have hU3:∀ w',Upd H.S H.w0 w'→Upd Non w3 w':=by
   rw [hH]
   exact fun w' hu=>hu.mono fun q _ hq=>absurd hq no_wr
  have hctr:zE1 H (auC w3 (spV L.length j)):=zZ7 hP hU3
  have k1:=hQ.one hE
  have k2:=hQ.two hE
  have v1:spV L.length j (some ⟨q,0,none⟩) L.length=(j:Int):=by simp [spV]
  have v2:spV L.length j (some ⟨q,0,none⟩) j=-1:=by simp [spV]; omega
  have j1:(j:Int)≤(L.length:Int):=by omega
  have j2:(j:Int)≤(m.1:Int):=by have:=m.2.1; omega
  (refine zA9 hctr (rs:=res5) true 300 _ _ _ ?_; simp (maxSteps:=1000000) only [VT,jf,jZ,qE,qF,qG,qH,qI,qK,qO,qR,qS,qZ,ql,qp,ev,qw,qy,qz,zD,zI,zJ,TE.sv,zM,↓reduceIte,reduceCtorEq,Nat.reduceEqDiff,Nat.reduceLT,zP,zQ,zR,zT,zV,zh,zn,hP,hk,res5,kp5,auC,Nat.add_zero,Int.le_refl,rowCk,v1,v2,k1,k2,p0,j2,beq_self_eq_true,Int.toNat_zero,Nat.zero_mul,ite_self])
  exact zG3 hCxH hres5 fun ρ' w' hw' _ _=>⟨rfl,(hQ.up.trans (hU3 w' hw'.up) (fun _ _ h=>h)).to_below⟩
end Go.Proofs.YtfpeholdlkfmoaaGreatDoor
