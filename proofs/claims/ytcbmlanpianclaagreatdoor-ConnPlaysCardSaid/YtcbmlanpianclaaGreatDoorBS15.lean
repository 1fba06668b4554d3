/- The document's store, walked. Printed by gen_dt2.py. -/
import Derived.Test.YtcbmlanpianclaaGreatDoorBS14
import Derived.Test.YtcbmlanpianclaaGreatDoorBS13
namespace Go.Proofs.YtcbmlanpianclaaGreatDoor
set_option linter.unusedSimpArgs false
set_option linter.unusedVariables false
set_option maxHeartbeats 8000000
open Go.RowKit
set_option maxRecDepth 100000
theorem dstoreN_w {w:World} {a:Option Addr} {n cap:Nat} {name:List UInt8} {w0:List (List UInt8)} (hraw:RawT w a (name :: w0)) (hn:n=w0.length+1) (hnc:n≤cap) (hcap:cap≤maxLen) (hl:∀ x∈w0,x.length≤5000) (hst:stN name) (hcas:(name == [99,97,115])=false) (behind:List UInt8) (hb:behind.length≤9223372036854775806) :
  Calls Tryz.prog 48 #[.slice a n cap,.string ⟨behind.toArray⟩] w (GPost w (gqT (rdX (zB4 name w0 behind)).1,(rdX (zB4 name w0 behind)).2)):=by
 obtain ⟨b,oo,rfl,hwb,hc0⟩:=hraw 0 name rfl
 obtain ⟨W,q,hW⟩:∃ W q,zN5 w0=(W,q):=⟨_,_,rfl⟩
 have hO:offA (name :: w0)=(name :: W,q):=by rw [zL4,hW]
 have hpre:=zP0 hW
 obtain ⟨m,hm⟩:∃ m,W.length+1=m:=⟨_,rfl⟩
 have hWn:W.length≤w0.length:=by
  by_cases h0:W.length=0
  ·omega
  ·have:=hpre (W.length - 1) _ (List.getElem?_eq_getElem (by omega))
   have:=(List.getElem?_eq_some_iff.1 this).1
   omega
 unfold maxLen at hcap
 refine zA1 Tryz.func48 rfl kp48 (S:=Non) (ρ:=fun _=>zG7 0) (en:=[]) [.c (.v (.slice (some ⟨b,oo,none⟩) n cap)),.c (.s behind)] Tryz.ntmps48 (At.nil _ _ _) (by simp [SV.wf,SC.wf]) (by simp) ?_
 intro C hC hP hk
 have hS:C.S=Non:=by rw [hC]; rfl
 have hw:C.w0=w:=by rw [hC]; rfl
 have hn0:C.n0=0:=by rw [hC]; rfl
 have hctr:zC1 C (dT0 (some ⟨b,oo,none⟩) n cap m q):=zM9 hP hS hw hraw (by simpa using hn) hnc (by unfold maxLen; exact hcap) hO (by simpa using hm)
 have fin:∀ (r:Rq) (k:Int) (en:List EN),rdX (zB4 name w0 behind)=(r,k)→r.cmds=[]→Fin C res48 (.t [.g (gqS noS noS (gqT r)),.c (.i .i64 k)]) en:=fun r k en h h1=>by
  refine zC3 (v:=.t [.g (gqS noS noS (gqT r)),.c (.i .i64 k)]) hC hres48 fun ρ w' hw _ _=>?_
  have hup:=hw.up
  rw [hC] at hup
  rw [h]
  exact ⟨hup.to_below,_,rfl,GqV.none h1 rfl⟩
 have fin1:∀ (c:Cd) (k:Int) (en:List EN),rdX (zB4 name w0 behind)=(doR [c] q,k)→zD en 2=some (onE c)→Fin C res48 (.t [.g (gqS (.rw 2 1) noS (gqT (doR [c] q))),.c (.i .i64 k)]) en:=fun c k en h h2=>by
  refine zC3 (v:=.t [.g (gqS (.rw 2 1) noS (gqT (doR [c] q))),.c (.i .i64 k)]) hC hres48 fun ρ w' hw' _ _=>?_
  have hup:=hw'.up
  rw [hC] at hup
  rw [h]
  have:=zS8 (q:=q) hw' hS h2
  rw [hw] at this
  exact ⟨hup.to_below,_,rfl,this⟩
 have rd:∀ (i:Nat) x,(name :: W)[i]?=some x→C.rd b (oo+i) 1=some [.s x]:=fun i x hx=>by
  have hx':(name :: w0)[i]?=some x:=by
   cases i with
   | zero=>exact hx
   | succ i=>exact hpre i x hx
  obtain ⟨b',o',e,hr⟩:=hraw.rd (D:=C) hS hw hx'
  cases e; exact hr
 have r0:C.rd b oo 1=some [.s name]:=rd 0 _ rfl
 have z0:(0:Int) < (m:Int):=by omega
 by_cases hWl:W.length=4
 rotate_left
 ·have c2:((m:Int) != 5)=true:=by rw [bne_iff_ne]; omega
  (refine zA0 hctr (rs:=res48) true 300 _ _ _ ?_; simp (maxSteps:=1000000) only [VT,jf,jg,qE,qF,qG,qH,qI,qJ,qK,qN,qO,qP,qR,qS,qX,qe,qh,q0t,qu,qv,ev,qw,qy,qz,zA,zB,zC,zD,zE,zF,zG,zI,zJ,TE.sv,zK,zM,↓reduceIte,reduceCtorEq,Value.oneCell',Nat.reduceEqDiff,Nat.reduceAdd,Nat.reduceLT,zP,zQ,zR,zT,zV,zW,zt,zu,hP,hk,res48,kp48,dT0,zA9,zB9,mqS,noS,zD8,Int.toNat_zero,Nat.mul_one,Int.le_refl,Nat.reduceAdd,hcas,r0,z0,c2])
  exact fin (zD9 zA5) 0 _ (st_len hW hcas hWl) rfl
 have hcm:5≤cap:=by omega
 obtain rfl:m=5:=by omega
 obtain ⟨k,fl,ex,d,rfl⟩:∃ k fl ex d,W=[k,fl,ex,d]:=by
  match W,hWl with
  | [k,fl,ex,d],_=>exact ⟨k,fl,ex,d,rfl⟩
 have c2:(((5:Nat):Int) != 5)=false:=rfl
 have c6:((5:Int) == 6)=false:=rfl
 have r1:C.rd b (oo+1) 1=some [.s k]:=rd 1 _ rfl
 have z1:(1:Int) < ((5:Nat):Int):=by decide
 have y1:(0:Int)≤1:=by decide
 have Lk:k.length≤5000:=hl k (List.mem_of_getElem? (hpre 0 _ rfl))
 have lk:k.length≤9223372036854775807:=by omega
 have jk:k.length≤9223372036854775806:=by omega
 have r2:C.rd b (oo+2) 1=some [.s fl]:=rd 2 _ rfl
 have z2:(2:Int) < ((5:Nat):Int):=by decide
 have y2:(0:Int)≤2:=by decide
 have Lfl:fl.length≤5000:=hl fl (List.mem_of_getElem? (hpre 1 _ rfl))
 have lfl:fl.length≤9223372036854775807:=by omega
 have jfl:fl.length≤9223372036854775806:=by omega
 have r3:C.rd b (oo+3) 1=some [.s ex]:=rd 3 _ rfl
 have z3:(3:Int) < ((5:Nat):Int):=by decide
 have y3:(0:Int)≤3:=by decide
 have Lex:ex.length≤5000:=hl ex (List.mem_of_getElem? (hpre 2 _ rfl))
 have lex:ex.length≤9223372036854775807:=by omega
 have jex:ex.length≤9223372036854775806:=by omega
 have r4:C.rd b (oo+4) 1=some [.s d]:=rd 4 _ rfl
 have z4:(4:Int) < ((5:Nat):Int):=by decide
 have y4:(0:Int)≤4:=by decide
 have Ld:d.length≤5000:=hl d (List.mem_of_getElem? (hpre 3 _ rfl))
 have ld:d.length≤9223372036854775807:=by omega
 have jd:d.length≤9223372036854775806:=by omega
 cases hp:zB0 d with
 | none =>
  (refine zA0 hctr (rs:=res48) true 300 _ _ _ ?_; simp (maxSteps:=1000000) only [VT,jf,jg,aA,qE,qF,qG,qH,qI,qJ,qK,qN,qO,qP,qR,qS,qT,qX,qe,qh,qp,q0t,qu,qv,ev,qw,qy,qz,zA,zB,zC,zD,zE,zF,zG,zI,zJ,TE.sv,zK,zM,↓reduceIte,reduceCtorEq,Value.oneCell',Nat.reduceEqDiff,Nat.reduceAdd,Nat.reduceLT,zP,zQ,zR,zT,zV,zW,zt,zu,hP,hk,res48,kp48,dT0,zA9,zA8,zB9,mqS,noS,zD8,Int.toNat_zero,Nat.mul_one,Int.le_refl,Int.reduceToNat,Nat.reduceAdd,hcas,r0,z0,c2,r4,z4,y4,ld,hp,Option.getD_none,Option.isSome_none])
  exact fin (zD9 zA2) 0 _ (st_num hW hcas rfl hp) rfl
 | some v =>
 by_cases hv:1073741824 < v
 ·have v1:decide ((1073741824:Int) < (v:Int))=true:=decide_eq_true (by omega)
  (refine zA0 hctr (rs:=res48) true 300 _ _ _ ?_; simp (maxSteps:=1000000) only [VT,jf,jg,jZ,qE,qF,qG,qH,qI,qJ,qK,qN,qO,qP,qR,qS,qT,qX,qe,qh,qp,q0t,qu,qv,ev,qw,qy,qz,zA,zB,zC,zD,zE,zF,zG,zI,zJ,TE.sv,zK,zM,↓reduceIte,reduceCtorEq,Value.oneCell',Nat.reduceEqDiff,Nat.reduceAdd,Nat.reduceLT,zP,zQ,zR,zT,zV,zW,zt,zu,hP,hk,res48,kp48,dT0,zA9,zA8,zB9,mqS,noS,zD8,Int.toNat_zero,Nat.mul_one,Int.le_refl,Int.reduceToNat,Nat.reduceAdd,hcas,r0,z0,c2,r4,z4,y4,ld,hp,v1,Option.getD_some,Option.isSome_some])
  exact fin (zD9 zA2) 0 _ (st_num2 hW hcas rfl hp hv) rfl
 have v1:decide ((1073741824:Int) < (v:Int))=false:=decide_eq_false (by omega)
 have v2:IntKind.i64.wrap (v:Int)=(v:Int):=IntWalk.i64_in _ (by omega)
 have v3:IntKind.i64.wrap ((v:Int)+2)=((v+2:Nat):Int):=by rw [IntWalk.i64_in _ (by omega)]; rfl
 obtain ⟨s1,s2⟩:=sec_is ex
 have bd:badS [k,fl,ex,d] false=(!zG3 k || (zB0 fl).isNone || decide (4294967295 < (zB0 fl).getD 0) || !((zI2 ex).2 && (some 0:Option Nat).isSome)):=rfl
 by_cases hkb:zG3 k=true
 rotate_left
 ·have hkb:zG3 k=false:=by simpa using hkb
  (refine zA0 hctr (rs:=res48) true 300 _ _ _ ?_; simp (maxSteps:=1000000) only [VT,jf,jg,jZ,aA,qE,qF,qG,qH,qI,qJ,qK,qN,qO,qP,qR,qS,qT,qU,qV,qX,qe,qh,qp,q0t,qu,qv,ev,qw,qy,qz,zA,zB,zC,zD,zE,zF,zG,zI,zJ,TE.sv,zK,zM,↓reduceIte,reduceCtorEq,Value.oneCell',Nat.reduceEqDiff,Nat.reduceAdd,Nat.reduceLT,zP,zQ,zR,zT,zV,zW,zt,zu,hP,hk,res48,kp48,dT0,zC0,zA9,zA8,zC4,zB9,mqS,noS,zD8,Int.toNat_zero,Int.toNat_one,Nat.mul_one,Int.le_refl,Int.reduceToNat,Nat.reduceAdd,hcas,r0,z0,c2,c6,r1,z1,y1,jk,r2,z2,y2,lfl,r3,z3,y3,lex,r4,z4,y4,ld,hp,v1,v2,v3,Option.getD_some,Option.isSome_some,hkb])
  exact fin { zD9 zA2 with skip:=((v+2:Nat):Int) } 0 _ (zV9 hW hcas rfl hp hv (by rw [bd]; simp [hkb])) rfl
 cases hfl:zB0 fl with
 | none =>
  (refine zA0 hctr (rs:=res48) true 300 _ _ _ ?_; simp (maxSteps:=1000000) only [VT,jf,jg,jZ,aA,qE,qF,qG,qH,qI,qJ,qK,qN,qO,qP,qR,qS,qT,qU,qV,qX,qe,qh,qp,q0t,qu,qv,ev,qw,qy,qz,zA,zB,zC,zD,zE,zF,zG,zI,zJ,TE.sv,zK,zM,↓reduceIte,reduceCtorEq,Value.oneCell',Nat.reduceEqDiff,Nat.reduceAdd,Nat.reduceLT,zP,zQ,zR,zT,zV,zW,zt,zu,hP,hk,res48,kp48,dT0,zC0,zA9,zA8,zC4,zB9,mqS,noS,zD8,Int.toNat_zero,Int.toNat_one,Nat.mul_one,Int.le_refl,Int.reduceToNat,Nat.reduceAdd,hcas,r0,z0,c2,c6,r1,z1,y1,jk,r2,z2,y2,lfl,r3,z3,y3,lex,r4,z4,y4,ld,hp,v1,v2,v3,Option.getD_some,Option.isSome_some,Option.getD_none,Option.isSome_none,hkb,hfl])
  exact fin { zD9 zA2 with skip:=((v+2:Nat):Int) } 0 _ (zV9 hW hcas rfl hp hv (by rw [bd]; simp [hfl])) rfl
 | some f =>
 by_cases hf:4294967295 < f
 ·have f1:decide ((4294967295:Int) < (f:Int))=true:=decide_eq_true (by omega)
  (refine zA0 hctr (rs:=res48) true 300 _ _ _ ?_; simp (maxSteps:=1000000) only [VT,jf,jg,jZ,aA,qE,qF,qG,qH,qI,qJ,qK,qN,qO,qP,qR,qS,qT,qU,qV,qX,qe,qh,qp,q0t,qu,qv,ev,qw,qy,qz,zA,zB,zC,zD,zE,zF,zG,zI,zJ,TE.sv,zK,zM,↓reduceIte,reduceCtorEq,Value.oneCell',Nat.reduceEqDiff,Nat.reduceAdd,Nat.reduceLT,zP,zQ,zR,zT,zV,zW,zt,zu,hP,hk,res48,kp48,dT0,zC0,zA9,zA8,zC4,zB9,mqS,noS,zD8,Int.toNat_zero,Int.toNat_one,Nat.mul_one,Int.le_refl,Int.reduceToNat,Nat.reduceAdd,hcas,r0,z0,c2,c6,r1,z1,y1,jk,r2,z2,y2,lfl,r3,z3,y3,lex,r4,z4,y4,ld,hp,v1,v2,v3,Option.getD_some,Option.isSome_some,hkb,hfl,f1])
  exact fin { zD9 zA2 with skip:=((v+2:Nat):Int) } 0 _ (zV9 hW hcas rfl hp hv (by rw [bd]; simp [hfl,hf])) rfl
 have f1:decide ((4294967295:Int) < (f:Int))=false:=decide_eq_false (by omega)
 have f2:IntKind.u32.wrap (f:Int)=(f:Int):=Int.emod_eq_of_lt (by omega) (by show (f:Int) < 4294967296; omega)
 by_cases hex:(zD2 ex).2=true
 rotate_left
 ·have hex:(zD2 ex).2=false:=by simpa using hex
  (refine zA0 hctr (rs:=res48) true 300 _ _ _ ?_; simp (maxSteps:=1000000) only [VT,jf,jg,jZ,aA,qE,qF,qG,qH,qI,qJ,qK,qN,qO,qP,qR,qS,qT,qU,qV,qX,qe,qh,qp,q0t,qu,qv,ev,qw,qy,qz,zA,zB,zC,zD,zE,zF,zG,zI,zJ,TE.sv,zK,zM,↓reduceIte,reduceCtorEq,Value.oneCell',Nat.reduceEqDiff,Nat.reduceAdd,Nat.reduceLT,zP,zQ,zR,zT,zV,zW,zt,zu,hP,hk,res48,kp48,dT0,zC0,zA9,zA8,zC4,zB9,mqS,noS,zD8,Int.toNat_zero,Int.toNat_one,Nat.mul_one,Int.le_refl,Int.reduceToNat,Nat.reduceAdd,hcas,r0,z0,c2,c6,r1,z1,y1,jk,r2,z2,y2,lfl,r3,z3,y3,lex,r4,z4,y4,ld,hp,v1,v2,v3,Option.getD_some,Option.isSome_some,hkb,hfl,f1,hex])
  exact fin { zD9 zA2 with skip:=((v+2:Nat):Int) } 0 _ (zV9 hW hcas rfl hp hv (by rw [bd]; simp [← s1,hex])) rfl
 have bd2:badS [k,fl,ex,d] false=false:=by rw [bd]; simp [hkb,hfl,← s1,hex]; omega
 have hok:=st_ok (behind:=behind) hW hcas rfl hp hv bd2
 by_cases hbig:65536 < v
 ·have v4:decide ((65536:Int) < (v:Int))=true:=decide_eq_true (by omega)
  rw [if_pos hbig] at hok
  (refine zA0 hctr (rs:=res48) true 300 _ _ _ ?_; simp (maxSteps:=1000000) only [VT,jf,jg,jZ,qE,qF,qG,qH,qI,qJ,qK,qN,qO,qP,qR,qS,qT,qU,qV,qX,qe,qh,qp,q0t,qu,qv,ev,qw,qy,qz,zA,zB,zC,zD,zE,zF,zG,zI,zJ,TE.sv,zK,zM,↓reduceIte,reduceCtorEq,Value.oneCell',Nat.reduceEqDiff,Nat.reduceAdd,Nat.reduceLT,zP,zQ,zR,zT,zV,zW,zt,zu,hP,hk,res48,kp48,dT0,zC0,zA9,zA8,zC4,zB9,mqS,noS,zD8,Int.toNat_zero,Int.toNat_one,Nat.mul_one,Int.le_refl,Int.reduceToNat,Nat.reduceAdd,hcas,r0,z0,c2,c6,r1,z1,y1,jk,r2,z2,y2,lfl,r3,z3,y3,lex,r4,z4,y4,ld,hp,v1,v2,v3,Option.getD_some,Option.isSome_some,hkb,hfl,f1,hex,v4])
  exact fin { zD9 zM3 with skip:=((v+2:Nat):Int) } 0 _ (by rw [hok]; rfl) rfl
 have v4:decide ((65536:Int) < (v:Int))=false:=decide_eq_false (by omega)
 rw [if_neg hbig] at hok
 by_cases hsh:behind.length < v+2
 ·have v5:decide ((behind.length:Int) < ((v+2:Nat):Int))=true:=decide_eq_true (by omega)
  rw [if_pos hsh] at hok
  (refine zA0 hctr (rs:=res48) true 300 _ _ _ ?_; simp (maxSteps:=1000000) only [VT,jf,jg,jZ,qE,qF,qG,qH,qI,qJ,qK,qN,qO,qP,qR,qS,qT,qU,qX,qe,qf,qg,qh,qp,q0t,qu,qv,ev,qw,qy,qz,zA,zB,zC,zD,zE,zF,zG,zI,zJ,TE.sv,zK,zM,↓reduceIte,reduceCtorEq,Value.oneCell',Nat.reduceEqDiff,Nat.reduceAdd,Nat.reduceLT,zP,zQ,zR,zT,zV,zW,zt,zu,hP,hk,res48,kp48,dT0,zC0,zA8,zC4,zB9,Int.toNat_zero,Int.toNat_one,Nat.mul_one,Int.le_refl,Int.reduceToNat,Nat.reduceAdd,hcas,r0,z0,c2,c6,r1,z1,y1,jk,r2,z2,y2,lfl,r3,z3,y3,lex,r4,z4,y4,ld,hp,v1,v2,v3,Option.getD_some,Option.isSome_some,hkb,hfl,f1,hex,v4,v5])
  exact fin Rq.zero (-1) _ (by rw [hok]; rfl) rfl
 have v5:decide ((behind.length:Int) < ((v+2:Nat):Int))=false:=decide_eq_false (by omega)
 rw [if_neg hsh] at hok
 have d1:(v:Int)≤((v+2:Nat):Int):=by omega
 have d2:((v+2:Nat):Int)≤(behind.length:Int):=by omega
 have d3:(0:Int)≤(v:Int):=by omega
 have d4:(v:Int)≤(behind.length:Int):=by omega
 by_cases hch:(behind.take (v+2)).drop v=[13,10]
 rotate_left
 ·have c1:((behind.take (v+2)).drop v == [13,10])=false:=by simpa using hch
  have c3:((behind.take (v+2)).drop v != [13,10])=true:=by simpa using hch
  rw [if_neg hch] at hok
  (refine zA0 hctr (rs:=res48) true 300 _ _ _ ?_; simp (maxSteps:=1000000) only [VT,jf,jg,jZ,qE,qF,qG,qH,qI,qJ,qK,qN,qO,qP,qR,qS,qT,qU,qX,qZ,qe,qh,ql,qp,q0t,qu,qv,ev,qw,qy,qz,zA,zB,zC,zD,zE,zF,zG,zI,zJ,TE.sv,zK,zM,↓reduceIte,reduceCtorEq,Value.oneCell',Nat.reduceEqDiff,Nat.reduceAdd,Nat.reduceLT,zP,zQ,zR,zT,zV,zW,zh,zt,zu,hP,hk,res48,kp48,dT0,zC0,zA9,zA8,zC4,zB9,mqS,noS,zD8,Int.toNat_zero,Int.toNat_one,Nat.mul_one,Int.le_refl,Int.reduceToNat,Nat.reduceAdd,hcas,r0,z0,c2,c6,r1,z1,y1,jk,r2,z2,y2,lfl,r3,z3,y3,lex,r4,z4,y4,ld,hp,v1,v2,v3,Option.getD_some,Option.isSome_some,hkb,hfl,f1,hex,v4,v5,d1,d2,d3,c1])
  exact fin (zD9 zO6) ((v+2:Nat):Int) _ (by rw [hok]; rfl) rfl
 have c1:((behind.take (v+2)).drop v == [13,10])=true:=by simpa using hch
 have c3:((behind.take (v+2)).drop v != [13,10])=false:=by simpa using hch
 rw [if_pos hch] at hok
 (refine zA0 hctr (rs:=res48) true 300 _ _ _ ?_; simp (maxSteps:=1000000) only [VT,jg,jZ,qH,qI,qK,qN,qO,qP,qR,qS,qT,qU,qX,qZ,qe,qh,ql,qp,ev,qw,qy,qz,zD,zF,zG,zI,zJ,TE.sv,zK,zM,↓reduceIte,reduceCtorEq,Nat.reduceEqDiff,Nat.reduceLT,zP,zQ,zR,zT,zV,zW,zh,zt,zu,hP,hk,res48,kp48,dT0,zC0,zA8,zC4,zB9,Int.toNat_zero,Int.toNat_one,Nat.mul_one,Int.le_refl,Int.reduceToNat,hcas,r0,z0,c2,c6,r1,z1,y1,jk,r2,z2,y2,lfl,r3,z3,y3,lex,r4,z4,y4,ld,hp,v1,v2,v3,Option.getD_some,Option.isSome_some,hkb,hfl,f1,hex,v4,v5,d1,d2,d3,c1])
 (refine zE5 hctr (by rw [hP]; rfl) rs48_30 [] (ensure_type_of% (Cmp.of (by simp (maxSteps := 1000000) only [qK, qO, qP, qR, qS, qU, qX, qZ, qf, qg, ql, q0t, qu, qv, ev, qw, qy, qz, zC, zD, zE, zF, zG, zM, ↓reduceIte, reduceCtorEq, Nat.reduceEqDiff, Nat.reduceAdd, zP, zT, zh, zt, zu, cD, cO, jC, jD, jF, jG, jH, jJ, jN, hP, dT0, zT5, hst, Int.toNat_zero, Int.toNat_one, Nat.mul_one, Int.le_refl, Nat.reduceAdd, List.drop_zero, r0, z0, c6, r1, z1, y1, f2, d3, d4]; rfl)) "" Cmp.mk) (by kernel_rfl) (by kernel_rfl) (by first | exact zC7 _ | kernel_rfl) (by kernel_rfl) (by rfl) (by rfl) (by first | exact zB2 _ | rfl) (by rfl) (by simp (maxSteps := 1000000) only [qK, qO, qP, qR, qS, qU, qX, qZ, qf, qg, ql, q0t, qu, qv, ev, qw, qy, qz, zC, zD, zE, zG, zM, ↓reduceIte, reduceCtorEq, Nat.reduceEqDiff, Nat.reduceAdd, zP, zS, zT, zh, zm, zn, zq, zt, zu, jD, jF, jG, jH, jI, jN, jP, jQ, jR, jS, jT, jV, jW, jX, jY, hP, dT0, zT5, hst, Int.toNat_zero, Int.toNat_one, Nat.mul_one, Int.le_refl, Nat.reduceAdd, List.drop_zero, r0, z0, c6, r1, z1, y1, f2, d3, d4]) ?_; refine zA0 hctr (rs := res48) true 300 _ _ _ ?_; simp (maxSteps := 1000000) only [VT, qH, qI, qK, qO, qP, ev, qw, qy, zA, zB, zD, zG, zI, zJ, zM, ↓reduceIte, reduceCtorEq, Nat.reduceEqDiff, Nat.reduceAdd, Nat.reduceLT, zP, zQ, zR, zt, jN, jO, hP, hk, kp48, dT0, Nat.reduceAdd])
 obtain ⟨c,hc⟩:∃ c:Cd,c={ Cd.zero with op:=2,mode:=zY8 name,key:=k,val:=behind.take v,flags:=(f:Int),exp:=(zD2 ex).1,hasCas:=false,cas:=0 }:=⟨_,rfl⟩
 have hcS:ecS c=[.i .i64 2,.i .i64 (zY8 name),.s k,.s (behind.take v),.i .u32 (f:Int),.i .i64 (zD2 ex).1,.b false,.i .u64 0,.b false,.i .u64 0,.i .u64 0,.b false,.b false,.i .i64 0,.i .i64 0,.b false]:=by rw [hc]; rfl
 refine zA6 (xs:=[.g (ecS c),.c (.b q)]) (by rw [hcS]; rfl) (.g (gqS (.rw 2 1) noS (gqT (doR [c] q)))) [_,_,onE c] (one_h (N:=2) c q hP (zR1 rfl) (by rw [hn0]; exact Nat.zero_le _) rfl (fun x hx=>by match x with | 0=>rfl | 1=>rfl | 2=>exact absurd rfl hx | _+3=>rfl)) (by simp [zG]) (by simp) ?_
 (refine zA0 hctr (rs:=res48) true 300 _ _ _ ?_; simp (maxSteps:=1000000) only [VT,qE,qF,qG,qH,qI,qJ,qK,qO,qP,q0t,qu,qv,ev,qy,zA,zB,zC,zD,zE,zG,zI,zJ,zM,↓reduceIte,reduceCtorEq,Value.oneCell',Nat.reduceEqDiff,Nat.reduceAdd,Nat.reduceLT,zP,zQ,zR,zZ,za,zt,jN,hP,hk,res48,kp48,noS,Nat.reduceAdd,gqS,gqT,doR])
 refine fin1 c ((v+2:Nat):Int) _ ?_ rfl
 have e1:(zI2 ex).1=(zD2 ex).1:=(s2 (by rw [← s1]; exact hex)).symm
 rw [hok,hc]
 show (doR [_] q,_)=_
 simp only [e1,hfl,List.getD_cons_zero,List.getD_cons_succ,Option.getD_some,cond_false]
 rfl
end Go.Proofs.YtcbmlanpianclaaGreatDoor
/- The document's store with a token, walked. Printed by gen_dt2.py. -/
namespace Go.Proofs.YtcbmlanpianclaaGreatDoor
set_option linter.unusedSimpArgs false
set_option linter.unusedVariables false
set_option maxHeartbeats 8000000
open Go.RowKit
set_option maxRecDepth 100000
theorem dstoreC_w {w:World} {a:Option Addr} {n cap:Nat} {w0:List (List UInt8)} (hraw:RawT w a ([99,97,115] :: w0)) (hn:n=w0.length+1) (hnc:n≤cap) (hcap:cap≤maxLen) (hl:∀ x∈w0,x.length≤5000) (behind:List UInt8) (hb:behind.length≤9223372036854775806) :
  Calls Tryz.prog 48 #[.slice a n cap,.string ⟨behind.toArray⟩] w (GPost w (gqT (rdX (zB4 [99,97,115] w0 behind)).1,(rdX (zB4 [99,97,115] w0 behind)).2)):=by
 have hst:stN [99,97,115]:=.inr (.inl rfl)
 have hcas:(([99,97,115]:List UInt8) == [99,97,115])=true:=rfl
 obtain ⟨b,oo,rfl,hwb,hc0⟩:=hraw 0 [99,97,115] rfl
 obtain ⟨W,q,hW⟩:∃ W q,zN5 w0=(W,q):=⟨_,_,rfl⟩
 have hO:offA ([99,97,115] :: w0)=([99,97,115] :: W,q):=by rw [zL4,hW]
 have hpre:=zP0 hW
 obtain ⟨m,hm⟩:∃ m,W.length+1=m:=⟨_,rfl⟩
 have hWn:W.length≤w0.length:=by
  by_cases h0:W.length=0
  ·omega
  ·have:=hpre (W.length - 1) _ (List.getElem?_eq_getElem (by omega))
   have:=(List.getElem?_eq_some_iff.1 this).1
   omega
 unfold maxLen at hcap
 refine zA1 Tryz.func48 rfl kp48 (S:=Non) (ρ:=fun _=>zG7 0) (en:=[]) [.c (.v (.slice (some ⟨b,oo,none⟩) n cap)),.c (.s behind)] Tryz.ntmps48 (At.nil _ _ _) (by simp [SV.wf,SC.wf]) (by simp) ?_
 intro C hC hP hk
 have hS:C.S=Non:=by rw [hC]; rfl
 have hw:C.w0=w:=by rw [hC]; rfl
 have hn0:C.n0=0:=by rw [hC]; rfl
 have hctr:zC1 C (dT0 (some ⟨b,oo,none⟩) n cap m q):=zM9 hP hS hw hraw (by simpa using hn) hnc (by unfold maxLen; exact hcap) hO (by simpa using hm)
 have fin:∀ (r:Rq) (k:Int) (en:List EN),rdX (zB4 [99,97,115] w0 behind)=(r,k)→r.cmds=[]→Fin C res48 (.t [.g (gqS noS noS (gqT r)),.c (.i .i64 k)]) en:=fun r k en h h1=>by
  refine zC3 (v:=.t [.g (gqS noS noS (gqT r)),.c (.i .i64 k)]) hC hres48 fun ρ w' hw _ _=>?_
  have hup:=hw.up
  rw [hC] at hup
  rw [h]
  exact ⟨hup.to_below,_,rfl,GqV.none h1 rfl⟩
 have fin1:∀ (c:Cd) (k:Int) (en:List EN),rdX (zB4 [99,97,115] w0 behind)=(doR [c] q,k)→zD en 2=some (onE c)→Fin C res48 (.t [.g (gqS (.rw 2 1) noS (gqT (doR [c] q))),.c (.i .i64 k)]) en:=fun c k en h h2=>by
  refine zC3 (v:=.t [.g (gqS (.rw 2 1) noS (gqT (doR [c] q))),.c (.i .i64 k)]) hC hres48 fun ρ w' hw' _ _=>?_
  have hup:=hw'.up
  rw [hC] at hup
  rw [h]
  have:=zS8 (q:=q) hw' hS h2
  rw [hw] at this
  exact ⟨hup.to_below,_,rfl,this⟩
 have rd:∀ (i:Nat) x,([99,97,115] :: W)[i]?=some x→C.rd b (oo+i) 1=some [.s x]:=fun i x hx=>by
  have hx':([99,97,115] :: w0)[i]?=some x:=by
   cases i with
   | zero=>exact hx
   | succ i=>exact hpre i x hx
  obtain ⟨b',o',e,hr⟩:=hraw.rd (D:=C) hS hw hx'
  cases e; exact hr
 have r0:C.rd b oo 1=some [.s [99,97,115]]:=rd 0 _ rfl
 have z0:(0:Int) < (m:Int):=by omega
 by_cases hWl:W.length=5
 rotate_left
 ·have c2:((m:Int) != 6)=true:=by rw [bne_iff_ne]; omega
  (refine zA0 hctr (rs:=res48) true 300 _ _ _ ?_; simp (maxSteps:=1000000) only [VT,jf,qE,qF,qG,qH,qI,qJ,qK,qN,qO,qP,qR,qS,qX,qe,qh,q0t,qu,qv,ev,qw,qy,qz,zA,zB,zC,zD,zE,zF,zG,zI,zJ,TE.sv,zK,zM,↓reduceIte,reduceCtorEq,Value.oneCell',Nat.reduceEqDiff,Nat.reduceAdd,Nat.reduceLT,Nat.reduceBEq,zP,zQ,zR,zT,zV,zt,zu,zx,hP,hk,res48,kp48,dT0,zA9,zB9,mqS,noS,zD8,Int.toNat_zero,Nat.mul_one,Int.le_refl,Nat.reduceAdd,lb1,lb4,u8b,UInt8.reduceToNat,r0,z0,c2])
  exact fin (zD9 zA5) 0 _ (st_len hW hcas hWl) rfl
 have hcm:6≤cap:=by omega
 obtain rfl:m=6:=by omega
 obtain ⟨k,fl,ex,d,cs,rfl⟩:∃ k fl ex d cs,W=[k,fl,ex,d,cs]:=by
  match W,hWl with
  | [k,fl,ex,d,cs],_=>exact ⟨k,fl,ex,d,cs,rfl⟩
 have c2:(((6:Nat):Int) != 6)=false:=rfl
 have c6:((6:Int) == 6)=true:=rfl
 have r1:C.rd b (oo+1) 1=some [.s k]:=rd 1 _ rfl
 have z1:(1:Int) < ((6:Nat):Int):=by decide
 have y1:(0:Int)≤1:=by decide
 have Lk:k.length≤5000:=hl k (List.mem_of_getElem? (hpre 0 _ rfl))
 have lk:k.length≤9223372036854775807:=by omega
 have jk:k.length≤9223372036854775806:=by omega
 have r2:C.rd b (oo+2) 1=some [.s fl]:=rd 2 _ rfl
 have z2:(2:Int) < ((6:Nat):Int):=by decide
 have y2:(0:Int)≤2:=by decide
 have Lfl:fl.length≤5000:=hl fl (List.mem_of_getElem? (hpre 1 _ rfl))
 have lfl:fl.length≤9223372036854775807:=by omega
 have jfl:fl.length≤9223372036854775806:=by omega
 have r3:C.rd b (oo+3) 1=some [.s ex]:=rd 3 _ rfl
 have z3:(3:Int) < ((6:Nat):Int):=by decide
 have y3:(0:Int)≤3:=by decide
 have Lex:ex.length≤5000:=hl ex (List.mem_of_getElem? (hpre 2 _ rfl))
 have lex:ex.length≤9223372036854775807:=by omega
 have jex:ex.length≤9223372036854775806:=by omega
 have r4:C.rd b (oo+4) 1=some [.s d]:=rd 4 _ rfl
 have z4:(4:Int) < ((6:Nat):Int):=by decide
 have y4:(0:Int)≤4:=by decide
 have Ld:d.length≤5000:=hl d (List.mem_of_getElem? (hpre 3 _ rfl))
 have ld:d.length≤9223372036854775807:=by omega
 have jd:d.length≤9223372036854775806:=by omega
 have r5:C.rd b (oo+5) 1=some [.s cs]:=rd 5 _ rfl
 have z5:(5:Int) < ((6:Nat):Int):=by decide
 have y5:(0:Int)≤5:=by decide
 have Lcs:cs.length≤5000:=hl cs (List.mem_of_getElem? (hpre 4 _ rfl))
 have lcs:cs.length≤9223372036854775807:=by omega
 have jcs:cs.length≤9223372036854775806:=by omega
 cases hp:zB0 d with
 | none =>
  (refine zA0 hctr (rs:=res48) true 300 _ _ _ ?_; simp (maxSteps:=1000000) only [VT,jf,jg,aA,qE,qF,qG,qH,qI,qJ,qK,qN,qO,qP,qR,qS,qT,qX,qe,qh,qp,q0t,qu,qv,ev,qw,qy,qz,zA,zB,zC,zD,zE,zF,zG,zI,zJ,TE.sv,zK,zM,↓reduceIte,reduceCtorEq,Value.oneCell',Nat.reduceEqDiff,Nat.reduceAdd,Nat.reduceLT,Nat.reduceBEq,zP,zQ,zR,zT,zV,zW,zt,zu,zx,hP,hk,res48,kp48,dT0,zA9,zA8,zB9,mqS,noS,zD8,Int.toNat_zero,Nat.mul_one,Int.le_refl,Int.reduceToNat,Nat.reduceAdd,lb1,lb4,u8b,UInt8.reduceToNat,r0,z0,c2,r4,z4,y4,ld,hp,Option.getD_none,Option.isSome_none])
  exact fin (zD9 zA2) 0 _ (st_num hW hcas rfl hp) rfl
 | some v =>
 by_cases hv:1073741824 < v
 ·have v1:decide ((1073741824:Int) < (v:Int))=true:=decide_eq_true (by omega)
  (refine zA0 hctr (rs:=res48) true 300 _ _ _ ?_; simp (maxSteps:=1000000) only [VT,jf,jg,jZ,qE,qF,qG,qH,qI,qJ,qK,qN,qO,qP,qR,qS,qT,qX,qe,qh,qp,q0t,qu,qv,ev,qw,qy,qz,zA,zB,zC,zD,zE,zF,zG,zI,zJ,TE.sv,zK,zM,↓reduceIte,reduceCtorEq,Value.oneCell',Nat.reduceEqDiff,Nat.reduceAdd,Nat.reduceLT,Nat.reduceBEq,zP,zQ,zR,zT,zV,zW,zt,zu,zx,hP,hk,res48,kp48,dT0,zA9,zA8,zB9,mqS,noS,zD8,Int.toNat_zero,Nat.mul_one,Int.le_refl,Int.reduceToNat,Nat.reduceAdd,lb1,lb4,u8b,UInt8.reduceToNat,r0,z0,c2,r4,z4,y4,ld,hp,v1,Option.getD_some,Option.isSome_some])
  exact fin (zD9 zA2) 0 _ (st_num2 hW hcas rfl hp hv) rfl
 have v1:decide ((1073741824:Int) < (v:Int))=false:=decide_eq_false (by omega)
 have v2:IntKind.i64.wrap (v:Int)=(v:Int):=IntWalk.i64_in _ (by omega)
 have v3:IntKind.i64.wrap ((v:Int)+2)=((v+2:Nat):Int):=by rw [IntWalk.i64_in _ (by omega)]; rfl
 obtain ⟨s1,s2⟩:=sec_is ex
 have bd:badS [k,fl,ex,d,cs] true=(!zG3 k || (zB0 fl).isNone || decide (4294967295 < (zB0 fl).getD 0) || !((zI2 ex).2 && (zB0 cs).isSome)):=rfl
 by_cases hkb:zG3 k=true
 rotate_left
 ·have hkb:zG3 k=false:=by simpa using hkb
  (refine zA0 hctr (rs:=res48) true 300 _ _ _ ?_; simp (maxSteps:=1000000) only [VT,jf,jg,jZ,aA,qE,qF,qG,qH,qI,qJ,qK,qN,qO,qP,qR,qS,qT,qU,qV,qX,qe,qh,qp,q0t,qu,qv,ev,qw,qy,qz,zA,zB,zC,zD,zE,zF,zG,zI,zJ,TE.sv,zK,zM,↓reduceIte,reduceCtorEq,Value.oneCell',Nat.reduceEqDiff,Nat.reduceAdd,Nat.reduceLT,zP,zQ,zR,zT,zV,zW,zt,zu,hP,hk,res48,kp48,dT0,zC0,zA9,zA8,zC4,zB9,mqS,noS,zD8,Int.toNat_zero,Int.toNat_one,Nat.mul_one,Int.le_refl,Int.reduceToNat,Nat.reduceAdd,r0,z0,c2,c6,r1,z1,y1,jk,r2,z2,y2,lfl,r3,z3,y3,lex,r4,z4,y4,ld,r5,z5,y5,lcs,hp,v1,v2,v3,Option.getD_some,Option.isSome_some,hkb,beq_self_eq_true])
  exact fin { zD9 zA2 with skip:=((v+2:Nat):Int) } 0 _ (zV9 hW hcas rfl hp hv (by rw [bd]; simp [hkb])) rfl
 cases hfl:zB0 fl with
 | none =>
  (refine zA0 hctr (rs:=res48) true 300 _ _ _ ?_; simp (maxSteps:=1000000) only [VT,jf,jg,jZ,aA,qE,qF,qG,qH,qI,qJ,qK,qN,qO,qP,qR,qS,qT,qU,qV,qX,qe,qh,qp,q0t,qu,qv,ev,qw,qy,qz,zA,zB,zC,zD,zE,zF,zG,zI,zJ,TE.sv,zK,zM,↓reduceIte,reduceCtorEq,Value.oneCell',Nat.reduceEqDiff,Nat.reduceAdd,Nat.reduceLT,Nat.reduceBEq,zP,zQ,zR,zT,zV,zW,zt,zu,zx,hP,hk,res48,kp48,dT0,zC0,zA9,zA8,zC4,zB9,mqS,noS,zD8,Int.toNat_zero,Int.toNat_one,Nat.mul_one,Int.le_refl,Int.reduceToNat,Nat.reduceAdd,lb1,lb4,u8b,UInt8.reduceToNat,r0,z0,c2,c6,r1,z1,y1,jk,r2,z2,y2,lfl,r3,z3,y3,lex,r4,z4,y4,ld,r5,z5,y5,lcs,hp,v1,v2,v3,Option.getD_some,Option.isSome_some,Option.getD_none,Option.isSome_none,hkb,hfl])
  exact fin { zD9 zA2 with skip:=((v+2:Nat):Int) } 0 _ (zV9 hW hcas rfl hp hv (by rw [bd]; simp [hfl])) rfl
 | some f =>
 by_cases hf:4294967295 < f
 ·have f1:decide ((4294967295:Int) < (f:Int))=true:=decide_eq_true (by omega)
  (refine zA0 hctr (rs:=res48) true 300 _ _ _ ?_; simp (maxSteps:=1000000) only [VT,jf,jg,jZ,aA,qE,qF,qG,qH,qI,qJ,qK,qN,qO,qP,qR,qS,qT,qU,qV,qX,qe,qh,qp,q0t,qu,qv,ev,qw,qy,qz,zA,zB,zC,zD,zE,zF,zG,zI,zJ,TE.sv,zK,zM,↓reduceIte,reduceCtorEq,Value.oneCell',Nat.reduceEqDiff,Nat.reduceAdd,Nat.reduceLT,Nat.reduceBEq,zP,zQ,zR,zT,zV,zW,zt,zu,zx,hP,hk,res48,kp48,dT0,zC0,zA9,zA8,zC4,zB9,mqS,noS,zD8,Int.toNat_zero,Int.toNat_one,Nat.mul_one,Int.le_refl,Int.reduceToNat,Nat.reduceAdd,lb1,lb4,u8b,UInt8.reduceToNat,r0,z0,c2,c6,r1,z1,y1,jk,r2,z2,y2,lfl,r3,z3,y3,lex,r4,z4,y4,ld,r5,z5,y5,lcs,hp,v1,v2,v3,Option.getD_some,Option.isSome_some,hkb,hfl,f1])
  exact fin { zD9 zA2 with skip:=((v+2:Nat):Int) } 0 _ (zV9 hW hcas rfl hp hv (by rw [bd]; simp [hfl,hf])) rfl
 have f1:decide ((4294967295:Int) < (f:Int))=false:=decide_eq_false (by omega)
 have f2:IntKind.u32.wrap (f:Int)=(f:Int):=Int.emod_eq_of_lt (by omega) (by show (f:Int) < 4294967296; omega)
 by_cases hex:(zD2 ex).2=true
 rotate_left
 ·have hex:(zD2 ex).2=false:=by simpa using hex
  (refine zA0 hctr (rs:=res48) true 300 _ _ _ ?_; simp (maxSteps:=1000000) only [VT,jf,jg,jZ,aA,qE,qF,qG,qH,qI,qJ,qK,qN,qO,qP,qR,qS,qT,qU,qV,qX,qe,qh,qp,q0t,qu,qv,ev,qw,qy,qz,zA,zB,zC,zD,zE,zF,zG,zI,zJ,TE.sv,zK,zM,↓reduceIte,reduceCtorEq,Value.oneCell',Nat.reduceEqDiff,Nat.reduceAdd,Nat.reduceLT,Nat.reduceBEq,zP,zQ,zR,zT,zV,zW,zt,zu,zx,hP,hk,res48,kp48,dT0,zC0,zA9,zA8,zC4,zB9,mqS,noS,zD8,Int.toNat_zero,Int.toNat_one,Nat.mul_one,Int.le_refl,Int.reduceToNat,Nat.reduceAdd,lb1,lb4,u8b,UInt8.reduceToNat,r0,z0,c2,c6,r1,z1,y1,jk,r2,z2,y2,lfl,r3,z3,y3,lex,r4,z4,y4,ld,r5,z5,y5,lcs,hp,v1,v2,v3,Option.getD_some,Option.isSome_some,hkb,hfl,f1,hex])
  exact fin { zD9 zA2 with skip:=((v+2:Nat):Int) } 0 _ (zV9 hW hcas rfl hp hv (by rw [bd]; simp [← s1,hex])) rfl
 cases jB:zB0 cs with
 | none =>
  (refine zA0 hctr (rs:=res48) true 300 _ _ _ ?_; simp (maxSteps:=1000000) only [VT,jf,jg,jZ,qE,qF,qG,qH,qI,qJ,qK,qN,qO,qP,qR,qS,qT,qU,qV,qX,qe,qh,qp,q0t,qu,qv,ev,qw,qy,qz,zA,zB,zC,zD,zE,zF,zG,zI,zJ,TE.sv,zK,zM,↓reduceIte,reduceCtorEq,Value.oneCell',Nat.reduceEqDiff,Nat.reduceAdd,Nat.reduceLT,Nat.reduceBEq,zP,zQ,zR,zT,zV,zW,zt,zu,zx,hP,hk,res48,kp48,dT0,zC0,zA9,zA8,zC4,zB9,mqS,noS,zD8,Int.toNat_zero,Int.toNat_one,Nat.mul_one,Int.le_refl,Int.reduceToNat,Nat.reduceAdd,lb1,lb4,u8b,UInt8.reduceToNat,r0,z0,c2,c6,r1,z1,y1,jk,r2,z2,y2,lfl,r3,z3,y3,lex,r4,z4,y4,ld,r5,z5,y5,lcs,hp,v1,v2,v3,Option.getD_some,Option.isSome_some,Option.getD_none,Option.isSome_none,hkb,hfl,f1,hex,jB])
  exact fin { zD9 zA2 with skip:=((v+2:Nat):Int) } 0 _ (zV9 hW hcas rfl hp hv (by rw [bd]; simp [jB])) rfl
 | some tkn =>
 have bd2:badS [k,fl,ex,d,cs] true=false:=by rw [bd]; simp [hkb,hfl,← s1,hex,jB]; omega
 have hok:=st_ok (behind:=behind) hW hcas rfl hp hv bd2
 by_cases hbig:65536 < v
 ·have v4:decide ((65536:Int) < (v:Int))=true:=decide_eq_true (by omega)
  rw [if_pos hbig] at hok
  (refine zA0 hctr (rs:=res48) true 300 _ _ _ ?_; simp (maxSteps:=1000000) only [VT,jf,jg,jZ,qE,qF,qG,qH,qI,qJ,qK,qN,qO,qP,qR,qS,qT,qU,qV,qX,qe,qh,qp,q0t,qu,qv,ev,qw,qy,qz,zA,zB,zC,zD,zE,zF,zG,zI,zJ,TE.sv,zK,zM,↓reduceIte,reduceCtorEq,Value.oneCell',Nat.reduceEqDiff,Nat.reduceAdd,Nat.reduceLT,Nat.reduceBEq,zP,zQ,zR,zT,zV,zW,zt,zu,zx,hP,hk,res48,kp48,dT0,zC0,zA9,zA8,zC4,zB9,mqS,noS,zD8,Int.toNat_zero,Int.toNat_one,Nat.mul_one,Int.le_refl,Int.reduceToNat,Nat.reduceAdd,lb1,lb4,u8b,UInt8.reduceToNat,r0,z0,c2,c6,r1,z1,y1,jk,r2,z2,y2,lfl,r3,z3,y3,lex,r4,z4,y4,ld,r5,z5,y5,lcs,hp,v1,v2,v3,Option.getD_some,Option.isSome_some,hkb,hfl,f1,hex,jB,v4])
  exact fin { zD9 zM3 with skip:=((v+2:Nat):Int) } 0 _ (by rw [hok]; rfl) rfl
 have v4:decide ((65536:Int) < (v:Int))=false:=decide_eq_false (by omega)
 rw [if_neg hbig] at hok
 by_cases hsh:behind.length < v+2
 ·have v5:decide ((behind.length:Int) < ((v+2:Nat):Int))=true:=decide_eq_true (by omega)
  rw [if_pos hsh] at hok
  (refine zA0 hctr (rs:=res48) true 300 _ _ _ ?_; simp (maxSteps:=1000000) only [VT,jf,jg,jZ,qE,qF,qG,qH,qI,qJ,qK,qN,qO,qP,qR,qS,qT,qU,qX,qe,qf,qg,qh,qp,q0t,qu,qv,ev,qw,qy,qz,zA,zB,zC,zD,zE,zF,zG,zI,zJ,TE.sv,zK,zM,↓reduceIte,reduceCtorEq,Value.oneCell',Nat.reduceEqDiff,Nat.reduceAdd,Nat.reduceLT,Nat.reduceBEq,zP,zQ,zR,zT,zV,zW,zt,zu,zx,hP,hk,res48,kp48,dT0,zC0,zA8,zC4,zB9,Int.toNat_zero,Int.toNat_one,Nat.mul_one,Int.le_refl,Int.reduceToNat,Nat.reduceAdd,lb1,lb4,u8b,UInt8.reduceToNat,r0,z0,c2,c6,r1,z1,y1,jk,r2,z2,y2,lfl,r3,z3,y3,lex,r4,z4,y4,ld,r5,z5,y5,lcs,hp,v1,v2,v3,Option.getD_some,Option.isSome_some,hkb,hfl,f1,hex,jB,v4,v5])
  exact fin Rq.zero (-1) _ (by rw [hok]; rfl) rfl
 have v5:decide ((behind.length:Int) < ((v+2:Nat):Int))=false:=decide_eq_false (by omega)
 rw [if_neg hsh] at hok
 have d1:(v:Int)≤((v+2:Nat):Int):=by omega
 have d2:((v+2:Nat):Int)≤(behind.length:Int):=by omega
 have d3:(0:Int)≤(v:Int):=by omega
 have d4:(v:Int)≤(behind.length:Int):=by omega
 by_cases hch:(behind.take (v+2)).drop v=[13,10]
 rotate_left
 ·have c1:((behind.take (v+2)).drop v == [13,10])=false:=by simpa using hch
  have c3:((behind.take (v+2)).drop v != [13,10])=true:=by simpa using hch
  rw [if_neg hch] at hok
  (refine zA0 hctr (rs:=res48) true 300 _ _ _ ?_; simp (maxSteps:=1000000) only [VT,jf,jg,jZ,qE,qF,qG,qH,qI,qJ,qK,qN,qO,qP,qR,qS,qT,qU,qX,qZ,qe,qh,ql,qp,q0t,qu,qv,ev,qw,qy,qz,zA,zB,zC,zD,zE,zF,zG,zI,zJ,TE.sv,zK,zM,↓reduceIte,reduceCtorEq,Value.oneCell',Nat.reduceEqDiff,Nat.reduceAdd,Nat.reduceLT,Nat.reduceBEq,zP,zQ,zR,zT,zV,zW,zh,zt,zu,zx,hP,hk,res48,kp48,dT0,zC0,zA9,zA8,zC4,zB9,mqS,noS,zD8,Int.toNat_zero,Int.toNat_one,Nat.mul_one,Int.le_refl,Int.reduceToNat,Nat.reduceAdd,lb1,lb4,u8b,UInt8.reduceToNat,r0,z0,c2,c6,r1,z1,y1,jk,r2,z2,y2,lfl,r3,z3,y3,lex,r4,z4,y4,ld,r5,z5,y5,lcs,hp,v1,v2,v3,Option.getD_some,Option.isSome_some,hkb,hfl,f1,hex,jB,v4,v5,d1,d2,d3,c1])
  exact fin (zD9 zO6) ((v+2:Nat):Int) _ (by rw [hok]; rfl) rfl
 have c1:((behind.take (v+2)).drop v == [13,10])=true:=by simpa using hch
 have c3:((behind.take (v+2)).drop v != [13,10])=false:=by simpa using hch
 rw [if_pos hch] at hok
 (refine zA0 hctr (rs:=res48) true 300 _ _ _ ?_; simp (maxSteps:=1000000) only [VT,jf,jg,jZ,qH,qI,qK,qN,qO,qP,qR,qS,qT,qU,qX,qZ,qe,qh,ql,qp,ev,qw,qy,qz,zD,zF,zG,zI,zJ,TE.sv,zK,zM,↓reduceIte,reduceCtorEq,Nat.reduceEqDiff,Nat.reduceLT,Nat.reduceBEq,zP,zQ,zR,zT,zV,zW,zh,zt,zu,zx,hP,hk,res48,kp48,dT0,zC0,zA8,zC4,zB9,Int.toNat_zero,Int.toNat_one,Nat.mul_one,Int.le_refl,Int.reduceToNat,lb1,lb4,u8b,UInt8.reduceToNat,r0,z0,c2,c6,r1,z1,y1,jk,r2,z2,y2,lfl,r3,z3,y3,lex,r4,z4,y4,ld,r5,z5,y5,lcs,hp,v1,v2,v3,Option.getD_some,Option.isSome_some,hkb,hfl,f1,hex,jB,v4,v5,d1,d2,d3,c1])
 (refine zE5 hctr (by rw [hP]; rfl) rs48_30 [] (ensure_type_of% (Cmp.of (by simp (maxSteps := 1000000) only [qK, qO, qP, qR, qS, qU, qX, qZ, qf, qg, ql, q0t, qu, qv, ev, qw, qy, qz, zC, zD, zE, zF, zG, zM, ↓reduceIte, reduceCtorEq, Nat.reduceEqDiff, Nat.reduceAdd, zP, zT, zh, zt, zu, cD, cO, jC, jD, jF, jG, jH, jJ, jN, hP, dT0, zT5, hst, Int.toNat_zero, Int.toNat_one, Nat.mul_one, Int.le_refl, Nat.reduceAdd, List.drop_zero, r0, z0, c6, r1, z1, y1, f2, d3, d4]; rfl)) "" Cmp.mk) (by kernel_rfl) (by kernel_rfl) (by first | exact zC7 _ | kernel_rfl) (by kernel_rfl) (by rfl) (by rfl) (by first | exact zB2 _ | rfl) (by rfl) (by simp (maxSteps := 1000000) only [qK, qO, qP, qR, qS, qU, qX, qZ, qf, qg, ql, q0t, qu, qv, ev, qw, qy, qz, zC, zD, zE, zG, zM, ↓reduceIte, reduceCtorEq, Nat.reduceEqDiff, Nat.reduceAdd, zP, zS, zT, zh, zm, zn, zq, zt, zu, jD, jF, jG, jH, jI, jN, jP, jQ, jR, jS, jT, jV, jW, jX, jY, hP, dT0, zT5, hst, Int.toNat_zero, Int.toNat_one, Nat.mul_one, Int.le_refl, Nat.reduceAdd, List.drop_zero, r0, z0, c6, r1, z1, y1, f2, d3, d4]) ?_; refine zA0 hctr (rs := res48) true 300 _ _ _ ?_; simp (maxSteps := 1000000) only [VT, qH, qI, qK, qO, qP, ev, qw, qy, zA, zB, zD, zG, zI, zJ, zM, ↓reduceIte, reduceCtorEq, Nat.reduceEqDiff, Nat.reduceAdd, Nat.reduceLT, zP, zQ, zR, zt, jN, jO, hP, hk, kp48, dT0, Nat.reduceAdd])
 obtain ⟨c,hc⟩:∃ c:Cd,c={ Cd.zero with op:=2,mode:=zY8 [99,97,115],key:=k,val:=behind.take v,flags:=(f:Int),exp:=(zD2 ex).1,hasCas:=true,cas:=(tkn:Int) }:=⟨_,rfl⟩
 have hcS:ecS c=[.i .i64 2,.i .i64 (zY8 [99,97,115]),.s k,.s (behind.take v),.i .u32 (f:Int),.i .i64 (zD2 ex).1,.b false,.i .u64 (tkn:Int),.b true,.i .u64 0,.i .u64 0,.b false,.b false,.i .i64 0,.i .i64 0,.b false]:=by rw [hc]; rfl
 refine zA6 (xs:=[.g (ecS c),.c (.b q)]) (by rw [hcS]; rfl) (.g (gqS (.rw 2 1) noS (gqT (doR [c] q)))) [_,_,onE c] (one_h (N:=2) c q hP (zR1 rfl) (by rw [hn0]; exact Nat.zero_le _) rfl (fun x hx=>by match x with | 0=>rfl | 1=>rfl | 2=>exact absurd rfl hx | _+3=>rfl)) (by simp [zG]) (by simp) ?_
 (refine zA0 hctr (rs:=res48) true 300 _ _ _ ?_; simp (maxSteps:=1000000) only [VT,qE,qF,qG,qH,qI,qJ,qK,qO,qP,q0t,qu,qv,ev,qy,zA,zB,zC,zD,zE,zG,zI,zJ,zM,↓reduceIte,reduceCtorEq,Value.oneCell',Nat.reduceEqDiff,Nat.reduceAdd,Nat.reduceLT,zP,zQ,zR,zZ,za,zt,jN,hP,hk,res48,kp48,noS,Nat.reduceAdd,gqS,gqT,doR])
 refine fin1 c ((v+2:Nat):Int) _ ?_ rfl
 have e1:(zI2 ex).1=(zD2 ex).1:=(s2 (by rw [← s1]; exact hex)).symm
 rw [hok,hc]
 show (doR [_] q,_)=_
 simp only [e1,hfl,List.getD_cons_zero,List.getD_cons_succ,Option.getD_some,cond_true,jB]
end Go.Proofs.YtcbmlanpianclaaGreatDoor
/- The document's requests of a line alone (short), walked, name by name. Printed by gen_dt5.py. -/
namespace Go.Proofs.YtcbmlanpianclaaGreatDoor
set_option linter.unusedSimpArgs false
set_option linter.unusedVariables false
set_option maxHeartbeats 8000000
open Go.RowKit
set_option maxRecDepth 100000
def zJ5 (w:World) (r:Gq) (e:Ending) (w':World):Prop:=Below w.heap.size w w'∧∃ v,e=.returned v∧GqV w.heap.size w' v r
theorem dsh_verb_w {w:World} {a:Option Addr} {n cap:Nat} {w0:List (List UInt8)} (hraw:RawT w a ([118,101,114,98,111,115,105,116,121] :: w0)) (hn:n=w0.length+1) (hnc:n≤cap) (hcap:cap≤maxLen) (hl:∀ x∈w0,x.length≤5000) :
  Calls Tryz.prog 49 #[.slice a n cap] w (zJ5 w (gqT (rdX (zA7 [118,101,114,98,111,115,105,116,121] w0)).1)):=by
 obtain ⟨b,oo,rfl,hwb,hc0⟩:=hraw 0 [118,101,114,98,111,115,105,116,121] rfl
 obtain ⟨W,q,hW⟩:∃ W q,zN5 w0=(W,q):=⟨_,_,rfl⟩
 have hO:offA ([118,101,114,98,111,115,105,116,121] :: w0)=([118,101,114,98,111,115,105,116,121] :: W,q):=by rw [zL4,hW]
 have hpre:=zP0 hW
 obtain ⟨m,hm⟩:∃ m,W.length+1=m:=⟨_,rfl⟩
 unfold maxLen at hcap
 refine zA1 Tryz.func49 rfl kp49 (S:=Non) (ρ:=fun _=>zG7 0) (en:=[]) [.c (.v (.slice (some ⟨b,oo,none⟩) n cap))] Tryz.ntmps49 (At.nil _ _ _) (by simp [SV.wf,SC.wf]) (by simp) ?_
 intro C hC hP hk
 have hS:C.S=Non:=by rw [hC]; rfl
 have hw:C.w0=w:=by rw [hC]; rfl
 have hn0:C.n0=0:=by rw [hC]; rfl
 have hctr:zC1 C (dT0 (some ⟨b,oo,none⟩) n cap m q):=zM9 hP hS hw hraw (by simpa using hn) hnc (by unfold maxLen; exact hcap) hO (by simpa using hm)
 have fin:∀ (r:Rq) (en:List EN),(rdX (zA7 [118,101,114,98,111,115,105,116,121] w0)).1=r→r.cmds=[]→Fin C res49 (.g (gqS noS noS (gqT r))) en:=fun r en h h1=>by
  refine zC3 (v:=.g (gqS noS noS (gqT r))) hC hres49 fun ρ w' hw _ _=>?_
  have hup:=hw.up
  rw [hC] at hup
  rw [h]
  exact ⟨hup.to_below,_,rfl,GqV.none h1 rfl⟩
 have fin1:∀ (c:Cd) (N:Nat) (en:List EN),(rdX (zA7 [118,101,114,98,111,115,105,116,121] w0)).1=doR [c] q→zD en N=some (onE c)→Fin C res49 (.g (gqS (.rw N 1) noS (gqT (doR [c] q)))) en:=fun c N en h h2=>by
  refine zC3 (v:=.g (gqS (.rw N 1) noS (gqT (doR [c] q)))) hC hres49 fun ρ w' hw' _ _=>?_
  have hup:=hw'.up
  rw [hC] at hup
  rw [h]
  have:=zS8 (q:=q) hw' hS h2
  rw [hw] at this
  exact ⟨hup.to_below,_,rfl,this⟩
 have rd:∀ (i:Nat) x,([118,101,114,98,111,115,105,116,121] :: W)[i]?=some x→C.rd b (oo+i) 1=some [.s x]:=fun i x hx=>by
  have hx':([118,101,114,98,111,115,105,116,121] :: w0)[i]?=some x:=by
   cases i with
   | zero=>exact hx
   | succ i=>exact hpre i x hx
  obtain ⟨b',o',e,hr⟩:=hraw.rd (D:=C) hS hw hx'
  cases e; exact hr
 have hlW:∀ (i:Nat) x,W[i]?=some x→x.length≤5000:=fun i x hx=>hl x (List.mem_of_getElem? (hpre i x hx))
 have r0:C.rd b oo 1=some [.s [118,101,114,98,111,115,105,116,121]]:=rd 0 _ rfl
 have z0:(0:Int) < (m:Int):=by omega
 by_cases hWl:W.length=1
 ·have c1:((m:Int) == 2)=true:=by rw [beq_iff_eq]; omega
  (refine zA0 hctr (rs:=res49) true 300 _ _ _ ?_; simp (maxSteps:=1000000) only [VT,jf,jg,jZ,aA,qE,qF,qG,qH,qI,qJ,qK,qN,qO,qP,qR,qS,qX,qe,qf,qg,qh,qp,q0t,qu,qv,ev,qw,qy,qz,zA,zB,zC,zD,zE,zF,zG,zI,zJ,TE.sv,zK,zM,↓reduceIte,reduceCtorEq,Value.oneCell',Nat.reduceEqDiff,Nat.reduceAdd,Nat.reduceLT,Nat.reduceBEq,zP,zQ,zR,zT,zV,zW,zt,zu,zw,zx,hP,hk,res49,kp49,dT0,zB9,Int.toNat_zero,Nat.mul_one,Int.le_refl,Nat.reduceAdd,lb1,lb4,u8b,UInt8.reduceToNat,r0,z0,c1])
  exact fin { Rq.zero with kind:=4,quiet:=q } _ (by simp [zA7,hW,rdX,hWl]) rfl
 ·have c1:((m:Int) == 2)=false:=by rw [beq_eq_false_iff_ne]; omega
  (refine zA0 hctr (rs:=res49) true 300 _ _ _ ?_; simp (maxSteps:=1000000) only [VT,jf,jg,jZ,aA,qE,qF,qG,qH,qI,qJ,qK,qN,qO,qP,qR,qS,qX,qe,qh,qp,q0t,qu,qv,ev,qw,qy,qz,zA,zB,zC,zD,zE,zF,zG,zI,zJ,TE.sv,zK,zM,↓reduceIte,reduceCtorEq,Value.oneCell',Nat.reduceEqDiff,Nat.reduceAdd,Nat.reduceLT,Nat.reduceBEq,zP,zQ,zR,zT,zV,zW,zt,zu,zw,zx,hP,hk,res49,kp49,dT0,zA9,zB9,mqS,noS,zD8,Int.toNat_zero,Nat.mul_one,Int.le_refl,Nat.reduceAdd,lb1,lb2,lb4,u8b,UInt8.reduceToNat,r0,z0,c1])
  exact fin (zD9 zA5) _ (by simp [zA7,hW,rdX,hWl]) rfl
theorem dsh_flush_w {w:World} {a:Option Addr} {n cap:Nat} {w0:List (List UInt8)} (hraw:RawT w a ([102,108,117,115,104,95,97,108,108] :: w0)) (hn:n=w0.length+1) (hnc:n≤cap) (hcap:cap≤maxLen) (hl:∀ x∈w0,x.length≤5000) :
  Calls Tryz.prog 49 #[.slice a n cap] w (zJ5 w (gqT (rdX (zA7 [102,108,117,115,104,95,97,108,108] w0)).1)):=by
 obtain ⟨b,oo,rfl,hwb,hc0⟩:=hraw 0 [102,108,117,115,104,95,97,108,108] rfl
 obtain ⟨W,q,hW⟩:∃ W q,zN5 w0=(W,q):=⟨_,_,rfl⟩
 have hO:offA ([102,108,117,115,104,95,97,108,108] :: w0)=([102,108,117,115,104,95,97,108,108] :: W,q):=by rw [zL4,hW]
 have hpre:=zP0 hW
 obtain ⟨m,hm⟩:∃ m,W.length+1=m:=⟨_,rfl⟩
 unfold maxLen at hcap
 refine zA1 Tryz.func49 rfl kp49 (S:=Non) (ρ:=fun _=>zG7 0) (en:=[]) [.c (.v (.slice (some ⟨b,oo,none⟩) n cap))] Tryz.ntmps49 (At.nil _ _ _) (by simp [SV.wf,SC.wf]) (by simp) ?_
 intro C hC hP hk
 have hS:C.S=Non:=by rw [hC]; rfl
 have hw:C.w0=w:=by rw [hC]; rfl
 have hn0:C.n0=0:=by rw [hC]; rfl
 have hctr:zC1 C (dT0 (some ⟨b,oo,none⟩) n cap m q):=zM9 hP hS hw hraw (by simpa using hn) hnc (by unfold maxLen; exact hcap) hO (by simpa using hm)
 have fin:∀ (r:Rq) (en:List EN),(rdX (zA7 [102,108,117,115,104,95,97,108,108] w0)).1=r→r.cmds=[]→Fin C res49 (.g (gqS noS noS (gqT r))) en:=fun r en h h1=>by
  refine zC3 (v:=.g (gqS noS noS (gqT r))) hC hres49 fun ρ w' hw _ _=>?_
  have hup:=hw.up
  rw [hC] at hup
  rw [h]
  exact ⟨hup.to_below,_,rfl,GqV.none h1 rfl⟩
 have fin1:∀ (c:Cd) (N:Nat) (en:List EN),(rdX (zA7 [102,108,117,115,104,95,97,108,108] w0)).1=doR [c] q→zD en N=some (onE c)→Fin C res49 (.g (gqS (.rw N 1) noS (gqT (doR [c] q)))) en:=fun c N en h h2=>by
  refine zC3 (v:=.g (gqS (.rw N 1) noS (gqT (doR [c] q)))) hC hres49 fun ρ w' hw' _ _=>?_
  have hup:=hw'.up
  rw [hC] at hup
  rw [h]
  have:=zS8 (q:=q) hw' hS h2
  rw [hw] at this
  exact ⟨hup.to_below,_,rfl,this⟩
 have rd:∀ (i:Nat) x,([102,108,117,115,104,95,97,108,108] :: W)[i]?=some x→C.rd b (oo+i) 1=some [.s x]:=fun i x hx=>by
  have hx':([102,108,117,115,104,95,97,108,108] :: w0)[i]?=some x:=by
   cases i with
   | zero=>exact hx
   | succ i=>exact hpre i x hx
  obtain ⟨b',o',e,hr⟩:=hraw.rd (D:=C) hS hw hx'
  cases e; exact hr
 have hlW:∀ (i:Nat) x,W[i]?=some x→x.length≤5000:=fun i x hx=>hl x (List.mem_of_getElem? (hpre i x hx))
 have r0:C.rd b oo 1=some [.s [102,108,117,115,104,95,97,108,108]]:=rd 0 _ rfl
 have z0:(0:Int) < (m:Int):=by omega
 by_cases hW2:1 < W.length
 ·have c1:decide ((m:Int)≤2)=false:=decide_eq_false (by omega)
  (refine zA0 hctr (rs:=res49) true 300 _ _ _ ?_; simp (maxSteps:=1000000) only [VT,jf,jg,jZ,aA,qE,qF,qG,qH,qI,qJ,qK,qN,qO,qP,qR,qS,qX,qe,qh,qp,q0t,qu,qv,ev,qw,qy,qz,zA,zB,zC,zD,zE,zF,zG,zI,zJ,TE.sv,zK,zM,↓reduceIte,reduceCtorEq,Value.oneCell',Nat.reduceEqDiff,Nat.reduceAdd,Nat.reduceLT,Nat.reduceBEq,zP,zQ,zR,zT,zV,zW,zt,zu,zw,zx,hP,hk,res49,kp49,dT0,zA9,zB9,mqS,noS,zD8,Int.toNat_zero,Nat.mul_one,Int.le_refl,Nat.reduceAdd,lb1,lb2,lb4,u8b,UInt8.reduceToNat,r0,z0,c1])
  exact fin (zD9 zA5) _ (by simp [zA7,hW,rdX,hW2]) rfl
 by_cases hWl:W.length=1
 ·obtain rfl:m=2:=by omega
  obtain ⟨x,rfl⟩:∃ x,W=[x]:=by
   match W,hWl with
   | [x],_=>exact ⟨x,rfl⟩
  have r1:C.rd b (oo+1) 1=some [.s x]:=rd 1 _ rfl
  have z1:(1:Int) < ((2:Nat):Int):=by decide
  have y1:(0:Int)≤1:=by decide
  have Lx:x.length≤5000:=hlW 0 _ rfl
  have lx:x.length≤9223372036854775807:=by omega
  have jx:x.length≤9223372036854775806:=by omega
  obtain ⟨s1,s2⟩:=sec_is x
  have c1:decide (((2:Nat):Int)≤2)=true:=rfl
  have c2:(((2:Nat):Int) == 2)=true:=rfl
  cases hex:(zD2 x).2 with
  | false =>
   (refine zA0 hctr (rs:=res49) true 300 _ _ _ ?_; simp (maxSteps:=1000000) only [VT,jf,jg,jZ,qE,qF,qG,qH,qI,qJ,qK,qN,qO,qP,qR,qS,qT,qX,qe,qh,qp,q0t,qu,qv,ev,qw,qy,qz,zA,zB,zC,zD,zE,zF,zG,zI,zJ,TE.sv,zK,zM,↓reduceIte,reduceCtorEq,Value.oneCell',Nat.reduceEqDiff,Nat.reduceAdd,Nat.reduceLT,Nat.reduceBEq,zP,zQ,zR,zT,zV,zW,zt,zu,zw,zx,hP,hk,res49,kp49,dT0,zA9,zC4,zB9,mqS,noS,zD8,Int.toNat_zero,Int.toNat_one,Nat.mul_one,Int.le_refl,Nat.reduceAdd,lb1,lb4,u8b,UInt8.reduceToNat,r0,z0,c1,c2,hex,r1,z1,y1,lx])
   exact fin (zD9 zG9) _ (by simp [zA7,hW,rdX,← s1,hex]) rfl
  | true =>
   have e1:=s2 (by rw [← s1]; exact hex)
   (refine zA0 hctr (rs:=res49) true 300 _ _ _ ?_; simp (maxSteps:=1000000) only [VT,jf,jg,jZ,qH,qI,qK,qN,qO,qP,qR,qS,qT,qX,qe,qf,qg,qh,qp,q0t,ev,qw,qy,qz,zC,zD,zF,zG,zI,zJ,TE.sv,zK,zM,↓reduceIte,reduceCtorEq,Nat.reduceEqDiff,Nat.reduceLT,Nat.reduceBEq,zP,zQ,zR,zT,zV,zW,zu,zw,zx,hP,hk,res49,kp49,dT0,zC4,zB9,Int.toNat_zero,Int.toNat_one,Nat.mul_one,Int.le_refl,lb1,lb4,u8b,UInt8.reduceToNat,r0,z0,c1,c2,hex,r1,z1,y1,lx])
   obtain ⟨c,hc⟩:∃ c:Cd,c={ Cd.zero with op:=6,key:=[],exp:=(zD2 x).1 }:=⟨_,rfl⟩
   have hcS:ecS c=[.i .i64 6,.i .i64 0,.s [],.s [],.i .u32 0,.i .i64 (zD2 x).1,.b false,.i .u64 0,.b false,.i .u64 0,.i .u64 0,.b false,.b false,.i .i64 0,.i .i64 0,.b false]:=by rw [hc]; rfl
   refine zA6 (xs:=[.g (ecS c),.c (.b q)]) (by rw [hcS]; rfl) (.g (gqS (.rw 1 1) noS (gqT (doR [c] q)))) [_,onE c] (one_h (N:=1) c q hP (zR1 rfl) (by rw [hn0]; exact Nat.zero_le _) rfl (fun x hx=>by match x with | 0=>rfl | 1=>exact absurd rfl hx | _+2=>rfl)) (by simp [zG]) (by simp) ?_
   (refine zA0 hctr (rs:=res49) true 300 _ _ _ ?_; simp (maxSteps:=1000000) only [VT,qE,qF,qG,qH,qJ,qP,q0t,qu,qv,ev,qy,zA,zB,zC,zD,zE,zG,zI,zJ,TE.sv,zM,↓reduceIte,reduceCtorEq,Value.oneCell',Nat.reduceEqDiff,Nat.reduceAdd,zP,zQ,zZ,za,zt,jN,hP,hk,res49,kp49,noS,Nat.reduceAdd,gqS,gqT,doR])
   exact fin1 c 1 _ (by rw [hc]; simp [zA7,hW,rdX,← s1,hex,← e1] <;> rfl) rfl
 ·obtain rfl:W=[]:=List.eq_nil_of_length_eq_zero (by omega)
  obtain rfl:m=1:=hm.symm
  have c1:decide (((1:Nat):Int)≤2)=true:=rfl
  have c2:(((1:Nat):Int) == 2)=false:=rfl
  (refine zA0 hctr (rs:=res49) true 300 _ _ _ ?_; simp (maxSteps:=1000000) only [VT,jf,jg,jZ,qH,qI,qK,qN,qO,qP,qR,qS,qT,qX,qe,qf,qg,qh,qp,q0t,ev,qw,qy,qz,zC,zD,zF,zG,zI,zJ,TE.sv,zK,zM,↓reduceIte,reduceCtorEq,Nat.reduceEqDiff,Nat.reduceLT,Nat.reduceBEq,zP,zQ,zR,zT,zV,zW,zu,zw,zx,hP,hk,res49,kp49,dT0,zB9,Int.toNat_zero,Nat.mul_one,Int.le_refl,lb1,lb4,u8b,UInt8.reduceToNat,r0,z0,c1,c2])
  obtain ⟨c,hc⟩:∃ c:Cd,c={ Cd.zero with op:=6,key:=[],exp:=0 }:=⟨_,rfl⟩
  have hcS:ecS c=[.i .i64 6,.i .i64 0,.s [],.s [],.i .u32 0,.i .i64 0,.b false,.i .u64 0,.b false,.i .u64 0,.i .u64 0,.b false,.b false,.i .i64 0,.i .i64 0,.b false]:=by rw [hc]; rfl
  refine zA6 (xs:=[.g (ecS c),.c (.b q)]) (by rw [hcS]; rfl) (.g (gqS (.rw 1 1) noS (gqT (doR [c] q)))) [_,onE c] (one_h (N:=1) c q hP (zR1 rfl) (by rw [hn0]; exact Nat.zero_le _) rfl (fun x hx=>by match x with | 0=>rfl | 1=>exact absurd rfl hx | _+2=>rfl)) (by simp [zG]) (by simp) ?_
  (refine zA0 hctr (rs:=res49) true 300 _ _ _ ?_; simp (maxSteps:=1000000) only [VT,qE,qF,qG,qH,qJ,qP,q0t,qu,qv,ev,qy,zA,zB,zC,zD,zE,zG,zI,zJ,TE.sv,zM,↓reduceIte,reduceCtorEq,Value.oneCell',Nat.reduceEqDiff,Nat.reduceAdd,zP,zQ,zZ,za,zt,jN,hP,hk,res49,kp49,noS,Nat.reduceAdd,gqS,gqT,doR])
  exact fin1 c 1 _ (by rw [hc]; simp [zA7,hW,rdX] <;> rfl) rfl
theorem dsh_del_w {w:World} {a:Option Addr} {n cap:Nat} {w0:List (List UInt8)} (hraw:RawT w a ([100,101,108,101,116,101] :: w0)) (hn:n=w0.length+1) (hnc:n≤cap) (hcap:cap≤maxLen) (hl:∀ x∈w0,x.length≤5000) :
  Calls Tryz.prog 49 #[.slice a n cap] w (zJ5 w (gqT (rdX (zA7 [100,101,108,101,116,101] w0)).1)):=by
 obtain ⟨b,oo,rfl,hwb,hc0⟩:=hraw 0 [100,101,108,101,116,101] rfl
 obtain ⟨W,q,hW⟩:∃ W q,zN5 w0=(W,q):=⟨_,_,rfl⟩
 have hO:offA ([100,101,108,101,116,101] :: w0)=([100,101,108,101,116,101] :: W,q):=by rw [zL4,hW]
 have hpre:=zP0 hW
 obtain ⟨m,hm⟩:∃ m,W.length+1=m:=⟨_,rfl⟩
 unfold maxLen at hcap
 refine zA1 Tryz.func49 rfl kp49 (S:=Non) (ρ:=fun _=>zG7 0) (en:=[]) [.c (.v (.slice (some ⟨b,oo,none⟩) n cap))] Tryz.ntmps49 (At.nil _ _ _) (by simp [SV.wf,SC.wf]) (by simp) ?_
 intro C hC hP hk
 have hS:C.S=Non:=by rw [hC]; rfl
 have hw:C.w0=w:=by rw [hC]; rfl
 have hn0:C.n0=0:=by rw [hC]; rfl
 have hctr:zC1 C (dT0 (some ⟨b,oo,none⟩) n cap m q):=zM9 hP hS hw hraw (by simpa using hn) hnc (by unfold maxLen; exact hcap) hO (by simpa using hm)
 have fin:∀ (r:Rq) (en:List EN),(rdX (zA7 [100,101,108,101,116,101] w0)).1=r→r.cmds=[]→Fin C res49 (.g (gqS noS noS (gqT r))) en:=fun r en h h1=>by
  refine zC3 (v:=.g (gqS noS noS (gqT r))) hC hres49 fun ρ w' hw _ _=>?_
  have hup:=hw.up
  rw [hC] at hup
  rw [h]
  exact ⟨hup.to_below,_,rfl,GqV.none h1 rfl⟩
 have fin1:∀ (c:Cd) (N:Nat) (en:List EN),(rdX (zA7 [100,101,108,101,116,101] w0)).1=doR [c] q→zD en N=some (onE c)→Fin C res49 (.g (gqS (.rw N 1) noS (gqT (doR [c] q)))) en:=fun c N en h h2=>by
  refine zC3 (v:=.g (gqS (.rw N 1) noS (gqT (doR [c] q)))) hC hres49 fun ρ w' hw' _ _=>?_
  have hup:=hw'.up
  rw [hC] at hup
  rw [h]
  have:=zS8 (q:=q) hw' hS h2
  rw [hw] at this
  exact ⟨hup.to_below,_,rfl,this⟩
 have rd:∀ (i:Nat) x,([100,101,108,101,116,101] :: W)[i]?=some x→C.rd b (oo+i) 1=some [.s x]:=fun i x hx=>by
  have hx':([100,101,108,101,116,101] :: w0)[i]?=some x:=by
   cases i with
   | zero=>exact hx
   | succ i=>exact hpre i x hx
  obtain ⟨b',o',e,hr⟩:=hraw.rd (D:=C) hS hw hx'
  cases e; exact hr
 have hlW:∀ (i:Nat) x,W[i]?=some x→x.length≤5000:=fun i x hx=>hl x (List.mem_of_getElem? (hpre i x hx))
 have r0:C.rd b oo 1=some [.s [100,101,108,101,116,101]]:=rd 0 _ rfl
 have z0:(0:Int) < (m:Int):=by omega
 by_cases hWl:W.length=1
 ·obtain rfl:m=2:=by omega
  obtain ⟨k,rfl⟩:∃ k,W=[k]:=by
   match W,hWl with
   | [k],_=>exact ⟨k,rfl⟩
  have r1:C.rd b (oo+1) 1=some [.s k]:=rd 1 _ rfl
  have z1:(1:Int) < ((2:Nat):Int):=by decide
  have y1:(0:Int)≤1:=by decide
  have Lk:k.length≤5000:=hlW 0 _ rfl
  have lk:k.length≤9223372036854775807:=by omega
  have jk:k.length≤9223372036854775806:=by omega
  have c1:(((2:Nat):Int) == 2)=true:=rfl
  have c2:(((2:Nat):Int) == 3)=false:=rfl
  cases hkb:zG3 k with
  | false =>
   (refine zA0 hctr (rs:=res49) true 300 _ _ _ ?_; simp (maxSteps:=1000000) only [VT,jf,jg,jZ,aA,qE,qF,qG,qH,qI,qJ,qK,qN,qO,qP,qR,qS,qT,qX,qe,qh,qp,q0t,qu,qv,ev,qw,qy,qz,zA,zB,zC,zD,zE,zF,zG,zI,zJ,TE.sv,zK,zM,↓reduceIte,reduceCtorEq,Value.oneCell',Nat.reduceEqDiff,Nat.reduceAdd,Nat.reduceLT,Nat.reduceBEq,zP,zQ,zR,zT,zV,zW,zt,zu,zw,zx,hP,hk,res49,kp49,dT0,zC0,zA9,zB9,mqS,noS,zD8,Int.toNat_zero,Int.toNat_one,Nat.mul_one,Int.le_refl,Nat.reduceAdd,lb1,lb3,lb4,u8b,UInt8.reduceToNat,r0,z0,c1,r1,z1,y1,jk,hkb])
   exact fin (zD9 zA2) _ (by simp [zA7,hW,rdX,zI1,hkb]) rfl
  | true =>
   (refine zA0 hctr (rs:=res49) true 300 _ _ _ ?_; simp (maxSteps:=1000000) only [VT,jf,jg,jZ,aA,qH,qI,qK,qN,qO,qP,qR,qS,qT,qX,qe,qf,qg,qh,qp,q0t,ev,qw,qy,qz,zC,zD,zF,zG,zI,zJ,TE.sv,zK,zM,↓reduceIte,reduceCtorEq,Nat.reduceEqDiff,Nat.reduceLT,Nat.reduceBEq,zP,zQ,zR,zT,zV,zW,zu,zw,zx,hP,hk,res49,kp49,dT0,zC0,zB9,Int.toNat_zero,Int.toNat_one,Nat.mul_one,Int.le_refl,lb1,lb3,lb4,u8b,UInt8.reduceToNat,r0,z0,c1,c2,hkb,r1,z1,y1,jk])
   obtain ⟨c,hc⟩:∃ c:Cd,c={ Cd.zero with op:=5,key:=k,exp:=0 }:=⟨_,rfl⟩
   have hcS:ecS c=[.i .i64 5,.i .i64 0,.s k,.s [],.i .u32 0,.i .i64 0,.b false,.i .u64 0,.b false,.i .u64 0,.i .u64 0,.b false,.b false,.i .i64 0,.i .i64 0,.b false]:=by rw [hc]; rfl
   refine zA6 (xs:=[.g (ecS c),.c (.b q)]) (by rw [hcS]; rfl) (.g (gqS (.rw 1 1) noS (gqT (doR [c] q)))) [_,onE c] (one_h (N:=1) c q hP (zR1 rfl) (by rw [hn0]; exact Nat.zero_le _) rfl (fun x hx=>by match x with | 0=>rfl | 1=>exact absurd rfl hx | _+2=>rfl)) (by simp [zG]) (by simp) ?_
   (refine zA0 hctr (rs:=res49) true 300 _ _ _ ?_; simp (maxSteps:=1000000) only [VT,qE,qF,qG,qH,qJ,qP,q0t,qu,qv,ev,qy,zA,zB,zC,zD,zE,zG,zI,zJ,TE.sv,zM,↓reduceIte,reduceCtorEq,Value.oneCell',Nat.reduceEqDiff,Nat.reduceAdd,zP,zQ,zZ,za,zt,jN,hP,hk,res49,kp49,noS,Nat.reduceAdd,gqS,gqT,doR])
   exact fin1 c 1 _ (by rw [hc]; simp [zA7,hW,rdX,zI1,hkb] <;> rfl) rfl
 by_cases hWl:W.length=2
 ·obtain rfl:m=3:=by omega
  obtain ⟨k,x,rfl⟩:∃ k x,W=[k,x]:=by
   match W,hWl with
   | [k,x],_=>exact ⟨k,x,rfl⟩
  have r1:C.rd b (oo+1) 1=some [.s k]:=rd 1 _ rfl
  have z1:(1:Int) < ((3:Nat):Int):=by decide
  have y1:(0:Int)≤1:=by decide
  have Lk:k.length≤5000:=hlW 0 _ rfl
  have lk:k.length≤9223372036854775807:=by omega
  have jk:k.length≤9223372036854775806:=by omega
  have r2:C.rd b (oo+2) 1=some [.s x]:=rd 2 _ rfl
  have z2:(2:Int) < ((3:Nat):Int):=by decide
  have y2:(0:Int)≤2:=by decide
  have Lx:x.length≤5000:=hlW 1 _ rfl
  have lx:x.length≤9223372036854775807:=by omega
  have jx:x.length≤9223372036854775806:=by omega
  have c1:(((3:Nat):Int) == 2)=false:=rfl
  have c2:(((3:Nat):Int) == 3)=true:=rfl
  cases hkb:zG3 k with
  | false =>
   (refine zA0 hctr (rs:=res49) true 300 _ _ _ ?_; simp (maxSteps:=1000000) only [VT,jf,jg,jZ,aA,qE,qF,qG,qH,qI,qJ,qK,qN,qO,qP,qR,qS,qT,qX,qe,qh,qp,q0t,qu,qv,ev,qw,qy,qz,zA,zB,zC,zD,zE,zF,zG,zI,zJ,TE.sv,zK,zM,↓reduceIte,reduceCtorEq,Value.oneCell',Nat.reduceEqDiff,Nat.reduceAdd,Nat.reduceLT,Nat.reduceBEq,zP,zQ,zR,zT,zV,zW,zt,zu,zw,zx,hP,hk,res49,kp49,dT0,zC0,zA9,zB9,mqS,noS,zD8,Int.toNat_zero,Int.toNat_one,Nat.mul_one,Int.le_refl,Nat.reduceAdd,lb1,lb3,lb4,u8b,UInt8.reduceToNat,r0,z0,c1,c2,r1,z1,y1,jk,hkb])
   exact fin (zD9 zA2) _ (by simp [zA7,hW,rdX,zI1,hkb]) rfl
  | true =>
   by_cases hx:x=[48]
   ·have x1:(x == [48])=true:=by rw [hx]; rfl
    have x2:(x != [48])=false:=by rw [hx]; rfl
    (refine zA0 hctr (rs:=res49) true 300 _ _ _ ?_; simp (maxSteps:=1000000) only [VT,jf,jg,jZ,aA,qH,qI,qK,qN,qO,qP,qR,qS,qT,qX,qe,qf,qg,qh,qp,q0t,ev,qw,qy,qz,zC,zD,zF,zG,zI,zJ,TE.sv,zK,zM,↓reduceIte,reduceCtorEq,Nat.reduceEqDiff,Nat.reduceLT,Nat.reduceBEq,zP,zQ,zR,zT,zV,zW,zu,zw,zx,hP,hk,res49,kp49,dT0,zC0,zB9,Int.toNat_zero,Int.toNat_one,Nat.mul_one,Int.le_refl,Int.reduceToNat,lb1,lb3,lb4,u8b,UInt8.reduceToNat,r0,z0,c1,c2,hkb,x1,r1,z1,y1,jk,r2,z2,y2])
    obtain ⟨c,hc⟩:∃ c:Cd,c={ Cd.zero with op:=5,key:=k,exp:=0 }:=⟨_,rfl⟩
    have hcS:ecS c=[.i .i64 5,.i .i64 0,.s k,.s [],.i .u32 0,.i .i64 0,.b false,.i .u64 0,.b false,.i .u64 0,.i .u64 0,.b false,.b false,.i .i64 0,.i .i64 0,.b false]:=by rw [hc]; rfl
    refine zA6 (xs:=[.g (ecS c),.c (.b q)]) (by rw [hcS]; rfl) (.g (gqS (.rw 1 1) noS (gqT (doR [c] q)))) [_,onE c] (one_h (N:=1) c q hP (zR1 rfl) (by rw [hn0]; exact Nat.zero_le _) rfl (fun x hx=>by match x with | 0=>rfl | 1=>exact absurd rfl hx | _+2=>rfl)) (by simp [zG]) (by simp) ?_
    (refine zA0 hctr (rs:=res49) true 300 _ _ _ ?_; simp (maxSteps:=1000000) only [VT,qE,qF,qG,qH,qJ,qP,q0t,qu,qv,ev,qy,zA,zB,zC,zD,zE,zG,zI,zJ,TE.sv,zM,↓reduceIte,reduceCtorEq,Value.oneCell',Nat.reduceEqDiff,Nat.reduceAdd,zP,zQ,zZ,za,zt,jN,hP,hk,res49,kp49,noS,Nat.reduceAdd,gqS,gqT,doR])
    exact fin1 c 1 _ (by rw [hc]; simp [zA7,hW,rdX,zI1,hkb,hx] <;> rfl) rfl
   ·have x1:(x == [48])=false:=by simpa using hx
    have x2:(x != [48])=true:=by simpa using hx
    (refine zA0 hctr (rs:=res49) true 300 _ _ _ ?_; simp (maxSteps:=1000000) only [VT,jf,jg,jZ,aA,qE,qF,qG,qH,qI,qJ,qK,qN,qO,qP,qR,qS,qT,qX,qe,qh,qp,q0t,qu,qv,ev,qw,qy,qz,zA,zB,zC,zD,zE,zF,zG,zI,zJ,TE.sv,zK,zM,↓reduceIte,reduceCtorEq,Value.oneCell',Nat.reduceEqDiff,Nat.reduceAdd,Nat.reduceLT,Nat.reduceBEq,zP,zQ,zR,zT,zV,zW,zt,zu,zw,zx,hP,hk,res49,kp49,dT0,zC0,zA9,zB9,mqS,noS,zD8,Int.toNat_zero,Int.toNat_one,Nat.mul_one,Int.le_refl,Int.reduceToNat,Nat.reduceAdd,lb1,lb3,lb4,u8b,UInt8.reduceToNat,r0,z0,c1,c2,hkb,x1,r1,z1,y1,jk,r2,z2,y2])
    exact fin (zD9 zA2) _ (by simp [zA7,hW,rdX,zI1,hkb,hx]) rfl
 ·have c1:((m:Int) == 2)=false:=by rw [beq_eq_false_iff_ne]; omega
  have c2:((m:Int) == 3)=false:=by rw [beq_eq_false_iff_ne]; omega
  (refine zA0 hctr (rs:=res49) true 300 _ _ _ ?_; simp (maxSteps:=1000000) only [VT,jf,jg,jZ,aA,qE,qF,qG,qH,qI,qJ,qK,qN,qO,qP,qR,qS,qX,qe,qh,qp,q0t,qu,qv,ev,qw,qy,qz,zA,zB,zC,zD,zE,zF,zG,zI,zJ,TE.sv,zK,zM,↓reduceIte,reduceCtorEq,Value.oneCell',Nat.reduceEqDiff,Nat.reduceAdd,Nat.reduceLT,Nat.reduceBEq,zP,zQ,zR,zT,zV,zW,zt,zu,zw,zx,hP,hk,res49,kp49,dT0,zA9,zB9,mqS,noS,zD8,Int.toNat_zero,Nat.mul_one,Int.le_refl,Nat.reduceAdd,lb1,lb3,lb4,u8b,UInt8.reduceToNat,r0,z0,c1,c2])
  have hW3:W.length=0∨2 < W.length:=by omega
  exact fin (zD9 zA5) _ (by unfold zA7; simp only [hW]; rw [if_neg (by decide),if_neg (by decide),if_pos trivial,if_pos hW3]; rfl) rfl
end Go.Proofs.YtcbmlanpianclaaGreatDoor
/- The document's requests of a line alone (short), walked: touch, incr, decr. Printed by gen_dt5.py. -/
namespace Go.Proofs.YtcbmlanpianclaaGreatDoor
set_option linter.unusedSimpArgs false
set_option linter.unusedVariables false
set_option maxHeartbeats 8000000
open Go.RowKit
set_option maxRecDepth 100000
theorem dsh_touch_w {w:World} {a:Option Addr} {n cap:Nat} {w0:List (List UInt8)} (hraw:RawT w a ([116,111,117,99,104] :: w0)) (hn:n=w0.length+1) (hnc:n≤cap) (hcap:cap≤maxLen) (hl:∀ x∈w0,x.length≤5000) :
  Calls Tryz.prog 49 #[.slice a n cap] w (zJ5 w (gqT (rdX (zA7 [116,111,117,99,104] w0)).1)):=by
 obtain ⟨b,oo,rfl,hwb,hc0⟩:=hraw 0 [116,111,117,99,104] rfl
 obtain ⟨W,q,hW⟩:∃ W q,zN5 w0=(W,q):=⟨_,_,rfl⟩
 have hO:offA ([116,111,117,99,104] :: w0)=([116,111,117,99,104] :: W,q):=by rw [zL4,hW]
 have hpre:=zP0 hW
 obtain ⟨m,hm⟩:∃ m,W.length+1=m:=⟨_,rfl⟩
 unfold maxLen at hcap
 refine zA1 Tryz.func49 rfl kp49 (S:=Non) (ρ:=fun _=>zG7 0) (en:=[]) [.c (.v (.slice (some ⟨b,oo,none⟩) n cap))] Tryz.ntmps49 (At.nil _ _ _) (by simp [SV.wf,SC.wf]) (by simp) ?_
 intro C hC hP hk
 have hS:C.S=Non:=by rw [hC]; rfl
 have hw:C.w0=w:=by rw [hC]; rfl
 have hn0:C.n0=0:=by rw [hC]; rfl
 have hctr:zC1 C (dT0 (some ⟨b,oo,none⟩) n cap m q):=zM9 hP hS hw hraw (by simpa using hn) hnc (by unfold maxLen; exact hcap) hO (by simpa using hm)
 have fin:∀ (r:Rq) (en:List EN),(rdX (zA7 [116,111,117,99,104] w0)).1=r→r.cmds=[]→Fin C res49 (.g (gqS noS noS (gqT r))) en:=fun r en h h1=>by
  refine zC3 (v:=.g (gqS noS noS (gqT r))) hC hres49 fun ρ w' hw _ _=>?_
  have hup:=hw.up
  rw [hC] at hup
  rw [h]
  exact ⟨hup.to_below,_,rfl,GqV.none h1 rfl⟩
 have fin1:∀ (c:Cd) (N:Nat) (en:List EN),(rdX (zA7 [116,111,117,99,104] w0)).1=doR [c] q→zD en N=some (onE c)→Fin C res49 (.g (gqS (.rw N 1) noS (gqT (doR [c] q)))) en:=fun c N en h h2=>by
  refine zC3 (v:=.g (gqS (.rw N 1) noS (gqT (doR [c] q)))) hC hres49 fun ρ w' hw' _ _=>?_
  have hup:=hw'.up
  rw [hC] at hup
  rw [h]
  have:=zS8 (q:=q) hw' hS h2
  rw [hw] at this
  exact ⟨hup.to_below,_,rfl,this⟩
 have rd:∀ (i:Nat) x,([116,111,117,99,104] :: W)[i]?=some x→C.rd b (oo+i) 1=some [.s x]:=fun i x hx=>by
  have hx':([116,111,117,99,104] :: w0)[i]?=some x:=by
   cases i with
   | zero=>exact hx
   | succ i=>exact hpre i x hx
  obtain ⟨b',o',e,hr⟩:=hraw.rd (D:=C) hS hw hx'
  cases e; exact hr
 have hlW:∀ (i:Nat) x,W[i]?=some x→x.length≤5000:=fun i x hx=>hl x (List.mem_of_getElem? (hpre i x hx))
 have r0:C.rd b oo 1=some [.s [116,111,117,99,104]]:=rd 0 _ rfl
 have z0:(0:Int) < (m:Int):=by omega
 by_cases hWl:W.length=2
 ·obtain rfl:m=3:=by omega
  obtain ⟨k,x,rfl⟩:∃ k x,W=[k,x]:=by
   match W,hWl with
   | [k,x],_=>exact ⟨k,x,rfl⟩
  have r1:C.rd b (oo+1) 1=some [.s k]:=rd 1 _ rfl
  have z1:(1:Int) < ((3:Nat):Int):=by decide
  have y1:(0:Int)≤1:=by decide
  have Lk:k.length≤5000:=hlW 0 _ rfl
  have lk:k.length≤9223372036854775807:=by omega
  have jk:k.length≤9223372036854775806:=by omega
  have r2:C.rd b (oo+2) 1=some [.s x]:=rd 2 _ rfl
  have z2:(2:Int) < ((3:Nat):Int):=by decide
  have y2:(0:Int)≤2:=by decide
  have Lx:x.length≤5000:=hlW 1 _ rfl
  have lx:x.length≤9223372036854775807:=by omega
  have jx:x.length≤9223372036854775806:=by omega
  have c2:(((3:Nat):Int) == 3)=true:=rfl
  obtain ⟨s1,s2⟩:=sec_is x
  cases hkb:zG3 k with
  | false =>
   (refine zA0 hctr (rs:=res49) true 300 _ _ _ ?_; simp (maxSteps:=1000000) only [VT,jf,jg,jZ,aA,qE,qF,qG,qH,qI,qJ,qK,qN,qO,qP,qR,qS,qT,qX,qe,qh,qp,q0t,qu,qv,ev,qw,qy,qz,zA,zB,zC,zD,zE,zF,zG,zI,zJ,TE.sv,zK,zM,↓reduceIte,reduceCtorEq,Value.oneCell',Nat.reduceEqDiff,Nat.reduceAdd,Nat.reduceLT,Nat.reduceBEq,zP,zQ,zR,zT,zV,zW,zt,zu,zw,zx,hP,hk,res49,kp49,dT0,zC0,zA9,zB9,mqS,noS,zD8,Int.toNat_zero,Int.toNat_one,Nat.mul_one,Int.le_refl,Nat.reduceAdd,lb1,lb3,u8b,UInt8.reduceToNat,r0,z0,c2,r1,z1,y1,jk,hkb])
   exact fin (zD9 zA2) _ (by simp [zA7,hW,rdX,zI1,hkb]) rfl
  | true =>
   cases hex:(zD2 x).2 with
   | false =>
    (refine zA0 hctr (rs:=res49) true 300 _ _ _ ?_; simp (maxSteps:=1000000) only [VT,jf,jg,jZ,aA,qE,qF,qG,qH,qI,qJ,qK,qN,qO,qP,qR,qS,qT,qX,qe,qh,qp,q0t,qu,qv,ev,qw,qy,qz,zA,zB,zC,zD,zE,zF,zG,zI,zJ,TE.sv,zK,zM,↓reduceIte,reduceCtorEq,Value.oneCell',Nat.reduceEqDiff,Nat.reduceAdd,Nat.reduceLT,Nat.reduceBEq,zP,zQ,zR,zT,zV,zW,zt,zu,zw,zx,hP,hk,res49,kp49,dT0,zC0,zA9,zC4,zB9,mqS,noS,zD8,Int.toNat_zero,Int.toNat_one,Nat.mul_one,Int.le_refl,Int.reduceToNat,Nat.reduceAdd,lb1,lb3,lb4,u8b,UInt8.reduceToNat,r0,z0,c2,hkb,hex,r1,z1,y1,jk,r2,z2,y2,lx])
    exact fin (zD9 zG9) _ (by simp [zA7,hW,rdX,zI1,hkb,← s1,hex]) rfl
   | true =>
    have e1:=s2 (by rw [← s1]; exact hex)
    (refine zA0 hctr (rs:=res49) true 300 _ _ _ ?_; simp (maxSteps:=1000000) only [VT,jf,jg,jZ,aA,qH,qI,qK,qN,qO,qP,qR,qS,qT,qX,qe,qf,qg,qh,qp,q0t,ev,qw,qy,qz,zC,zD,zF,zG,zI,zJ,TE.sv,zK,zM,↓reduceIte,reduceCtorEq,Nat.reduceEqDiff,Nat.reduceLT,Nat.reduceBEq,zP,zQ,zR,zT,zV,zW,zu,zw,zx,hP,hk,res49,kp49,dT0,zC0,zC4,zB9,Int.toNat_zero,Int.toNat_one,Nat.mul_one,Int.le_refl,Int.reduceToNat,lb1,lb3,lb4,u8b,UInt8.reduceToNat,r0,z0,c2,hkb,hex,r1,z1,y1,jk,r2,z2,y2,lx])
    obtain ⟨c,hc⟩:∃ c:Cd,c={ Cd.zero with op:=4,key:=k,exp:=(zD2 x).1 }:=⟨_,rfl⟩
    have hcS:ecS c=[.i .i64 4,.i .i64 0,.s k,.s [],.i .u32 0,.i .i64 (zD2 x).1,.b false,.i .u64 0,.b false,.i .u64 0,.i .u64 0,.b false,.b false,.i .i64 0,.i .i64 0,.b false]:=by rw [hc]; rfl
    refine zA6 (xs:=[.g (ecS c),.c (.b q)]) (by rw [hcS]; rfl) (.g (gqS (.rw 1 1) noS (gqT (doR [c] q)))) [_,onE c] (one_h (N:=1) c q hP (zR1 rfl) (by rw [hn0]; exact Nat.zero_le _) rfl (fun x hx=>by match x with | 0=>rfl | 1=>exact absurd rfl hx | _+2=>rfl)) (by simp [zG]) (by simp) ?_
    (refine zA0 hctr (rs:=res49) true 300 _ _ _ ?_; simp (maxSteps:=1000000) only [VT,qE,qF,qG,qH,qJ,qP,q0t,qu,qv,ev,qy,zA,zB,zC,zD,zE,zG,zI,zJ,TE.sv,zM,↓reduceIte,reduceCtorEq,Value.oneCell',Nat.reduceEqDiff,Nat.reduceAdd,zP,zQ,zZ,za,zt,jN,hP,hk,res49,kp49,noS,Nat.reduceAdd,gqS,gqT,doR])
    exact fin1 c 1 _ (by rw [hc]; simp [zA7,hW,rdX,zI1,hkb,← s1,hex,← e1] <;> rfl) rfl
 ·have c2:((m:Int) == 3)=false:=by rw [beq_eq_false_iff_ne]; omega
  (refine zA0 hctr (rs:=res49) true 300 _ _ _ ?_; simp (maxSteps:=1000000) only [VT,jf,jg,jZ,aA,qE,qF,qG,qH,qI,qJ,qK,qN,qO,qP,qR,qS,qX,qe,qh,qp,q0t,qu,qv,ev,qw,qy,qz,zA,zB,zC,zD,zE,zF,zG,zI,zJ,TE.sv,zK,zM,↓reduceIte,reduceCtorEq,Value.oneCell',Nat.reduceEqDiff,Nat.reduceAdd,Nat.reduceLT,Nat.reduceBEq,zP,zQ,zR,zT,zV,zW,zt,zu,zw,zx,hP,hk,res49,kp49,dT0,zA9,zB9,mqS,noS,zD8,Int.toNat_zero,Nat.mul_one,Int.le_refl,Nat.reduceAdd,lb1,lb3,u8b,UInt8.reduceToNat,r0,z0,c2])
  exact fin (zD9 zA5) _ (by simp [zA7,hW,rdX,hWl]) rfl
theorem dsh_incr_w {w:World} {a:Option Addr} {n cap:Nat} {w0:List (List UInt8)} (hraw:RawT w a ([105,110,99,114] :: w0)) (hn:n=w0.length+1) (hnc:n≤cap) (hcap:cap≤maxLen) (hl:∀ x∈w0,x.length≤5000) :
  Calls Tryz.prog 49 #[.slice a n cap] w (zJ5 w (gqT (rdX (zA7 [105,110,99,114] w0)).1)):=by
 obtain ⟨b,oo,rfl,hwb,hc0⟩:=hraw 0 [105,110,99,114] rfl
 obtain ⟨W,q,hW⟩:∃ W q,zN5 w0=(W,q):=⟨_,_,rfl⟩
 have hO:offA ([105,110,99,114] :: w0)=([105,110,99,114] :: W,q):=by rw [zL4,hW]
 have hpre:=zP0 hW
 obtain ⟨m,hm⟩:∃ m,W.length+1=m:=⟨_,rfl⟩
 unfold maxLen at hcap
 refine zA1 Tryz.func49 rfl kp49 (S:=Non) (ρ:=fun _=>zG7 0) (en:=[]) [.c (.v (.slice (some ⟨b,oo,none⟩) n cap))] Tryz.ntmps49 (At.nil _ _ _) (by simp [SV.wf,SC.wf]) (by simp) ?_
 intro C hC hP hk
 have hS:C.S=Non:=by rw [hC]; rfl
 have hw:C.w0=w:=by rw [hC]; rfl
 have hn0:C.n0=0:=by rw [hC]; rfl
 have hctr:zC1 C (dT0 (some ⟨b,oo,none⟩) n cap m q):=zM9 hP hS hw hraw (by simpa using hn) hnc (by unfold maxLen; exact hcap) hO (by simpa using hm)
 have fin:∀ (r:Rq) (en:List EN),(rdX (zA7 [105,110,99,114] w0)).1=r→r.cmds=[]→Fin C res49 (.g (gqS noS noS (gqT r))) en:=fun r en h h1=>by
  refine zC3 (v:=.g (gqS noS noS (gqT r))) hC hres49 fun ρ w' hw _ _=>?_
  have hup:=hw.up
  rw [hC] at hup
  rw [h]
  exact ⟨hup.to_below,_,rfl,GqV.none h1 rfl⟩
 have fin1:∀ (c:Cd) (N:Nat) (en:List EN),(rdX (zA7 [105,110,99,114] w0)).1=doR [c] q→zD en N=some (onE c)→Fin C res49 (.g (gqS (.rw N 1) noS (gqT (doR [c] q)))) en:=fun c N en h h2=>by
  refine zC3 (v:=.g (gqS (.rw N 1) noS (gqT (doR [c] q)))) hC hres49 fun ρ w' hw' _ _=>?_
  have hup:=hw'.up
  rw [hC] at hup
  rw [h]
  have:=zS8 (q:=q) hw' hS h2
  rw [hw] at this
  exact ⟨hup.to_below,_,rfl,this⟩
 have rd:∀ (i:Nat) x,([105,110,99,114] :: W)[i]?=some x→C.rd b (oo+i) 1=some [.s x]:=fun i x hx=>by
  have hx':([105,110,99,114] :: w0)[i]?=some x:=by
   cases i with
   | zero=>exact hx
   | succ i=>exact hpre i x hx
  obtain ⟨b',o',e,hr⟩:=hraw.rd (D:=C) hS hw hx'
  cases e; exact hr
 have hlW:∀ (i:Nat) x,W[i]?=some x→x.length≤5000:=fun i x hx=>hl x (List.mem_of_getElem? (hpre i x hx))
 have r0:C.rd b oo 1=some [.s [105,110,99,114]]:=rd 0 _ rfl
 have z0:(0:Int) < (m:Int):=by omega
 by_cases hWl:W.length=2
 ·obtain rfl:m=3:=by omega
  obtain ⟨k,x,rfl⟩:∃ k x,W=[k,x]:=by
   match W,hWl with
   | [k,x],_=>exact ⟨k,x,rfl⟩
  have r1:C.rd b (oo+1) 1=some [.s k]:=rd 1 _ rfl
  have z1:(1:Int) < ((3:Nat):Int):=by decide
  have y1:(0:Int)≤1:=by decide
  have Lk:k.length≤5000:=hlW 0 _ rfl
  have lk:k.length≤9223372036854775807:=by omega
  have jk:k.length≤9223372036854775806:=by omega
  have r2:C.rd b (oo+2) 1=some [.s x]:=rd 2 _ rfl
  have z2:(2:Int) < ((3:Nat):Int):=by decide
  have y2:(0:Int)≤2:=by decide
  have Lx:x.length≤5000:=hlW 1 _ rfl
  have lx:x.length≤9223372036854775807:=by omega
  have jx:x.length≤9223372036854775806:=by omega
  have c2:(((3:Nat):Int) == 3)=true:=rfl
  cases hkb:zG3 k with
  | false =>
   (refine zA0 hctr (rs:=res49) true 300 _ _ _ ?_; simp (maxSteps:=1000000) only [VT,jf,jg,jZ,aA,qE,qF,qG,qH,qI,qJ,qK,qN,qO,qP,qR,qS,qT,qX,qe,qh,qp,q0t,qu,qv,ev,qw,qy,qz,zA,zB,zC,zD,zE,zF,zG,zI,zJ,TE.sv,zK,zM,↓reduceIte,reduceCtorEq,Value.oneCell',Nat.reduceEqDiff,Nat.reduceAdd,Nat.reduceLT,Nat.reduceBEq,zP,zQ,zR,zT,zV,zW,zt,zu,zw,hP,hk,res49,kp49,dT0,zC0,zA9,zB9,mqS,noS,zD8,Int.toNat_zero,Int.toNat_one,Nat.mul_one,Int.le_refl,Nat.reduceAdd,lb1,lb3,u8b,UInt8.reduceToNat,r0,z0,c2,r1,z1,y1,jk,hkb])
   exact fin (zD9 zA2) _ (by simp [zA7,hW,rdX,zI1,hkb]) rfl
  | true =>
   cases hp:zB0 x with
   | none =>
    (refine zA0 hctr (rs:=res49) true 300 _ _ _ ?_; simp (maxSteps:=1000000) only [VT,jf,jg,jZ,aA,qE,qF,qG,qH,qI,qJ,qK,qN,qO,qP,qR,qS,qT,qX,qe,qh,qp,q0t,qu,qv,ev,qw,qy,qz,zA,zB,zC,zD,zE,zF,zG,zI,zJ,TE.sv,zK,zM,↓reduceIte,reduceCtorEq,Value.oneCell',Nat.reduceEqDiff,Nat.reduceAdd,Nat.reduceLT,Nat.reduceBEq,zP,zQ,zR,zT,zV,zW,zt,zu,zw,hP,hk,res49,kp49,dT0,zC0,zA9,zA8,zB9,mqS,noS,zD8,Int.toNat_zero,Int.toNat_one,Nat.mul_one,Int.le_refl,Int.reduceToNat,Nat.reduceAdd,lb1,lb3,u8b,UInt8.reduceToNat,r0,z0,c2,hkb,hp,Option.getD_none,Option.isSome_none,r1,z1,y1,jk,r2,z2,y2,lx])
    exact fin (zD9 f_delta) _ (by simp [zA7,hW,rdX,zI1,hkb,hp]) rfl
   | some v =>
    (refine zA0 hctr (rs:=res49) true 300 _ _ _ ?_; simp (maxSteps:=1000000) only [VT,jf,jg,jZ,aA,qH,qI,qK,qN,qO,qP,qR,qS,qT,qX,qe,qh,qp,ev,qw,qy,qz,zD,zF,zG,zI,zJ,TE.sv,zK,zM,↓reduceIte,reduceCtorEq,Nat.reduceEqDiff,Nat.reduceLT,Nat.reduceBEq,zP,zQ,zR,zT,zV,zW,zu,zw,hP,hk,res49,kp49,dT0,zC0,zA8,zB9,Int.toNat_zero,Int.toNat_one,Nat.mul_one,Int.le_refl,Int.reduceToNat,lb1,lb3,u8b,UInt8.reduceToNat,r0,z0,c2,hkb,hp,Option.getD_some,Option.isSome_some,r1,z1,y1,jk,r2,z2,y2,lx])
    obtain ⟨c,hc⟩:∃ c:Cd,c={ Cd.zero with op:=3,key:=k,delta:=(v:Int),down:=false }:=⟨_,rfl⟩
    have hcS:ecS c=[.i .i64 3,.i .i64 0,.s k,.s [],.i .u32 0,.i .i64 0,.b false,.i .u64 0,.b false,.i .u64 (v:Int),.i .u64 0,.b false,.b false,.i .i64 0,.i .i64 0,.b false]:=by rw [hc]; rfl
    (refine zH2 hctr (by rw [hP]; rfl) rs49_33 [jB (fun N => .g (gqS (.rw N 1) noS (gqT (doR [c] q)))) (fun _ => onE c)] (ensure_type_of% (Cmp.of (by simp (maxSteps := 1000000) only [qA, qK, qO, qP, qR, qS, qX, qf, qg, q0t, qu, qv, ev, qw, qy, qz, zC, zD, zE, zF, zG, zM, ↓reduceIte, Value.oneCell', Nat.reduceEqDiff, Nat.reduceAdd, Nat.reduceBEq, zP, zT, zZ, za, zt, zu, zw, cE, jA, jB, jC, jD, jH, jK, jL, jM, jN, hP, dT0, noS, Int.toNat_zero, Int.toNat_one, Nat.mul_one, Int.le_refl, Nat.reduceAdd, lb1, u8b, UInt8.reduceToNat, r0, z0, beq_self_eq_true, r1, z1, y1, gqS, gqT, doR]; rfl)) "" Cmp.mk) (by kernel_rfl) (by kernel_rfl) (by first | exact zC7 _ | kernel_rfl) (by kernel_rfl) (by rfl) (by rfl) (by first | exact zB2 _ | rfl) (by rfl) ?_ ?_; rotate_left; refine zA0 hctr (rs := res49) true 300 _ _ _ ?_; simp (maxSteps := 1000000) only [VT, qE, qF, qG, qP, qy, zA, zB, zD, zG, zI, zJ, TE.sv, zM, ↓reduceIte, reduceCtorEq, Nat.reduceEqDiff, Nat.reduceAdd, zP, zQ, zt, jN, jO, hP, hk, res49, kp49, Nat.reduceAdd]; rotate_left; simp (maxSteps := 1000000) only [qK, qO, qP, qR, qS, qX, qf, qg, q0t, qu, qv, ev, qw, qy, qz, zC, zD, zE, zG, zM, ↓reduceIte, Value.oneCell', Nat.reduceEqDiff, Nat.reduceAdd, Nat.reduceBEq, zP, zR, zS, zT, zn, zt, zu, zw, jD, jH, jN, jP, jQ, jR, jS, jT, jU, hP, Int.toNat_zero, Int.toNat_one, Nat.mul_one, Int.le_refl, Nat.reduceAdd, lb1, u8b, UInt8.reduceToNat, r0, z0, beq_self_eq_true, r1, z1, y1])
    ·rw [← hcS]
     exact one_h c q hP (zX0 (by simp)) (by rw [hn0]; exact Nat.zero_le _) rfl (fun q _=>rfl)
    exact fin1 c 1 _ (by rw [hc]; simp [zA7,hW,rdX,zI1,hkb,hp] <;> rfl) rfl
 ·have c2:((m:Int) == 3)=false:=by rw [beq_eq_false_iff_ne]; omega
  (refine zA0 hctr (rs:=res49) true 300 _ _ _ ?_; simp (maxSteps:=1000000) only [VT,jf,jg,jZ,aA,qE,qF,qG,qH,qI,qJ,qK,qN,qO,qP,qR,qS,qX,qe,qh,qp,q0t,qu,qv,ev,qw,qy,qz,zA,zB,zC,zD,zE,zF,zG,zI,zJ,TE.sv,zK,zM,↓reduceIte,reduceCtorEq,Value.oneCell',Nat.reduceEqDiff,Nat.reduceAdd,Nat.reduceLT,Nat.reduceBEq,zP,zQ,zR,zT,zV,zW,zt,zu,zw,hP,hk,res49,kp49,dT0,zA9,zB9,mqS,noS,zD8,Int.toNat_zero,Nat.mul_one,Int.le_refl,Nat.reduceAdd,lb1,lb3,u8b,UInt8.reduceToNat,r0,z0,c2])
  exact fin (zD9 zA5) _ (by simp [zA7,hW,rdX,hWl]) rfl
theorem dsh_decr_w {w:World} {a:Option Addr} {n cap:Nat} {w0:List (List UInt8)} (hraw:RawT w a ([100,101,99,114] :: w0)) (hn:n=w0.length+1) (hnc:n≤cap) (hcap:cap≤maxLen) (hl:∀ x∈w0,x.length≤5000) :
  Calls Tryz.prog 49 #[.slice a n cap] w (zJ5 w (gqT (rdX (zA7 [100,101,99,114] w0)).1)):=by
 obtain ⟨b,oo,rfl,hwb,hc0⟩:=hraw 0 [100,101,99,114] rfl
 obtain ⟨W,q,hW⟩:∃ W q,zN5 w0=(W,q):=⟨_,_,rfl⟩
 have hO:offA ([100,101,99,114] :: w0)=([100,101,99,114] :: W,q):=by rw [zL4,hW]
 have hpre:=zP0 hW
 obtain ⟨m,hm⟩:∃ m,W.length+1=m:=⟨_,rfl⟩
 unfold maxLen at hcap
 refine zA1 Tryz.func49 rfl kp49 (S:=Non) (ρ:=fun _=>zG7 0) (en:=[]) [.c (.v (.slice (some ⟨b,oo,none⟩) n cap))] Tryz.ntmps49 (At.nil _ _ _) (by simp [SV.wf,SC.wf]) (by simp) ?_
 intro C hC hP hk
 have hS:C.S=Non:=by rw [hC]; rfl
 have hw:C.w0=w:=by rw [hC]; rfl
 have hn0:C.n0=0:=by rw [hC]; rfl
 have hctr:zC1 C (dT0 (some ⟨b,oo,none⟩) n cap m q):=zM9 hP hS hw hraw (by simpa using hn) hnc (by unfold maxLen; exact hcap) hO (by simpa using hm)
 have fin:∀ (r:Rq) (en:List EN),(rdX (zA7 [100,101,99,114] w0)).1=r→r.cmds=[]→Fin C res49 (.g (gqS noS noS (gqT r))) en:=fun r en h h1=>by
  refine zC3 (v:=.g (gqS noS noS (gqT r))) hC hres49 fun ρ w' hw _ _=>?_
  have hup:=hw.up
  rw [hC] at hup
  rw [h]
  exact ⟨hup.to_below,_,rfl,GqV.none h1 rfl⟩
 have fin1:∀ (c:Cd) (N:Nat) (en:List EN),(rdX (zA7 [100,101,99,114] w0)).1=doR [c] q→zD en N=some (onE c)→Fin C res49 (.g (gqS (.rw N 1) noS (gqT (doR [c] q)))) en:=fun c N en h h2=>by
  refine zC3 (v:=.g (gqS (.rw N 1) noS (gqT (doR [c] q)))) hC hres49 fun ρ w' hw' _ _=>?_
  have hup:=hw'.up
  rw [hC] at hup
  rw [h]
  have:=zS8 (q:=q) hw' hS h2
  rw [hw] at this
  exact ⟨hup.to_below,_,rfl,this⟩
 have rd:∀ (i:Nat) x,([100,101,99,114] :: W)[i]?=some x→C.rd b (oo+i) 1=some [.s x]:=fun i x hx=>by
  have hx':([100,101,99,114] :: w0)[i]?=some x:=by
   cases i with
   | zero=>exact hx
   | succ i=>exact hpre i x hx
  obtain ⟨b',o',e,hr⟩:=hraw.rd (D:=C) hS hw hx'
  cases e; exact hr
 have hlW:∀ (i:Nat) x,W[i]?=some x→x.length≤5000:=fun i x hx=>hl x (List.mem_of_getElem? (hpre i x hx))
 have r0:C.rd b oo 1=some [.s [100,101,99,114]]:=rd 0 _ rfl
 have z0:(0:Int) < (m:Int):=by omega
 by_cases hWl:W.length=2
 ·obtain rfl:m=3:=by omega
  obtain ⟨k,x,rfl⟩:∃ k x,W=[k,x]:=by
   match W,hWl with
   | [k,x],_=>exact ⟨k,x,rfl⟩
  have r1:C.rd b (oo+1) 1=some [.s k]:=rd 1 _ rfl
  have z1:(1:Int) < ((3:Nat):Int):=by decide
  have y1:(0:Int)≤1:=by decide
  have Lk:k.length≤5000:=hlW 0 _ rfl
  have lk:k.length≤9223372036854775807:=by omega
  have jk:k.length≤9223372036854775806:=by omega
  have r2:C.rd b (oo+2) 1=some [.s x]:=rd 2 _ rfl
  have z2:(2:Int) < ((3:Nat):Int):=by decide
  have y2:(0:Int)≤2:=by decide
  have Lx:x.length≤5000:=hlW 1 _ rfl
  have lx:x.length≤9223372036854775807:=by omega
  have jx:x.length≤9223372036854775806:=by omega
  have c2:(((3:Nat):Int) == 3)=true:=rfl
  cases hkb:zG3 k with
  | false =>
   (refine zA0 hctr (rs:=res49) true 300 _ _ _ ?_; simp (maxSteps:=1000000) only [VT,jf,jg,jZ,aA,qE,qF,qG,qH,qI,qJ,qK,qN,qO,qP,qR,qS,qT,qX,qe,qh,qp,q0t,qu,qv,ev,qw,qy,qz,zA,zB,zC,zD,zE,zF,zG,zI,zJ,TE.sv,zK,zM,↓reduceIte,reduceCtorEq,Value.oneCell',Nat.reduceEqDiff,Nat.reduceAdd,Nat.reduceLT,Nat.reduceBEq,zP,zQ,zR,zT,zV,zW,zt,zu,zw,zx,hP,hk,res49,kp49,dT0,zC0,zA9,zB9,mqS,noS,zD8,Int.toNat_zero,Int.toNat_one,Nat.mul_one,Int.le_refl,Nat.reduceAdd,lb1,lb3,u8b,UInt8.reduceToNat,r0,z0,c2,r1,z1,y1,jk,hkb])
   exact fin (zD9 zA2) _ (by simp [zA7,hW,rdX,zI1,hkb]) rfl
  | true =>
   cases hp:zB0 x with
   | none =>
    (refine zA0 hctr (rs:=res49) true 300 _ _ _ ?_; simp (maxSteps:=1000000) only [VT,jf,jg,jZ,aA,qE,qF,qG,qH,qI,qJ,qK,qN,qO,qP,qR,qS,qT,qX,qe,qh,qp,q0t,qu,qv,ev,qw,qy,qz,zA,zB,zC,zD,zE,zF,zG,zI,zJ,TE.sv,zK,zM,↓reduceIte,reduceCtorEq,Value.oneCell',Nat.reduceEqDiff,Nat.reduceAdd,Nat.reduceLT,Nat.reduceBEq,zP,zQ,zR,zT,zV,zW,zt,zu,zw,zx,hP,hk,res49,kp49,dT0,zC0,zA9,zA8,zB9,mqS,noS,zD8,Int.toNat_zero,Int.toNat_one,Nat.mul_one,Int.le_refl,Int.reduceToNat,Nat.reduceAdd,lb1,lb3,u8b,UInt8.reduceToNat,r0,z0,c2,hkb,hp,Option.getD_none,Option.isSome_none,r1,z1,y1,jk,r2,z2,y2,lx])
    exact fin (zD9 f_delta) _ (by simp [zA7,hW,rdX,zI1,hkb,hp]) rfl
   | some v =>
    (refine zA0 hctr (rs:=res49) true 300 _ _ _ ?_; simp (maxSteps:=1000000) only [VT,jf,jg,jZ,aA,qH,qI,qK,qN,qO,qP,qR,qS,qT,qX,qe,qh,qp,ev,qw,qy,qz,zD,zF,zG,zI,zJ,TE.sv,zK,zM,↓reduceIte,reduceCtorEq,Nat.reduceEqDiff,Nat.reduceLT,Nat.reduceBEq,zP,zQ,zR,zT,zV,zW,zu,zw,zx,hP,hk,res49,kp49,dT0,zC0,zA8,zB9,Int.toNat_zero,Int.toNat_one,Nat.mul_one,Int.le_refl,Int.reduceToNat,lb1,lb3,u8b,UInt8.reduceToNat,r0,z0,c2,hkb,hp,Option.getD_some,Option.isSome_some,r1,z1,y1,jk,r2,z2,y2,lx])
    obtain ⟨c,hc⟩:∃ c:Cd,c={ Cd.zero with op:=3,key:=k,delta:=(v:Int),down:=true }:=⟨_,rfl⟩
    have hcS:ecS c=[.i .i64 3,.i .i64 0,.s k,.s [],.i .u32 0,.i .i64 0,.b false,.i .u64 0,.b false,.i .u64 (v:Int),.i .u64 0,.b true,.b false,.i .i64 0,.i .i64 0,.b false]:=by rw [hc]; rfl
    (refine zH2 hctr (by rw [hP]; rfl) rs49_33 [jB (fun N => .g (gqS (.rw N 1) noS (gqT (doR [c] q)))) (fun _ => onE c)] (ensure_type_of% (Cmp.of (by simp (maxSteps := 1000000) only [qA, qK, qO, qP, qR, qS, qX, qf, qg, q0t, qu, qv, ev, qw, qy, qz, zC, zD, zE, zF, zG, zM, ↓reduceIte, Value.oneCell', Nat.reduceEqDiff, Nat.reduceAdd, zP, zT, zZ, za, zt, zu, cE, jA, jB, jC, jD, jH, jK, jL, jM, jN, hP, dT0, noS, Int.toNat_zero, Int.toNat_one, Nat.mul_one, Int.le_refl, Nat.reduceAdd, r0, z0, beq_self_eq_true, r1, z1, y1, gqS, gqT, doR]; rfl)) "" Cmp.mk) (by kernel_rfl) (by kernel_rfl) (by first | exact zC7 _ | kernel_rfl) (by kernel_rfl) (by rfl) (by rfl) (by first | exact zB2 _ | rfl) (by rfl) ?_ ?_; rotate_left; refine zA0 hctr (rs := res49) true 300 _ _ _ ?_; simp (maxSteps := 1000000) only [VT, qE, qF, qG, qP, qy, zA, zB, zD, zG, zI, zJ, TE.sv, zM, ↓reduceIte, reduceCtorEq, Nat.reduceEqDiff, Nat.reduceAdd, zP, zQ, zt, jN, jO, hP, hk, res49, kp49, Nat.reduceAdd]; rotate_left; simp (maxSteps := 1000000) only [qK, qO, qP, qR, qS, qX, qf, qg, q0t, qu, qv, ev, qw, qy, qz, zC, zD, zE, zG, zM, ↓reduceIte, Value.oneCell', Nat.reduceEqDiff, Nat.reduceAdd, zP, zR, zS, zT, zn, zt, zu, jD, jH, jN, jP, jQ, jR, jS, jT, jU, hP, Int.toNat_zero, Int.toNat_one, Nat.mul_one, Int.le_refl, Nat.reduceAdd, r0, z0, beq_self_eq_true, r1, z1, y1])
    ·rw [← hcS]
     exact one_h c q hP (zX0 (by simp)) (by rw [hn0]; exact Nat.zero_le _) rfl (fun q _=>rfl)
    exact fin1 c 1 _ (by rw [hc]; simp [zA7,hW,rdX,zI1,hkb,hp] <;> rfl) rfl
 ·have c2:((m:Int) == 3)=false:=by rw [beq_eq_false_iff_ne]; omega
  (refine zA0 hctr (rs:=res49) true 300 _ _ _ ?_; simp (maxSteps:=1000000) only [VT,jf,jg,jZ,aA,qE,qF,qG,qH,qI,qJ,qK,qN,qO,qP,qR,qS,qX,qe,qh,qp,q0t,qu,qv,ev,qw,qy,qz,zA,zB,zC,zD,zE,zF,zG,zI,zJ,TE.sv,zK,zM,↓reduceIte,reduceCtorEq,Value.oneCell',Nat.reduceEqDiff,Nat.reduceAdd,Nat.reduceLT,Nat.reduceBEq,zP,zQ,zR,zT,zV,zW,zt,zu,zw,zx,hP,hk,res49,kp49,dT0,zA9,zB9,mqS,noS,zD8,Int.toNat_zero,Nat.mul_one,Int.le_refl,Nat.reduceAdd,lb1,lb3,u8b,UInt8.reduceToNat,r0,z0,c2])
  exact fin (zD9 zA5) _ (by simp [zA7,hW,rdX,hWl]) rfl
end Go.Proofs.YtcbmlanpianclaaGreatDoor
