/- The document's number and letter, walked. Printed by gen_edoc5.py. -/
import Derived.Test.YtcbmlanpianclaaGreatDoorBS06
import Derived.Test.YtcbmlanpianclaaGreatDoorBS12
import Derived.Test.YtcbmlanpianclaaGreatDoorBS07
import Derived.Test.YtcbmlanpianclaaGreatDoorBS04
import Derived.Laws.MakeOwn
import Derived.Laws.BytesString
import Derived.Lib.BufferRead
import Derived.Test.YtcbmlanpianclaaGreatDoorBS08
namespace Go.Proofs.YtcbmlanpianclaaGreatDoor
set_option linter.unusedSimpArgs false
set_option linter.unusedVariables false
set_option maxHeartbeats 8000000
open Go.RowKit
set_option maxRecDepth 100000
def numD (x:UInt8):Int × Bool:=
 if 65≤x.toNat∧x.toNat≤90 then (((x.toNat - 65:Nat):Int),true)
 else if 97≤x.toNat∧x.toNat≤122 then (((x.toNat - 97+26:Nat):Int),true)
 else if 48≤x.toNat∧x.toNat≤57 then (((x.toNat - 48+52:Nat):Int),true)
 else if x.toNat=43 then (62,true) else if x.toNat=47 then (63,true) else (0,false)
theorem u8i {a:Nat} (h:a < 256):IntKind.u8.wrap (a:Int)=(a:Int):=by rw [u8w,Nat.mod_eq_of_lt h]
theorem dnumber_w (x:UInt8) (w:World):Calls Tryz.prog 106 #[.int .u8 (x.toNat:Int)] w fun e w'=>e=.returned (.tuple #[.int .u32 (numD x).1,.bool (numD x).2])∧Below w.heap.size w w':=by
 refine zA1 Tryz.func106 rfl kp106 (S:=Non) (ρ:=fun _=>zG7 0) (en:=[]) [.c (.i .u8 (x.toNat:Int))] Tryz.ntmps106 (At.nil _ _ _) (by simp [SV.wf,SC.wf]) (by simp) ?_
 intro C hC hP hk
 have hctr:=zF8 hP
 have fin:∀ (n:Int) b en,numD x=(n,b)→Fin C res106 (.t [.c (.i .u32 n),.c (.b b)]) en:=fun n b en h=>zH3 (v:=.t [.c (.i .u32 (numD x).1),.c (.b (numD x).2)]) hC hres106 (by rw [h]) (by simp [SV.wf,TE.wf,SC.wf])
 obtain ⟨n,hn⟩:∃ n,x.toNat=n:=⟨_,rfl⟩
 have hn8:=x.toNat_lt
 rw [hn] at hn8
 unfold numD at fin
 rw [hn] at fin ⊢
 have hc:(0≤n∧n≤42)∨(43≤n∧n≤43)∨(44≤n∧n≤46)∨(47≤n∧n≤47)∨(48≤n∧n≤57)∨(58≤n∧n≤64)∨(65≤n∧n≤90)∨(91≤n∧n≤96)∨(97≤n∧n≤122)∨(123≤n∧n≤255):=by omega
 rcases hc with h | h | h | h | h | h | h | h | h | h
 ·skip
  have a:decide (65≤(n:Int))=false:=decide_eq_false (by omega)
  have b:decide ((n:Int)≤90)=true:=decide_eq_true (by omega)
  have c:decide (97≤(n:Int))=false:=decide_eq_false (by omega)
  have d:decide ((n:Int)≤122)=true:=decide_eq_true (by omega)
  have e:decide (48≤(n:Int))=false:=decide_eq_false (by omega)
  have f:decide ((n:Int)≤57)=true:=decide_eq_true (by omega)
  have g:((n:Int) == 43)=false:=by rw [beq_eq_false_iff_ne]; omega
  have i:((n:Int) == 47)=false:=by rw [beq_eq_false_iff_ne]; omega
  (refine zA0 hctr (rs:=res106) true 300 _ _ _ ?_; simp (maxSteps:=1000000) only [VT,jg,aA,qE,qF,qG,qH,qI,qK,qO,qR,qS,qp,ev,qy,qz,zD,zI,zJ,zK,↓reduceIte,reduceCtorEq,Nat.reduceEqDiff,Nat.reduceLT,zP,zQ,zR,zW,hP,hk,res106,kp106,a,c,e,g,i])
  exact fin _ _ _ (by rw [if_neg (by omega),if_neg (by omega),if_neg (by omega),if_neg (by omega),if_neg (by omega)])
 ·skip
  have a:decide (65≤(n:Int))=false:=decide_eq_false (by omega)
  have b:decide ((n:Int)≤90)=true:=decide_eq_true (by omega)
  have c:decide (97≤(n:Int))=false:=decide_eq_false (by omega)
  have d:decide ((n:Int)≤122)=true:=decide_eq_true (by omega)
  have e:decide (48≤(n:Int))=false:=decide_eq_false (by omega)
  have f:decide ((n:Int)≤57)=true:=decide_eq_true (by omega)
  have g:((n:Int) == 43)=true:=by rw [beq_iff_eq]; omega
  have i:((n:Int) == 47)=false:=by rw [beq_eq_false_iff_ne]; omega
  (refine zA0 hctr (rs:=res106) true 300 _ _ _ ?_; simp (maxSteps:=1000000) only [VT,jf,jg,aA,qE,qF,qG,qH,qI,qK,qO,qR,qS,qp,ev,qy,qz,zD,zI,zJ,zK,↓reduceIte,reduceCtorEq,Nat.reduceEqDiff,Nat.reduceLT,zP,zQ,zR,zV,zW,hP,hk,res106,kp106,a,c,e,g])
  exact fin _ _ _ (by rw [if_neg (by omega),if_neg (by omega),if_neg (by omega),if_pos (by omega)])
 ·skip
  have a:decide (65≤(n:Int))=false:=decide_eq_false (by omega)
  have b:decide ((n:Int)≤90)=true:=decide_eq_true (by omega)
  have c:decide (97≤(n:Int))=false:=decide_eq_false (by omega)
  have d:decide ((n:Int)≤122)=true:=decide_eq_true (by omega)
  have e:decide (48≤(n:Int))=false:=decide_eq_false (by omega)
  have f:decide ((n:Int)≤57)=true:=decide_eq_true (by omega)
  have g:((n:Int) == 43)=false:=by rw [beq_eq_false_iff_ne]; omega
  have i:((n:Int) == 47)=false:=by rw [beq_eq_false_iff_ne]; omega
  (refine zA0 hctr (rs:=res106) true 300 _ _ _ ?_; simp (maxSteps:=1000000) only [VT,jg,aA,qE,qF,qG,qH,qI,qK,qO,qR,qS,qp,ev,qy,qz,zD,zI,zJ,zK,↓reduceIte,reduceCtorEq,Nat.reduceEqDiff,Nat.reduceLT,zP,zQ,zR,zW,hP,hk,res106,kp106,a,c,e,g,i])
  exact fin _ _ _ (by rw [if_neg (by omega),if_neg (by omega),if_neg (by omega),if_neg (by omega),if_neg (by omega)])
 ·skip
  have a:decide (65≤(n:Int))=false:=decide_eq_false (by omega)
  have b:decide ((n:Int)≤90)=true:=decide_eq_true (by omega)
  have c:decide (97≤(n:Int))=false:=decide_eq_false (by omega)
  have d:decide ((n:Int)≤122)=true:=decide_eq_true (by omega)
  have e:decide (48≤(n:Int))=false:=decide_eq_false (by omega)
  have f:decide ((n:Int)≤57)=true:=decide_eq_true (by omega)
  have g:((n:Int) == 43)=false:=by rw [beq_eq_false_iff_ne]; omega
  have i:((n:Int) == 47)=true:=by rw [beq_iff_eq]; omega
  (refine zA0 hctr (rs:=res106) true 300 _ _ _ ?_; simp (maxSteps:=1000000) only [VT,jf,jg,aA,qE,qF,qG,qH,qI,qK,qO,qR,qS,qp,ev,qy,qz,zD,zI,zJ,zK,↓reduceIte,reduceCtorEq,Nat.reduceEqDiff,Nat.reduceLT,zP,zQ,zR,zV,zW,hP,hk,res106,kp106,a,c,e,g,i])
  exact fin _ _ _ (by rw [if_neg (by omega),if_neg (by omega),if_neg (by omega),if_neg (by omega),if_pos (by omega)])
 ·skip
  have a:decide (65≤(n:Int))=false:=decide_eq_false (by omega)
  have b:decide ((n:Int)≤90)=true:=decide_eq_true (by omega)
  have c:decide (97≤(n:Int))=false:=decide_eq_false (by omega)
  have d:decide ((n:Int)≤122)=true:=decide_eq_true (by omega)
  have e:decide (48≤(n:Int))=true:=decide_eq_true (by omega)
  have f:decide ((n:Int)≤57)=true:=decide_eq_true (by omega)
  have g:((n:Int) == 43)=false:=by rw [beq_eq_false_iff_ne]; omega
  have i:((n:Int) == 47)=false:=by rw [beq_eq_false_iff_ne]; omega
  have w1:(n:Int) - 48=((n - 48:Nat):Int):=by omega
  have w2:IntKind.u8.wrap ((n - 48:Nat):Int)=((n - 48:Nat):Int):=u8i (by omega)
  have w3:IntKind.u32.wrap ((n - 48:Nat):Int)=((n - 48:Nat):Int):=u32i (by omega)
  have w4:IntKind.u32.wrap (((n - 48:Nat):Int)+52)=((n - 48+52:Nat):Int):=by rw [show ((n - 48:Nat):Int)+52=((n - 48+52:Nat):Int) by omega]; exact u32i (by omega)
  (refine zA0 hctr (rs:=res106) true 300 _ _ _ ?_; simp (maxSteps:=1000000) only [VT,jf,jg,jZ,aA,qE,qF,qG,qH,qI,qK,qO,qR,qS,qU,qp,ev,qy,qz,zD,zI,zJ,zK,zM,↓reduceIte,reduceCtorEq,Nat.reduceEqDiff,Nat.reduceLT,zP,zQ,zR,zV,zW,hP,hk,res106,kp106,a,c,e,f,w1,w2,w3,w4])
  exact fin _ _ _ (by rw [if_neg (by omega),if_neg (by omega),if_pos (by omega)])
 ·skip
  have a:decide (65≤(n:Int))=false:=decide_eq_false (by omega)
  have b:decide ((n:Int)≤90)=true:=decide_eq_true (by omega)
  have c:decide (97≤(n:Int))=false:=decide_eq_false (by omega)
  have d:decide ((n:Int)≤122)=true:=decide_eq_true (by omega)
  have e:decide (48≤(n:Int))=true:=decide_eq_true (by omega)
  have f:decide ((n:Int)≤57)=false:=decide_eq_false (by omega)
  have g:((n:Int) == 43)=false:=by rw [beq_eq_false_iff_ne]; omega
  have i:((n:Int) == 47)=false:=by rw [beq_eq_false_iff_ne]; omega
  (refine zA0 hctr (rs:=res106) true 300 _ _ _ ?_; simp (maxSteps:=1000000) only [VT,jf,jg,jZ,aA,qE,qF,qG,qH,qI,qK,qO,qR,qS,qp,ev,qy,qz,zD,zI,zJ,zK,↓reduceIte,reduceCtorEq,Nat.reduceEqDiff,Nat.reduceLT,zP,zQ,zR,zV,zW,hP,hk,res106,kp106,a,c,e,f,g,i])
  exact fin _ _ _ (by rw [if_neg (by omega),if_neg (by omega),if_neg (by omega),if_neg (by omega),if_neg (by omega)])
 ·skip
  have a:decide (65≤(n:Int))=true:=decide_eq_true (by omega)
  have b:decide ((n:Int)≤90)=true:=decide_eq_true (by omega)
  have c:decide (97≤(n:Int))=false:=decide_eq_false (by omega)
  have d:decide ((n:Int)≤122)=true:=decide_eq_true (by omega)
  have e:decide (48≤(n:Int))=true:=decide_eq_true (by omega)
  have f:decide ((n:Int)≤57)=false:=decide_eq_false (by omega)
  have g:((n:Int) == 43)=false:=by rw [beq_eq_false_iff_ne]; omega
  have i:((n:Int) == 47)=false:=by rw [beq_eq_false_iff_ne]; omega
  have w1:(n:Int) - 65=((n - 65:Nat):Int):=by omega
  have w2:IntKind.u8.wrap ((n - 65:Nat):Int)=((n - 65:Nat):Int):=u8i (by omega)
  have w3:IntKind.u32.wrap ((n - 65:Nat):Int)=((n - 65:Nat):Int):=u32i (by omega)
  (refine zA0 hctr (rs:=res106) true 300 _ _ _ ?_; simp (maxSteps:=1000000) only [VT,jf,jZ,qE,qF,qG,qH,qI,qK,qO,qR,qS,qU,qp,ev,qy,qz,zD,zI,zJ,zK,zM,↓reduceIte,reduceCtorEq,Nat.reduceEqDiff,Nat.reduceLT,zP,zQ,zR,zV,hP,hk,res106,kp106,a,b,w1,w2,w3])
  exact fin _ _ _ (by rw [if_pos (by omega)])
 ·skip
  have a:decide (65≤(n:Int))=true:=decide_eq_true (by omega)
  have b:decide ((n:Int)≤90)=false:=decide_eq_false (by omega)
  have c:decide (97≤(n:Int))=false:=decide_eq_false (by omega)
  have d:decide ((n:Int)≤122)=true:=decide_eq_true (by omega)
  have e:decide (48≤(n:Int))=true:=decide_eq_true (by omega)
  have f:decide ((n:Int)≤57)=false:=decide_eq_false (by omega)
  have g:((n:Int) == 43)=false:=by rw [beq_eq_false_iff_ne]; omega
  have i:((n:Int) == 47)=false:=by rw [beq_eq_false_iff_ne]; omega
  (refine zA0 hctr (rs:=res106) true 300 _ _ _ ?_; simp (maxSteps:=1000000) only [VT,jf,jg,jZ,aA,qE,qF,qG,qH,qI,qK,qO,qR,qS,qp,ev,qy,qz,zD,zI,zJ,zK,↓reduceIte,reduceCtorEq,Nat.reduceEqDiff,Nat.reduceLT,zP,zQ,zR,zV,zW,hP,hk,res106,kp106,a,b,c,e,f,g,i])
  exact fin _ _ _ (by rw [if_neg (by omega),if_neg (by omega),if_neg (by omega),if_neg (by omega),if_neg (by omega)])
 ·skip
  have a:decide (65≤(n:Int))=true:=decide_eq_true (by omega)
  have b:decide ((n:Int)≤90)=false:=decide_eq_false (by omega)
  have c:decide (97≤(n:Int))=true:=decide_eq_true (by omega)
  have d:decide ((n:Int)≤122)=true:=decide_eq_true (by omega)
  have e:decide (48≤(n:Int))=true:=decide_eq_true (by omega)
  have f:decide ((n:Int)≤57)=false:=decide_eq_false (by omega)
  have g:((n:Int) == 43)=false:=by rw [beq_eq_false_iff_ne]; omega
  have i:((n:Int) == 47)=false:=by rw [beq_eq_false_iff_ne]; omega
  have w1:(n:Int) - 97=((n - 97:Nat):Int):=by omega
  have w2:IntKind.u8.wrap ((n - 97:Nat):Int)=((n - 97:Nat):Int):=u8i (by omega)
  have w3:IntKind.u32.wrap ((n - 97:Nat):Int)=((n - 97:Nat):Int):=u32i (by omega)
  have w4:IntKind.u32.wrap (((n - 97:Nat):Int)+26)=((n - 97+26:Nat):Int):=by rw [show ((n - 97:Nat):Int)+26=((n - 97+26:Nat):Int) by omega]; exact u32i (by omega)
  (refine zA0 hctr (rs:=res106) true 300 _ _ _ ?_; simp (maxSteps:=1000000) only [VT,jf,jg,jZ,qE,qF,qG,qH,qI,qK,qO,qR,qS,qU,qp,ev,qy,qz,zD,zI,zJ,zK,zM,↓reduceIte,reduceCtorEq,Nat.reduceEqDiff,Nat.reduceLT,zP,zQ,zR,zV,zW,hP,hk,res106,kp106,a,b,c,d,w1,w2,w3,w4])
  exact fin _ _ _ (by rw [if_neg (by omega),if_pos (by omega)])
 ·skip
  have a:decide (65≤(n:Int))=true:=decide_eq_true (by omega)
  have b:decide ((n:Int)≤90)=false:=decide_eq_false (by omega)
  have c:decide (97≤(n:Int))=true:=decide_eq_true (by omega)
  have d:decide ((n:Int)≤122)=false:=decide_eq_false (by omega)
  have e:decide (48≤(n:Int))=true:=decide_eq_true (by omega)
  have f:decide ((n:Int)≤57)=false:=decide_eq_false (by omega)
  have g:((n:Int) == 43)=false:=by rw [beq_eq_false_iff_ne]; omega
  have i:((n:Int) == 47)=false:=by rw [beq_eq_false_iff_ne]; omega
  (refine zA0 hctr (rs:=res106) true 300 _ _ _ ?_; simp (maxSteps:=1000000) only [VT,jf,jg,jZ,qE,qF,qG,qH,qI,qK,qO,qR,qS,qp,ev,qy,qz,zD,zI,zJ,zK,↓reduceIte,reduceCtorEq,Nat.reduceEqDiff,Nat.reduceLT,zP,zQ,zR,zV,zW,hP,hk,res106,kp106,a,b,c,d,e,f,g,i])
  exact fin _ _ _ (by rw [if_neg (by omega),if_neg (by omega),if_neg (by omega),if_neg (by omega),if_neg (by omega)])
theorem dletter_w (k:Nat) (hk64:k < 64) (w:World):Calls Tryz.prog 125 #[.int .u32 (k:Int)] w fun e w'=>e=.returned (.int .u8 ((zM7 k).toNat:Int))∧Below w.heap.size w w':=by
 refine zA1 Tryz.func125 rfl kp125 (S:=Non) (ρ:=fun _=>zG7 0) (en:=[]) [.c (.i .u32 (k:Int))] Tryz.ntmps125 (At.nil _ _ _) (by simp [SV.wf,SC.wf]) (by simp) ?_
 intro C hC hP hk
 have hctr:=zF8 hP
 have fin:∀ (n:Nat) en,(zM7 k).toNat=n→Fin C res125 (.c (.i .u8 (n:Int))) en:=fun n en h=>by subst h; exact zH3 (v:=.c (.i .u8 ((zM7 k).toNat:Int))) hC hres125 rfl trivial
 have tab:∀ k:_root_.Fin 64,(zM7 k.1).toNat=(if k.1 < 26 then 65+k.1 else if k.1 < 52 then 97+k.1 - 26 else if k.1 < 62 then 48+k.1 - 52 else if k.1=62 then 43 else 47):=by decide
 have ht:=tab ⟨k,hk64⟩
 simp only at ht
 by_cases h0:k < 26
 ·have a:decide ((k:Int) < 26)=true:=decide_eq_true (by omega)
  have w1:IntKind.u32.wrap (65+(k:Int))=((65+k:Nat):Int):=by rw [show 65+(k:Int)=((65+k:Nat):Int) by omega]; exact u32i (by omega)
  have w2:IntKind.u8.wrap ((65+k:Nat):Int)=((65+k:Nat):Int):=u8i (by omega)
  (refine zA0 hctr (rs:=res125) true 300 _ _ _ ?_; simp (maxSteps:=1000000) only [VT,jf,qE,qF,qG,qH,qI,qK,qO,qR,qS,qU,ev,qy,qz,zI,zJ,TE.sv,zK,zM,↓reduceIte,reduceCtorEq,Nat.reduceEqDiff,Nat.reduceLT,zP,zQ,zR,zV,hP,hk,res125,kp125,a,w1,w2])
  exact fin _ _ (by rw [ht,if_pos h0])
 have a:decide ((k:Int) < 26)=false:=decide_eq_false (by omega)
 by_cases h1:k < 52
 ·have b:decide ((k:Int) < 52)=true:=decide_eq_true (by omega)
  have w1:IntKind.u32.wrap (97+(k:Int))=((97+k:Nat):Int):=by rw [show 97+(k:Int)=((97+k:Nat):Int) by omega]; exact u32i (by omega)
  have w2:IntKind.u32.wrap (((97+k:Nat):Int) - 26)=((97+k - 26:Nat):Int):=by rw [show ((97+k:Nat):Int) - 26=((97+k - 26:Nat):Int) by omega]; exact u32i (by omega)
  have w3:IntKind.u8.wrap ((97+k - 26:Nat):Int)=((97+k - 26:Nat):Int):=u8i (by omega)
  (refine zA0 hctr (rs:=res125) true 300 _ _ _ ?_; simp (maxSteps:=1000000) only [VT,jf,jg,qE,qF,qG,qH,qI,qK,qO,qR,qS,qU,ev,qy,qz,zI,zJ,TE.sv,zK,zM,↓reduceIte,reduceCtorEq,Nat.reduceEqDiff,Nat.reduceLT,zP,zQ,zR,zV,zW,hP,hk,res125,kp125,a,b,w1,w2,w3])
  exact fin _ _ (by rw [ht,if_neg h0,if_pos h1])
 have b:decide ((k:Int) < 52)=false:=decide_eq_false (by omega)
 by_cases h2:k < 62
 ·have c:decide ((k:Int) < 62)=true:=decide_eq_true (by omega)
  have w1:IntKind.u32.wrap (48+(k:Int))=((48+k:Nat):Int):=by rw [show 48+(k:Int)=((48+k:Nat):Int) by omega]; exact u32i (by omega)
  have w2:IntKind.u32.wrap (((48+k:Nat):Int) - 52)=((48+k - 52:Nat):Int):=by rw [show ((48+k:Nat):Int) - 52=((48+k - 52:Nat):Int) by omega]; exact u32i (by omega)
  have w3:IntKind.u8.wrap ((48+k - 52:Nat):Int)=((48+k - 52:Nat):Int):=u8i (by omega)
  (refine zA0 hctr (rs:=res125) true 300 _ _ _ ?_; simp (maxSteps:=1000000) only [VT,jf,jg,qE,qF,qG,qH,qI,qK,qO,qR,qS,qU,ev,qy,qz,zI,zJ,TE.sv,zK,zM,↓reduceIte,reduceCtorEq,Nat.reduceEqDiff,Nat.reduceLT,zP,zQ,zR,zV,zW,hP,hk,res125,kp125,a,b,c,w1,w2,w3])
  exact fin _ _ (by rw [ht,if_neg h0,if_neg h1,if_pos h2])
 have c:decide ((k:Int) < 62)=false:=decide_eq_false (by omega)
 by_cases h3:k=62
 ·have d:((k:Int) == 62)=true:=by rw [beq_iff_eq]; omega
  (refine zA0 hctr (rs:=res125) true 300 _ _ _ ?_; simp (maxSteps:=1000000) only [VT,jf,jg,qE,qF,qG,qH,qI,qK,qO,qR,qS,ev,qy,qz,zI,zJ,TE.sv,zK,↓reduceIte,reduceCtorEq,Nat.reduceEqDiff,Nat.reduceLT,zP,zQ,zR,zV,zW,hk,res125,kp125,a,b,c,d])
  exact fin 43 _ (by rw [ht,if_neg h0,if_neg h1,if_neg h2,if_pos h3])
 ·have d:((k:Int) == 62)=false:=by rw [beq_eq_false_iff_ne]; omega
  (refine zA0 hctr (rs:=res125) true 300 _ _ _ ?_; simp (maxSteps:=1000000) only [VT,jg,qE,qF,qG,qH,qI,qK,qO,qR,qS,ev,qy,qz,zI,zJ,TE.sv,zK,↓reduceIte,reduceCtorEq,Nat.reduceEqDiff,Nat.reduceLT,zP,zQ,zR,zW,hk,res125,kp125,a,b,c,d])
  exact fin 47 _ (by rw [ht,if_neg h0,if_neg h1,if_neg h2,if_neg h3])
theorem numD_ib (x:UInt8):numD x=(if Lib.indexByte b64L x < 0 then (0,false) else (Lib.indexByte b64L x,true)):=by
 have tab:∀ n:_root_.Fin 256,numD (UInt8.ofNat n.1)=(if Lib.indexByte b64L (UInt8.ofNat n.1) < 0 then (0,false) else (Lib.indexByte b64L (UInt8.ofNat n.1),true)):=by decide +kernel
 have h:=tab ⟨x.toNat,x.toNat_lt⟩
 rwa [UInt8.ofNat_toNat] at h
end Go.Proofs.YtcbmlanpianclaaGreatDoor
/- make of a row of elements of one cell; a text of a row of bytes. No program in sight. -/
namespace Go.Proofs.YtcbmlanpianclaaGreatDoor
set_option linter.unusedSimpArgs false
set_option linter.unusedVariables false
open Go.RowKit
section
variable {C:Cx} {nt:Nat} {sl:List (Nat × SV)} {en:List EN} {k:List KI}
variable {dst:Option Nat} {op:Op} {ty:TypeId} {pos:String} {af:Array Edge} {all r:List Oper} {gd:Option (Nat × Bool)}
end
end Go.Proofs.YtcbmlanpianclaaGreatDoor
/- The document's Encode (ambryref03), walked. Printed by gen_edoc6.py. -/
namespace Go.Proofs.YtcbmlanpianclaaGreatDoor
set_option linter.unusedSimpArgs false
set_option linter.unusedVariables false
set_option maxHeartbeats 8000000
open Go.RowKit
set_option maxRecDepth 100000
def rowLet:List SV→Option (Prop × SV)
 | [.c (.i .u32 n)]=>some (0≤n∧n < 64,.c (.i .u8 ((zM7 n.toNat).toNat:Int)))
 | _=>none
def dK0:Ctr:=fun f _ xs=>match f with
 | 125=>rowLet xs
 | _=>none
theorem dK0_ok {C:Cx} (hP:C.P=Tryz.prog):zC1 C dK0:=by
 intro f en xs p v h hp ρ w hup hHp hHo hinj hwf
 unfold dK0 at h
 split at h
 ·rw [hP]
  refine ⟨fun args w=>Tryz.call125 args w,?_⟩
  unfold rowLet at h
  split at h <;> simp only [Option.some.injEq,Prod.mk.injEq,reduceCtorEq] at h
  rename_i n
  obtain ⟨rfl,rfl⟩:=h
  have:=dletter_w n.toNat (by omega) w
  rw [show ((n.toNat:Nat):Int)=n by omega] at this
  exact ⟨trivial,this⟩
 ·cases h
def slDe (s:List UInt8) (i n:Nat):List (Nat × SV):=[(4,.c (.i .i64 (i:Int))),(3,.c (.rw 0 n)),(0,.c (.s s))]
theorem infoU8c:(Tryz.prog.info? 5).map (fun i=>(i.zero,i.size,i.bytes))=some (some (.int .u8 0),1,1):=by kernel_rfl
section
variable {C:Cx} {nt:Nat} {sl:List (Nat × SV)} {en:List EN} {k:List KI} {dst:Option Nat} {ty:TypeId} {pos:String} {af:Array Edge} {all r:List Oper} {gd:Option (Nat × Bool)}
theorem bytes_rw {x:Operand} {s t:TypeId} {d:Nat} {l:List UInt8} (hs:C.P.underlying s=some (.slice 5)) (hu:C.P.underlying t=some .string) (he:C.P.underlying 5=some (.int .u8)) (hx:ev sl x=some (.c (.rw d l.length))) (hd':zD en d=some (rwB l))
  (hg:gdT all sl gd=true) (hd:∀ d,dst=some d→d < nt)
  (hK:Run C (.ops all r :: k) nt (jN dst (.c (.s l)) sl) en) :
  Run C (.ops all (⟨dst,.convert s t x,ty,pos,af,gd⟩ :: r) :: k) nt sl en:=by
 refine Run_hop _ _ hg (Nat.le_refl _) ?_ hd hK
 intro ρ a w hr
 obtain ⟨x1,x2⟩:=hr.ev_ok _ _ hx
 refine ⟨ρ,w,?_,fun _ _=>rfl,trivial,hr.hw⟩
 have x1:a.eval x=zL3 (ρ d) l.length:=x1
 have hld:=x2
 obtain ⟨_,hL,hO⟩:=hr.hw.ho d _ _ _ hld hd'
 rcases hO with ⟨h1,h2,_⟩ | ⟨h1,h2,_⟩
 ·rw [zI3 h1] at x1
  have hb:=run_convert_bytes_back (P:=C.P) w s t 5 ⟨(ρ d).blk,0,none⟩ (ρ d).cap l hs he hu (fun j hj=>by
   have hc:(zD5 l)[j]?=some (.i .u8 ((l[j]).toNat:Int)):=by simp [zD5,hj]
   have:=hr.hw.hp.cellAt hld hd' hc
   rw [h2] at this
   rw [Go.WideShapes.add_plain]
   exact this)
  simp only [execOp,x1,Sem.run_bind,hb,Result.andThen,Sem.run_pure,SV.den,SC.den]
 ·have h0:l=[]:=List.eq_nil_of_length_eq_zero h2
  subst h0
  rw [zF1 h1] at x1
  have hb:=Lib.run_convert_nil_bytes (P:=C.P) w s t 5 0 hs he hu
  have x1:a.eval x=.slice none 0 0:=x1
  simp only [execOp,x1,Sem.run_bind,hb,Result.andThen,Sem.run_pure,SV.den,SC.den]
end
theorem enc4_app {D:Cx} {nt:Nat} {sl:List (Nat × SV)} {k:List KI} {dst:Option Nat} {ty:TypeId} {pos:String} {af:Array Edge} {all r:List Oper} {x y:Operand} {l:List UInt8} {a b c d:UInt8} (hP:D.P=Tryz.prog) (hn0:D.n0=0) (hl:l.length≤10000000000)
  (hx:ev sl x=some (.c (.rw 0 l.length))) (hy:ev sl y=some (.c (.sl 1 0 4 4))) (hd:∀ d,dst=some d→d < nt)
  (hK:∀ E,Run D (.ops all r :: k) nt (jN dst (.c (.rw 2 (l.length+4))) sl) [E,⟨(5,0,whole),zD5 [a,b,c,d],true⟩,rwB (l++[a,b,c,d])]) :
  Run D (.ops all (⟨dst,.call ⟨.builtin .append,#[x,y],#[116,116]⟩,ty,pos,af,none⟩ :: r) :: k) nt sl [rwB l,⟨(5,0,whole),zD5 [a,b,c,d],true⟩]:=by
 obtain ⟨i0,hi',hz0,hz1,hz2⟩:=info_parts infoU8c
 refine zH9 (X:=.rw 0 l.length) (Y:=.sl 1 0 4 4) (o:=some 0) (n:=l.length) (m:=4) (z:=1) (bts:=1) (cells:=zD5 l) (news:=zD5 [a,b,c,d]) (e:=5) (by rw [hP]; exact Tryz.underlying116) (by rw [hP]; exact hi') hz0 hz1 hz2 rfl Nat.zero_lt_one u8d (.some rfl) hx hy (zU5 (c:=1) (o:=0) (L:=4) rfl rfl) rfl rfl (fun pr=>zO5 _ _) (by omega) (by omega) (by rw [hn0]; exact Nat.zero_le _) rfl hd ?_
 have hr:rwE 5 1 (l.length+4) (zD5 l++zD5 [a,b,c,d])=rwB (l++[a,b,c,d]):=by
  rw [zZ6]; simp [rwB]
 rw [hr]
 exact hK _
theorem dencode_w (s:List UInt8) (hs:s.length≤1000000000) (w:World):Calls Tryz.prog 107 #[.string ⟨s.toArray⟩] w fun e w'=>e=.returned (.string ⟨(zV7 s).toArray⟩)∧Below w.heap.size w w':=by
 refine zA1 Tryz.func107 rfl kp107 (S:=Non) (ρ:=fun _=>zG7 0) (en:=[]) [.c (.s s)] Tryz.ntmps107 (At.nil _ _ _) (by simp [SV.wf,SC.wf]) (by simp) ?_
 intro C hC hP hk
 have hctr:=dK0_ok hP
 have hn0:C.n0=0:=by rw [hC]; rfl
 have fin:∀ l en,zV7 s=l→Fin C res107 (.c (.s l)) en:=fun l en hl=>by subst hl; exact zC3 (v:=.c (.s (zV7 s))) hC hres107 fun ρ w' hw _ _=>⟨rfl,by have:=hw.up; rw [hC] at this; exact this.to_below⟩
 (refine zA0 hctr (rs:=res107) true 300 _ _ _ ?_; simp (maxSteps:=1000000) only [VT,qH,qI,qK,qO,ev,qz,zI,zJ,zK,↓reduceIte,reduceCtorEq,Nat.reduceEqDiff,Nat.reduceLT,zP,zR,hk,kp107])
 refine zG2 true (en':=[]) (sl':=slDe s 0 0) (5,0,rowP 1 0 0) rfl (fun _=>⟨rfl,.inr ⟨rfl,rfl,rfl⟩⟩) (fun _=>u8d) trivial ?_ ?_
 ·refine ⟨⟨⟨_,rfl,fun ρ h=>rfl⟩,?_⟩,⟨⟨_,rfl,fun ρ h=>?_⟩,?_⟩,⟨⟨_,rfl,fun ρ h=>rfl⟩,?_⟩,trivial⟩
  rotate_left
  ·have h:(ρ 0).nl=some none:=h
   simp only [SV.den,SC.den,zF1 h]
  all_goals simp [SV.wf,SC.wf,zG]
 refine zD6 (ι:={ y:Nat × List UInt8 // y.1≤s.length+2∧y.2.length≤4 * y.1∧y.2++zV7 (s.drop y.1)=zV7 s }) (fun y=>slDe s y.1.1 y.1.2.length) (fun y=>[rwB y.1.2]) (fun y=>s.length+3 - y.1.1) ⟨(0,[]),by simp only; omega,by simp,rfl⟩ (zB3 ⟨rfl,rfl,rfl,trivial⟩) rfl ?_
 rintro ⟨⟨i,out⟩,hi,hol,hall⟩ D dP dS dw dn dr dk ddf dPan dRet hX hJ
 have hP0:=hP; have hk0:=hk; have hctr0:=hctr
 have hP:D.P=Tryz.prog:=by rw [dP]; exact hP0
 have hk:D.kp=kp107:=by rw [dk]; exact hk0
 have hctr:zC1 D dK0:=dK0_ok hP
 simp only at hi hol hall
 show Run D _ _ (slDe s i out.length) [rwB out]
 by_cases hin:i < s.length
 ·have q1:decide ((i:Int) < (s.length:Int))=true:=decide_eq_true (by omega)
  obtain ⟨x,hx⟩:∃ x,s[i]?=some x:=⟨_,List.getElem?_eq_getElem hin⟩
  have hgx:s.getD i 0=x:=by rw [List.getD_eq_getElem?_getD,hx]; rfl
  have hdx:s.drop i=x :: s.drop (i+1):=by
   rw [List.drop_eq_getElem_cons hin]; congr 1
   exact (List.getElem?_eq_some_iff.1 hx).2
  have p0:(0:Int)≤(i:Int):=by omega
  have p1:(i:Int) < (s.length:Int):=by omega
  have p3:IntKind.i64.wrap ((i:Int)+3)=((i+3:Nat):Int):=by rw [IntWalk.i64_in _ (by omega)]; rfl
  have pl:IntKind.i64.wrap ((s.length:Int) - (i:Int))=((s.length - i:Nat):Int):=by rw [IntWalk.i64_in _ (by omega)]; omega
  have hx8:=lt8 x
  have f1:shlZ .u32 (IntKind.u32.wrap (x.toNat:Int)) 16=((x.toNat * 65536:Nat):Int):=by
   rw [u32i (by omega),show (16:Int)=((16:Nat):Int) from rfl,shlN _ _ (by decide)]; congr 1; omega
  have lets:∀ N:Nat,N < 16777216→((shrZ .u32 (N:Int) 18=((N / 262144:Nat):Int))∧(andZ .u32 (shrZ .u32 (N:Int) 12) 63=((N / 4096 % 64:Nat):Int))∧(andZ .u32 (shrZ .u32 (N:Int) 6) 63=((N / 64 % 64:Nat):Int))∧(andZ .u32 (N:Int) 63=((N % 64:Nat):Int))):=fun N hN=>by
   have zh:shrZ .u32 (N:Int) 18=((N / 262144:Nat):Int):=by rw [show (18:Int)=((18:Nat):Int) from rfl,shrN _ _ (by decide)]
   have zb:shrZ .u32 (N:Int) 12=((N / 4096:Nat):Int):=by rw [show (12:Int)=((12:Nat):Int) from rfl,shrN _ _ (by decide)]
   have e6:shrZ .u32 (N:Int) 6=((N / 64:Nat):Int):=by rw [show (6:Int)=((6:Nat):Int) from rfl,shrN _ _ (by decide)]
   refine ⟨zh,?_,?_,?_⟩
   ·rw [zb,show (63:Int)=((63:Nat):Int) from rfl,andN (by omega) (by decide),and63]
   ·rw [e6,show (63:Int)=((63:Nat):Int) from rfl,andN (by omega) (by decide),and63]
   ·rw [show (63:Int)=((63:Nat):Int) from rfl,andN (by omega) (by decide),and63]
  have nx:∀ a b c d:UInt8,(out++[a,b,c,d])++zV7 (s.drop (i+3))=zV7 s→∀ E s',sub [(4,.c (.i .i64 ((i+3:Nat):Int))),(3,.c (.rw 2 (out.length+4))),(0,.c (.s s))] s'→Run D [] 70 s' [E,⟨(5,0,whole),zD5 [a,b,c,d],true⟩,rwB (out++[a,b,c,d])]:=fun a b c d h E s' hs=>by
   refine zN2 hs ?_
   have hJ':=hJ ⟨(i+3,out++[a,b,c,d]),by simp only; omega,by simp; omega,h⟩ _ (by show s.length+3 - (i+3) < s.length+3 - i; omega) (fun d v h=>h)
   refine zI6 (f:=fun _=>2) (enK:=[rwB (out++[a,b,c,d])]) (slK:=slDe s (i+3) (out++[a,b,c,d]).length) ⟨fun q hq=>absurd hq (by rw [dn,hn0]; exact Nat.not_lt_zero _),by rw [dn,hn0]; exact Nat.zero_le _⟩ (fun p q hp hq _=>?_) ?_ ?_ hJ'
   ·have hp:p < 1:=hp
    have hq:q < 1:=hq
    omega
   ·refine ⟨⟨_,rfl,fun ρ=>?_,zO5 _ _⟩,trivial⟩
    show zB8 _ (zD5 (out++[a,b,c,d]))=zB8 ρ (zD5 (out++[a,b,c,d]))
    rw [zH1,zH1]
   ·refine ⟨⟨?_,_,rfl,fun ρ=>rfl⟩,⟨?_,_,rfl,fun ρ=>?_⟩,⟨?_,_,rfl,fun ρ=>rfl⟩,trivial⟩
    all_goals simp [SV.wf,SC.wf,SV.den,SC.den]
  by_cases hl1:s.length - i=1
  ·have c1:decide ((1:Int) < ((s.length - i:Nat):Int))=false:=decide_eq_false (by omega)
   have c2:decide ((2:Int) < ((s.length - i:Nat):Int))=false:=decide_eq_false (by omega)
   have c3:decide (((s.length - i:Nat):Int) < 3)=true:=decide_eq_true (by omega)
   have c4:decide (((s.length - i:Nat):Int) < 2)=true:=decide_eq_true (by omega)
   have hd:s.drop i=[x]:=by rw [hdx,List.drop_of_length_le (by omega)]
   have hd3:s.drop (i+3)=[]:=List.drop_of_length_le (by omega)
   obtain ⟨l1,l2,l3,l4⟩:=lets (x.toNat * 65536) (by omega)
   have m1:(x.toNat * 65536) / 262144=x.toNat / 4:=by omega
   have m2:(x.toNat * 65536) / 4096 % 64=x.toNat % 4 * 16:=by omega
   have m3:(x.toNat * 65536) / 64 % 64=0:=by omega
   have m4:(x.toNat * 65536) % 64=0:=by omega
   obtain ⟨N,hN⟩:∃ N,x.toNat * 65536=N:=⟨_,rfl⟩
   rw [hN] at l1 l2 l3 l4 m1 m2 m3 m4 f1
   have b1:(0:Int)≤((N / 262144:Nat):Int):=by omega
   have b2:((N / 262144:Nat):Int) < 64:=by omega
   have b3:(0:Int)≤((N / 4096 % 64:Nat):Int):=by omega
   have b4:((N / 4096 % 64:Nat):Int) < 64:=by omega
   have b5:(0:Int)≤((N / 64 % 64:Nat):Int):=by omega
   have b6:((N / 64 % 64:Nat):Int) < 64:=by omega
   have b7:(0:Int)≤((N % 64:Nat):Int):=by omega
   have b8:((N % 64:Nat):Int) < 64:=by omega
   (refine zA0 hctr (rs:=res107) true 300 _ _ _ ?_; simp (maxSteps:=1000000) only [VT,jf,jg,qA,qB,qC,qD,qH,qI,qJ,qK,qN,qO,qR,qS,qU,qX,qY,qe,qg,q0t,qv,ev,qw,qy,qz,zC,zD,zE,zF,zG,zI,zJ,zM,↓reduceIte,reduceCtorEq,Nat.reduceEqDiff,Nat.reduceAdd,Nat.reduceLT,Nat.reduceLeDiff,zP,zQ,zR,zT,zV,zW,zh,zo,zt,rwE,hP,hk,res107,kp107,dK0,rowLet,slDe,rwB,rwE,Nat.reduceLeDiff,Int.reduceToNat,Nat.reduceAdd,Nat.mul_one,p0,p1,pl,hgx,c1,c2,c3,c4,f1,l1,l2,l3,l4,b1,b2,b3,b4,b5,b6,b7,b8])
   repeat (refine ⟨by first | decide | omega,?_⟩)
   refine enc4_app (l:=out) (a:=zM7 (N / 262144)) (b:=zM7 (N / 4096 % 64)) (c:=61) (d:=61) hP (by rw [dn,hn0]) (by omega) rfl rfl (by simp) fun E=>?_
   (refine zA0 hctr (rs:=res107) true 300 _ _ _ ?_; simp (maxSteps:=1000000) only [VT,qH,qI,qK,qO,qR,qS,ev,qy,qz,zI,zJ,↓reduceIte,reduceCtorEq,Nat.reduceEqDiff,Nat.reduceLT,zP,zQ,zR,rwE,jN,hk,kp107,rwB,rwE,p3])
   exact nx _ _ _ _ (by rw [← hall,hd,hd3,zV7,zV7,m1,m2]; simp) E _ (zB3 ⟨rfl,rfl,rfl,trivial⟩)
  obtain ⟨y,hy⟩:∃ y,s[i+1]?=some y:=⟨_,List.getElem?_eq_getElem (by omega)⟩
  have hgy:s.getD (i+1) 0=y:=by rw [List.getD_eq_getElem?_getD,hy]; rfl
  have hdy:s.drop (i+1)=y :: s.drop (i+2):=by
   rw [List.drop_eq_getElem_cons (by omega)]; congr 1
   exact (List.getElem?_eq_some_iff.1 hy).2
  have hy8:=lt8 y
  have c1:decide ((1:Int) < ((s.length - i:Nat):Int))=true:=decide_eq_true (by omega)
  have p4:IntKind.i64.wrap ((i:Int)+1)=((i+1:Nat):Int):=by rw [IntWalk.i64_in _ (by omega)]; rfl
  have p5:(0:Int)≤((i+1:Nat):Int):=by omega
  have p6:((i+1:Nat):Int) < (s.length:Int):=by omega
  have f2:orZ .u32 ((x.toNat * 65536:Nat):Int) (shlZ .u32 (IntKind.u32.wrap (y.toNat:Int)) 8)=((x.toNat * 65536+y.toNat * 256:Nat):Int):=by
   rw [u32i (by omega),show (8:Int)=((8:Nat):Int) from rfl,shlN _ _ (by decide),orN (by omega) (Nat.mod_lt _ (by decide))]
   have h:=Nat.shiftLeft_add_eq_or_of_lt (i:=16) (b:=y.toNat * 256) (by omega) x.toNat
   rw [Nat.shiftLeft_eq] at h
   simp only [Nat.reducePow] at h
   rw [show y.toNat * 2 ^ 8 % 4294967296=y.toNat * 256 by omega,← h]
  by_cases hl2:s.length - i=2
  ·have c2:decide ((2:Int) < ((s.length - i:Nat):Int))=false:=decide_eq_false (by omega)
   have c3:decide (((s.length - i:Nat):Int) < 3)=true:=decide_eq_true (by omega)
   have c4:decide (((s.length - i:Nat):Int) < 2)=false:=decide_eq_false (by omega)
   have hd:s.drop i=[x,y]:=by rw [hdx,hdy,List.drop_of_length_le (by omega)]
   have hd3:s.drop (i+3)=[]:=List.drop_of_length_le (by omega)
   obtain ⟨l1,l2,l3,l4⟩:=lets (x.toNat * 65536+y.toNat * 256) (by omega)
   have m1:(x.toNat * 65536+y.toNat * 256) / 262144=x.toNat / 4:=by omega
   have m2:(x.toNat * 65536+y.toNat * 256) / 4096 % 64=x.toNat % 4 * 16+y.toNat / 16:=by omega
   have m3:(x.toNat * 65536+y.toNat * 256) / 64 % 64=y.toNat % 16 * 4:=by omega
   have m4:(x.toNat * 65536+y.toNat * 256) % 64=0:=by omega
   obtain ⟨N,hN⟩:∃ N,x.toNat * 65536+y.toNat * 256=N:=⟨_,rfl⟩
   rw [hN] at l1 l2 l3 l4 m1 m2 m3 m4 f2
   have b1:(0:Int)≤((N / 262144:Nat):Int):=by omega
   have b2:((N / 262144:Nat):Int) < 64:=by omega
   have b3:(0:Int)≤((N / 4096 % 64:Nat):Int):=by omega
   have b4:((N / 4096 % 64:Nat):Int) < 64:=by omega
   have b5:(0:Int)≤((N / 64 % 64:Nat):Int):=by omega
   have b6:((N / 64 % 64:Nat):Int) < 64:=by omega
   have b7:(0:Int)≤((N % 64:Nat):Int):=by omega
   have b8:((N % 64:Nat):Int) < 64:=by omega
   (refine zA0 hctr (rs:=res107) true 300 _ _ _ ?_; simp (maxSteps:=1000000) only [VT,jf,jg,qA,qB,qC,qD,qH,qI,qJ,qK,qN,qO,qR,qS,qU,qX,qY,qe,qg,q0t,qv,ev,qw,qy,qz,zC,zD,zE,zF,zG,zI,zJ,zM,↓reduceIte,reduceCtorEq,Nat.reduceEqDiff,Nat.reduceAdd,Nat.reduceLT,Nat.reduceLeDiff,zP,zQ,zR,zT,zV,zW,zh,zo,zt,rwE,hP,hk,res107,kp107,dK0,rowLet,slDe,rwB,rwE,Nat.reduceLeDiff,Int.reduceToNat,Nat.reduceAdd,Nat.mul_one,p0,p1,pl,hgx,c1,c2,c3,c4,f1,f2,p4,p5,p6,hgy,l1,l2,l3,l4,b1,b2,b3,b4,b5,b6,b7,b8])
   repeat (refine ⟨by first | decide | omega,?_⟩)
   refine enc4_app (l:=out) (a:=zM7 (N / 262144)) (b:=zM7 (N / 4096 % 64)) (c:=zM7 (N / 64 % 64)) (d:=61) hP (by rw [dn,hn0]) (by omega) rfl rfl (by simp) fun E=>?_
   (refine zA0 hctr (rs:=res107) true 300 _ _ _ ?_; simp (maxSteps:=1000000) only [VT,qH,qI,qK,qO,qR,qS,ev,qy,qz,zI,zJ,↓reduceIte,reduceCtorEq,Nat.reduceEqDiff,Nat.reduceLT,zP,zQ,zR,rwE,jN,hk,kp107,rwB,rwE,p3])
   exact nx _ _ _ _ (by rw [← hall,hd,hd3,zV7,zV7,m1,m2,m3]; simp) E _ (zB3 ⟨rfl,rfl,rfl,trivial⟩)
  obtain ⟨z,hz⟩:∃ z,s[i+2]?=some z:=⟨_,List.getElem?_eq_getElem (by omega)⟩
  have hgz:s.getD (i+2) 0=z:=by rw [List.getD_eq_getElem?_getD,hz]; rfl
  have hdz:s.drop (i+2)=z :: s.drop (i+3):=by
   rw [List.drop_eq_getElem_cons (by omega)]; congr 1
   exact (List.getElem?_eq_some_iff.1 hz).2
  have hz8:=lt8 z
  have c2:decide ((2:Int) < ((s.length - i:Nat):Int))=true:=decide_eq_true (by omega)
  have c3:decide (((s.length - i:Nat):Int) < 3)=false:=decide_eq_false (by omega)
  have c4:decide (((s.length - i:Nat):Int) < 2)=false:=decide_eq_false (by omega)
  have p7:IntKind.i64.wrap ((i:Int)+2)=((i+2:Nat):Int):=by rw [IntWalk.i64_in _ (by omega)]; rfl
  have p8:(0:Int)≤((i+2:Nat):Int):=by omega
  have p9:((i+2:Nat):Int) < (s.length:Int):=by omega
  have f3:orZ .u32 ((x.toNat * 65536+y.toNat * 256:Nat):Int) (IntKind.u32.wrap (z.toNat:Int))=((x.toNat * 65536+y.toNat * 256+z.toNat:Nat):Int):=by
   rw [u32i (by omega),orN (by omega) (by omega)]
   have h:=Nat.shiftLeft_add_eq_or_of_lt (i:=8) (b:=z.toNat) (by omega) (x.toNat * 256+y.toNat)
   rw [Nat.shiftLeft_eq] at h
   rw [show x.toNat * 65536+y.toNat * 256=(x.toNat * 256+y.toNat) * 2 ^ 8 by omega,← h]
  have hd:s.drop i=x :: y :: z :: s.drop (i+3):=by rw [hdx,hdy,hdz]
  obtain ⟨l1,l2,l3,l4⟩:=lets (x.toNat * 65536+y.toNat * 256+z.toNat) (by omega)
  have m1:(x.toNat * 65536+y.toNat * 256+z.toNat) / 262144=x.toNat / 4:=by omega
  have m2:(x.toNat * 65536+y.toNat * 256+z.toNat) / 4096 % 64=x.toNat % 4 * 16+y.toNat / 16:=by omega
  have m3:(x.toNat * 65536+y.toNat * 256+z.toNat) / 64 % 64=y.toNat % 16 * 4+z.toNat / 64:=by omega
  have m4:(x.toNat * 65536+y.toNat * 256+z.toNat) % 64=z.toNat % 64:=by omega
  obtain ⟨N,hN⟩:∃ N,x.toNat * 65536+y.toNat * 256+z.toNat=N:=⟨_,rfl⟩
  rw [hN] at l1 l2 l3 l4 m1 m2 m3 m4 f3
  have b1:(0:Int)≤((N / 262144:Nat):Int):=by omega
  have b2:((N / 262144:Nat):Int) < 64:=by omega
  have b3:(0:Int)≤((N / 4096 % 64:Nat):Int):=by omega
  have b4:((N / 4096 % 64:Nat):Int) < 64:=by omega
  have b5:(0:Int)≤((N / 64 % 64:Nat):Int):=by omega
  have b6:((N / 64 % 64:Nat):Int) < 64:=by omega
  have b7:(0:Int)≤((N % 64:Nat):Int):=by omega
  have b8:((N % 64:Nat):Int) < 64:=by omega
  (refine zA0 hctr (rs:=res107) true 300 _ _ _ ?_; simp (maxSteps:=1000000) only [VT,jf,jg,qA,qB,qC,qD,qH,qI,qK,qN,qO,qR,qS,qU,qY,qe,qg,q0t,ev,qw,qy,qz,zC,zD,zF,zG,zI,zJ,zM,↓reduceIte,reduceCtorEq,Nat.reduceEqDiff,Nat.reduceAdd,Nat.reduceLT,Nat.reduceLeDiff,zP,zQ,zR,zT,zV,zW,zh,zo,zt,rwE,hP,hk,res107,kp107,dK0,rowLet,slDe,rwB,rwE,Nat.reduceLeDiff,Nat.reduceAdd,Nat.mul_one,p0,p1,pl,hgx,c1,c2,c3,c4,f1,f2,f3,p4,p5,p6,p7,p8,p9,hgy,hgz,l1,l2,l3,l4,b1,b2,b3,b4,b5,b6,b7,b8])
  repeat (refine ⟨by first | decide | omega,?_⟩)
  refine enc4_app (l:=out) (a:=zM7 (N / 262144)) (b:=zM7 (N / 4096 % 64)) (c:=zM7 (N / 64 % 64)) (d:=zM7 (N % 64)) hP (by rw [dn,hn0]) (by omega) rfl rfl (by simp) fun E=>?_
  (refine zA0 hctr (rs:=res107) true 300 _ _ _ ?_; simp (maxSteps:=1000000) only [VT,qH,qI,qK,qO,qR,qS,ev,qy,qz,zI,zJ,↓reduceIte,reduceCtorEq,Nat.reduceEqDiff,Nat.reduceLT,zP,zQ,zR,rwE,jN,hk,kp107,rwB,rwE,p3])
  exact nx _ _ _ _ (by rw [← hall,hd,zV7,m1,m2,m3,m4]; simp) E _ (zB3 ⟨rfl,rfl,rfl,trivial⟩)
 ·have q1:decide ((i:Int) < (s.length:Int))=false:=decide_eq_false (by omega)
  (refine zA0 hctr (rs:=res107) true 300 _ _ _ ?_; simp (maxSteps:=1000000) only [VT,jg,qH,qI,qK,qN,qO,qR,qS,qe,ev,qy,zH,zI,zJ,zM,↓reduceIte,reduceCtorEq,Nat.reduceEqDiff,Nat.reduceLT,zP,zQ,zR,zW,rwE,hP,hk,res107,kp107,slDe,rwB,rwE,q1])
  refine hX rfl rfl ?_
  have hP:=hP0; have hk:=hk0; have hctr:=hctr0
  rw [List.drop_of_length_le (by omega),zV7,List.append_nil] at hall
  (refine zA0 hctr (rs:=res107) true 300 _ _ _ ?_; simp (maxSteps:=1000000) only [VT,qH,qI,qK,qO,qU,ev,qy,zM,↓reduceIte,Nat.reduceEqDiff,Nat.reduceLT,zR,hP])
  refine bytes_rw (l:=out) (by rw [hP]; exact Tryz.underlying116) (by rw [hP]; exact Tryz.underlying9) (by rw [hP]; exact Tryz.underlying5) rfl rfl rfl (by simp) ?_
  (refine zA0 hctr (rs:=res107) true 300 _ _ _ ?_; simp (maxSteps:=1000000) only [VT,qE,qF,qG,qH,qI,qK,qO,ev,qy,zI,zJ,TE.sv,↓reduceIte,reduceCtorEq,Nat.reduceEqDiff,Nat.reduceLT,zP,zQ,zR,jN,hk,res107,kp107])
  exact fin _ _ hall.symm
end Go.Proofs.YtcbmlanpianclaaGreatDoor
/- The document's Decode (ambryref03), walked. Printed by gen_edoc7.py. -/
namespace Go.Proofs.YtcbmlanpianclaaGreatDoor
set_option linter.unusedSimpArgs false
set_option linter.unusedVariables false
set_option maxHeartbeats 8000000
open Go.RowKit
set_option maxRecDepth 100000
def zL9:List SV→Option (Prop × SV)
 | [.c (.i .u8 n)]=>some (0≤n∧n < 256,.t [.c (.i .u32 (numD (UInt8.ofNat n.toNat)).1),.c (.b (numD (UInt8.ofNat n.toNat)).2)])
 | _=>none
def rowEncR:List SV→Option (Prop × SV)
 | [.c (.s l)]=>some (l.length≤1000000000,.c (.s (zV7 l)))
 | _=>none
def dM0:Ctr:=fun f _ xs=>match f with
 | 106=>zL9 xs
 | 107=>rowEncR xs
 | _=>none
theorem dM0_ok {C:Cx} (hP:C.P=Tryz.prog):zC1 C dM0:=by
 intro f en xs p v h hp ρ w hup hHp hHo hinj hwf
 unfold dM0 at h
 split at h
 ·rw [hP]
  refine ⟨fun args w=>Tryz.call106 args w,?_⟩
  unfold zL9 at h
  split at h <;> simp only [Option.some.injEq,Prod.mk.injEq,reduceCtorEq] at h
  rename_i n
  obtain ⟨rfl,rfl⟩:=h
  have hn:n=((UInt8.ofNat n.toNat).toNat:Int):=by
   rw [UInt8.toNat_ofNat',Nat.mod_eq_of_lt (by omega)]; omega
  have:=dnumber_w (UInt8.ofNat n.toNat) w
  rw [← hn] at this
  exact ⟨by simp [SV.wf,TE.wf,SC.wf],this⟩
 ·rw [hP]
  refine ⟨fun args w=>Tryz.call107 args w,?_⟩
  unfold rowEncR at h
  split at h <;> simp only [Option.some.injEq,Prod.mk.injEq,reduceCtorEq] at h
  obtain ⟨rfl,rfl⟩:=h
  exact ⟨trivial,dencode_w _ hp w⟩
 ·cases h
def slDd (s:List UInt8) (i n:Nat):List (Nat × SV):=[(5,.c (.i .i64 (i:Int))),(4,.c (.rw 0 n)),(0,.c (.s s))]
def zY5 (s:List UInt8) (i ol k n p:Nat):List (Nat × SV):=[(8,.c (.i .i64 (k:Int))),(7,.c (.i .i64 (p:Int))),(6,.c (.i .u32 (n:Int))),(5,.c (.i .i64 (i:Int))),(4,.c (.rw 0 ol)),(0,.c (.s s))]
theorem dec3_app {D:Cx} {nt:Nat} {sl:List (Nat × SV)} {k:List KI} {dst:Option Nat} {ty:TypeId} {pos:String} {af:Array Edge} {all r:List Oper} {x y:Operand} {l f3 lit:List UInt8} {m cp:Nat} (hP:D.P=Tryz.prog) (hn0:D.n0=0) (hl:l.length≤10000000000) (hm:f3.length=m) (hm3:m≤3) (ht:zB 0 m (zD5 lit)=some (zD5 f3)) (hm0:0 < m)
  (hx:ev sl x=some (.c (.rw 0 l.length))) (hy:ev sl y=some (.c (.sl 1 0 m cp))) (hd:∀ d,dst=some d→d < nt)
  (hK:∀ E,Run D (.ops all r :: k) nt (jN dst (.c (.rw 2 (l.length+m))) sl) [E,⟨(5,0,whole),zD5 lit,true⟩,rwB (l++f3)]) :
  Run D (.ops all (⟨dst,.call ⟨.builtin .append,#[x,y],#[116,116]⟩,ty,pos,af,none⟩ :: r) :: k) nt sl [rwB l,⟨(5,0,whole),zD5 lit,true⟩]:=by
 obtain ⟨i0,hi',hz0,hz1,hz2⟩:=info_parts infoU8c
 have hones:∀ l:List UInt8,qu (zD5 l)=true:=fun l=>by
  induction l with
  | nil=>rfl
  | cons x l ih=>simp only [zD5,List.map_cons,qu,q0t,cond_true]; exact ih
 refine zH9 (X:=.rw 0 l.length) (Y:=.sl 1 0 m cp) (o:=some 0) (n:=l.length) (m:=m) (z:=1) (bts:=1) (cells:=zD5 l) (news:=zD5 f3) (e:=5) (by rw [hP]; exact Tryz.underlying116) (by rw [hP]; exact hi') hz0 hz1 hz2 rfl Nat.zero_lt_one u8d (.some rfl) hx hy (zU5 (c:=1) (o:=0) (L:=m) rfl ht) (by rw [zI0,hm,Nat.mul_one]) (hones _) (fun pr=>zO5 _ _) (by omega) (by omega) (by rw [hn0]; exact Nat.zero_le _) rfl hd ?_
 have hr:rwE 5 1 (l.length+m) (zD5 l++zD5 f3)=rwB (l++f3):=by
  rw [zZ6]; simp [rwB,hm]
 rw [hr]
 exact hK _
def refV (s:List UInt8):List UInt8 × Bool:=match zQ8 s with
 | some t=>(t,true)
 | none=>([],false)
theorem ddecode_w (s:List UInt8) (hs:s.length≤100000000) (w:World):Calls Tryz.prog 70 #[.string ⟨s.toArray⟩] w fun e w'=>e=.returned (.tuple #[.string ⟨(refV s).1.toArray⟩,.bool (refV s).2])∧Below w.heap.size w w':=by
 refine zA1 Tryz.func70 rfl kp70 (S:=Non) (ρ:=fun _=>zG7 0) (en:=[]) [.c (.s s)] Tryz.ntmps70 (At.nil _ _ _) (by simp [SV.wf,SC.wf]) (by simp) ?_
 intro C hC hP hk
 have hctr:=dM0_ok hP
 have hn0:C.n0=0:=by rw [hC]; rfl
 have fin:∀ l b en,refV s=(l,b)→Fin C res70 (.t [.c (.s l),.c (.b b)]) en:=fun l b en h=>zC3 (v:=.t [.c (.s l),.c (.b b)]) hC hres70 fun ρ w' hw _ _=>⟨by rw [h]; rfl,by have:=hw.up; rw [hC] at this; exact this.to_below⟩
 by_cases h4:s.length % 4=0
 rotate_left
 ·have c0:((s.length:Int).tmod 4 != 0)=true:=by
   rw [Int.tmod_eq_emod_of_nonneg (by omega),bne_iff_ne]; omega
  (refine zA0 hctr (rs:=res70) true 300 _ _ _ ?_; simp (maxSteps:=1000000) only [VT,jf,qE,qF,qG,qH,qI,qK,qN,qO,qR,qS,qe,ev,qy,qz,zI,zJ,zK,zM,↓reduceIte,reduceCtorEq,Nat.reduceEqDiff,Nat.reduceLT,zP,zQ,zR,zV,zi,hP,hk,res70,kp70,c0])
  exact ⟨by decide,fin _ _ _ (by unfold refV zQ8; rw [if_pos h4])⟩
 have c0:((s.length:Int).tmod 4 != 0)=false:=by
  rw [Int.tmod_eq_emod_of_nonneg (by omega),bne_eq_false_iff_eq]; omega
 (refine zA0 hctr (rs:=res70) true 300 _ _ _ ?_; simp (maxSteps:=1000000) only [VT,jg,qH,qI,qK,qN,qO,qR,qS,qe,ev,qy,qz,zI,zJ,zK,zM,↓reduceIte,reduceCtorEq,Nat.reduceEqDiff,Nat.reduceLT,zP,zQ,zR,zW,zi,hP,hk,res70,kp70,c0])
 refine ⟨by decide,?_⟩
 refine zG2 true (en':=[]) (sl':=slDd s 0 0) (5,0,rowP 1 0 0) rfl (fun _=>⟨rfl,.inr ⟨rfl,rfl,rfl⟩⟩) (fun _=>u8d) trivial ?_ ?_
 ·refine ⟨⟨⟨_,rfl,fun ρ h=>rfl⟩,?_⟩,⟨⟨_,rfl,fun ρ h=>?_⟩,?_⟩,⟨⟨_,rfl,fun ρ h=>rfl⟩,?_⟩,trivial⟩
  rotate_left
  ·have h:(ρ 0).nl=some none:=h
   simp only [SV.den,SC.den,zF1 h]
  all_goals simp [SV.wf,SC.wf,zG]
 refine zD6 (ι:={ y:Nat × List UInt8 // y.1≤s.length∧y.1 % 4=0∧y.2.length≤3 * y.1∧decR (s.drop y.1) y.2=decR s [] }) (fun y=>slDd s y.1.1 y.1.2.length) (fun y=>[rwB y.1.2]) (fun y=>s.length - y.1.1) ⟨(0,[]),Nat.zero_le _,rfl,by simp,rfl⟩ (zB3 ⟨rfl,rfl,rfl,trivial⟩) rfl ?_
 rintro ⟨⟨i,out⟩,hi,hi4,hol,hall⟩ D dP dS dw dn dr dk ddf dPan dRet hX hJ
 have hP0:=hP; have hk0:=hk; have hctr0:=hctr
 have hP:D.P=Tryz.prog:=by rw [dP]; exact hP0
 have hk:D.kp=kp70:=by rw [dk]; exact hk0
 have hctr:zC1 D dM0:=dM0_ok hP
 simp only at hi hi4 hol hall
 have dFin:∀ l b en,refV s=(l,b)→Fin D res70 (.t [.c (.s l),.c (.b b)]) en:=fun l b en h ρ a w' hw hn' hwf hd hr=>dRet _ _ (fin l b en h ρ a w' (hw.toC dS.symm dw.symm dr.symm dn.symm) (by rw [← dn]; exact hn') hwf (hd.trans ddf) (fun fn h=>by rw [← dP]; exact hr fn h))
 show Run D _ _ (slDd s i out.length) [rwB out]
 by_cases hin:i < s.length
 ·have q1:decide ((i:Int) < (s.length:Int))=true:=decide_eq_true (by omega)
  obtain ⟨c4,hc4⟩:∃ c4,(s.drop i).take 4=c4:=⟨_,rfl⟩
  have hc4l:c4.length=4:=by rw [← hc4]; simp; omega
  have hget:∀ k,k < 4→c4[k]?=s[i+k]?:=fun k hk=>by rw [← hc4,List.getElem?_take_of_lt hk,List.getElem?_drop]
  have hdd:s.drop i=c4++s.drop (i+4):=by
   have:=List.take_append_drop 4 (s.drop i)
   rw [hc4,List.drop_drop] at this
   exact this.symm
  obtain ⟨la,hla⟩:∃ la,decide (s.drop (i+4)=[])=la:=⟨_,rfl⟩
  have hlast:(((i+4:Nat):Int) == (s.length:Int))=la:=by
   rw [← hla,Bool.eq_iff_iff,beq_iff_eq,decide_eq_true_iff,List.drop_eq_nil_iff]; omega
  have hstep:decR (s.drop i) out=(match decG la 0 0 0 c4 with | some (n,p)=>decR (s.drop (i+4)) (out++three n p) | none=>none):=by
   rw [hdd]
   match c4,hc4l with
   | [c,d,e,f],_ =>
    simp only [List.cons_append,List.nil_append,decR,hla]
    rcases decG la 0 0 0 [c,d,e,f] with _ | ⟨n,p⟩ <;> rfl
  rw [hstep] at hall
  have hbad:decG la 0 0 0 c4=none→refV s=([],false):=fun h=>by
   rw [h] at hall
   unfold refV zQ8
   rw [if_neg (by omega),← hall]
  have p0:(0:Int)≤(i:Int):=by omega
  have p4:IntKind.i64.wrap ((i:Int)+4)=((i+4:Nat):Int):=by rw [IntWalk.i64_in _ (by omega)]; rfl
  (refine zA0 hctr (rs:=res70) true 300 _ _ _ ?_; simp (maxSteps:=1000000) only [VT,jf,qH,qI,qK,qN,qO,qR,qS,qe,ev,qy,qz,zI,zJ,zM,↓reduceIte,reduceCtorEq,Nat.reduceEqDiff,Nat.reduceLT,zP,zQ,zR,zV,rwE,hP,hk,res70,kp70,slDd,rwB,rwE,q1])
  refine zD6 (ι:={ y:Nat × Nat × Nat // y.1≤4∧y.2.1 < 64 ^ y.1∧(y.2.2=0∨y.2.2+2≤y.1)∧decG la y.1 y.2.1 y.2.2 (c4.drop y.1)=decG la 0 0 0 c4 }) (fun y=>zY5 s i out.length y.1.1 y.1.2.1 y.1.2.2) (fun _=>[rwB out]) (fun y=>5 - y.1.1) ⟨(0,0,0),by simp only; omega,by simp,Or.inl rfl,rfl⟩ (zB3 ⟨rfl,rfl,rfl,rfl,rfl,rfl,trivial⟩) rfl ?_
  rintro ⟨⟨k,n,p⟩,hk4,hnk,hpk,hdg⟩ D2 dP2 dS2 dw2 dn2 dr2 dk2 ddf2 dPan2 dRet2 hX2 hJ2
  have hP1:=hP; have hk1:=hk; have hctr1:=hctr
  have hP:D2.P=Tryz.prog:=by rw [dP2]; exact hP1
  have hk:D2.kp=kp70:=by rw [dk2]; exact hk1
  have hctr:zC1 D2 dM0:=dM0_ok hP
  simp only at hk4 hnk hpk hdg
  have d2Fin:∀ l b en,refV s=(l,b)→Fin D2 res70 (.t [.c (.s l),.c (.b b)]) en:=fun l b en h ρ a w' hw hn' hwf hd hr=>dRet2 _ _ (dFin l b en h ρ a w' (hw.toC dS2.symm dw2.symm dr2.symm dn2.symm) (by rw [← dn2]; exact hn') hwf (hd.trans ddf2) (fun fn h=>by rw [← dP2]; exact hr fn h))
  show Run D2 _ _ (zY5 s i out.length k n p) [rwB out]
  by_cases hk4':k < 4
  ·have q2:decide ((k:Int) < 4)=true:=decide_eq_true (by omega)
   have hnb:n < 262144:=Nat.lt_of_lt_of_le hnk (by
    have:(64:Nat) ^ k≤64 ^ 3:=Nat.pow_le_pow_right (by decide) (by omega)
    simpa using this)
   obtain ⟨x,hx⟩:∃ x,s[i+k]?=some x:=⟨_,List.getElem?_eq_getElem (by omega)⟩
   have hgx:s.getD (i+k) 0=x:=by rw [List.getD_eq_getElem?_getD,hx]; rfl
   have hx8:=lt8 x
   have x0:(0:Int)≤(x.toNat:Int):=by omega
   have x1:(x.toNat:Int) < 256:=by omega
   have r1:IntKind.i64.wrap ((i:Int)+(k:Int))=((i+k:Nat):Int):=by rw [IntWalk.i64_in _ (by omega)]; omega
   have r2:(0:Int)≤((i+k:Nat):Int):=by omega
   have r3:((i+k:Nat):Int) < (s.length:Int):=by omega
   have r4:IntKind.i64.wrap ((k:Int)+1)=((k+1:Nat):Int):=by rw [IntWalk.i64_in _ (by omega)]; rfl
   have r5:IntKind.i64.wrap ((p:Int)+1)=((p+1:Nat):Int):=by rw [IntWalk.i64_in _ (by omega)]; rfl
   have hcd:c4.drop k=x :: c4.drop (k+1):=by
    have hkl:k < c4.length:=by omega
    rw [List.drop_eq_getElem_cons hkl]; congr 1
    have:=hget k hk4'
    rw [hx] at this
    exact (List.getElem?_eq_some_iff.1 this).2
   rw [hcd,decG] at hdg
   have zP6:=numD_ib x
   by_cases hx61:x=61
   ·have g1:((x.toNat:Int) == 61)=true:=by rw [hx61]; rfl
    cases la with
    | false =>
     by_cases hib:Lib.indexByte b64L x < 0
     ·rw [if_pos hib] at zP6
      rw [if_neg (fun h=>by simp at h),if_pos (Or.inl hib)] at hdg
      (refine zA0 hctr (rs:=res70) true 300 _ _ _ ?_; simp (maxSteps:=1000000) only [VT,jf,jg,jZ,aA,qE,qF,qG,qH,qI,qK,qN,qO,qR,qS,qT,qY,qe,qh,qp,ev,qw,qy,qz,zD,zI,zJ,TE.sv,zM,↓reduceIte,reduceCtorEq,Nat.reduceEqDiff,Nat.reduceLT,zP,zQ,zR,zT,zV,zW,zh,rwE,hP,hk,res70,kp70,dM0,zL9,zY5,rwB,rwE,UInt8.ofNat_toNat,q2,p4,r1,r2,r3,x0,x1,hgx,g1,hlast,zP6])
      repeat (refine ⟨by first | decide | omega,?_⟩)
      exact d2Fin _ _ _ (hbad hdg.symm)
     ·rw [if_neg hib] at zP6
      obtain ⟨v,hv⟩:=Int.eq_ofNat_of_zero_le (by omega:0≤Lib.indexByte b64L x)
      have hv64:v < 64:=by have:=ib_lt b64L x; rw [hv] at this; exact Int.ofNat_lt.1 this
      rw [hv] at zP6
      have zP6:numD x=((v:Int),true):=zP6
      by_cases hp0:0 < p
      ·have j0:decide ((0:Int) < (p:Int))=true:=decide_eq_true (by omega)
       rw [if_neg (fun h=>by simp at h),if_pos (Or.inr hp0)] at hdg
       (refine zA0 hctr (rs:=res70) true 300 _ _ _ ?_; simp (maxSteps:=1000000) only [VT,jf,jg,jZ,aA,qE,qF,qG,qH,qI,qK,qN,qO,qR,qS,qT,qY,qe,qh,qp,ev,qw,qy,qz,zD,zI,zJ,TE.sv,zM,↓reduceIte,reduceCtorEq,Nat.reduceEqDiff,Nat.reduceLT,zP,zQ,zR,zT,zV,zW,zh,rwE,hP,hk,res70,kp70,dM0,zL9,zY5,rwB,rwE,UInt8.ofNat_toNat,q2,p4,r1,r2,r3,x0,x1,hgx,g1,hlast,zP6,j0])
       repeat (refine ⟨by first | decide | omega,?_⟩)
       exact d2Fin _ _ _ (hbad hdg.symm)
      ·have j0:decide ((0:Int) < (p:Int))=false:=decide_eq_false (by omega)
       rw [if_neg (fun h=>by simp at h),if_neg (fun h=>h.elim hib hp0),hv,Int.toNat_natCast] at hdg
       have w1:orZ .u32 (shlZ .u32 (n:Int) 6) (v:Int)=((n * 64+v:Nat):Int):=by
        rw [show (6:Int)=((6:Nat):Int) from rfl,shlN _ _ (by decide),orN (Nat.mod_lt _ (by decide)) (by omega)]
        rw [show n * 2 ^ 6 % 4294967296=n * 64 % 4294967296 by omega,or6 _ _ hv64]; congr 1; omega
       (refine zA0 hctr (rs:=res70) true 300 _ _ _ ?_; simp (maxSteps:=1000000) only [VT,jf,jg,jZ,aA,qH,qI,qK,qN,qO,qR,qS,qT,qY,qe,qh,qp,ev,qw,qy,qz,zD,zI,zJ,TE.sv,zM,↓reduceIte,reduceCtorEq,Nat.reduceEqDiff,Nat.reduceLT,zP,zQ,zR,zT,zV,zW,zh,rwE,hP,hk,res70,kp70,dM0,zL9,zY5,rwB,rwE,UInt8.ofNat_toNat,q2,p4,r1,r2,r3,r4,x0,x1,hgx,g1,hlast,zP6,j0,w1])
       repeat (refine ⟨by first | decide | omega,?_⟩)
       exact hJ2 ⟨(k+1,n * 64+v,p),by simp only; omega,by simp only; rw [Nat.pow_succ]; omega,Or.inl (by simp only; omega),hdg⟩ _ (by show 5 - (k+1) < 5 - k; omega) (zB3 ⟨rfl,rfl,rfl,rfl,rfl,rfl,trivial⟩)
    | true =>
     by_cases hk2:2≤k
     ·have g3:decide ((2:Int)≤(k:Int))=true:=decide_eq_true (by omega)
      rw [if_pos ⟨hx61,rfl,hk2⟩] at hdg
      have zP6:numD x=(0,false):=by rw [hx61]; rfl
      have w1:orZ .u32 (shlZ .u32 (n:Int) 6) 0=((n * 64:Nat):Int):=by
       rw [show (6:Int)=((6:Nat):Int) from rfl,shlN _ _ (by decide),show (0:Int)=((0:Nat):Int) from rfl,orN (Nat.mod_lt _ (by decide)) (by decide),Nat.or_zero]; congr 1; omega
      (refine zA0 hctr (rs:=res70) true 300 _ _ _ ?_; simp (maxSteps:=1000000) only [VT,jf,jZ,qH,qI,qK,qN,qO,qR,qS,qY,qe,qh,qp,ev,qw,qy,qz,zD,zI,zJ,TE.sv,zM,↓reduceIte,reduceCtorEq,Nat.reduceEqDiff,Nat.reduceLT,zP,zQ,zR,zT,zV,zh,rwE,hP,hk,res70,kp70,dM0,zL9,zY5,rwB,rwE,UInt8.ofNat_toNat,q2,p4,r1,r2,r3,r4,r5,x0,x1,hgx,g1,hlast,g3,zP6,w1])
      repeat (refine ⟨by first | decide | omega,?_⟩)
      exact hJ2 ⟨(k+1,n * 64,p+1),by simp only; omega,by simp only; rw [Nat.pow_succ]; omega,Or.inr (by simp only; omega),hdg⟩ _ (by show 5 - (k+1) < 5 - k; omega) (zB3 ⟨rfl,rfl,rfl,rfl,rfl,rfl,trivial⟩)
     ·have g3:decide ((2:Int)≤(k:Int))=false:=decide_eq_false (by omega)
      by_cases hib:Lib.indexByte b64L x < 0
      ·rw [if_pos hib] at zP6
       rw [if_neg (fun h=>hk2 h.2.2),if_pos (Or.inl hib)] at hdg
       (refine zA0 hctr (rs:=res70) true 300 _ _ _ ?_; simp (maxSteps:=1000000) only [VT,jf,jg,jZ,aA,qE,qF,qG,qH,qI,qK,qN,qO,qR,qS,qT,qY,qe,qh,qp,ev,qw,qy,qz,zD,zI,zJ,TE.sv,zM,↓reduceIte,reduceCtorEq,Nat.reduceEqDiff,Nat.reduceLT,zP,zQ,zR,zT,zV,zW,zh,rwE,hP,hk,res70,kp70,dM0,zL9,zY5,rwB,rwE,UInt8.ofNat_toNat,q2,p4,r1,r2,r3,x0,x1,hgx,g1,hlast,g3,zP6])
       repeat (refine ⟨by first | decide | omega,?_⟩)
       exact d2Fin _ _ _ (hbad hdg.symm)
      ·rw [if_neg hib] at zP6
       obtain ⟨v,hv⟩:=Int.eq_ofNat_of_zero_le (by omega:0≤Lib.indexByte b64L x)
       have hv64:v < 64:=by have:=ib_lt b64L x; rw [hv] at this; exact Int.ofNat_lt.1 this
       rw [hv] at zP6
       have zP6:numD x=((v:Int),true):=zP6
       by_cases hp0:0 < p
       ·have j0:decide ((0:Int) < (p:Int))=true:=decide_eq_true (by omega)
        rw [if_neg (fun h=>hk2 h.2.2),if_pos (Or.inr hp0)] at hdg
        (refine zA0 hctr (rs:=res70) true 300 _ _ _ ?_; simp (maxSteps:=1000000) only [VT,jf,jg,jZ,qE,qF,qG,qH,qI,qK,qN,qO,qR,qS,qT,qY,qe,qh,qp,ev,qw,qy,qz,zD,zI,zJ,TE.sv,zM,↓reduceIte,reduceCtorEq,Nat.reduceEqDiff,Nat.reduceLT,zP,zQ,zR,zT,zV,zW,zh,rwE,hP,hk,res70,kp70,dM0,zL9,zY5,rwB,rwE,UInt8.ofNat_toNat,q2,p4,r1,r2,r3,x0,x1,hgx,g1,hlast,g3,zP6,j0])
        repeat (refine ⟨by first | decide | omega,?_⟩)
        exact d2Fin _ _ _ (hbad hdg.symm)
       ·have j0:decide ((0:Int) < (p:Int))=false:=decide_eq_false (by omega)
        rw [if_neg (fun h=>hk2 h.2.2),if_neg (fun h=>h.elim hib hp0),hv,Int.toNat_natCast] at hdg
        have w1:orZ .u32 (shlZ .u32 (n:Int) 6) (v:Int)=((n * 64+v:Nat):Int):=by
         rw [show (6:Int)=((6:Nat):Int) from rfl,shlN _ _ (by decide),orN (Nat.mod_lt _ (by decide)) (by omega)]
         rw [show n * 2 ^ 6 % 4294967296=n * 64 % 4294967296 by omega,or6 _ _ hv64]; congr 1; omega
        (refine zA0 hctr (rs:=res70) true 300 _ _ _ ?_; simp (maxSteps:=1000000) only [VT,jf,jg,jZ,qH,qI,qK,qN,qO,qR,qS,qT,qY,qe,qh,qp,ev,qw,qy,qz,zD,zI,zJ,TE.sv,zM,↓reduceIte,reduceCtorEq,Nat.reduceEqDiff,Nat.reduceLT,zP,zQ,zR,zT,zV,zW,zh,rwE,hP,hk,res70,kp70,dM0,zL9,zY5,rwB,rwE,UInt8.ofNat_toNat,q2,p4,r1,r2,r3,r4,x0,x1,hgx,g1,hlast,g3,zP6,j0,w1])
        repeat (refine ⟨by first | decide | omega,?_⟩)
        exact hJ2 ⟨(k+1,n * 64+v,p),by simp only; omega,by simp only; rw [Nat.pow_succ]; omega,Or.inl (by simp only; omega),hdg⟩ _ (by show 5 - (k+1) < 5 - k; omega) (zB3 ⟨rfl,rfl,rfl,rfl,rfl,rfl,trivial⟩)
   ·have g1:((x.toNat:Int) == 61)=false:=by
     rw [beq_eq_false_iff_ne]; intro h; exact hx61 (UInt8.toNat_inj.1 (by have:(61:UInt8).toNat=61:=rfl; omega))
    by_cases hib:Lib.indexByte b64L x < 0
    ·rw [if_pos hib] at zP6
     rw [if_neg (fun h=>hx61 h.1),if_pos (Or.inl hib)] at hdg
     (refine zA0 hctr (rs:=res70) true 300 _ _ _ ?_; simp (maxSteps:=1000000) only [VT,jf,jg,aA,qE,qF,qG,qH,qI,qK,qO,qR,qS,qT,qY,qh,qp,ev,qw,qy,qz,zD,zI,zJ,TE.sv,zM,↓reduceIte,reduceCtorEq,Nat.reduceEqDiff,Nat.reduceLT,zP,zQ,zR,zT,zV,zW,zh,rwE,hP,hk,res70,kp70,dM0,zL9,zY5,rwB,rwE,UInt8.ofNat_toNat,q2,r1,r2,r3,x0,x1,hgx,g1,zP6])
     repeat (refine ⟨by first | decide | omega,?_⟩)
     exact d2Fin _ _ _ (hbad hdg.symm)
    ·rw [if_neg hib] at zP6
     obtain ⟨v,hv⟩:=Int.eq_ofNat_of_zero_le (by omega:0≤Lib.indexByte b64L x)
     have hv64:v < 64:=by have:=ib_lt b64L x; rw [hv] at this; exact Int.ofNat_lt.1 this
     rw [hv] at zP6
     have zP6:numD x=((v:Int),true):=zP6
     by_cases hp0:0 < p
     ·have j0:decide ((0:Int) < (p:Int))=true:=decide_eq_true (by omega)
      rw [if_neg (fun h=>hx61 h.1),if_pos (Or.inr hp0)] at hdg
      (refine zA0 hctr (rs:=res70) true 300 _ _ _ ?_; simp (maxSteps:=1000000) only [VT,jf,jg,jZ,aA,qE,qF,qG,qH,qI,qK,qO,qR,qS,qT,qY,qh,qp,ev,qw,qy,qz,zD,zI,zJ,TE.sv,zM,↓reduceIte,reduceCtorEq,Nat.reduceEqDiff,Nat.reduceLT,zP,zQ,zR,zT,zV,zW,zh,rwE,hP,hk,res70,kp70,dM0,zL9,zY5,rwB,rwE,UInt8.ofNat_toNat,q2,r1,r2,r3,x0,x1,hgx,g1,zP6,j0])
      repeat (refine ⟨by first | decide | omega,?_⟩)
      exact d2Fin _ _ _ (hbad hdg.symm)
     ·have j0:decide ((0:Int) < (p:Int))=false:=decide_eq_false (by omega)
      rw [if_neg (fun h=>hx61 h.1),if_neg (fun h=>h.elim hib hp0),hv,Int.toNat_natCast] at hdg
      have w1:orZ .u32 (shlZ .u32 (n:Int) 6) (v:Int)=((n * 64+v:Nat):Int):=by
       rw [show (6:Int)=((6:Nat):Int) from rfl,shlN _ _ (by decide),orN (Nat.mod_lt _ (by decide)) (by omega)]
       rw [show n * 2 ^ 6 % 4294967296=n * 64 % 4294967296 by omega,or6 _ _ hv64]; congr 1; omega
      (refine zA0 hctr (rs:=res70) true 300 _ _ _ ?_; simp (maxSteps:=1000000) only [VT,jf,jg,jZ,aA,qH,qI,qK,qO,qR,qS,qT,qY,qh,qp,ev,qw,qy,qz,zD,zI,zJ,TE.sv,zM,↓reduceIte,reduceCtorEq,Nat.reduceEqDiff,Nat.reduceLT,zP,zQ,zR,zT,zV,zW,zh,rwE,hP,hk,res70,kp70,dM0,zL9,zY5,rwB,rwE,UInt8.ofNat_toNat,q2,r1,r2,r3,r4,x0,x1,hgx,g1,zP6,j0,w1])
      repeat (refine ⟨by first | decide | omega,?_⟩)
      exact hJ2 ⟨(k+1,n * 64+v,p),by simp only; omega,by simp only; rw [Nat.pow_succ]; omega,Or.inl (by simp only; omega),hdg⟩ _ (by show 5 - (k+1) < 5 - k; omega) (zB3 ⟨rfl,rfl,rfl,rfl,rfl,rfl,trivial⟩)
  ·have hk':k=4:=by omega
   subst hk'
   have q2:decide (((4:Nat):Int) < 4)=false:=rfl
   have hdg2:decG la 0 0 0 c4=some (n,p):=by
    rw [← hdg,List.drop_of_length_le (by omega),decG]
   rw [hdg2] at hall
   simp only at hall
   have hn24:n < 16777216:=by simpa using hnk
   have t1:shrZ .u32 (n:Int) 16=((n / 65536:Nat):Int):=by rw [show (16:Int)=((16:Nat):Int) from rfl,shrN _ _ (by decide)]
   have t2:shrZ .u32 (n:Int) 8=((n / 256:Nat):Int):=by rw [show (8:Int)=((8:Nat):Int) from rfl,shrN _ _ (by decide)]
   have t3:∀ m:Nat,IntKind.u8.wrap (m:Int)=(((UInt8.ofNat m).toNat:Nat):Int):=fun m=>by rw [u8w,UInt8.toNat_ofNat']
   obtain ⟨f1,hf1⟩:∃ f,UInt8.ofNat (n / 65536)=f:=⟨_,rfl⟩
   obtain ⟨f2,hf2⟩:∃ f,UInt8.ofNat (n / 256)=f:=⟨_,rfl⟩
   obtain ⟨f3,hf3⟩:∃ f,UInt8.ofNat n=f:=⟨_,rfl⟩
   have u1:=t3 (n / 65536); have u2:=t3 (n / 256); have u3:=t3 n
   rw [hf1] at u1; rw [hf2] at u2; rw [hf3] at u3
   have h3:three n p=[f1,f2,f3].take (3 - p):=by unfold three; rw [hf1,hf2,hf3]
   (refine zA0 hctr (rs:=res70) true 300 _ _ _ ?_; simp (maxSteps:=1000000) only [VT,jg,qH,qI,qK,qO,qR,qS,ev,qy,qz,zH,zI,zJ,↓reduceIte,reduceCtorEq,Nat.reduceEqDiff,Nat.reduceLT,zP,zQ,zR,zW,rwE,hk,res70,kp70,zY5,rwB,rwE,q2])
   refine hX2 rfl rfl ?_
   have hP:=hP1; have hk:=hk1; have hctr:=hctr1
   have nx:∀ (f:List UInt8) (m:Nat),f.length=m→three n p=f→∀ E s',sub [(5,.c (.i .i64 ((i+4:Nat):Int))),(4,.c (.rw 2 (out.length+m))),(0,.c (.s s))] s'→Run D [] 88 s' [E,⟨(5,0,whole),zD5 [f1,f2,f3],true⟩,rwB (out++f)]:=fun f m hm hf E s' hs=>by
    refine zN2 hs ?_
    have h3l:f.length≤3:=by rw [← hf,h3]; simp
    have hJ':=hJ ⟨(i+4,out++f),by simp only; omega,by simp only; omega,by simp; omega,by simp only; rw [← hf]; exact hall⟩ _ (by show s.length - (i+4) < s.length - i; omega) (fun d v h=>h)
    refine zI6 (f:=fun _=>2) (enK:=[rwB (out++f)]) (slK:=slDd s (i+4) (out++f).length) ⟨fun q hq=>absurd hq (by rw [dn,hn0]; exact Nat.not_lt_zero _),by rw [dn,hn0]; exact Nat.zero_le _⟩ (fun p q hp hq _=>?_) ?_ ?_ hJ'
    ·have hp:p < 1:=hp
     have hq:q < 1:=hq
     omega
    ·refine ⟨⟨_,rfl,fun ρ=>?_,zO5 _ _⟩,trivial⟩
     show zB8 _ (zD5 (out++f))=zB8 ρ (zD5 (out++f))
     rw [zH1,zH1]
    ·refine ⟨⟨?_,_,rfl,fun ρ=>rfl⟩,⟨?_,_,rfl,fun ρ=>?_⟩,⟨?_,_,rfl,fun ρ=>rfl⟩,trivial⟩
     all_goals simp [SV.wf,SC.wf,SV.den,SC.den,hm]
   have hp3:p=0∨p=1∨p=2:=by omega
   rcases hp3 with rfl | rfl | rfl
   ·have s1:IntKind.i64.wrap (3 - ((0:Nat):Int))=((3:Nat):Int):=by rw [IntWalk.i64_in _ (by decide)]; rfl
    (refine zA0 hctr (rs:=res70) true 300 _ _ _ ?_; simp (maxSteps:=1000000) only [VT,qA,qB,qC,qD,qH,qI,qK,qN,qO,qR,qS,qU,qZ,qg,ql,q0t,ev,qy,qz,zC,zD,zF,zG,zI,zJ,zM,↓reduceIte,reduceCtorEq,Nat.reduceEqDiff,Nat.reduceAdd,Nat.reduceLT,Nat.reduceLeDiff,zP,zQ,zR,zT,zh,zn,zt,zu,hP,hk,kp70,Nat.reduceLeDiff,Int.reduceToNat,Nat.reduceAdd,Nat.mul_one,t1,t2,u1,u2,u3,s1])
    repeat (refine ⟨by first | decide | omega | exact ⟨by decide,by decide,by decide⟩,?_⟩)
    refine dec3_app (l:=out) (f3:=[f1,f2,f3]) (lit:=[f1,f2,f3]) (m:=3) hP (by rw [dn,hn0]) (by omega) rfl (by decide) rfl (by decide) rfl rfl (by simp) fun E=>?_
    (refine zA0 hctr (rs:=res70) true 300 _ _ _ ?_; simp (maxSteps:=1000000) only [VT,qH,qI,qK,qO,qR,qS,ev,qy,qz,zI,zJ,↓reduceIte,reduceCtorEq,Nat.reduceEqDiff,Nat.reduceLT,zP,zQ,zR,rwE,jN,hk,kp70,rwB,rwE,p4])
    exact nx [f1,f2,f3] 3 rfl (by rw [h3]; rfl) E _ (zB3 ⟨rfl,rfl,rfl,trivial⟩)
   ·have s1:IntKind.i64.wrap (3 - ((1:Nat):Int))=((2:Nat):Int):=by rw [IntWalk.i64_in _ (by decide)]; rfl
    (refine zA0 hctr (rs:=res70) true 300 _ _ _ ?_; simp (maxSteps:=1000000) only [VT,qA,qB,qC,qD,qH,qI,qK,qN,qO,qR,qS,qU,qZ,qg,ql,q0t,ev,qy,qz,zC,zD,zF,zG,zI,zJ,zM,↓reduceIte,reduceCtorEq,Nat.reduceEqDiff,Nat.reduceAdd,Nat.reduceLT,Nat.reduceLeDiff,zP,zQ,zR,zT,zh,zn,zt,zu,hP,hk,kp70,Nat.reduceLeDiff,Int.reduceToNat,Nat.reduceAdd,Nat.mul_one,t1,t2,u1,u2,u3,s1])
    repeat (refine ⟨by first | decide | omega | exact ⟨by decide,by decide,by decide⟩,?_⟩)
    refine dec3_app (l:=out) (f3:=[f1,f2]) (lit:=[f1,f2,f3]) (m:=2) hP (by rw [dn,hn0]) (by omega) rfl (by decide) rfl (by decide) rfl rfl (by simp) fun E=>?_
    (refine zA0 hctr (rs:=res70) true 300 _ _ _ ?_; simp (maxSteps:=1000000) only [VT,qH,qI,qK,qO,qR,qS,ev,qy,qz,zI,zJ,↓reduceIte,reduceCtorEq,Nat.reduceEqDiff,Nat.reduceLT,zP,zQ,zR,rwE,jN,hk,kp70,rwB,rwE,p4])
    exact nx [f1,f2] 2 rfl (by rw [h3]; rfl) E _ (zB3 ⟨rfl,rfl,rfl,trivial⟩)
   ·have s1:IntKind.i64.wrap (3 - ((2:Nat):Int))=((1:Nat):Int):=by rw [IntWalk.i64_in _ (by decide)]; rfl
    (refine zA0 hctr (rs:=res70) true 300 _ _ _ ?_; simp (maxSteps:=1000000) only [VT,qA,qB,qC,qD,qH,qI,qK,qN,qO,qR,qS,qU,qZ,qg,ql,q0t,ev,qy,qz,zC,zD,zF,zG,zI,zJ,zM,↓reduceIte,reduceCtorEq,Nat.reduceEqDiff,Nat.reduceAdd,Nat.reduceLT,Nat.reduceLeDiff,zP,zQ,zR,zT,zh,zn,zt,zu,hP,hk,kp70,Nat.reduceLeDiff,Int.reduceToNat,Nat.reduceAdd,Nat.mul_one,t1,t2,u1,u2,u3,s1])
    repeat (refine ⟨by first | decide | omega | exact ⟨by decide,by decide,by decide⟩,?_⟩)
    refine dec3_app (l:=out) (f3:=[f1]) (lit:=[f1,f2,f3]) (m:=1) hP (by rw [dn,hn0]) (by omega) rfl (by decide) rfl (by decide) rfl rfl (by simp) fun E=>?_
    (refine zA0 hctr (rs:=res70) true 300 _ _ _ ?_; simp (maxSteps:=1000000) only [VT,qH,qI,qK,qO,qR,qS,ev,qy,qz,zI,zJ,↓reduceIte,reduceCtorEq,Nat.reduceEqDiff,Nat.reduceLT,zP,zQ,zR,rwE,jN,hk,kp70,rwB,rwE,p4])
    exact nx [f1] 1 rfl (by rw [h3]; rfl) E _ (zB3 ⟨rfl,rfl,rfl,trivial⟩)
 ·have q1:decide ((i:Int) < (s.length:Int))=false:=decide_eq_false (by omega)
  (refine zA0 hctr (rs:=res70) true 300 _ _ _ ?_; simp (maxSteps:=1000000) only [VT,jg,qH,qI,qK,qN,qO,qR,qS,qe,ev,qy,zH,zI,zJ,zM,↓reduceIte,reduceCtorEq,Nat.reduceEqDiff,Nat.reduceLT,zP,zQ,zR,zW,rwE,hP,hk,res70,kp70,slDd,rwB,rwE,q1])
  refine hX rfl rfl ?_
  have hP:=hP0; have hk:=hk0; have hctr:=hctr0
  rw [List.drop_of_length_le (by omega)] at hall
  have hall:some out=decR s []:=hall
  have hrd:zQ8 s=if zV7 out=s then some out else none:=by
   unfold zQ8; rw [if_neg (by omega),← hall]
  (refine zA0 hctr (rs:=res70) true 300 _ _ _ ?_; simp (maxSteps:=1000000) only [VT,qH,qI,qK,qO,qU,ev,qy,zM,↓reduceIte,Nat.reduceEqDiff,Nat.reduceLT,zR,hP])
  refine bytes_rw (l:=out) (by rw [hP]; exact Tryz.underlying116) (by rw [hP]; exact Tryz.underlying9) (by rw [hP]; exact Tryz.underlying5) rfl rfl rfl (by simp) ?_
  by_cases he:zV7 out=s
  ·have g1:(zV7 out == s)=true:=by rw [he]; simp
   (refine zA0 hctr (rs:=res70) true 300 _ _ _ ?_; simp (maxSteps:=1000000) only [VT,jg,qH,qI,qK,qO,qR,qS,qU,ev,qw,qy,zI,zJ,zM,↓reduceIte,reduceCtorEq,Nat.reduceEqDiff,Nat.reduceLT,zP,zQ,zR,zV,zW,jN,hP,hk,res70,kp70,dM0,rowEncR,g1])
   refine ⟨by omega,?_⟩
   refine bytes_rw (l:=out) (by rw [hP]; exact Tryz.underlying116) (by rw [hP]; exact Tryz.underlying9) (by rw [hP]; exact Tryz.underlying5) rfl rfl rfl (by simp) ?_
   (refine zA0 hctr (rs:=res70) true 300 _ _ _ ?_; simp (maxSteps:=1000000) only [VT,qE,qF,qG,qH,qI,qK,qO,ev,qy,qz,zI,zJ,↓reduceIte,reduceCtorEq,Nat.reduceEqDiff,Nat.reduceLT,zP,zQ,zR,jN,hk,res70,kp70])
   exact fin _ _ _ (by unfold refV; rw [hrd,if_pos he])
  ·have g1:(zV7 out == s)=false:=by rw [beq_eq_false_iff_ne]; exact he
   (refine zA0 hctr (rs:=res70) true 300 _ _ _ ?_; simp (maxSteps:=1000000) only [VT,jf,qE,qF,qG,qH,qI,qK,qO,qR,qS,ev,qw,qy,qz,zI,zJ,↓reduceIte,reduceCtorEq,Nat.reduceEqDiff,Nat.reduceLT,zP,zQ,zR,zV,zW,jN,hk,res70,kp70,dM0,rowEncR,g1])
   exact ⟨by omega,fin _ _ _ (by unfold refV; rw [hrd,if_neg he])⟩
end Go.Proofs.YtcbmlanpianclaaGreatDoor
/- What the document says of the lines of the meta protocol (ambryref21.read) is readM. No program in sight but the definitions of the walks. -/
namespace Go.Proofs.YtcbmlanpianclaaGreatDoor
set_option linter.unusedSimpArgs false
set_option linter.unusedVariables false
open Go.RowKit
set_option maxRecDepth 100000
theorem ibM (x:UInt8):(decide (3≤Lib.indexByte [73,105,43,68,100,45] x)=[68,100,45].contains x)∧(decide (0≤Lib.indexByte [73,105,43,68,100,45] x)=[73,105,43,68,100,45].contains x):=by
 have tab:∀ n:_root_.Fin 256,(decide (3≤Lib.indexByte [73,105,43,68,100,45] (UInt8.ofNat n.1))=[68,100,45].contains (UInt8.ofNat n.1))∧(decide (0≤Lib.indexByte [73,105,43,68,100,45] (UInt8.ofNat n.1))=[73,105,43,68,100,45].contains (UInt8.ofNat n.1)):=by decide +kernel
 have h:=tab ⟨x.toNat,x.toNat_lt⟩
 rwa [UInt8.ofNat_toNat] at h
def modeN (x:UInt8):Option Int:=
 if x=83∨x=115 then some 0 else if x=69∨x=101 then some 1 else if x=65∨x=97 then some 3 else if x=80∨x=112 then some 4 else if x=82∨x=114 then some 2 else none
theorem ibN (x:UInt8):(decide (0≤Lib.indexByte [83,115,69,101,82,114,65,97,80,112] x)=(modeN x).isSome)∧(∀ n,modeN x=some n→(if 0 < (Lib.indexByte [83,115,69,101,82,114,65,97,80,112] x).tdiv 2 then (Lib.indexByte [83,115,69,101,82,114,65,97,80,112] x).tdiv 2 else 0)=n):=by
 have tab:∀ n:_root_.Fin 256,(decide (0≤Lib.indexByte [83,115,69,101,82,114,65,97,80,112] (UInt8.ofNat n.1))=(modeN (UInt8.ofNat n.1)).isSome)∧((modeN (UInt8.ofNat n.1)).isSome=true→modeN (UInt8.ofNat n.1)=some (if 0 < (Lib.indexByte [83,115,69,101,82,114,65,97,80,112] (UInt8.ofNat n.1)).tdiv 2 then (Lib.indexByte [83,115,69,101,82,114,65,97,80,112] (UInt8.ofNat n.1)).tdiv 2 else 0)):=by decide +kernel
 have h:=tab ⟨x.toNat,x.toNat_lt⟩
 rw [UInt8.ofNat_toNat] at h
 refine ⟨h.1,fun n hn=>?_⟩
 have:=h.2 (by rw [hn]; rfl)
 rw [hn] at this
 exact (Option.some.inj this).symm
theorem mode_is (c:Cd) (s:List UInt8):(zM1 c s).2=(zV3 c s).2∧((zV3 c s).2=true→(zM1 c s).1=(zV3 c s).1):=by
 match s with
 | []=>exact ⟨rfl,fun h=>by cases h⟩
 | _ :: _ :: _=>exact ⟨rfl,fun h=>by cases h⟩
 | [x] =>
  by_cases h3:c.op=3
  ·obtain ⟨h1,h2⟩:=ibM x
   simp only [zM1,zV3,h3,if_true,h1,h2]
   exact ⟨trivial,fun _=>trivial⟩
  ·obtain ⟨h1,h2⟩:=ibN x
   have e:zM1 c [x]=(match modeN x with | some n=>({ c with mode:=n },true) | none=>(c,false)):=by
    simp only [zM1,modeN,if_neg h3]
    repeat' split
    all_goals first | rfl | simp_all
   rw [e]
   simp only [zV3,if_neg h3,h1]
   cases hm:modeN x with
   | none=>exact ⟨rfl,fun h=>by cases h⟩
   | some n=>exact ⟨rfl,fun _=>by simp only [h2 n hm]⟩
theorem sec_is (s:List UInt8):(zD2 s).2=(zI2 s).2∧((zI2 s).2=true→(zD2 s).1=(zI2 s).1):=by
 unfold zD2
 by_cases h:(zI2 s).2=true
 ·rw [if_pos h]; exact ⟨rfl,fun _=>rfl⟩
 ·rw [if_neg h]; exact ⟨by simpa using h,fun h'=>absurd h' h⟩
theorem arg_is (c:Cd) (x:UInt8) (s:List UInt8):(zY1 c x s).2=(zS3 c x s).2∧((zS3 c x s).2=true→(zY1 c x s).1=(zS3 c x s).1):=by
 obtain ⟨s1,s2⟩:=sec_is s
 by_cases h0:x=73
 ·subst h0
  simp [zY1,zS3]
  cases s <;> simp
 unfold zY1 zS3
 rw [if_neg h0]
 by_cases h1:x=67
 ·simp only [if_pos h1]; exact ⟨trivial,fun _=>trivial⟩
 by_cases h2:x=68
 ·simp only [if_neg h1,if_pos h2]; exact ⟨trivial,fun _=>trivial⟩
 by_cases h3:x=74
 ·simp only [if_neg h1,if_neg h2,if_pos h3]; exact ⟨trivial,fun _=>trivial⟩
 by_cases h4:x=70
 ·simp only [if_neg h1,if_neg h2,if_neg h3,if_pos h4]; exact ⟨trivial,fun _=>trivial⟩
 by_cases h5:x=77
 ·simp only [if_neg h1,if_neg h2,if_neg h3,if_neg h4,if_pos h5]; exact mode_is c s
 by_cases h6:x=78
 ·simp only [if_neg h1,if_neg h2,if_neg h3,if_neg h4,if_neg h5,if_pos h6]; exact ⟨s1,fun h=>by rw [s2 h]⟩
 by_cases h7:x=79
 ·have h82:¬ x=82:=by rw [h7]; decide
  have h84:¬ x=84:=by rw [h7]; decide
  simp only [if_neg h1,if_neg h2,if_neg h3,if_neg h4,if_neg h5,if_neg h6,if_pos h7,if_neg h82,if_neg h84]
  refine ⟨?_,fun _=>trivial⟩
  cases s with
  | nil=>rfl
  | cons a t =>
   have e1:decide ((1:Int)≤((a :: t).length:Int))=true:=decide_eq_true (by simp only [List.length_cons]; omega)
   have e2:decide (((a :: t).length:Int)≤32)=decide ((a :: t).length≤32):=by rw [decide_eq_decide]; omega
   rw [e1,e2]; simp
 by_cases h8:x=82
 ·simp only [if_neg h1,if_neg h2,if_neg h3,if_neg h4,if_neg h5,if_neg h6,if_neg h7,if_pos h8]; exact ⟨s1,fun h=>by rw [s2 h]⟩
 by_cases h9:x=84
 ·simp only [if_neg h1,if_neg h2,if_neg h3,if_neg h4,if_neg h5,if_neg h6,if_neg h7,if_neg h8,if_pos h9]
  refine ⟨s1,fun h=>?_⟩
  rw [s2 h]
  by_cases ho:c.op=2 <;> simp [ho]
 simp only [if_neg h1,if_neg h2,if_neg h3,if_neg h4,if_neg h5,if_neg h6,if_neg h7,if_neg h8,if_neg h9]
 refine ⟨?_,fun _=>?_⟩
 ·cases s <;> simp
 ·simp [h0]
theorem all_is (al:List UInt8):∀ (l:List (List UInt8)) (c:Cd) (seen:List UInt8),(∀ x∈l,x ≠ []) →
  (allD al l c seen).2=(zV8 al l c seen).2.1∧((zV8 al l c seen).2.1=[]→(allD al l c seen).1=(zV8 al l c seen).1∧(zV8 al l c seen).2.2=seen++l.map hd0)
 | [],c,seen,_=>⟨rfl,fun _=>⟨rfl,by simp [zV8]⟩⟩
 | [] :: l,c,seen,h=>absurd rfl (h [] (by simp))
 | (x :: s) :: l,c,seen,h=>by
  rw [allD,zV8]
  by_cases h1:al.contains x=false
  ·rw [if_pos h1,if_pos h1]; exact ⟨rfl,fun h=>by cases h⟩
  rw [if_neg h1,if_neg h1]
  by_cases h2:seen.contains x=true
  ·rw [if_pos h2,if_pos h2]; exact ⟨rfl,fun h=>by cases h⟩
  rw [if_neg h2,if_neg h2]
  obtain ⟨a1,a2⟩:=arg_is c x s
  by_cases h3:(zS3 c x s).2=true
  ·rw [a1,if_pos h3,if_pos h3,a2 h3]
   have ih:=all_is al l (zS3 c x s).1 (seen++[x]) (fun y hy=>h y (by simp [hy]))
   refine ⟨ih.1,fun hz=>⟨(ih.2 hz).1,?_⟩⟩
   rw [(ih.2 hz).2]; simp [hd0]
  ·rw [a1,if_neg h3,if_neg h3]; exact ⟨rfl,fun h=>by cases h⟩
def cmdD (name:List UInt8):Cd:={ Cd.zero with op:=opD name,delta:=if opD name=3 then 1 else 0,recache:=-1 }
theorem cmd_is {name:List UInt8} (h:(zF0 name).2 ≠ []):cmdD name=(zF0 name).1:=by
 unfold cmdD opD zF0
 unfold zF0 at h
 by_cases h0:name=m_me
 ·subst h0; rfl
 by_cases h1:name=m_mg
 ·subst h1; rfl
 by_cases h2:name=m_ms
 ·subst h2; rfl
 by_cases h3:name=m_md
 ·subst h3; rfl
 by_cases h4:name=m_ma
 ·subst h4; rfl
 rw [if_neg h0,if_neg h1,if_neg h2,if_neg h3,if_neg h4] at h
 exact absurd rfl h
def anyF (l:List (List UInt8)) (c:UInt8):Bool:=l.any fun f=>f.head? == some c
def keyD (word:List UInt8) (l:List (List UInt8)):List UInt8 × Bool:=if anyF l 98 then refV word else (word,true)
def badD (name word:List UInt8) (l:List (List UInt8)) (n:Nat):List UInt8:=
 let b0:=(allD (zF0 name).2 l (cmdD name) []).2
 let b1:=if b0=[] then (if (keyD word l).2=false∨zG3 (keyD word l).1=false then zA2 else []) else b0
 if b1=[]∧65536 < n then zM3 else b1
def restD (name word:List UInt8) (l:List (List UInt8)) (store:Bool) (n:Nat) (behind:List UInt8):Mq × Int × Bool:=
 let skip:=if store then n+2 else 0
 if badD name word l n ≠ [] then (zD8 (badD name word l n) skip,0,false)
 else if behind.length < skip then (Mq.zero,0,true)
 else if store=true∧(behind.take skip).drop n ≠ [13,10] then (zD8 zO6 0,skip,false)
 else (⟨1,[{ (allD (zF0 name).2 l (cmdD name) []).1 with key:=(keyD word l).1,val:=behind.take n }],anyF l 113,[],0,false,name,l,word⟩,skip,false)
theorem zX5 {l:List (List UInt8)} (h:∀ x∈l,x ≠ []) (c:UInt8):(l.map hd0).contains c=anyF l c:=by
 induction l with
 | nil=>rfl
 | cons x l ih =>
  have hx:=h x (by simp)
  have ih:=ih fun y hy=>h y (by simp [hy])
  cases x with
  | nil=>exact absurd rfl hx
  | cons a t =>
   simp only [List.map_cons,List.contains_cons,anyF,List.any_cons] at ih ⊢
   rw [ih]
   congr 1
   by_cases hac:a=c
   ·subst hac; simp [hd0]
   ·have h1:(c == a)=false:=by simpa using fun e=>hac (Eq.symm e)
    have h2:((some a:Option UInt8) == some c)=false:=by simpa using hac
    simp [hd0,h1,hac]
theorem rest_is {name word:List UInt8} {l:List (List UInt8)} (hk:(zF0 name).2 ≠ []) (hl:∀ x∈l,x ≠ []) (store:Bool) (n:Nat) (hn:store=false→n=0) (behind:List UInt8) :
  restD name word l store n behind=zO8 name word l (if store then n+2 else 0) behind:=by
 obtain ⟨a1,a2⟩:=all_is (zF0 name).2 l (zF0 name).1 [] hl
 have hfl:zR2 name l=zV8 (zF0 name).2 l (zF0 name).1 []:=rfl
 rw [← hfl] at a1 a2
 have hb:badD name word l n=zU4 name word l (if store then n+2 else 0):=by
  unfold badD zU4
  rw [cmd_is hk,a1]
  by_cases h0:(zR2 name l).2.1=[]
  ·obtain ⟨_,a4⟩:=a2 h0
   have hkey:((keyD word l).2=false∨zG3 (keyD word l).1=false) ↔ okM (keyM name word l)=false:=by
    unfold keyD keyM
    rw [a4,List.nil_append,zX5 hl]
    cases anyF l 98 with
    | false=>simp [okM]
    | true =>
     simp only [if_true,refV,refDec_is]
     cases zU3 word with
     | none=>simp [okM]
     | some k=>simp [okM]
   simp only [h0,if_true,ne_eq,not_true_eq_false,if_false]
   by_cases h1:okM (keyM name word l)=false
   ·rw [if_pos (hkey.2 h1),if_pos h1,if_neg (fun h=>by have:=h.1; exact absurd this (by decide))]
   ·rw [if_neg (fun h=>h1 (hkey.1 h)),if_neg h1]
    cases store with
    | false=>have:=hn rfl; subst this; simp
    | true =>
     simp only [if_true,true_and]
     by_cases h2:65536 < n
     ·rw [if_pos h2,if_pos (by omega)]
     ·rw [if_neg h2,if_neg (by omega)]
  ·simp only [h0,if_false,ne_eq,not_false_eq_true,if_true,false_and]
 unfold restD zO8
 simp only [hb]
 by_cases h1:zU4 name word l (if store then n+2 else 0) ≠ []
 ·rw [if_pos h1,if_pos h1]
 rw [if_neg h1,if_neg h1]
 have h0:(zR2 name l).2.1=[]:=by
  have:=Classical.not_not.1 h1
  unfold zU4 at this
  by_cases h:(zR2 name l).2.1 ≠ []
  ·rw [if_pos h] at this; exact this
  ·exact Classical.not_not.1 h
 have hok:okM (keyM name word l)=true:=by
  have:=Classical.not_not.1 h1
  unfold zU4 at this
  rw [if_neg (fun h=>h h0)] at this
  by_cases h:okM (keyM name word l)=false
  ·rw [if_pos h] at this; exact absurd this (by decide)
  ·simpa using h
 obtain ⟨a3,a4⟩:=a2 h0
 have hkey:(keyD word l).1=(keyM name word l).getD []:=by
  unfold keyD keyM
  rw [a4,List.nil_append,zX5 hl]
  unfold keyM at hok
  rw [a4,List.nil_append,zX5 hl] at hok
  cases hany:anyF l 98 with
  | false=>simp
  | true =>
   rw [hany] at hok
   simp only [if_true,refV,refDec_is] at hok ⊢
   cases hd:zU3 word with
   | none=>rw [hd] at hok; cases hok
   | some k=>rfl
 have hq:(zR2 name l).2.2.contains 113=anyF l 113:=by rw [a4,List.nil_append,zX5 hl]
 cases store with
 | false =>
  have:=hn rfl; subst this
  simp only [Bool.false_eq_true,if_false,Nat.not_lt_zero,false_and,List.take_zero,doneM,cmd_is hk,a3,hkey,hq]
  try rfl
 | true =>
  simp only [if_true,true_and,Nat.add_sub_cancel,doneM,cmd_is hk,a3,hkey,hq]
  by_cases h2:behind.length < n+2
  ·rw [if_pos h2,if_pos h2]; try rfl
  ·rw [if_neg h2,if_neg h2]
   simp
end Go.Proofs.YtcbmlanpianclaaGreatDoor
/- The document's flag at any letter, walked; Split's words are wordsF. -/
namespace Go.Proofs.YtcbmlanpianclaaGreatDoor
set_option linter.unusedSimpArgs false
set_option linter.unusedVariables false
set_option maxHeartbeats 8000000
open Go.RowKit
set_option maxRecDepth 100000
section
variable {r:Mq} {w:World} {ca fa:Option Addr} {cn cc fn fc:Nat}
theorem mqr_wf {pr:Nat→Prop}:wfs pr (mqS (.v (.slice ca cn cc)) (.v (.slice fa fn fc)) r):=by
 intro z hz
 simp only [mqS,List.mem_cons,List.not_mem_nil,or_false] at hz
 rcases hz with rfl | rfl | rfl | rfl | rfl | rfl | rfl | rfl | rfl | rfl | rfl <;> trivial
theorem dN_ok {C:Cx}:zC1 C (fun _ _ _=>none):=by intro f en xs p v h; cases h
def slDg (k:Nat) (j:Nat):List (Nat × SV):=[(5,.c (.i .i64 (j:Int))),(2,.c (.p 0 0)),(1,.c (.i .u8 (k:Int)))]
def rqDA (ca:Option Addr) (cn cc:Nat) (fa:Option Addr) (fn fc:Nat) (r:Mq):EN:=⟨(35,0,whole),mqS (.v (.slice ca cn cc)) (.v (.slice fa fn fc)) r,true⟩
theorem dflagc_w (f:UInt8) (nf:r.flags.length≤5000) (hn:fn=r.flags.length) (hraw:RawT w fa r.flags):Calls Tryz.prog 69 #[(SV.g (mqS (.v (.slice ca cn cc)) (.v (.slice fa fn fc)) r)).den (fun _=>zG7 0),.int .u8 (f.toNat:Int)] w fun e w'=>e=.returned (.bool (anyF r.flags f))∧Below w.heap.size w w':=by
 refine zA1 Tryz.func69 rfl kp69 (S:=Non) (ρ:=fun _=>zG7 0) (en:=[]) [.g (mqS (.v (.slice ca cn cc)) (.v (.slice fa fn fc)) r),.c (.i .u8 (f.toNat:Int))] Tryz.ntmps69 (At.nil _ _ _) (by simp only [List.mem_cons,List.not_mem_nil,or_false,forall_eq_or_imp,forall_eq]; exact ⟨mqr_wf,trivial⟩) (by simp) ?_
 intro C hC hP hk
 have hctr:zC1 C (fun _ _ _=>none):=dN_ok
 have fin:∀ b en,b=anyF r.flags f→Fin C res69 (.c (.b b)) en:=fun b en hb=>by subst hb; exact zH3 (v:=.c (.b (anyF r.flags f))) hC hres69 rfl trivial
 (refine zA0 hctr (rs:=res69) true 300 _ _ _ ?_; simp (maxSteps:=1000000) only [VT,qH,qI,qK,qO,q0t,qu,qv,ev,qy,qz,zF,zG,zI,zJ,zK,↓reduceIte,reduceCtorEq,Value.oneCell',Nat.reduceEqDiff,Nat.reduceLT,zP,zR,zt,hk,kp69,mqS])
 refine zD6 (ι:={ j:Nat // j≤fn∧anyF r.flags f=(r.flags.drop j).any fun z=>z.head? == some f }) (fun j=>slDg f.toNat j.1) (fun _=>[rqDA ca cn cc fa fn fc r]) (fun j=>fn - j.1) ⟨0,Nat.zero_le _,rfl⟩ (zB3 ⟨rfl,rfl,rfl,trivial⟩) rfl ?_
 rintro ⟨j,hj,hall⟩ D dP dS dw dn dr dk ddf dPan dRet hX hJ
 have hP0:=hP; have hk0:=hk; have hctr0:=hctr
 have hP:D.P=Tryz.prog:=by rw [dP]; exact hP0
 have hk:D.kp=kp69:=by rw [dk]; exact hk0
 have hctr:zC1 D (fun _ _ _=>none):=dN_ok
 show Run D _ _ (slDg f.toNat j) [rqDA ca cn cc fa fn fc r]
 by_cases hjn:j < fn
 ·obtain ⟨x,hx⟩:∃ x,r.flags[j]?=some x:=⟨_,List.getElem?_eq_getElem (by omega)⟩
  obtain ⟨b0,o,ha,hr⟩:=hraw.rd (D:=D) (by rw [dS,hC]; rfl) (by rw [dw,hC]; rfl) hx
  subst ha
  have q1:decide ((j:Int) < (fn:Int))=true:=decide_eq_true (by omega)
  have p0:(0:Int)≤(j:Int):=by omega
  have p1:(j:Int) < (fn:Int):=by omega
  have p3:IntKind.i64.wrap ((j:Int)+1)=((j+1:Nat):Int):=by rw [IntWalk.i64_in _ (by omega)]; rfl
  have hdr:r.flags.drop j=x :: r.flags.drop (j+1):=by
   rw [List.drop_eq_getElem_cons (by omega)]; congr 1
   exact (List.getElem?_eq_some_iff.1 hx).2
  rw [hdr,List.any_cons] at hall
  have dFin:∀ b en,b=anyF r.flags f→Fin D res69 (.c (.b b)) en:=fun b en hb ρ a w' hw hn hwf hd hr=>dRet _ _ (fin b en hb ρ a w' (hw.toC dS.symm dw.symm dr.symm dn.symm) (by rw [← dn]; exact hn) hwf (hd.trans ddf) (fun fn h=>by rw [← dP]; exact hr fn h))
  cases x with
  | nil =>
   have c0:(([]:List UInt8) == [])=true:=rfl
   (refine zA0 hctr (rs:=res69) true 300 _ _ _ ?_; simp (maxSteps:=1000000) only [VT,jf,jg,aA,qH,qI,qK,qN,qO,qP,qR,qS,qV,qX,qe,qp,ev,qy,qz,zD,zI,zJ,zM,↓reduceIte,reduceCtorEq,Nat.reduceEqDiff,Nat.reduceLT,zP,zQ,zR,zT,zV,zW,zh,zo,zt,hP,hk,res69,kp69,mqS,Nat.mul_one,slDg,rqDA,p0,p1,p3,hr,c0])
   exact hJ ⟨j+1,by omega,by simpa using hall⟩ _ (by show fn - (j+1) < fn - j; omega) (zB3 ⟨rfl,rfl,rfl,trivial⟩)
  | cons c s =>
   have c0:((c :: s:List UInt8) == [])=false:=rfl
   have g0:(0:Int)≤0:=by decide
   have g1:(0:Int) < ((s.length+1:Nat):Int):=by omega
   have g2:List.length (c :: s:List UInt8)=s.length+1:=rfl
   have hgd:(c :: s:List UInt8).getD (0:Int).toNat 0=c:=rfl
   by_cases hc:c=f
   ·have e0:((c.toNat:Int) == (f.toNat:Int))=true:=by rw [hc]; simp
    (refine zA0 hctr (rs:=res69) true 300 _ _ _ ?_; simp (maxSteps:=1000000) only [VT,jf,jZ,qE,qF,qG,qH,qI,qK,qN,qO,qP,qR,qS,qV,qX,qY,qe,qp,ev,qy,qz,zD,zI,zJ,TE.sv,zM,↓reduceIte,reduceCtorEq,Nat.reduceEqDiff,Nat.reduceLT,zP,zQ,zR,zT,zV,zW,zh,zo,zt,hP,hk,res69,kp69,mqS,Nat.mul_one,slDg,rqDA,p0,p1,hr,c0,g0,g1,g2,hgd,e0])
    exact dFin true _ (by rw [hall,hc]; simp)
   ·have e0:((c.toNat:Int) == (f.toNat:Int))=false:=by
     rw [beq_eq_false_iff_ne]; intro h; exact hc (UInt8.toNat_inj.1 (by omega))
    (refine zA0 hctr (rs:=res69) true 300 _ _ _ ?_; simp (maxSteps:=1000000) only [VT,jf,jg,jZ,qH,qI,qK,qN,qO,qP,qR,qS,qV,qX,qY,qe,qp,ev,qy,qz,zD,zI,zJ,zM,↓reduceIte,reduceCtorEq,Nat.reduceEqDiff,Nat.reduceLT,zP,zQ,zR,zT,zV,zW,zh,zo,zt,hP,hk,res69,kp69,mqS,Nat.mul_one,slDg,rqDA,p0,p1,p3,hr,c0,g0,g1,g2,hgd,e0])
    refine hJ ⟨j+1,by omega,?_⟩ _ (by show fn - (j+1) < fn - j; omega) (zB3 ⟨rfl,rfl,rfl,trivial⟩)
    have:((c :: s:List UInt8).head? == some f)=false:=by simp [hc]
    rw [this,Bool.false_or] at hall; exact hall
 ·have q1:decide ((j:Int) < (fn:Int))=false:=decide_eq_false (by omega)
  (refine zA0 hctr (rs:=res69) true 300 _ _ _ ?_; simp (maxSteps:=1000000) only [VT,jg,qH,qI,qK,qN,qO,qP,qR,qS,qV,qe,ev,qy,zD,zH,zI,zJ,zM,↓reduceIte,reduceCtorEq,Nat.reduceEqDiff,Nat.reduceLT,zP,zQ,zR,zW,zt,hP,hk,res69,kp69,mqS,slDg,rqDA,q1])
  refine hX rfl rfl ?_
  have hP:=hP0; have hk:=hk0; have hctr:=hctr0
  (refine zA0 hctr (rs:=res69) true 300 _ _ _ ?_; simp (maxSteps:=1000000) only [VT,qE,qF,qG,qH,qI,qK,qO,ev,qy,qz,zI,zJ,TE.sv,↓reduceIte,reduceCtorEq,Nat.reduceEqDiff,Nat.reduceLT,zP,zR,hk,res69,kp69])
  rw [List.drop_of_length_le (by omega)] at hall
  exact fin false _ (by rw [hall]; rfl)
end
theorem spl_word:∀ (l cur:List UInt8) (out:List (List UInt8)),cur ≠ []→zL2 l cur out=zL2 ((l.dropWhile (· != 32)).drop 1) [] (out++[cur++l.takeWhile (· != 32)])
 | [],cur,out,h=>by simp [zL2,h]
 | c :: l,cur,out,h=>by
  by_cases hc:c=32
  ·subst hc
   rw [zL2,if_pos rfl,if_neg h]
   simp
  ·have h1:(c != 32)=true:=by simpa using hc
   rw [zL2,if_neg hc,spl_word l (cur++[c]) out (by simp),List.dropWhile_cons,if_pos h1,List.takeWhile_cons,if_pos h1]
   simp
theorem spl_sp:∀ (l:List UInt8) (out:List (List UInt8)),zL2 l [] out=zL2 (l.dropWhile (· == 32)) [] out
 | [],out=>rfl
 | c :: l,out=>by
  by_cases hc:c=32
  ·subst hc
   rw [zL2,if_pos rfl,if_pos rfl,List.dropWhile_cons,if_pos (by decide)]
   exact spl_sp l out
  ·have h1:(c == 32)=false:=by simpa using hc
   rw [List.dropWhile_cons,h1]; rfl
theorem spl_is:∀ (k:Nat) (l:List UInt8) (out:List (List UInt8)),l.length < k→zL2 l [] out=out++wordsF k l
 | 0,l,out,h=>absurd h (by omega)
 | k+1,l,out,h=>by
  rw [spl_sp,wordsF]
  have hlen:=(List.dropWhile_sublist (p:=(· == (32:UInt8))) (l:=l)).length_le
  by_cases h0:l.dropWhile (· == 32)=[]
  ·rw [if_pos h0,h0]; simp [zL2]
  ·rw [if_neg h0]
   obtain ⟨c,t,hct⟩:∃ c t,l.dropWhile (· == 32)=c :: t:=by
    cases hl:l.dropWhile (· == 32) with
    | nil=>exact absurd hl h0
    | cons c t=>exact ⟨c,t,rfl⟩
   have hc:=zZ4 _ _ _ _ hct
   have hc32:c ≠ 32:=by simpa using hc
   have h1:(c != 32)=true:=by simpa using hc32
   rw [hct] at hlen ⊢
   rw [zL2,if_neg hc32,List.nil_append,spl_word t [c] out (by simp),List.dropWhile_cons,if_pos h1,List.takeWhile_cons,if_pos h1]
   have hl2:=(List.dropWhile_sublist (p:=(· != (32:UInt8))) (l:=t)).length_le
   rw [spl_is k _ _ (by simp only [List.length_drop,List.length_cons] at hlen ⊢; omega)]
   simp
end Go.Proofs.YtcbmlanpianclaaGreatDoor
/- A slice literal without elements, as a row that may grow. No program in sight. -/
namespace Go.Proofs.YtcbmlanpianclaaGreatDoor
set_option linter.unusedSimpArgs false
set_option linter.unusedVariables false
open Go.RowKit
section
variable {C:Cx} {nt:Nat} {sl:List (Nat × SV)} {en:List EN} {k:List KI}
variable {dst:Option Nat} {ty:TypeId} {pos:String} {af:Array Edge} {all r:List Oper} {gd:Option (Nat × Bool)}
theorem build0_op {t e:TypeId} {z:Nat} {i:TypeInfo} (ht:C.P.underlying t=some (.slice e)) (hi:C.P.info? e=some i) (he:e ≠ zC9) (hn0:C.n0≤en.length)
  (hg:gdT all sl gd=true) (hd:∀ d,dst=some d→d < nt)
  (hK:Run C (.ops all r :: k) nt (jN dst (.c (.rw (zG en) 0)) sl) (zF en (rwE e z 0 []))) :
  Run C (.ops all (⟨dst,.buildSlice t 0 #[],ty,pos,af,gd⟩ :: r) :: k) nt sl en:=by
 have hle:(zF en (rwE e z 0 [])).length=en.length+1:=by rw [zF2]; simp
 refine Run_hop _ _ hg (by rw [hle]; omega) ?_ hd hK
 intro ρ a w hrep
 have hw:=hrep.hw
 have hnr:∀ cs:Array Value,(newRow e cs).run C.P w=.ok ⟨w.heap.size,0,none⟩ (w.alloc (.cells cs e)):=fun _=>rfl
 have h00:∀ q:Nat→Value,Array.map q (Array.range 0)=#[]:=fun q=>by apply Array.toList_inj.1; simp
 have hsz:(sizeOf e).run C.P w=.ok i.size w:=zE0 hi
 have hrun:(Instr.buildSlice t 0 #[]).run C.P w=.ok (.slice (some ⟨w.heap.size,0,none⟩) 0 0) (w.alloc (.cells #[] e)):=by
  simp [Instr.buildSlice,zD3 ht,hsz,Instr.fill,hnr,h00]
 obtain ⟨v',hv'⟩:∃ v':Value,v'=.slice (some ⟨w.heap.size,0,none⟩) 0 0:=⟨_,rfl⟩
 obtain ⟨w',hw'⟩:∃ w',w'=w.alloc (.cells #[] e):=⟨_,rfl⟩
 rw [← hv',← hw'] at hrun
 have h2:w'.ownsRow 0 e z v' (0+0) (zB8 ρ ([]++[])):=
  ⟨by simp [zB8],.inr ⟨w.heap.size,0,#[],hv',Nat.zero_le _,by rw [hw']; exact heap_alloc_new w _,Nat.le_refl _,Nat.zero_le _,by simp,by simp [zB8]⟩⟩
 have h3:w.grownBy w' none:=by rw [hw']; exact ⟨rfl,rfl,rfl,by simp,fun k hk _=>Go.heap_alloc_old w _ hk⟩
 obtain ⟨ρ',e0,k1,k2⟩:=append_core (C:=C) (pr:=(· < en.length)) (N:=en.length) (mk:=fun q=>q=en.length) (en:=en) (en':=zF en (rwE e z (0+0) ([]++[]))) (m:=0) (n:=0) (cells:=[]) (news:=[]) (X:=.v (.slice none 0 0)) (o:=none) (vb:=none) he (.none rfl rfl)
  (fun pr y hy=>nomatch hy) hn0 (fun _=>Iff.rfl) (by have:=zQ4 (en:=en) (e:=rwE e z (0+0) ([]++[])); rwa [zC8] at this)
  (fun q hq=>zH7 (by rw [zC8]; exact hq)) (Nat.lt_irrefl _) hw trivial (fun g h=>by cases h) h2 h3 (.inr (by rw [hv']; rfl))
 refine ⟨ρ',w',?_,k1,?_,k2.iff (fun q=>by rw [hle]; omega)⟩
 ·rw [zC8,e0]
  simp [execOp,hrun]
 ·show zG en < _
  rw [zC8,hle]; omega
end
end Go.Proofs.YtcbmlanpianclaaGreatDoor
