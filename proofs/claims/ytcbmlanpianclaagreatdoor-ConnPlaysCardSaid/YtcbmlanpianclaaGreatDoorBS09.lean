/- A line of package text in memory, and its methods: count, key, seconds, off. -/
import Derived.Test.YtcbmlanpianclaaGreatDoorBS08
import Derived.Test.YtcbmlanpianclaaGreatDoorBS05
import Derived.Shelf.Strings.OnBuilder
import Derived.Shelf.LaysM
import Derived.Shelf.LaysC
import Derived.Test.YtcbmlanpianclaaGreatDoorProg
namespace Go.Proofs.YtcbmlanpianclaaGreatDoor
set_option linter.unusedSimpArgs false
set_option linter.unusedVariables false
set_option maxHeartbeats 8000000
open Go.RowKit
set_option maxRecDepth 100000
def rqS (cv:SC) (r:Rq):List SC:=[.i .i64 r.kind,cv,.b r.quiet,.b r.tokens,.s r.reply,.s r.arg,.i .i64 r.skip,.b r.close,.s [],.v (.slice none 0 0),.s r.word]
def zB5:SC:=.v (.slice none 0 0)
def zF7:List SV→Option (Prop × SV)
 | [.c (.s l)]=>some (True,.g (rqS zB5 (zD9 l)))
 | _=>none
def zP4:List SV→Option (Prop × SV)
 | [.c (.s l)]=>some (l.length≤9223372036854775807,.t [.c (.i .i64 ((zC5 l).getD 0)),.c (.b (zI2 l).2)])
 | _=>none
theorem bad_w (l:List UInt8) (w:World) (ρ:Nat→RE):Calls Tryz.prog 42 #[.string ⟨l.toArray⟩] w fun e w'=>e=.returned ((SV.g (rqS zB5 (zD9 l))).den ρ)∧Below w.heap.size w w':=by
 refine zA1 Tryz.func42 rfl kp42 (S:=Non) (ρ:=ρ) (en:=[]) [.c (.s l)] Tryz.ntmps42 (At.nil _ _ _) (by simp [SV.wf,SC.wf]) (by simp) ?_
 intro C hC hP hk
 have hctr:=zF8 hP
 (refine zR7 hctr (rs:=res42) 200 _ _ _ ?_; simp (maxSteps:=1000000) only [VC,qE,qF,qG,qH,qI,qJ,qK,qO,qP,qf,qg,q0t,qu,qv,ev,qy,qz,zA,zB,zC,zD,zE,zF,zG,zI,zJ,TE.sv,zK,zM,↓reduceIte,reduceCtorEq,Value.oneCell',Nat.reduceEqDiff,Nat.reduceAdd,Nat.reduceLT,zP,zQ,zR,zt,hP,hk,res42,kp42])
 exact zH3 (v:=.g (rqS zB5 (zD9 l))) hC hres42 rfl (by simp [SV.wf,wfs,SC.wf,rqS,zB5])
theorem secs_w (l:List UInt8) (hl:l.length≤9223372036854775807) (w:World) (hE:Env w):Calls Tryz.prog 98 #[.string ⟨l.toArray⟩] w fun e w'=>e=.returned (.tuple #[.int .i64 ((zC5 l).getD 0),.bool (zI2 l).2])∧Below w.heap.size w w':=by
 refine zA1 Tryz.func98 rfl kp98 (S:=Non) (ρ:=fun _=>⟨0,[],[],0,none⟩) (en:=[]) [.c (.s l)] Tryz.ntmps98 (At.nil _ _ _) (by simp [SV.wf,SC.wf]) (by simp) ?_
 intro C hC hP hk
 have hctr:=tC0_okV hP (fun w' hu=>by rw [hC] at hu; exact hE.below hu.to_below)
 have fin:∀ b,b=(zI2 l).2→Fin C res98 (.t [.c (.i .i64 ((zC5 l).getD 0)),.c (.b b)]) []:=fun b hb=>zH3 (v:=.t [.c (.i .i64 ((zC5 l).getD 0)),.c (.b (zI2 l).2)]) hC hres98 (by rw [hb]) (by simp [SV.wf,TE.wf,SC.wf])
 cases hv:zC5 l with
 | none =>
  rw [hv] at fin
  (refine zA0 hctr (rs:=res98) true 200 _ _ _ ?_; simp (maxSteps:=1000000) only [VT,jg,aA,qE,qF,qG,qH,qI,qK,qO,qh,qp,ev,qw,qy,qz,zD,zI,zJ,TE.sv,zK,↓reduceIte,reduceCtorEq,Nat.reduceEqDiff,Nat.reduceLT,zP,zQ,zR,zW,hP,hk,res98,kp98,zN6,zN3,hv,Option.getD_none,Option.isSome_none])
  exact ⟨hl,fin _ (by unfold zI2; rw [hv])⟩
 | some n =>
  rw [hv] at fin
  simp only [zI2,hv,Option.getD_some] at fin
  by_cases h1:-1099511627776≤n
  ·have c1:decide (-1099511627776≤n)=true:=decide_eq_true h1
   (refine zA0 hctr (rs:=res98) true 200 _ _ _ ?_; simp (maxSteps:=1000000) only [VT,jf,jZ,qE,qF,qG,qH,qI,qK,qO,qR,qS,qh,qp,ev,qw,qy,qz,zD,zI,zJ,TE.sv,zK,↓reduceIte,reduceCtorEq,Nat.reduceEqDiff,Nat.reduceLT,zP,zQ,zR,zV,hP,hk,res98,kp98,zN6,zN3,hv,Option.getD_some,Option.isSome_some,c1])
   exact ⟨hl,fin _ (by unfold nearB; rw [c1]; simp)⟩
  ·have c1:decide (-1099511627776≤n)=false:=decide_eq_false h1
   (refine zA0 hctr (rs:=res98) true 200 _ _ _ ?_; simp (maxSteps:=1000000) only [VT,jf,jg,jZ,aA,qE,qF,qG,qH,qI,qK,qO,qR,qS,qh,qp,ev,qw,qy,qz,zD,zI,zJ,TE.sv,zK,↓reduceIte,reduceCtorEq,Nat.reduceEqDiff,Nat.reduceLT,zP,zQ,zR,zV,zW,hP,hk,res98,kp98,zN6,zN3,hv,Option.getD_some,Option.isSome_some,c1])
   exact ⟨hl,fin _ (by unfold nearB; rw [c1]; simp)⟩
def tC1:Ctr:=fun f en xs=>match f with
 | 42=>zF7 xs
 | 98=>zP4 xs
 | 94=>zD0 xs
 | _=>zN6 f en xs
theorem zZ8 {C:Cx} (hP:C.P=Tryz.prog) (hE:zM6 C):zC1 C tC1:=by
 intro f en xs p v h hp ρ w hup hHp hHo hinj hwf
 unfold tC1 at h
 split at h
 ·rw [hP]
  refine ⟨fun args w=>Tryz.call42 args w,?_⟩
  unfold zF7 at h
  split at h <;> simp only [Option.some.injEq,Prod.mk.injEq,reduceCtorEq] at h
  obtain ⟨_,rfl⟩:=h
  exact ⟨by simp [SV.wf,wfs,SC.wf,rqS,zB5],bad_w _ w ρ⟩
 ·rw [hP]
  refine ⟨fun args w=>Tryz.call98 args w,?_⟩
  unfold zP4 at h
  split at h <;> simp only [Option.some.injEq,Prod.mk.injEq,reduceCtorEq] at h
  obtain ⟨rfl,rfl⟩:=h
  exact ⟨by intro x hx; simp at hx; rcases hx with rfl | rfl <;> trivial,secs_w _ hp w (hE w hup)⟩
 ·rw [hP]
  refine ⟨fun args w=>Tryz.call94 args w,?_⟩
  unfold zD0 at h
  split at h <;> simp only [Option.some.injEq,Prod.mk.injEq,reduceCtorEq] at h
  obtain ⟨_,rfl⟩:=h
  exact ⟨(by intro x hx; cases hx),need_yes _ w⟩
 ·exact tC0_okV hP hE f en xs p v h hp ρ w hup hHp hHo hinj hwf
def tCB:Ctr:=fun f _ xs=>match f with
 | 42=>zF7 xs
 | _=>none
theorem tC1_ok' {C:Cx} (hP:C.P=Tryz.prog):zC1 C tCB:=by
 intro f en xs p v h hp ρ w hup hHp hHo hinj hwf
 unfold tCB at h
 split at h
 ·rw [hP]
  refine ⟨fun args w=>Tryz.call42 args w,?_⟩
  unfold zF7 at h
  split at h <;> simp only [Option.some.injEq,Prod.mk.injEq,reduceCtorEq] at h
  obtain ⟨_,rfl⟩:=h
  exact ⟨by simp [SV.wf,wfs,SC.wf,rqS,zB5],bad_w _ w ρ⟩
 ·cases h
end Go.Proofs.YtcbmlanpianclaaGreatDoor
/- A line of package text in memory, and its methods: count, key, seconds, off. -/
namespace Go.Proofs.YtcbmlanpianclaaGreatDoor
set_option linter.unusedSimpArgs false
set_option linter.unusedVariables false
set_option maxHeartbeats 8000000
open Go.RowKit
set_option maxRecDepth 100000
def lnC (name:List UInt8) (W:SC) (behind:List UInt8) (used:Int) (quiet:Bool):List SC:=[.s name,W,.s behind,.i .i64 used,.b quiet]
def lnA (name:List UInt8) (W:Value) (behind:List UInt8) (used:Int) (quiet:Bool):Array Value:=#[.string ⟨name.toArray⟩,W,.string ⟨behind.toArray⟩,.int .i64 used,.bool quiet]
def RawSV (w:World) (g:Nat) (a:Option Addr) (ws:List (List UInt8)):Prop:=
 ∀ (k:Nat) x,ws[k]?=some x→∃ b o,a=some ⟨b,o,none⟩∧b < w.heap.size∧b ≠ g∧w.cell? ⟨b,o+k,none⟩=some (.string ⟨x.toArray⟩)
structure Ln (w:World) (g:Nat) (name:List UInt8) (a:Option Addr) (n c:Nat) (ws:List (List UInt8)) (behind:List UInt8) (used:Int) (quiet:Bool):Prop where
 blk:Blk w g 75 (lnA name (.slice a n c) behind used quiet)
 raw:RawSV w g a ws
 len:n≤ws.length
 cap:n≤c
def zD7 (g:Nat):RE:=⟨g,[],[],0,none⟩
theorem zO9 {w:World} {g:Nat} {name:List UInt8} {W:Value} {behind:List UInt8} {used:Int} {quiet:Bool} (h:Blk w g 75 (lnA name W behind used quiet)) (mu:Bool) (S:Nat→Prop) (hS:mu=true→S g) :
  At S (fun _=>zD7 g) [⟨(75,0,whole),lnC name (.v W) behind used quiet,mu⟩] w:=by
 have h0:∀ c (e:EN),zD [(⟨(75,0,whole),lnC name (.v W) behind used quiet,mu⟩:EN)] c=some e→c=0:=by
  intro c e hc
  match c with
  | 0=>rfl
  | c+1=>simp [zD] at hc
 refine ⟨?_,?_,?_,?_⟩
 ·intro c ty cells mu' hc he
  have:c=0:=by have:c < 1:=hc; omega
  subst this
  simp only [zD,Option.some.injEq,EN.mk.injEq] at he
  obtain ⟨rfl,rfl,rfl⟩:=he
  refine ⟨fun _=>h,?_,fun hd=>absurd hd (by decide),fun hn=>absurd rfl hn⟩
  intro x hx
  simp only [lnC,List.mem_cons,List.not_mem_nil,or_false] at hx
  rcases hx with rfl | rfl | rfl | rfl | rfl <;> trivial
 ·intro c ty cells mu' hc he
  have:c=0:=by have:c < 1:=hc; omega
  subst this
  simp only [zD,Option.some.injEq,EN.mk.injEq] at he
  obtain ⟨rfl,rfl,rfl⟩:=he
  exact ⟨rfl,rfl,rfl⟩
 ·intro c d hc hd _ _ _
  have h1:c < 1:=hc
  have h2:d < 1:=hd
  omega
 ·intro c ty cells hc he
  have:c=0:=by have:c < 1:=hc; omega
  subst this
  simp only [zD,Option.some.injEq,EN.mk.injEq] at he
  exact hS he.2.2
theorem RawSV.rd {w:World} {g:Nat} {a:Option Addr} {ws:List (List UInt8)} (h:RawSV w g a ws) {D:Cx} (hS:∀ k,D.S k→k=g) (hw:D.w0=w) {k:Nat} {x:List UInt8} (hx:ws[k]?=some x):∃ b o,a=some ⟨b,o,none⟩∧D.rd b (o+k) 1=some [.s x]:=by
 obtain ⟨b,o,ha,hb,hg,hc⟩:=h k x hx
 refine ⟨b,o,ha,rd_of (vs:=[.string ⟨x.toArray⟩]) ?_ rfl⟩
 intro w' hu j v hv
 have hj:j=0:=by have:=(List.getElem?_eq_some_iff.1 hv).1; simp at this; exact this
 subst hj
 rw [hw] at hu
 simp only [List.getElem?_cons_zero,Option.some.injEq] at hv
 rw [← hv]
 exact (hu.cell (p:=⟨b,o+k,none⟩) hb (fun hs=>hg (hS _ hs))).trans hc
theorem RawSV.upd {w w':World} {g:Nat} {a:Option Addr} {ws:List (List UInt8)} (h:RawSV w g a ws) (hu:Upd (One g) w w'):RawSV w' g a ws:=by
 intro k x hx
 obtain ⟨b,o,ha,hb,hg,hc⟩:=h k x hx
 exact ⟨b,o,ha,Nat.lt_of_lt_of_le hb hu.size,hg,(hu.cell (p:=⟨b,o+k,none⟩) hb (fun hs=>hg hs)).trans hc⟩
theorem ln_blk {C:Cx} {ρ:Nat→RE} {en:List EN} {w':World} {g:Nat} {name:List UInt8} {W:Value} {behind:List UInt8} {used:Int} {quiet mu:Bool} (hw:Hw C ρ (· < en.length) en w') (hen:zD en 0=some ⟨(75,0,whole),lnC name (.v W) behind used quiet,mu⟩) (hn0:0 < C.n0) (hρ:C.ρ0 0=zD7 g):Blk w' g 75 (lnA name W behind used quiet):=by
 have e:=hw.ini 0 hn0
 rw [hρ] at e
 have hl:0 < en.length:=by rw [zA3] at hen; exact (List.getElem?_eq_some_iff.1 hen).1
 have:=(hw.hp 0 _ _ _ hl hen).heap ⟨(by show (75:Nat) ≠ zC9; decide),by rw [e]; rfl⟩
 rw [e] at this
 exact this
section
variable {w:World} {g:Nat} {name:List UInt8} {a:Option Addr} {n c:Nat} {ws:List (List UInt8)} {behind:List UInt8} {used:Int} {quiet:Bool}
theorem count_yes (h:Blk w g 75 (lnA name (.slice a n c) behind used quiet)) (lo hi:Int) (h1:lo≤(n:Int)) (h2:(n:Int)≤hi) (hE:Env w) :
  Calls Tryz.prog 92 #[.pointer (some ⟨g,0,none⟩),.int .i64 lo,.int .i64 hi] w fun e w'=>e=.returned (.tuple #[])∧Below w.heap.size w w':=by
 refine zA1 Tryz.func92 rfl kp92 (S:=Non) (ρ:=fun _=>zD7 g) [.c (.p 0 0),.c (.i .i64 lo),.c (.i .i64 hi)] Tryz.ntmps92 (zO9 h false Non (fun h=>by cases h)) (by simp [SV.wf,SC.wf]) (by simp) ?_
 intro C hC hP hk
 have hctr:=zZ8 hP (fun w' hu=>by rw [hC] at hu; exact hE.below hu.to_below)
 have c1:decide (lo≤(n:Int))=true:=decide_eq_true h1
 have c2:decide ((n:Int)≤hi)=true:=decide_eq_true h2
 (refine zA0 hctr (rs:=res92) true 200 _ _ _ ?_; simp (maxSteps:=1000000) only [VT,jf,jZ,qH,qI,qK,qN,qO,qP,qQ,qR,qS,qV,qe,qp,ev,qw,qy,qz,zD,zI,zJ,zK,zM,↓reduceIte,reduceCtorEq,Nat.reduceEqDiff,Nat.reduceAdd,Nat.reduceLT,zP,zQ,zR,zV,zt,hP,hk,res92,kp92,tC1,zD0,lnC,c1,c2])
 refine zQ6 hC hres92 fun ρ w' hw hn=>⟨rfl,?_⟩
 rw [hC] at hw
 exact hw.up.to_below
theorem Run_needQ {C:Cx} {nt:Nat} {sl:List (Nat × SV)} {en:List EN} {k:List KI} {dst:Option Nat} {ty:TypeId} {pos:String} {af:Array Edge} {all r:List Oper} {gd:Option (Nat × Bool)} {args:Array Operand} {tys:Array TypeId} {f:List UInt8}
  (hP:C.P=Tryz.prog) (hxs:qw sl args.toList=some [.c (.b false),.c (.s f)]) (hg:gdT all sl gd=true)
  (h:∀ ρ w' a,Hw C ρ (· < en.length) en w'→a.defers=C.df→C.Q (.panic (zJ3 f)) a w') :
  Run C (.ops all (⟨dst,.call ⟨.value (.func 94),args,tys⟩,ty,pos,af,gd⟩ :: r) :: k) nt sl en:=by
 refine zT3 hxs hg (fun args w=>by rw [hP]; exact Tryz.call94 args w) (zJ3 f) fun ρ w' hw hn hwf=>?_
 rw [hP]
 refine (need_no f w').mono ?_
 rintro e w'' ⟨rfl,hb⟩
 exact ⟨rfl,fun a ha=>h ρ w'' a (hw.same hb) ha⟩
theorem zJ8 {C:Cx} {nt:Nat} {sl:List (Nat × SV)} {en:List EN} {k:List KI} {dst:Option Nat} {ty:TypeId} {pos:String} {af:Array Edge} {all r:List Oper} {gd:Option (Nat × Bool)} {args:Array Operand} {tys:Array TypeId} {f:List UInt8}
  {P:Program} {fn:Func} {R:Ending→World→Prop} {S:Nat→Prop} {w0:World} {ρ0:Nat→RE} {n0:Nat} {kp:List Nat} (hC:C=zL P fn R S w0 ρ0 n0 kp) (hP:C.P=Tryz.prog) (hxs:qw sl args.toList=some [.c (.b false),.c (.s f)]) (hg:gdT all sl gd=true)
  (h:∀ ρ w',Hw C ρ (· < en.length) en w'→R (.panicked (zJ3 f)) w') :
  Run C (.ops all (⟨dst,.call ⟨.value (.func 94),args,tys⟩,ty,pos,af,gd⟩ :: r) :: k) nt sl en:=by
 refine zT3 hxs hg (fun args w=>by rw [hP]; exact Tryz.call94 args w) (zJ3 f) fun ρ w' hw hn hwf=>?_
 rw [hP]
 refine (need_no f w').mono ?_
 rintro e w'' ⟨rfl,hb⟩
 exact ⟨rfl,fun a ha=>q_pan hC (h ρ w'' (hw.same hb)) a ha⟩
theorem count_no (h:Blk w g 75 (lnA name (.slice a n c) behind used quiet)) (lo hi:Int) (h1:¬ (lo≤(n:Int)∧(n:Int)≤hi)) (hE:Env w) :
  Calls Tryz.prog 92 #[.pointer (some ⟨g,0,none⟩),.int .i64 lo,.int .i64 hi] w fun e w'=>e=.panicked (zJ3 zA5)∧Below w.heap.size w w':=by
 refine zA1 Tryz.func92 rfl kp92 (S:=Non) (ρ:=fun _=>zD7 g) [.c (.p 0 0),.c (.i .i64 lo),.c (.i .i64 hi)] Tryz.ntmps92 (zO9 h false Non (fun h=>by cases h)) (by simp [SV.wf,SC.wf]) (by simp) ?_
 intro C hC hP hk
 have hctr:=zZ8 hP (fun w' hu=>by rw [hC] at hu; exact hE.below hu.to_below)
 by_cases h2:lo≤(n:Int)
 ·have c1:decide (lo≤(n:Int))=true:=decide_eq_true h2
  have c2:decide ((n:Int)≤hi)=false:=decide_eq_false fun h3=>h1 ⟨h2,h3⟩
  (refine zA0 hctr (rs:=res92) true 200 _ _ _ ?_; simp (maxSteps:=1000000) only [VT,jf,jZ,qH,qI,qK,qN,qO,qP,qQ,qR,qS,qV,qe,qp,ev,qw,qy,qz,zD,zI,zJ,zK,zM,↓reduceIte,reduceCtorEq,Nat.reduceEqDiff,Nat.reduceAdd,Nat.reduceLT,zQ,zR,zV,zt,hP,hk,res92,kp92,tC1,zD0,lnC,c1,c2])
  refine zJ8 hC hP rfl rfl fun ρ w' hw=>⟨rfl,?_⟩
  rw [hC] at hw
  exact hw.up.to_below
 ·have c1:decide (lo≤(n:Int))=false:=decide_eq_false h2
  (refine zA0 hctr (rs:=res92) true 200 _ _ _ ?_; simp (maxSteps:=1000000) only [VT,jg,aA,qH,qI,qK,qN,qO,qP,qQ,qR,qS,qV,qe,qp,ev,qw,qy,qz,zD,zI,zJ,zK,zM,↓reduceIte,reduceCtorEq,Nat.reduceEqDiff,Nat.reduceAdd,Nat.reduceLT,zQ,zR,zW,zt,hP,hk,res92,kp92,tC1,zD0,lnC,c1])
  refine zJ8 hC hP rfl rfl fun ρ w' hw=>⟨rfl,?_⟩
  rw [hC] at hw
  exact hw.up.to_below
theorem key_yes {g2:Nat} (h:Blk w g 75 (lnA name (.slice a n c) behind used quiet)) (hraw:RawSV w g2 a ws) {i:Int} {x:List UInt8} (h0:0≤i) (h1:i < (n:Int)) (hx:ws[i.toNat]?=some x) (hl:x.length≤9223372036854775807) (hkb:zG3 x=true) (hE:Env w) :
  Calls Tryz.prog 101 #[.pointer (some ⟨g,0,none⟩),.int .i64 i] w fun e w'=>e=.returned (.string ⟨x.toArray⟩)∧Below w.heap.size w w':=by
 refine zA1 Tryz.func101 rfl kp101 (S:=Non) (ρ:=fun _=>zD7 g) [.c (.p 0 0),.c (.i .i64 i)] Tryz.ntmps101 (zO9 h false Non (fun h=>by cases h)) (by simp [SV.wf,SC.wf]) (by simp) ?_
 intro C hC hP hk
 have hctr:=zZ8 hP (fun w' hu=>by rw [hC] at hu; exact hE.below hu.to_below)
 obtain ⟨b,o,rfl,hr⟩:=hraw.rd (D:=C) (by rw [hC]; exact fun k hk=>hk.elim) (by rw [hC]; rfl) hx
 have hr':C.rd b (o+i.toNat * 1) 1=some [.s x]:=by rw [Nat.mul_one]; exact hr
 (refine zA0 hctr (rs:=res101) true 200 _ _ _ ?_; simp (maxSteps:=1000000) only [VT,qE,qF,qG,qH,qI,qK,qO,qP,qQ,qV,qX,ev,qw,qy,qz,zD,zI,zJ,TE.sv,zK,zM,↓reduceIte,reduceCtorEq,Nat.reduceEqDiff,Nat.reduceLT,zP,zQ,zR,zt,hP,hk,res101,kp101,tC1,zN6,zI8,zD0,lnC,hr',hkb])
 refine ⟨⟨h0,h1⟩,hl,⟨h0,h1⟩,?_⟩
 exact zH3 (v:=.c (.s x)) hC hres101 rfl trivial
theorem key_no {g2:Nat} (h:Blk w g 75 (lnA name (.slice a n c) behind used quiet)) (hraw:RawSV w g2 a ws) {i:Int} {x:List UInt8} (h0:0≤i) (h1:i < (n:Int)) (hx:ws[i.toNat]?=some x) (hl:x.length≤9223372036854775807) (hkb:zG3 x=false) (hE:Env w) :
  Calls Tryz.prog 101 #[.pointer (some ⟨g,0,none⟩),.int .i64 i] w fun e w'=>e=.panicked (zJ3 zA2)∧Below w.heap.size w w':=by
 refine zA1 Tryz.func101 rfl kp101 (S:=Non) (ρ:=fun _=>zD7 g) [.c (.p 0 0),.c (.i .i64 i)] Tryz.ntmps101 (zO9 h false Non (fun h=>by cases h)) (by simp [SV.wf,SC.wf]) (by simp) ?_
 intro C hC hP hk
 have hctr:=zZ8 hP (fun w' hu=>by rw [hC] at hu; exact hE.below hu.to_below)
 obtain ⟨b,o,rfl,hr⟩:=hraw.rd (D:=C) (by rw [hC]; exact fun k hk=>hk.elim) (by rw [hC]; rfl) hx
 have hr':C.rd b (o+i.toNat * 1) 1=some [.s x]:=by rw [Nat.mul_one]; exact hr
 (refine zA0 hctr (rs:=res101) true 200 _ _ _ ?_; simp (maxSteps:=1000000) only [VT,qH,qI,qK,qO,qP,qQ,qV,qX,ev,qw,qy,qz,zD,zI,zJ,zK,zM,↓reduceIte,reduceCtorEq,Nat.reduceEqDiff,Nat.reduceLT,zP,zR,zt,hP,hk,kp101,tC1,zN6,zI8,zD0,lnC,hr',hkb])
 refine ⟨⟨h0,h1⟩,hl,?_⟩
 refine zJ8 hC hP rfl rfl fun ρ w' hw=>⟨rfl,?_⟩
 rw [hC] at hw
 exact hw.up.to_below
theorem lsec_yes {g2:Nat} (h:Blk w g 75 (lnA name (.slice a n c) behind used quiet)) (hraw:RawSV w g2 a ws) {i:Int} {x:List UInt8} (h0:0≤i) (h1:i < (n:Int)) (hx:ws[i.toNat]?=some x) (hl:x.length≤9223372036854775807) (hs:(zI2 x).2=true) (hE:Env w) :
  Calls Tryz.prog 93 #[.pointer (some ⟨g,0,none⟩),.int .i64 i] w fun e w'=>e=.returned (.int .i64 (zI2 x).1)∧Below w.heap.size w w':=by
 refine zA1 Tryz.func93 rfl kp93 (S:=Non) (ρ:=fun _=>zD7 g) [.c (.p 0 0),.c (.i .i64 i)] Tryz.ntmps93 (zO9 h false Non (fun h=>by cases h)) (by simp [SV.wf,SC.wf]) (by simp) ?_
 intro C hC hP hk
 have hctr:=zZ8 hP (fun w' hu=>by rw [hC] at hu; exact hE.below hu.to_below)
 obtain ⟨b,o,rfl,hr⟩:=hraw.rd (D:=C) (by rw [hC]; exact fun k hk=>hk.elim) (by rw [hC]; rfl) hx
 have hr':C.rd b (o+i.toNat * 1) 1=some [.s x]:=by rw [Nat.mul_one]; exact hr
 have hv:(zC5 x).getD 0=(zI2 x).1:=by unfold zI2; cases zC5 x <;> rfl
 (refine zA0 hctr (rs:=res93) true 200 _ _ _ ?_; simp (maxSteps:=1000000) only [VT,qE,qF,qG,qH,qI,qK,qO,qP,qQ,qV,qX,qh,ev,qw,qy,qz,zD,zI,zJ,TE.sv,zK,zM,↓reduceIte,reduceCtorEq,Nat.reduceEqDiff,Nat.reduceLT,zP,zQ,zR,zt,hP,hk,res93,kp93,tC1,zP4,zD0,lnC,hr',hs])
 refine ⟨⟨h0,h1⟩,hl,?_⟩
 exact zH3 (v:=.c (.i .i64 (zI2 x).1)) hC hres93 (by rw [hv]) trivial
theorem lsec_no {g2:Nat} (h:Blk w g 75 (lnA name (.slice a n c) behind used quiet)) (hraw:RawSV w g2 a ws) {i:Int} {x:List UInt8} (h0:0≤i) (h1:i < (n:Int)) (hx:ws[i.toNat]?=some x) (hl:x.length≤9223372036854775807) (hs:(zI2 x).2=false) (hE:Env w) :
  Calls Tryz.prog 93 #[.pointer (some ⟨g,0,none⟩),.int .i64 i] w fun e w'=>e=.panicked (zJ3 zG9)∧Below w.heap.size w w':=by
 refine zA1 Tryz.func93 rfl kp93 (S:=Non) (ρ:=fun _=>zD7 g) [.c (.p 0 0),.c (.i .i64 i)] Tryz.ntmps93 (zO9 h false Non (fun h=>by cases h)) (by simp [SV.wf,SC.wf]) (by simp) ?_
 intro C hC hP hk
 have hctr:=zZ8 hP (fun w' hu=>by rw [hC] at hu; exact hE.below hu.to_below)
 obtain ⟨b,o,rfl,hr⟩:=hraw.rd (D:=C) (by rw [hC]; exact fun k hk=>hk.elim) (by rw [hC]; rfl) hx
 have hr':C.rd b (o+i.toNat * 1) 1=some [.s x]:=by rw [Nat.mul_one]; exact hr
 (refine zA0 hctr (rs:=res93) true 200 _ _ _ ?_; simp (maxSteps:=1000000) only [VT,qH,qI,qK,qO,qP,qQ,qV,qX,qh,ev,qw,qy,qz,zD,zI,zJ,TE.sv,zK,zM,↓reduceIte,reduceCtorEq,Nat.reduceEqDiff,Nat.reduceLT,zP,zQ,zR,zt,hP,hk,kp93,tC1,zP4,zD0,lnC,hr',hs])
 refine ⟨⟨h0,h1⟩,hl,?_⟩
 refine zJ8 hC hP rfl rfl fun ρ w' hw=>⟨rfl,?_⟩
 rw [hC] at hw
 exact hw.up.to_below
theorem off_no (h:Ln w g name a n c ws behind used quiet) (hlen:n=ws.length) (hn:n≤9223372036854775807) (hx:ws.getLast? ≠ some zI4) (hE:Env w) :
  Calls Tryz.prog 97 #[.pointer (some ⟨g,0,none⟩)] w fun e w'=>e=.returned (.tuple #[])∧Below w.heap.size w w':=by
 refine zA1 Tryz.func97 rfl kp97 (S:=Non) (ρ:=fun _=>zD7 g) [.c (.p 0 0)] Tryz.ntmps97 (zO9 h.blk false Non (fun h=>by cases h)) (by simp [SV.wf,SC.wf]) (by simp) ?_
 intro C hC hP hk
 have hctr:=zZ8 hP (fun w' hu=>by rw [hC] at hu; exact hE.below hu.to_below)
 have fin:∀ sl en,Run C [] Tryz.f97.ntmps sl en:=fun sl en=>zQ6 hC hres97 fun ρ w' hw hn=>⟨rfl,by rw [hC] at hw; exact hw.up.to_below⟩
 by_cases h0:n=0
 ·subst h0
  have c1:decide ((0:Int) < ((0:Nat):Int))=false:=rfl
  (refine zA0 hctr (rs:=res97) true 200 _ _ _ ?_; simp (maxSteps:=1000000) only [VT,jg,aA,qH,qI,qK,qN,qO,qP,qQ,qR,qS,qV,qe,qp,ev,qy,qz,zD,zI,zJ,zK,zM,↓reduceIte,reduceCtorEq,Nat.reduceEqDiff,Nat.reduceLT,zP,zQ,zR,zW,zt,hP,hk,res97,kp97,lnC,c1])
  exact fin _ _
 ·obtain ⟨m,rfl⟩:∃ m,n=m+1:=⟨n - 1,by omega⟩
  obtain ⟨x,hxm⟩:∃ x,ws[m]?=some x:=⟨_,List.getElem?_eq_getElem (by omega)⟩
  have hxl:ws.getLast?=some x:=by rw [List.getLast?_eq_getElem?,← hlen]; exact hxm
  obtain ⟨b,o,rfl,hr⟩:=h.raw.rd (D:=C) (by rw [hC]; exact fun k hk=>hk.elim) (by rw [hC]; rfl) hxm
  have c1:decide ((0:Int) < ((m+1:Nat):Int))=true:=decide_eq_true (by omega)
  have c2:IntKind.i64.wrap (((m+1:Nat):Int) - 1)=(m:Int):=by rw [IntWalk.i64_in _ (by omega)]; omega
  have c3:(x == zI4)=false:=by
   refine Bool.eq_false_iff.2 fun e=>hx ?_
   rw [hxl,eq_of_beq e]
  have hr':C.rd b (o+m * 1) 1=some [.s x]:=by rw [Nat.mul_one]; exact hr
  simp only [zI4] at c3
  (refine zA0 hctr (rs:=res97) true 200 _ _ _ ?_; simp (maxSteps:=1000000) only [VT,jf,jg,jZ,qH,qI,qK,qN,qO,qP,qQ,qR,qS,qV,qX,qe,qp,ev,qy,qz,zD,zI,zJ,zK,zM,↓reduceIte,reduceCtorEq,Nat.reduceEqDiff,Nat.reduceLT,zP,zQ,zR,zV,zW,zh,zt,hP,hk,res97,kp97,lnC,c1,c2,hr',c3])
  refine ⟨by omega,?_⟩
  exact fin _ _
theorem off_yes {m:Nat} (h:Ln w g name a (m+1) c ws behind used quiet) (hn:m≤1000000000) (hx:ws[m]?=some zI4) (hE:Env w) :
  Calls Tryz.prog 97 #[.pointer (some ⟨g,0,none⟩)] w fun e w'=>e=.returned (.tuple #[])∧Upd (One g) w w'∧Ln w' g name a m c ws behind used true:=by
 refine zA1 Tryz.func97 rfl kp97 (S:=One g) (ρ:=fun _=>zD7 g) [.c (.p 0 0)] Tryz.ntmps97 (zO9 h.blk true (One g) (fun _=>rfl)) (by simp [SV.wf,SC.wf]) (by simp) ?_
 intro C hC hP hk
 have hctr:=zF8 hP
 obtain ⟨b,o,rfl,hr⟩:=h.raw.rd (D:=C) (by rw [hC]; exact fun k hk=>hk) (by rw [hC]; rfl) hx
 have c1:decide ((0:Int) < ((m+1:Nat):Int))=true:=decide_eq_true (by omega)
 have c2:IntKind.i64.wrap (((m+1:Nat):Int) - 1)=(m:Int):=by rw [IntWalk.i64_in _ (by omega)]; omega
 have c3:(zI4 == [110,111,114,101,112,108,121])=true:=rfl
 have hr':C.rd b (o+m * 1) 1=some [.s zI4]:=by rw [Nat.mul_one]; exact hr
 (refine zA0 hctr (rs:=res97) true 200 _ _ _ ?_; simp (maxSteps:=1000000) only [VT,jf,jZ,qH,qI,qJ,qK,qN,qO,qP,qQ,qR,qS,qV,qX,qZ,qe,ql,qp,q0t,qv,ev,qy,qz,zC,zD,zE,zG,zI,zJ,zK,zM,↓reduceIte,reduceCtorEq,Value.oneCell',Nat.reduceEqDiff,Nat.reduceLT,zP,zQ,zR,zV,zh,zn,zt,zu,hP,hk,res97,kp97,lnC,c1,c2,hr,c3,Int.toNat_zero,Nat.mul_one,ite_self])
 refine ⟨by omega,⟨by omega,by omega,by have:=h.cap; omega⟩,?_⟩
 refine zQ6 hC hres97 fun ρ w' hw hn=>⟨rfl,by rw [hC] at hw; exact hw.up,⟨?_,?_,by have:=h.len; omega,by have:=h.cap; omega⟩⟩
 ·exact ln_blk (quiet:=true) hw rfl (by rw [hC]; exact Nat.zero_lt_one) (by rw [hC]; rfl)
 ·exact h.raw.upd (by rw [hC] at hw; exact hw.up)
theorem zM0 (ws:List (List UInt8)):(zN5 ws).1=ws.take (zN5 ws).1.length:=by
 unfold zN5
 split
 ·split
  ·simp only [List.length_dropLast]; rw [List.dropLast_eq_take]
  ·simp
 ·simp
theorem off_w (h:Ln w g name a ws.length c ws behind used false) (hn:ws.length≤1000000000) (hE:Env w) :
  Calls Tryz.prog 97 #[.pointer (some ⟨g,0,none⟩)] w fun e w'=>e=.returned (.tuple #[])∧Upd (One g) w w'∧Blk w' g 75 (lnA name (.slice a (zN5 ws).1.length c) behind used (zN5 ws).2):=by
 by_cases hx:ws.getLast?=some zI4
 ·have hne:ws ≠ []:=by rintro rfl; cases hx
  obtain ⟨m,hm⟩:∃ m,ws.length=m+1:=⟨ws.length - 1,by have:=List.length_pos_iff.2 hne; omega⟩
  have he:zN5 ws=(ws.dropLast,true):=by unfold zN5; rw [hx]; simp
  have hl:(zN5 ws).1.length=m:=by rw [he]; simp [hm]
  rw [hm] at h
  refine (off_yes h (by omega) (by rw [List.getLast?_eq_getElem?,hm] at hx; exact hx) hE).mono ?_
  rintro e w' ⟨rfl,hu,hL⟩
  exact ⟨rfl,hu,by rw [hl,he]; exact hL.blk⟩
 ·have he:zN5 ws=(ws,false):=by
   unfold zN5
   split
   ·rename_i x hx2
    rw [if_neg (fun e=>hx (by rw [hx2,e]))]
   ·rfl
  refine (off_no h rfl (by omega) hx hE).mono ?_
  rintro e w' ⟨rfl,hb⟩
  exact ⟨rfl,Upd.of_below hb,by rw [he]; exact h.blk.below hb⟩
end
end Go.Proofs.YtcbmlanpianclaaGreatDoor
/- do: a request of commands. -/
namespace Go.Proofs.YtcbmlanpianclaaGreatDoor
set_option linter.unusedSimpArgs false
set_option linter.unusedVariables false
set_option maxHeartbeats 8000000
open Go.RowKit
set_option maxRecDepth 100000
def rcS (c:Cd):List SC:=[.i .i64 c.op,.i .i64 c.mode,.s c.key,.s c.val,.i .u32 c.flags,.i .i64 c.exp,.b c.hasExp,.i .u64 c.cas,.b c.hasCas,.i .u64 c.delta,.i .u64 c.init,.b c.down,.b c.viv,.i .i64 c.vive,.i .i64 c.recache,.b c.inval]
def rcA (c:Cd):List Value:=[.int .i64 c.op,.int .i64 c.mode,.string ⟨c.key.toArray⟩,.string ⟨c.val.toArray⟩,.int .u32 c.flags,.int .i64 c.exp,.bool c.hasExp,.int .u64 c.cas,.bool c.hasCas,.int .u64 c.delta,.int .u64 c.init,.bool c.down,.bool c.viv,.int .i64 c.vive,.int .i64 c.recache,.bool c.inval]
theorem rcS_len (c:Cd):(rcS c).length=16:=rfl
theorem zQ9 (ρ:Nat→RE) (cs:List Cd):zB8 ρ (zC2 rcS cs)=cs.flatMap rcA:=by
 induction cs with
 | nil=>rfl
 | cons c cs ih =>
  have:zB8 ρ (zC2 rcS (c :: cs))=zB8 ρ (rcS c)++zB8 ρ (zC2 rcS cs):=by simp [zB8,zC2]
  rw [this,ih]; rfl
theorem rc_wf (pr:Nat→Prop) (cs:List Cd):wfs pr (zC2 rcS cs):=by
 intro x hx
 obtain ⟨c,_,hx⟩:=List.mem_flatMap.1 hx
 simp only [rcS,List.mem_cons,List.not_mem_nil,or_false] at hx
 rcases hx with rfl | rfl | rfl | rfl | rfl | rfl | rfl | rfl | rfl | rfl | rfl | rfl | rfl | rfl | rfl | rfl <;> trivial
def reC (c:Cd):Cd:={ c with recache:=-1 }
def cmEV (cs:List Cd) (mu:Bool):EN:=⟨(52,0,fun _=>True),zC2 rcS cs,mu⟩
theorem ln_cm_at {w:World} {g b:Nat} {name:List UInt8} {W:Value} {behind:List UInt8} {used:Int} {quiet:Bool} {cs:List Cd} {rest:List Value} (h:Blk w g 75 (lnA name W behind used quiet)) (hb:w.heap[b]?=some (.cells (cs.flatMap rcA++rest).toArray 52 (0,0))) (hne:b ≠ g) :
  At (One b) (fun k=>if k=0 then zD7 g else ⟨b,[],rest,0,none⟩) [⟨(75,0,whole),lnC name (.v W) behind used quiet,false⟩,cmEV cs true] w:=by
 have hcase:∀ k ty cells mu,k < 2→zD [(⟨(75,0,whole),lnC name (.v W) behind used quiet,false⟩:EN),cmEV cs true] k=some ⟨ty,cells,mu⟩ →
   (k=0∧(⟨ty,cells,mu⟩:EN)=⟨(75,0,whole),lnC name (.v W) behind used quiet,false⟩)∨(k=1∧(⟨ty,cells,mu⟩:EN)=cmEV cs true):=by
  intro k ty cells mu hk he
  match k,hk with
  | 0,_=>exact .inl ⟨rfl,(Option.some.inj he).symm⟩
  | 1,_=>exact .inr ⟨rfl,(Option.some.inj he).symm⟩
 refine ⟨?_,?_,?_,?_⟩
 ·intro k ty cells mu hk he
  rcases hcase k ty cells mu hk he with ⟨rfl,e⟩ | ⟨rfl,e⟩
  ·cases e
   refine ⟨fun _=>h,?_,fun hd=>absurd hd (by decide),fun hn=>absurd rfl hn⟩
   intro x hx
   simp only [lnC,List.mem_cons,List.not_mem_nil,or_false] at hx
   rcases hx with rfl | rfl | rfl | rfl | rfl <;> trivial
  ·cases e
   refine ⟨fun _=>?_,rc_wf _ _,fun hd=>absurd hd (by show ¬ (52:Nat)=zC9; decide),fun hn=>absurd rfl hn⟩
   rw [zQ9]
   exact hb
 ·intro k ty cells mu hk he
  rcases hcase k ty cells mu hk he with ⟨rfl,e⟩ | ⟨rfl,e⟩
  ·cases e; exact ⟨rfl,rfl,rfl⟩
  ·cases e; exact ⟨rfl,trivial⟩
 ·intro p q hp hq _ _ he
  match p,q,hp,hq with
  | 0,0,_,_=>rfl
  | 1,1,_,_=>rfl
  | 0,1,_,_=>exact absurd he.symm hne
  | 1,0,_,_=>exact absurd he hne
 ·intro k ty cells hk he
  rcases hcase k ty cells true hk he with ⟨rfl,e⟩ | ⟨rfl,e⟩
  ·cases e
  ·rfl
def enDo (name:List UInt8) (W:SC) (behind:List UInt8) (used:Int) (quiet:Bool) (cs:List Cd):List EN:=[⟨(75,0,whole),lnC name W behind used quiet,false⟩,cmEV cs true,⟨(35,0,whole),rqS zB5 Rq.zero,true⟩]
def midC (cs:List Cd) (j:Nat):List Cd:=(cs.take j).map reC++cs.drop j
theorem midC_zero (cs:List Cd):midC cs 0=cs:=by simp [midC]
theorem midC_all (cs:List Cd):midC cs cs.length=cs.map reC:=by simp [midC]
theorem midC_get {cs:List Cd} {j:Nat} (h:j < cs.length):(midC cs j)[j]?=some cs[j]:=by
 unfold midC
 rw [List.getElem?_append_right (by simp; omega)]
 simp [Nat.min_eq_left (Nat.le_of_lt h)]
theorem midC_set {cs:List Cd} {j:Nat} (h:j < cs.length):(midC cs j).set j (reC cs[j])=midC cs (j+1):=by
 unfold midC
 rw [List.set_append_right _ _ (by simp; omega)]
 have e1:j - ((cs.take j).map reC).length=0:=by simp; omega
 rw [e1,List.drop_eq_getElem_cons h,List.set_cons_zero,List.take_succ_eq_append_getElem h,List.map_append,List.append_assoc]
 rfl
def slDo (n cap j:Nat):List (Nat × SV):=[(8,.c (.i .i64 (j:Int))),(7,.c (.i .i64 (n:Int))),(4,.c (.p 2 0)),(0,.c (.p 0 0)),(1,.c (.sl 1 0 n cap))]
section
variable {w:World} {g b:Nat} {name:List UInt8} {W:Value} {behind:List UInt8} {used:Int} {quiet:Bool} {cs:List Cd} {rest:List Value}
theorem do_w (h:Blk w g 75 (lnA name W behind used quiet)) (hb:w.heap[b]?=some (.cells (cs.flatMap rcA++rest).toArray 52 (0,0))) (hne:b ≠ g) (cap:Nat) (hcap:cs.length≤cap) (hlen:cs.length≤100000000) :
  Calls Tryz.prog 95 #[.pointer (some ⟨g,0,none⟩),.slice (some ⟨b,0,none⟩) cs.length cap] w fun e w'=>e=.returned ((SV.g (rqS (.sl 1 0 cs.length cap) { Rq.zero with kind:=1,quiet:=quiet })).den (fun k=>if k=0 then zD7 g else ⟨b,[],rest,0,none⟩))∧Upd (One b) w w' ∧
   w'.heap[b]?=some (.cells ((cs.map reC).flatMap rcA++rest).toArray 52 (0,0)):=by
 refine zA1 Tryz.func95 rfl kp95 (S:=One b) (ρ:=fun k=>if k=0 then zD7 g else ⟨b,[],rest,0,none⟩) [.c (.p 0 0),.c (.sl 1 0 cs.length cap)] Tryz.ntmps95 (ln_cm_at h hb hne) (by simp [SV.wf,SC.wf]) (by simp) ?_
 intro C hC hP hk
 have hctr:=zF8 hP
 (refine zA0 hctr (rs:=res95) true 300 _ _ _ ?_; simp (maxSteps:=1000000) only [VT,qH,qI,qK,qN,qO,qe,ev,qy,qz,zF,zG,zI,zJ,zK,zM,↓reduceIte,reduceCtorEq,Nat.reduceEqDiff,Nat.reduceAdd,Nat.reduceLT,zP,zQ,zR,zt,hP,hk,kp95,lnC,cmEV])
 obtain ⟨m,hm⟩:∃ m,m=cs.length:=⟨_,rfl⟩
 rw [← hm]
 refine Run_loopD (ι:={ j:Nat // j≤m }) (fun j=>slDo m cap j.1) (fun j=>enDo name (.v W) behind used quiet (midC cs j.1)) (fun j=>m+1 - j.1) ⟨0,Nat.zero_le _⟩ (zB3 ⟨rfl,rfl,rfl,rfl,rfl,trivial⟩) (by simp only [midC_zero]; rfl) ?_
 rintro ⟨j,hj⟩ D dP dS dw dn dk dC hX hJ
 have hP0:=hP; have hk0:=hk; have hctr0:=hctr
 have hP:D.P=Tryz.prog:=by rw [dP]; exact hP0
 have hk:D.kp=kp95:=by rw [dk]; exact hk0
 have hctr:=zF8 hP
 show Run D _ _ (slDo m cap j) (enDo name (.v W) behind used quiet (midC cs j))
 by_cases hjn:j < m
 ·have hjl:j < cs.length:=by omega
  have c1:decide ((j:Int) < (m:Int))=true:=decide_eq_true (by omega)
  have p3:IntKind.i64.wrap ((j:Int)+1)=((j+1:Nat):Int):=by rw [IntWalk.i64_in _ (by omega)]; rfl
  have hst:zC (j * 16+14) [.i .i64 (-1)] (zC2 rcS (midC cs j))=some (zC2 rcS (midC cs (j+1))):=by
   rw [← midC_set hjl]
   exact flatG_lay1 rcS_len (midC_get hjl) (by omega) rfl
  (refine zA0 hctr (rs:=res95) true 300 _ _ _ ?_; simp (maxSteps:=1000000) only [VT,jf,qH,qI,qJ,qK,qO,qR,qS,qV,qX,q0t,qv,ev,qy,qz,zD,zE,zG,zI,zJ,zM,↓reduceIte,reduceCtorEq,Nat.reduceEqDiff,Nat.reduceLT,zP,zQ,zR,zV,zh,zt,hP,hk,res95,kp95,slDo,enDo,cmEV,lnC,c1,p3,hst])
  exact ⟨⟨by omega,by omega⟩,hJ ⟨j+1,by omega⟩ _ (by show m+1 - (j+1) < m+1 - j; omega) (zB3 ⟨rfl,rfl,rfl,rfl,rfl,trivial⟩)⟩
 ·have hjm:j=cs.length:=by omega
  have c1:decide ((j:Int) < (m:Int))=false:=decide_eq_false (by omega)
  (refine zA0 hctr (rs:=res95) true 300 _ _ _ ?_; simp (maxSteps:=1000000) only [VT,jg,qH,qI,qK,qR,qS,ev,qy,zH,zI,zJ,↓reduceIte,reduceCtorEq,Nat.reduceEqDiff,Nat.reduceLT,zP,zR,zW,hk,res95,kp95,slDo,enDo,cmEV,lnC,c1])
  refine hX rfl rfl ?_
  have hP:=hP0; have hk:=hk0; have hctr:=hctr0
  (refine zA0 hctr (rs:=res95) true 300 _ _ _ ?_; simp (maxSteps:=1000000) only [VT,qE,qF,qG,qH,qI,qJ,qK,qO,qP,qQ,qV,qf,qg,q0t,qu,qv,ev,qy,qz,zA,zB,zC,zD,zE,zG,zI,zJ,TE.sv,zM,↓reduceIte,reduceCtorEq,Value.oneCell',Nat.reduceEqDiff,Nat.reduceAdd,Nat.reduceLT,zP,zQ,zR,zt,hP,hk,res95,kp95,rqS,zB5,Rq.zero])
  refine zC3 (v:=.g (rqS (.sl 1 0 m cap) { Rq.zero with kind:=1,quiet:=quiet })) hC hres95 fun ρ w' hw hn _=>?_
  have i0:=hw.ini 0 (by rw [hC]; exact Nat.zero_lt_two)
  have i1:=hw.ini 1 (by rw [hC]; exact Nat.one_lt_two)
  have e0:C.ρ0 1=⟨b,[],rest,0,none⟩:=by rw [hC]; rfl
  rw [e0] at i1
  refine ⟨?_,?_,?_⟩
  ·simp [SV.den,rqS,zB8,SC.den,i1,hm]
  ·have:=hw.up; rw [hC] at this; exact this
  ·have:=(hw.hp 1 _ _ _ (by simp) rfl).heap ⟨(by show (52:Nat) ≠ zC9; decide),by rw [i1]⟩
   rw [i1,zQ9,hjm,midC_all] at this
   exact this
end
end Go.Proofs.YtcbmlanpianclaaGreatDoor
/- The methods of a line as rows of contracts and as calls of a walk; what a reading of a line ends in. -/
namespace Go.Proofs.YtcbmlanpianclaaGreatDoor
set_option linter.unusedSimpArgs false
set_option linter.unusedVariables false
open Go.RowKit
set_option maxRecDepth 100000
set_option maxHeartbeats 4000000
def zB6 (en:List EN):List SV→Option (Prop × SV)
 | [.c (.p c 0),.c (.i .i64 lo),.c (.i .i64 hi)]=>match zD en c with
  | some ⟨(t,o,iv),[.s _,.v (.slice _ n _),.s _,.i .i64 _,.b _],_⟩=>match decide (lo≤(n:Int)) && decide ((n:Int)≤hi) with
   | true=>some ((t=75∧o=0∧iv=whole),.t [])
   | false=>none
  | _=>none
 | _=>none
def zJ1 (a:Option Addr) (ws:List (List UInt8)) (en:List EN):List SV→Option (Prop × SV)
 | [.c (.p c 0),.c (.i .i64 i)]=>match zD en c with
  | some ⟨(t,o,iv),[.s _,.v (.slice a' n _),.s _,.i .i64 _,.b _],_⟩=>match zD ws i.toNat with
   | some x=>match zG3 x with
    | true=>some ((t=75∧o=0∧iv=whole∧a'=a)∧0≤i∧i < (n:Int),.c (.s x))
    | false=>none
   | none=>none
  | _=>none
 | _=>none
def zS5 (a:Option Addr) (ws:List (List UInt8)) (en:List EN):List SV→Option (Prop × SV)
 | [.c (.p c 0),.c (.i .i64 i)]=>match zD en c with
  | some ⟨(t,o,iv),[.s _,.v (.slice a' n _),.s _,.i .i64 _,.b _],_⟩=>match zD ws i.toNat with
   | some x=>match (zI2 x).2 with
    | true=>some ((t=75∧o=0∧iv=whole∧a'=a)∧0≤i∧i < (n:Int),.c (.i .i64 (zI2 x).1))
    | false=>none
   | none=>none
  | _=>none
 | _=>none
def tC2 (a:Option Addr) (ws:List (List UInt8)):Ctr:=fun f en xs=>match f with
 | 92=>zB6 en xs
 | 101=>zJ1 a ws en xs
 | 93=>zS5 a ws en xs
 | _=>tC1 f en xs
theorem zE4 {ρ:Nat→RE} {pr:Nat→Prop} {en:List EN} {w:World} {c:Nat} {t:TypeId} {cells:List SC} {mu:Bool} (hHp:Hp ρ pr en w) (hHo:Ho ρ pr en) (hc:pr c) (he:zD en c=some ⟨(t,0,whole),cells,mu⟩) (ht:t ≠ zC9) (hne:cells ≠ []) :
  Blk w (ρ c).blk t (zB8 ρ cells).toArray∧zE1 ρ c 0=.pointer (some ⟨(ρ c).blk,0,none⟩)∧(ρ c).pre=[]∧(ρ c).post=[]∧(ρ c).nl=none:=by
 have hnl:(ρ c).nl=none:=Decidable.byContradiction fun hd=>hne ((hHp c _ _ _ hc he).non hd)
 obtain ⟨_,h1,h2⟩:=hHo c _ _ _ hc he
 have:=(hHp c _ _ _ hc he).heap ⟨ht,hnl⟩
 rw [h1,h2] at this
 refine ⟨by simpa [Blk] using this,by simp [zE1,h1],h1,h2,hnl⟩
theorem zR9 {C:Cx} {a:Option Addr} {ws:List (List UInt8)} {g:Nat} (hP:C.P=Tryz.prog) (hE:zM6 C) (hW:∀ w,Upd C.S C.w0 w→RawSV w g a ws) (hl:∀ x∈ws,x.length≤9223372036854775807):zC1 C (tC2 a ws):=by
 intro f en xs p v h hp ρ w hup hHp hHo hinj hwf
 unfold tC2 at h
 split at h
 ·rw [hP]
  refine ⟨fun args w=>Tryz.call92 args w,?_⟩
  unfold zB6 at h
  split at h <;> try cases h
  rename_i c lo hi
  split at h <;> try cases h
  rename_i t o iv nm a' n cp bh u q mu he
  split at h <;> simp only [Option.some.injEq,Prod.mk.injEq,reduceCtorEq] at h
  rename_i hb
  simp only [Bool.and_eq_true,decide_eq_true_eq] at hb
  obtain ⟨rfl,rfl⟩:=h
  obtain ⟨rfl,rfl,rfl⟩:=hp
  have hc:c < en.length:=hwf _ (List.mem_cons_self ..)
  obtain ⟨k1,k2,_⟩:=zE4 hHp hHo hc he (by decide) (by simp)
  refine ⟨(by intro x hx; cases hx),?_⟩
  have:=count_yes (name:=nm) (a:=a') (n:=n) (c:=cp) (behind:=bh) (used:=u) (quiet:=q) (g:=(ρ c).blk) k1 lo hi hb.1 hb.2 (hE w hup)
  simpa only [List.map_cons,List.map_nil,SV.den,SC.den,k2] using this
 ·rw [hP]
  refine ⟨fun args w=>Tryz.call101 args w,?_⟩
  unfold zJ1 at h
  split at h <;> try cases h
  rename_i c i
  split at h <;> try cases h
  rename_i t o iv nm a' n cp bh u q mu he
  split at h <;> try cases h
  rename_i x hx
  split at h <;> simp only [Option.some.injEq,Prod.mk.injEq,reduceCtorEq] at h
  rename_i hb
  obtain ⟨rfl,rfl⟩:=h
  obtain ⟨⟨rfl,rfl,rfl,rfl⟩,h0,h1⟩:=hp
  have hc:c < en.length:=hwf _ (List.mem_cons_self ..)
  obtain ⟨k1,k2,_⟩:=zE4 hHp hHo hc he (by decide) (by simp)
  rw [zA3] at hx
  refine ⟨trivial,?_⟩
  have:=key_yes (name:=nm) (n:=n) (c:=cp) (behind:=bh) (used:=u) (quiet:=q) (g:=(ρ c).blk) k1 (hW w hup) h0 h1 hx (hl x (List.mem_of_getElem? hx)) hb (hE w hup)
  simpa only [List.map_cons,List.map_nil,SV.den,SC.den,k2] using this
 ·rw [hP]
  refine ⟨fun args w=>Tryz.call93 args w,?_⟩
  unfold zS5 at h
  split at h <;> try cases h
  rename_i c i
  split at h <;> try cases h
  rename_i t o iv nm a' n cp bh u q mu he
  split at h <;> try cases h
  rename_i x hx
  split at h <;> simp only [Option.some.injEq,Prod.mk.injEq,reduceCtorEq] at h
  rename_i hb
  obtain ⟨rfl,rfl⟩:=h
  obtain ⟨⟨rfl,rfl,rfl,rfl⟩,h0,h1⟩:=hp
  have hc:c < en.length:=hwf _ (List.mem_cons_self ..)
  obtain ⟨k1,k2,_⟩:=zE4 hHp hHo hc he (by decide) (by simp)
  rw [zA3] at hx
  refine ⟨trivial,?_⟩
  have:=lsec_yes (name:=nm) (n:=n) (c:=cp) (behind:=bh) (used:=u) (quiet:=q) (g:=(ρ c).blk) k1 (hW w hup) h0 h1 hx (hl x (List.mem_of_getElem? hx)) hb (hE w hup)
  simpa only [List.map_cons,List.map_nil,SV.den,SC.den,k2] using this
 ·exact zZ8 hP hE f en xs p v h hp ρ w hup hHp hHo hinj hwf
def EnvG (g:Nat) (w:World):Prop:=∃ w0,Env w0∧w0.heap.size≤g∧Below w0.heap.size w0 w
theorem EnvG.env {g:Nat} {w:World} (h:EnvG g w):Env w:=let ⟨_,h1,_,h3⟩:=h; h1.below h3
theorem EnvG.upd {g:Nat} {w w':World} (h:EnvG g w) (hu:Upd (One g) w w'):EnvG g w':=by
 obtain ⟨w0,h1,h2,h3⟩:=h
 refine ⟨w0,h1,h2,⟨hu.os.trans h3.os,hu.tape.trans h3.tape,hu.output.trans h3.output,Nat.le_trans h3.size hu.size,fun k hk=>?_⟩⟩
 exact (hu.block k (Nat.lt_of_lt_of_le hk h3.size) (fun e=>by have e2:k=g:=e; omega)).trans (h3.block k hk)
theorem EnvG.C {C:Cx} {g:Nat} {w:World} (h:EnvG g w) (hS:C.S=One g) (hw:C.w0=w):zM6 C:=fun w' hu=>by rw [hS,hw] at hu; exact (h.upd hu).env
theorem RawSV.pre {w:World} {g:Nat} {a:Option Addr} {ws w1:List (List UInt8)} {n:Nat} (h:RawSV w g a ws) (he:w1=ws.take n):RawSV w g a w1:=by
 intro k x hx
 rw [he,List.getElem?_take] at hx
 split at hx
 ·exact h k x hx
 ·cases hx
section
variable {C:Cx} {nt:Nat} {sl:List (Nat × SV)} {en:List EN} {k:List KI} {dst:Option Nat} {ty:TypeId} {pos:String} {af:Array Edge} {all r:List Oper} {gd:Option (Nat × Bool)} {args:Array Operand} {tys:Array TypeId}
variable {P:Program} {fn:Func} {R:Ending→World→Prop} {S:Nat→Prop} {w0:World} {ρ0:Nat→RE} {n0:Nat} {kp:List Nat}
variable {name:List UInt8} {a:Option Addr} {n c:Nat} {ws:List (List UInt8)} {behind:List UInt8} {used:Int} {quiet mu:Bool} {g:Nat}
theorem zE8 {lo hi:Int} (hC:C=zL P fn R S w0 ρ0 n0 kp) (hP:C.P=Tryz.prog) (hE:zM6 C) (hxs:qw sl args.toList=some [.c (.p 0 0),.c (.i .i64 lo),.c (.i .i64 hi)]) (hg:gdT all sl gd=true)
  (h0:zD en 0=some ⟨(75,0,whole),lnC name (.v (.slice a n c)) behind used quiet,mu⟩) (hb:¬ (lo≤(n:Int)∧(n:Int)≤hi)) (h:∀ ρ w',Hw C ρ (· < en.length) en w'→R (.panicked (zJ3 zA5)) w') :
  Run C (.ops all (⟨dst,.call ⟨.value (.func 92),args,tys⟩,ty,pos,af,gd⟩ :: r) :: k) nt sl en:=by
 refine zT3 hxs hg (fun args w=>by rw [hP]; exact Tryz.call92 args w) (zJ3 zA5) fun ρ w' hw hn hwf=>?_
 rw [hP]
 obtain ⟨k1,k2,_⟩:=zE4 hw.hp hw.ho (hwf _ (List.mem_cons_self ..)) h0 (by decide) (by simp [lnC])
 have:=count_no (name:=name) (a:=a) (n:=n) (c:=c) (behind:=behind) (used:=used) (quiet:=quiet) (g:=(ρ 0).blk) k1 lo hi hb (hE w' hw.up)
 simp only [List.map_cons,List.map_nil,SV.den,SC.den,k2]
 refine this.mono ?_
 rintro e w'' ⟨rfl,hbl⟩
 exact ⟨rfl,fun a ha=>q_pan hC (h ρ w'' (hw.same hbl)) a ha⟩
theorem zO7 {i:Int} {x:List UInt8} (hC:C=zL P fn R S w0 ρ0 n0 kp) (hP:C.P=Tryz.prog) (hE:zM6 C) (hW:∀ w,Upd C.S C.w0 w→RawSV w g a ws) (hl:∀ x∈ws,x.length≤9223372036854775807) (hxs:qw sl args.toList=some [.c (.p 0 0),.c (.i .i64 i)]) (hg:gdT all sl gd=true)
  (h0:zD en 0=some ⟨(75,0,whole),lnC name (.v (.slice a n c)) behind used quiet,mu⟩) (i0:0≤i) (i1:i < (n:Int)) (hx:ws[i.toNat]?=some x) (hb:zG3 x=false) (h:∀ ρ w',Hw C ρ (· < en.length) en w'→R (.panicked (zJ3 zA2)) w') :
  Run C (.ops all (⟨dst,.call ⟨.value (.func 101),args,tys⟩,ty,pos,af,gd⟩ :: r) :: k) nt sl en:=by
 refine zT3 hxs hg (fun args w=>by rw [hP]; exact Tryz.call101 args w) (zJ3 zA2) fun ρ w' hw hn hwf=>?_
 rw [hP]
 obtain ⟨k1,k2,_⟩:=zE4 hw.hp hw.ho (hwf _ (List.mem_cons_self ..)) h0 (by decide) (by simp [lnC])
 have:=key_no (name:=name) (n:=n) (c:=c) (behind:=behind) (used:=used) (quiet:=quiet) (g:=(ρ 0).blk) k1 (hW w' hw.up) i0 i1 hx (hl x (List.mem_of_getElem? hx)) hb (hE w' hw.up)
 simp only [List.map_cons,List.map_nil,SV.den,SC.den,k2]
 refine this.mono ?_
 rintro e w'' ⟨rfl,hbl⟩
 exact ⟨rfl,fun a ha=>q_pan hC (h ρ w'' (hw.same hbl)) a ha⟩
theorem zV6 {i:Int} {x:List UInt8} (hC:C=zL P fn R S w0 ρ0 n0 kp) (hP:C.P=Tryz.prog) (hE:zM6 C) (hW:∀ w,Upd C.S C.w0 w→RawSV w g a ws) (hl:∀ x∈ws,x.length≤9223372036854775807) (hxs:qw sl args.toList=some [.c (.p 0 0),.c (.i .i64 i)]) (hg:gdT all sl gd=true)
  (h0:zD en 0=some ⟨(75,0,whole),lnC name (.v (.slice a n c)) behind used quiet,mu⟩) (i0:0≤i) (i1:i < (n:Int)) (hx:ws[i.toNat]?=some x) (hb:(zI2 x).2=false) (h:∀ ρ w',Hw C ρ (· < en.length) en w'→R (.panicked (zJ3 zG9)) w') :
  Run C (.ops all (⟨dst,.call ⟨.value (.func 93),args,tys⟩,ty,pos,af,gd⟩ :: r) :: k) nt sl en:=by
 refine zT3 hxs hg (fun args w=>by rw [hP]; exact Tryz.call93 args w) (zJ3 zG9) fun ρ w' hw hn hwf=>?_
 rw [hP]
 obtain ⟨k1,k2,_⟩:=zE4 hw.hp hw.ho (hwf _ (List.mem_cons_self ..)) h0 (by decide) (by simp [lnC])
 have:=lsec_no (name:=name) (n:=n) (c:=c) (behind:=behind) (used:=used) (quiet:=quiet) (g:=(ρ 0).blk) k1 (hW w' hw.up) i0 i1 hx (hl x (List.mem_of_getElem? hx)) hb (hE w' hw.up)
 simp only [List.map_cons,List.map_nil,SV.den,SC.den,k2]
 refine this.mono ?_
 rintro e w'' ⟨rfl,hbl⟩
 exact ⟨rfl,fun a ha=>q_pan hC (h ρ w'' (hw.same hbl)) a ha⟩
end
theorem dens_ln (ρ:Nat→RE) (name:List UInt8) (W:Value) (behind:List UInt8) (used:Int) (quiet:Bool):zB8 ρ (lnC name (.v W) behind used quiet)=[.string ⟨name.toArray⟩,W,.string ⟨behind.toArray⟩,.int .i64 used,.bool quiet]:=rfl
theorem off_h {C:Cx} {nE:Nat} {mk:Nat→Prop} {en en':List EN} {name:List UInt8} {a:Option Addr} {c:Nat} {ws:List (List UInt8)} {behind:List UInt8} {used:Int} {N:Nat}
  (hP:C.P=Tryz.prog) (hE:zM6 C) (h0:zD en N=some ⟨(75,0,whole),lnC name (.v (.slice a ws.length c)) behind used false,true⟩) (hN:N < nE) (hc:ws.length≤c) (hn:ws.length≤1000000000)
  {g:Nat} (hN0:N < C.n0) (hr:C.ρ0 N=zD7 g) (hW:∀ w,Upd C.S C.w0 w→RawSV w g a ws) (hmk:∀ q,¬ mk q) (hen:en'=zE en N ⟨(75,0,whole),lnC name (.v (.slice a (zN5 ws).1.length c)) behind used (zN5 ws).2,true⟩) :
  zJ0 C nE mk en en' 97 [.c (.p N 0)] (.t []):=by
 subst hen
 refine ⟨fun args w=>by rw [hP]; exact Tryz.call97 args w,?_⟩
 intro ρ pr w hpr hmn hw hex hwf
 rw [hP]
 have hNp:=hpr N hN
 obtain ⟨k1,k2,k3,k4,k5⟩:=zE4 hw.hp hw.ho hNp h0 (by decide) (by simp [lnC])
 have hoff:=off_w (name:=name) (c:=c) (behind:=behind) (used:=used) (g:=(ρ N).blk) ⟨k1,(by rw [hw.ini N hN0,hr]; exact hW w hw.up),Nat.le_refl _,hc⟩ hn (hE w hw.up)
 have hpl:∀ c,pr c→c < en.length:=by
  intro q hq
  refine Decidable.byContradiction fun hd=>hex q hq ?_
  rw [zA3,List.getElem?_eq_none (by omega)]
 simp only [List.map_cons,List.map_nil,SV.den,SC.den,k2]
 refine hoff.mono ?_
 rintro e w' ⟨rfl,hU,hb⟩
 refine ⟨ρ,fun _ _=>rfl,rfl,(by intro x hx; cases hx),?_,fun q hq=>absurd hq (hmk q)⟩
 have:=hw.turn hpl hNp h0 (by show ¬ (75:Nat)=zC9; decide) k5 hU (cells':=lnC name (.v (.slice a (zN5 ws).1.length c)) behind used (zN5 ws).2) (by rw [k3,k4]; simpa [Blk,dens_ln,lnA] using hb) (by
  intro x hx
  simp only [lnC,List.mem_cons,List.not_mem_nil,or_false] at hx
  rcases hx with rfl | rfl | rfl | rfl | rfl <;> trivial)
 exact this.iff fun q=>⟨fun h=>h.resolve_right (hmk q),Or.inl⟩
theorem do_h {C:Cx} {nE:Nat} {mk:Nat→Prop} {en en':List EN} {name:List UInt8} {W:Value} {behind:List UInt8} {used:Int} {quiet mu:Bool} {N M:Nat} {V:SC} {I:RE→Prop} {cs:List Cd} {bfr:Nat}
  (hP:C.P=Tryz.prog) (h0:zD en M=some ⟨(75,0,whole),lnC name (.v W) behind used quiet,mu⟩) (h1:zD en N=some ⟨(52,bfr,I),zC2 rcS cs,true⟩) (hb:bfr=0) (hM:M < nE) (hNE:N < nE) (hMN:M ≠ N) (jB:cs ≠ []) (hlen:cs.length≤100000000)
  (hV:∀ ρ:Nat→RE,(ρ N).pre=[]→(ρ N).nl=none→I (ρ N)→∃ cap,cs.length≤cap∧V.den ρ=.slice (some ⟨(ρ N).blk,0,none⟩) cs.length cap) (hVw:∀ pr:Nat→Prop,pr N→V.wf pr) (hmk:∀ q,¬ mk q) (hen:en'=zE en N ⟨(52,bfr,I),zC2 rcS (cs.map reC),true⟩) :
  zJ0 C nE mk en en' 95 [.c (.p M 0),.c V] (.g (rqS V { Rq.zero with kind:=1,quiet:=quiet })):=by
 subst hen; subst hb
 refine ⟨fun args w=>by rw [hP]; exact Tryz.call95 args w,?_⟩
 intro ρ pr w hpr hmn hw hex hwf
 rw [hP]
 have hMp:=hpr M hM
 have hNp:=hpr N hNE
 obtain ⟨k1,k2,k3,k4,k5⟩:=zE4 hw.hp hw.ho hMp h0 (by decide) (by simp [lnC])
 have hne:zC2 rcS cs ≠ []:=by
  cases cs with
  | nil=>exact absurd rfl jB
  | cons c cs=>simp [zC2,rcS]
 have n5:(ρ N).nl=none:=Decidable.byContradiction fun hd=>hne ((hw.hp N _ _ _ hNp h1).non hd)
 obtain ⟨n3,nI⟩:=hw.ho N _ _ _ hNp h1
 have n3':(ρ N).pre=[]:=List.eq_nil_of_length_eq_zero n3
 have hl:(52:Nat) ≠ zC9:=by decide
 have n1:=(hw.hp N _ _ _ hNp h1).heap ⟨hl,n5⟩
 rw [n3',List.nil_append,zQ9] at n1
 have hbne:(ρ N).blk ≠ (ρ M).blk:=fun e=>hMN (hw.inj M N hMp hNp ((zA4 h0).2 ⟨(by show ¬ (75:Nat)=zC9; decide),k5⟩) ((zA4 h1).2 ⟨hl,n5⟩) e.symm)
 obtain ⟨cap,hcap,hVd⟩:=hV ρ n3' n5 nI
 have hpl:∀ c,pr c→c < en.length:=by
  intro q hq
  refine Decidable.byContradiction fun hd=>hex q hq ?_
  rw [zA3,List.getElem?_eq_none (by omega)]
 have hargs:(List.map (SV.den ρ) [.c (.p M 0),.c V]).toArray=#[.pointer (some ⟨(ρ M).blk,0,none⟩),.slice (some ⟨(ρ N).blk,0,none⟩) cs.length cap]:=by
  show #[zE1 ρ M 0,SC.den ρ V]=_
  rw [hVd,k2]
 rw [hargs]
 have hdo:=do_w (name:=name) (W:=W) (behind:=behind) (used:=used) (quiet:=quiet) (g:=(ρ M).blk) k1 n1 hbne cap hcap hlen
 have hvd:SV.den (fun k=>if k=0 then zD7 (ρ M).blk else ⟨(ρ N).blk,[],(ρ N).post,0,none⟩) (.g (rqS (.sl 1 0 cs.length cap) { Rq.zero with kind:=1,quiet:=quiet }))=SV.den ρ (.g (rqS V { Rq.zero with kind:=1,quiet:=quiet })):=by
  show Value.agg #[_,_,_,_,_,_,_,_,_,_,_]=Value.agg #[_,SC.den ρ V,_,_,_,_,_,_,_,_,_]
  rw [hVd]
  rfl
 rw [hvd] at hdo
 refine hdo.mono ?_
 rintro e w' ⟨rfl,hU,hbk⟩
 refine ⟨ρ,fun _ _=>rfl,rfl,?_,?_,fun q hq=>absurd hq (hmk q)⟩
 ·intro x hx
  simp only [rqS,List.mem_cons,List.not_mem_nil,or_false] at hx
  rcases hx with rfl | rfl | rfl | rfl | rfl | rfl | rfl | rfl | rfl | rfl | rfl
  case inr.inl=>exact hVw _ (.inl hNp)
  all_goals trivial
 ·have:=hw.turn hpl hNp h1 hl n5 hU (cells':=zC2 rcS (cs.map reC)) (by rw [n3',List.nil_append,zQ9]; exact hbk) (rc_wf _ _)
  exact this.iff fun q=>⟨fun h=>h.resolve_right (hmk q),Or.inl⟩
end Go.Proofs.YtcbmlanpianclaaGreatDoor
/- What a reading of a line ends in: a request in memory, or a fault. -/
namespace Go.Proofs.YtcbmlanpianclaaGreatDoor
set_option linter.unusedSimpArgs false
set_option linter.unusedVariables false
open Go.RowKit
set_option maxRecDepth 100000
def rqA (cv:Value) (r:Rq):Value:=.agg #[.int .i64 r.kind,cv,.bool r.quiet,.bool r.tokens,.string ⟨r.reply.toArray⟩,.string ⟨r.arg.toArray⟩,.int .i64 r.skip,.bool r.close,.string ⟨#[]⟩,.slice none 0 0,.string ⟨r.word.toArray⟩]
def CmdV (b:Nat) (w':World) (cv:Value) (cs:List Cd):Prop:=
 (cs=[]∧cv=.slice none 0 0) ∨
 (cs ≠ []∧∃ g cap rest,cv=.slice (some ⟨g,0,none⟩) cs.length cap∧b≤g∧w'.heap[g]?=some (.cells (cs.flatMap rcA++rest).toArray 52 (0,0))∧(cs.flatMap rcA++rest).length=cap * 16∧cs.length≤cap∧cap≤maxLen)
def ReqV (b:Nat) (w':World) (v:Value) (r:Rq):Prop:=∃ cv,v=rqA cv r∧CmdV b w' cv r.cmds
def MP (F:Value→Bool→Value) (g:Nat) (w:World) (o:Rd') (e:Ending) (w':World):Prop:=
 Upd (One g) w w'∧match o with
 | .fault f=>e=.panicked (zJ3 f)∧w'.cell? ⟨g,3,none⟩=some (.int .i64 0)
 | .got r more used=>∃ v,e=.returned (F v more)∧ReqV w.heap.size w' v r∧w'.cell? ⟨g,3,none⟩=some (.int .i64 used)
def F1:Value→Bool→Value:=fun v _=>v
def F2:Value→Bool→Value:=fun v more=>.tuple #[v,.bool more]
structure LW (C:Cx) (g:Nat) (w:World):Prop where
 S:C.S=One g
 w0:C.w0=w
 n0:0 < C.n0
 r0:C.ρ0 0=zD7 g
section
variable {C:Cx} {ρ:Nat→RE} {en:List EN} {w w':World} {g:Nat} {name:List UInt8} {W:Value} {behind:List UInt8} {used:Int} {quiet mu:Bool}
theorem LW.up (h:LW C g w) (hw:Hw C ρ (· < en.length) en w'):Upd (One g) w w':=by
 have:=hw.up; rw [h.S,h.w0] at this; exact this
theorem LW.usedC (h:LW C g w) (hw:Hw C ρ (· < en.length) en w') (hen:zD en 0=some ⟨(75,0,whole),lnC name (.v W) behind used quiet,mu⟩):w'.cell? ⟨g,3,none⟩=some (.int .i64 used):=by
 have:=(ln_blk hw hen h.n0 h.r0).cell 3
 exact this
theorem LW.ne (h:LW C g w) (hw:Hw C ρ (· < en.length) en w') (hen:zD en 0=some ⟨(75,0,whole),lnC name (.v W) behind used quiet,mu⟩) {N:Nat} {ty:TypeId × Nat × (RE→Prop)} {cells:List SC} (hN:zD en N=some ⟨ty,cells,true⟩) (h0:0 ≠ N) (hd:ty.1 ≠ zC9) (hnl:(ρ N).nl=none):w.heap.size≤(ρ N).blk:=by
 have l0:0 < en.length:=by rw [zA3] at hen; exact (List.getElem?_eq_some_iff.1 hen).1
 have lN:N < en.length:=by rw [zA3] at hN; exact (List.getElem?_eq_some_iff.1 hN).1
 have e0:ρ 0=zD7 g:=by rw [hw.ini 0 h.n0,h.r0]
 have hne:(ρ 0).blk ≠ (ρ N).blk:=fun e=>h0 (hw.inj 0 N l0 lN ((zA4 hen).2 ⟨(by show ¬ (75:Nat)=zC9; decide),by rw [e0]; rfl⟩) ((zA4 hN).2 ⟨hd,hnl⟩) e)
 rcases hw.mu N _ _ lN hN with hS | hS
 ·rw [h.S] at hS
  exact absurd (by rw [e0]; exact hS.symm) hne
 ·rw [← h.w0]; exact hS
theorem LW.cmd_sl (h:LW C g w) (hw:Hw C ρ (· < en.length) en w') (hen:zD en 0=some ⟨(75,0,whole),lnC name (.v W) behind used quiet,mu⟩) {N:Nat} {cs:List Cd} (hN:zD en N=some ⟨(52,0,whole),zC2 rcS cs,true⟩) (h0:0 ≠ N) (jB:cs ≠ []) (hl:cs.length≤100000000) :
  CmdV w.heap.size w' ((SC.sl N 0 cs.length cs.length).den ρ) cs:=by
 have lN:N < en.length:=by rw [zA3] at hN; exact (List.getElem?_eq_some_iff.1 hN).1
 have hne:zC2 rcS cs ≠ []:=by
  cases cs with
  | nil=>exact absurd rfl jB
  | cons c cs=>simp [zC2,rcS]
 have hnl:(ρ N).nl=none:=Decidable.byContradiction fun hd=>hne ((hw.hp N _ _ _ lN hN).non hd)
 obtain ⟨_,k1,k2⟩:=hw.ho N _ _ _ lN hN
 have hb:=(hw.hp N _ _ _ lN hN).heap ⟨(by show ¬ (52:Nat)=zC9; decide),hnl⟩
 rw [k1,k2,List.nil_append,zQ9] at hb
 refine .inr ⟨jB,(ρ N).blk,cs.length,[],by simp [SC.den,k1],h.ne hw hen hN h0 (by show ¬ (52:Nat)=zC9; decide) hnl,hb,?_,Nat.le_refl _,by unfold maxLen; omega⟩
 have:=congrArg List.length (zQ9 ρ cs)
 rw [zD1,zP9 rcS_len] at this
 simp only [List.append_nil]
 omega
theorem LW.cmd_rw (h:LW C g w) (hw:Hw C ρ (· < en.length) en w') (hen:zD en 0=some ⟨(75,0,whole),lnC name (.v W) behind used quiet,mu⟩) {N L:Nat} {cs:List Cd} (hN:zD en N=some ⟨(52,0,rowP 16 cs.length L),zC2 rcS cs,true⟩) (h0:0 ≠ N) (jB:cs ≠ []) :
  CmdV w.heap.size w' ((SC.rw N cs.length).den ρ) cs:=by
 have lN:N < en.length:=by rw [zA3] at hN; exact (List.getElem?_eq_some_iff.1 hN).1
 have hne:zC2 rcS cs ≠ []:=by
  cases cs with
  | nil=>exact absurd rfl jB
  | cons c cs=>simp [zC2,rcS]
 have hnl:(ρ N).nl=none:=Decidable.byContradiction fun hd=>hne ((hw.hp N _ _ _ lN hN).non hd)
 obtain ⟨_,hL,hO⟩:=hw.ho N _ _ _ lN hN
 obtain ⟨k0,k1,k2,k3,k4⟩:=hO.resolve_right (fun hd=>by rw [hnl] at hd; exact absurd hd.1 (by simp))
 have hb:=(hw.hp N _ _ _ lN hN).heap ⟨(by show ¬ (52:Nat)=zC9; decide),hnl⟩
 rw [k1,List.nil_append,zQ9] at hb
 refine .inr ⟨jB,(ρ N).blk,(ρ N).cap,(ρ N).post,by simp only [SC.den]; rw [zI3 hnl],h.ne hw hen hN h0 (by show ¬ (52:Nat)=zC9; decide) hnl,hb,?_,k3,k4⟩
 rw [← zQ9 ρ,List.length_append,zD1,zP9 rcS_len,← hL]
 exact k2
end
section
variable {C:Cx} {w:World} {g:Nat} {F:Value→Bool→Value} {o:Rd'} {fn:Func} {ρ0:Nat→RE} {n0:Nat} {kp:List Nat} {en:List EN} {rs:List ResultVar}
theorem zS9 (hC:C=zL Tryz.prog fn (MP F g w o) (One g) w ρ0 n0 kp) (hn:0 < n0) (hr:ρ0 0=zD7 g):LW C g w:=by subst hC; exact ⟨rfl,rfl,hn,hr⟩
theorem zC6 (hC:C=zL Tryz.prog fn (MP F g w o) (One g) w ρ0 n0 kp) (hn:0 < n0) (hr:ρ0 0=zD7 g) {f:List UInt8} (ho:o=.fault f) {name:List UInt8} {W:Value} {behind:List UInt8} {quiet mu:Bool} (hen:zD en 0=some ⟨(75,0,whole),lnC name (.v W) behind 0 quiet,mu⟩) :
  ∀ ρ w',Hw C ρ (· < en.length) en w'→MP F g w o (.panicked (zJ3 f)) w':=by
 intro ρ w' hw
 have hL:=zS9 hC hn hr
 subst ho
 exact ⟨hL.up hw,rfl,hL.usedC hw hen⟩
theorem zE3 (hC:C=zL Tryz.prog fn (MP F g w o) (One g) w ρ0 n0 kp) (hn:0 < n0) (hr:ρ0 0=zD7 g) (hrs:fn.results.toList=rs) {v:SV} {r:Rq} {more:Bool} {used:Int} (ho:o=.got r more used) (hcm:r.cmds=[]) (hv:∀ ρ,v.den ρ=F (rqA (.slice none 0 0) r) more)
  {name:List UInt8} {W:Value} {behind:List UInt8} {quiet mu:Bool} (hen:zD en 0=some ⟨(75,0,whole),lnC name (.v W) behind used quiet,mu⟩):Fin C rs v en:=by
 refine zC3 hC hrs fun ρ w' hw _ _=>?_
 have hL:=zS9 hC hn hr
 subst ho
 exact ⟨hL.up hw,_,by rw [hv],⟨_,rfl,.inl ⟨hcm,rfl⟩⟩,hL.usedC hw hen⟩
theorem zW9 (hC:C=zL Tryz.prog fn (MP F g w o) (One g) w ρ0 n0 kp) (hn:0 < n0) (hr:ρ0 0=zD7 g) (hrs:fn.results.toList=rs) {v:SV} {r:Rq} {more:Bool} {used:Int} (ho:o=.got r more used) {N:Nat} (hcm:r.cmds ≠ []) (hl:r.cmds.length≤100000000) (hv:∀ ρ,v.den ρ=F (rqA ((SC.sl N 0 r.cmds.length r.cmds.length).den ρ) r) more)
  {name:List UInt8} {W:Value} {behind:List UInt8} {quiet mu:Bool} (hen:zD en 0=some ⟨(75,0,whole),lnC name (.v W) behind used quiet,mu⟩) (hN:zD en N=some ⟨(52,0,whole),zC2 rcS r.cmds,true⟩) (h0:0 ≠ N):Fin C rs v en:=by
 refine zC3 hC hrs fun ρ w' hw _ _=>?_
 have hL:=zS9 hC hn hr
 subst ho
 exact ⟨hL.up hw,_,by rw [hv],⟨_,rfl,hL.cmd_sl hw hen hN h0 hcm hl⟩,hL.usedC hw hen⟩
theorem mp_row (hC:C=zL Tryz.prog fn (MP F g w o) (One g) w ρ0 n0 kp) (hn:0 < n0) (hr:ρ0 0=zD7 g) (hrs:fn.results.toList=rs) {v:SV} {r:Rq} {more:Bool} {used:Int} (ho:o=.got r more used) {N:Nat} (hcm:r.cmds ≠ []) (hv:∀ ρ,v.den ρ=F (rqA ((SC.rw N r.cmds.length).den ρ) r) more)
  {name:List UInt8} {W:Value} {behind:List UInt8} {quiet mu:Bool} (hen:zD en 0=some ⟨(75,0,whole),lnC name (.v W) behind used quiet,mu⟩) {L:Nat} (hN:zD en N=some ⟨(52,0,rowP 16 r.cmds.length L),zC2 rcS r.cmds,true⟩) (h0:0 ≠ N):Fin C rs v en:=by
 refine zC3 hC hrs fun ρ w' hw _ _=>?_
 have hL:=zS9 hC hn hr
 subst ho
 exact ⟨hL.up hw,_,by rw [hv],⟨_,rfl,hL.cmd_rw hw hen hN h0 hcm⟩,hL.usedC hw hen⟩
end
end Go.Proofs.YtcbmlanpianclaaGreatDoor
/- The contracts of library functions that this claim uses, laid at this translation by the guide's shelf tools: each is one application of a theorem of the library. -/
namespace Go.Proofs
set_option linter.unusedSimpArgs false
set_option linter.unusedVariables false
open Go.Shelf
def Tryz.lays156_ren:Go.Shelf.Ren:=⟨fun | 156=>123 | 165=>136 | 166=>137 | 169=>89 | 240=>120 | 241=>144 | 276=>133 | 277=>146 | n=>n,fun | 31=>33 | 9=>9 | 3=>3 | 4=>4 | 0=>0 | 20=>20 | 72=>118 | 76=>154 | 70=>115 | 37=>116 | 75=>111 | 127=>141 | 164=>149 | 5=>5 | 80=>120 | n=>n,fun | n=>n⟩
theorem Tryz.lays156:Go.Proofs.Lays.n156 Tryz.prog Tryz.lays156_ren:={
 mixed:=by kernel_rfl
 f156:=Tryz.func123.trans (congrArg some (by kernel_rfl))
 f165:=Tryz.func136.trans (congrArg some (by kernel_rfl))
 f166:=Tryz.func137.trans (congrArg some (by kernel_rfl))
 f169:=Tryz.func89.trans (congrArg some (by kernel_rfl))
 f240:=Tryz.func120.trans (congrArg some (by kernel_rfl))
 f241:=Tryz.func144.trans (congrArg some (by kernel_rfl))
 f276:=Tryz.func133.trans (congrArg some (by kernel_rfl))
 f277:=Tryz.func146.trans (congrArg some (by kernel_rfl))
 t0:=Tryz.underlying0
 a0:=Tryz.isAgg0
 z0:=Tryz.sizeOf0
 v0:=Tryz.zeroValue0
 t3:=Tryz.underlying3
 a3:=Tryz.isAgg3
 z3:=Tryz.sizeOf3
 v3:=Tryz.zeroValue3
 t4:=Tryz.underlying4
 a4:=Tryz.isAgg4
 z4:=Tryz.sizeOf4
 v4:=Tryz.zeroValue4
 t9:=Tryz.underlying9
 a9:=Tryz.isAgg9
 z9:=Tryz.sizeOf9
 v9:=Tryz.zeroValue9
 t20:=Tryz.underlying20
 a20:=Tryz.isAgg20
 z20:=Tryz.sizeOf20
 v20:=Tryz.zeroValue20
 t31:=Tryz.underlying33
 a31:=Tryz.isAgg33
 z31:=Tryz.sizeOf33
 v31:=Tryz.zeroValue33
 t37:=Tryz.underlying116
 a37:=Tryz.isAgg116
 z37:=Tryz.sizeOf116
 v37:=Tryz.zeroValue116
 t70:=Tryz.underlying115
 a70:=Tryz.isAgg115
 z70:=Tryz.sizeOf115
 v70:=Tryz.zeroValue115
 t72:=Tryz.underlying118
 a72:=Tryz.isAgg118
 z72:=Tryz.sizeOf118
 v72:=Tryz.zeroValue118
 t75:=Tryz.underlying111
 a75:=Tryz.isAgg111
 z75:=Tryz.sizeOf111
 v75:=Tryz.zeroValue111
 t76:=Tryz.underlying154
 a76:=Tryz.isAgg154
 z76:=Tryz.sizeOf154
 v76:=Tryz.zeroValue154
 t127:=Tryz.underlying141
 a127:=Tryz.isAgg141
 z127:=Tryz.sizeOf141
 v127:=Tryz.zeroValue141
 t164:=Tryz.underlying149
 a164:=Tryz.isAgg149
 z164:=Tryz.sizeOf149
 v164:=Tryz.zeroValue149 }
theorem Tryz.Builder_Extra_156:Builder.Extra Tryz.prog Tryz.lays156_ren:={
 sizeBuilder:=by kernel_rfl
 liesBuilder:=by kernel_rfl
 t5:=Tryz.underlying5
 a5:=Tryz.isAgg5
 z5:=Tryz.sizeOf5
 v5:=Tryz.zeroValue5
 infoByte:=by kernel_rfl
 cellsByte:=by kernel_rfl
 sizeByte:=by kernel_rfl
 neB5:=by decide }
open Go.RowKit in
theorem Tryz.strings_Join_none (a:Option Addr) (c:Nat) (sep:ByteArray) (w:World) :
  Calls Tryz.prog 123 #[.slice a 0 c,.string sep] w fun e w'=>e=.returned (.string ⟨#[]⟩)∧w'=w:=Any.strings_Join_none Tryz.lays156 Tryz.Builder_Extra_156 a c sep w
open Go.RowKit in
theorem Tryz.strings_Join (bk o c:Nat) (xs:List ByteArray) (sep:ByteArray) (w:World) (hcells:∀ (j:Nat) x,xs[j]?=some x→w.cell? ⟨bk,o+j,none⟩=some (.string x)) (hbk:bk < w.heap.size) (hN:xs.length≤140737488355328) (hcap:xs.length≤c) (hlen:(Lib.join (xs.map (·.data.toList)) sep.data.toList).length≤140737488355328) :
  Calls Tryz.prog 123 #[.slice (some ⟨bk,o,none⟩) xs.length c,.string sep] w fun e w'=>e=.returned (.string ⟨(Lib.join (xs.map (·.data.toList)) sep.data.toList).toArray⟩)∧Below w.heap.size w w':=Any.strings_Join Tryz.lays156 Tryz.Builder_Extra_156 bk o c xs sep w hcells hbk hN hcap hlen
end Go.Proofs
/- words.Join, walked; as a row of contracts for words that are told. -/
namespace Go.Proofs.YtcbmlanpianclaaGreatDoor
set_option linter.unusedSimpArgs false
set_option linter.unusedVariables false
set_option maxHeartbeats 8000000
open Go.RowKit
set_option maxRecDepth 100000
def joinW (ws:List (List UInt8)):List UInt8:=Lib.join ws [32]
theorem join_w (bk o c:Nat) (ws:List (List UInt8)) (w:World) (hcells:∀ (j:Nat) x,ws[j]?=some x→w.cell? ⟨bk,o+j,none⟩=some (.string ⟨x.toArray⟩)) (hbk:bk < w.heap.size) (hN:ws.length≤140737488355328) (hcap:ws.length≤c) (hlen:(joinW ws).length≤140737488355328) :
  Calls Tryz.prog 123 #[.slice (some ⟨bk,o,none⟩) ws.length c,.string ⟨#[32]⟩] w fun e w'=>e=.returned (.string ⟨(joinW ws).toArray⟩)∧Below w.heap.size w w':=by
 have hm:(ws.map fun x=>(⟨x.toArray⟩:ByteArray)).map (·.data.toList)=ws:=by rw [List.map_map]; simp [Function.comp_def]
 have:=Tryz.strings_Join bk o c (ws.map fun x=>⟨x.toArray⟩) ⟨#[32]⟩ w (fun j x hx=>by
  rw [List.getElem?_map,Option.map_eq_some_iff] at hx
  obtain ⟨y,hy,rfl⟩:=hx
  exact hcells j y hy) hbk (by simpa using hN) (by simpa using hcap) (by rw [hm]; exact hlen)
 rw [hm,List.length_map] at this
 exact this
def rowSJoin (a:Option Addr) (ws:List (List UInt8)):List SV→Option (Prop × SV)
 | [.c (.v (.slice a' n c)),.c (.s [32])]=>some (a'=a∧n=ws.length∧n≤c∧n≤140737488355328∧(joinW ws).length≤140737488355328,.c (.s (joinW ws)))
 | _=>none
def jnC (a:Option Addr) (ws:List (List UInt8)):Ctr:=fun f _ xs=>match f with
 | 123=>rowSJoin a ws xs
 | _=>none
theorem jnC_ok {C:Cx} {a:Option Addr} {ws:List (List UInt8)} {g:Nat} (hP:C.P=Tryz.prog) (hW:∀ w,Upd C.S C.w0 w→RawSV w g a ws):zC1 C (jnC a ws):=by
 intro f en xs p v h hp ρ w hup hHp hHo hinj hwf
 unfold jnC at h
 split at h
 ·rw [hP]
  refine ⟨fun args w=>Tryz.call123 args w,?_⟩
  unfold rowSJoin at h
  split at h <;> simp only [Option.some.injEq,Prod.mk.injEq,reduceCtorEq] at h
  rename_i a' n c
  obtain ⟨rfl,rfl⟩:=h
  obtain ⟨rfl,rfl,h1,h2,h3⟩:=hp
  refine ⟨trivial,?_⟩
  have hr:=hW w hup
  cases ws with
  | nil =>
   refine (Tryz.strings_Join_none a' c ⟨#[32]⟩ w).mono ?_
   rintro e w' ⟨rfl,rfl⟩
   exact ⟨rfl,Below.refl _ _⟩
  | cons x ws =>
   obtain ⟨b,o,rfl,hb,_,_⟩:=hr 0 x rfl
   refine join_w b o c (x :: ws) w (fun j y hy=>?_) hb h2 h1 h3
   obtain ⟨b',o',he,_,_,hc⟩:=hr j y hy
   cases he
   exact hc
 ·cases h
theorem wjoin_w {w:World} {g:Nat} {a:Option Addr} {c:Nat} {ws:List (List UInt8)} (hr:RawSV w g a ws) (h1:ws.length≤c) (h2:ws.length≤140737488355328) (h3:(joinW ws).length≤140737488355328) :
  Calls Tryz.prog 102 #[.slice a ws.length c] w fun e w'=>e=.returned (.string ⟨(joinW ws).toArray⟩)∧Below w.heap.size w w':=by
 refine zA1 Tryz.func102 rfl kp102 (S:=Non) (ρ:=fun _=>⟨0,[],[],0,none⟩) (en:=[]) [.c (.v (.slice a ws.length c))] Tryz.ntmps102 (At.nil _ _ _) (by simp [SV.wf,SC.wf]) (by simp) ?_
 intro C hC hP hk
 have hctr:=jnC_ok (g:=g) hP (fun w' hu=>by rw [hC] at hu; exact hr.upd (hu.mono fun _ _ h=>h.elim))
 (refine zA0 hctr (rs:=res102) true 200 _ _ _ ?_; simp (maxSteps:=1000000) only [VT,qE,qF,qG,qH,qI,qK,qO,ev,qw,qy,qz,zI,zJ,TE.sv,zK,↓reduceIte,reduceCtorEq,Nat.reduceEqDiff,Nat.reduceLT,zP,zQ,zR,hk,res102,kp102,jnC,rowSJoin])
 exact ⟨⟨h1,h2,h3⟩,zH3 (v:=.c (.s (joinW ws))) hC hres102 rfl trivial⟩
def zW1 (a:Option Addr) (ws:List (List UInt8)):List SV→Option (Prop × SV)
 | [.c (.v (.slice a' n c))]=>some (a'=a∧n=ws.length∧n≤c∧n≤140737488355328∧(joinW ws).length≤140737488355328,.c (.s (joinW ws)))
 | _=>none
theorem rowWJoin_ok {en:List EN} {ρ:Nat→RE} {w:World} {xs:List SV} {p:Prop} {v:SV} {g:Nat} {a:Option Addr} {ws:List (List UInt8)} (h:zW1 a ws xs=some (p,v)) (hp:p) (hr:RawSV w g a ws) :
  v.wf (· < en.length)∧Calls Tryz.prog 102 (xs.map (SV.den ρ)).toArray w fun e w'=>e=.returned (v.den ρ)∧Below w.heap.size w w':=by
 unfold zW1 at h
 split at h <;> simp only [Option.some.injEq,Prod.mk.injEq,reduceCtorEq] at h
 obtain ⟨rfl,rfl⟩:=h
 obtain ⟨rfl,rfl,h1,h2,h3⟩:=hp
 exact ⟨trivial,wjoin_w hr h1 h2 h3⟩
end Go.Proofs.YtcbmlanpianclaaGreatDoor
