/- The document's Apply, walked. Printed by gen_refw10.py. -/
import Derived.Test.YtfpeholdlkfmoaaGreatDoorBS14
import Derived.Test.YtfpeholdlkfmoaaGreatDoorBS11
import Derived.Test.YtfpeholdlkfmoaaGreatDoorBS05
import Derived.Test.YtfpeholdlkfmoaaGreatDoorBS12
import Derived.Test.YtfpeholdlkfmoaaGreatDoorBS10
import Derived.Test.YtfpeholdlkfmoaaGreatDoorBS06
import Derived.StillTailTactics
namespace Go.Proofs.YtfpeholdlkfmoaaGreatDoor
set_option linter.unusedSimpArgs false
set_option linter.unusedVariables false
set_option maxHeartbeats 8000000
open Go.RowKit
set_option maxRecDepth 100000
theorem zU8 {X:St} {now:Int} {x:It} (h:x∈(zB1 X now).items):x∈X.items:=by
 unfold zB1 at h
 split at h
 ·cases h
 ·exact (List.mem_filter.1 h).1
theorem zR3 (X:St) (now:Int):(zB1 X now).items.length≤X.items.length:=by
 unfold zB1
 split
 ·exact Nat.zero_le _
 ·exact List.length_filter_le _ _
theorem zR1 (X:St) (x:It):(rPut X x).items.length≤X.items.length+1:=by
 unfold rPut
 simp only [List.length_append,List.length_cons,List.length_take,List.length_drop]
 split <;> omega
theorem rFit_len (X:St) (most st num:Int) (y:It):(rFit X most st num y).1.items.length≤X.items.length+1:=by
 unfold rFit
 split
 ·exact Nat.le_succ _
 ·exact zR1 { X with cas:=nx X } _
theorem rDo_len (X:St) (now:Int) (c:Cd) (most:Int) (x:It) (is:Bool):(rDo X now c most x is).1.items.length≤X.items.length+1:=by
 unfold rDo
 split
 ·unfold rGet
  split
  ·exact Nat.le_succ _
  split
  ·exact zR1 { X with cas:=nx X } _
  ·exact zR1 X _
 split
 ·unfold zT9
  split
  ·exact Nat.le_succ _
  split
  ·exact Nat.le_succ _
  split
  ·exact Nat.le_succ _
  exact rFit_len _ _ _ _ _
 split
 ·unfold rMath
  split
  ·exact Nat.le_succ _
  split
  ·exact rFit_len _ _ _ _ _
  split
  ·exact Nat.le_succ _
  split
  ·exact Nat.le_succ _
  ·exact rFit_len _ _ _ _ _
 split
 ·split
  ·exact Nat.le_succ _
  ·exact Nat.zero_le _
 split
 ·exact Nat.le_succ _
 split
 ·unfold zP7
  split
  ·exact Nat.le_succ _
  split
  ·unfold rDrop
   split
   ·simp only [List.length_append,List.length_take,List.length_drop]; omega
   ·exact Nat.le_succ _
  ·exact zR1 { X with cas:=nx X } _
 split
 ·exact Nat.le_succ _
 ·exact zR1 X _
theorem ref_len (X:St) (now:Int) (c:Cd) (most:Int):(refF X now c most).1.items.length≤X.items.length+1:=by
 unfold refF
 split
 ·have h1:=rDo_len (zB1 X now) now c most (if isF (zB1 X now).items c.key then itF (zB1 X now).items (atF (zB1 X now).items c.key) else It.zero) (isF (zB1 X now).items c.key)
  have h2:=zR3 X now
  omega
 ·exact Nat.zero_le _
end Go.Proofs.YtfpeholdlkfmoaaGreatDoor
/- What a store told is well: the plain law. No program in sight. -/
namespace Go.Proofs.YtfpeholdlkfmoaaGreatDoor
set_option linter.unusedSimpArgs false
set_option linter.unusedVariables false
open Go.RowKit
set_option maxRecDepth 100000
def ItV (n:Nat) (x:It):Prop:=x.key.length≤250∧x.val.length≤70000 * n∧-4398046511104≤x.exp∧x.exp≤4398046511104
structure NiceV (n:Nat) (X:St):Prop where
 sorted:Sorted X.items
 len:X.items.length≤n
 bd:∀ x∈X.items,ItV n x
theorem ItV.mono {n m:Nat} {x:It} (h:ItV n x) (hm:n≤m):ItV m x:=⟨h.1,by have:=h.2.1; have:70000 * n≤70000 * m:=Nat.mul_le_mul_left _ hm; omega,h.2.2⟩
theorem NiceV.live {n:Nat} {X:St} (h:NiceV n X) (now:Int):NiceV n (zB1 X now):=⟨zD6 now h.sorted,Nat.le_trans (zR3 X now) h.len,fun x hx=>h.bd x (zU8 hx)⟩
theorem NiceV.good {n:Nat} {X:St} (h:NiceV n X) (hn:n≤100):Good X:=⟨h.sorted,by have:=h.len; omega,fun x hx=>by
 obtain ⟨a,b,c,d⟩:=h.bd x hx
 have:70000 * n≤70000 * 100:=Nat.mul_le_mul_left _ hn
 exact ⟨by omega,by omega,c,by omega⟩⟩
theorem zI9 {X:St} {x y:It} (h:y∈(rPut X x).items):y=x∨y∈X.items:=by
 unfold rPut at h
 simp only [List.mem_append,List.mem_cons] at h
 rcases h with h | h | h
 ·exact .inr (List.mem_of_mem_take h)
 ·exact .inl h
 ·exact .inr (List.mem_of_mem_drop h)
theorem zJ9 {now e:Int} (h:zF5 e=true) (h0:1≤now) (h1:now≤1099511627776):-4398046511104≤zY7 now e∧zY7 now e≤4398046511104:=by rw [zL4]; exact mom_near h h0 h1
theorem dec20 (n:Int) (h0:0≤n) (h1:n < 18446744073709551616):(Lib.decDigits n.toNat).length≤20:=by
 exact zJ5 _ (by omega)
theorem parseV_bd {l:List UInt8} {n:Nat} (h:zD8 l=some n):n < 18446744073709551616:=by
 unfold zD8 at h
 split at h
 ·rename_i hh
  simp only [Option.some.injEq] at h
  subst h
  exact hh.2.2.2
 ·cases h
theorem num20 {c:Cd} (hc:CdOk c) {x:It} {v:List UInt8} (h:(if c.down then subV x.val c.delta else addV x.val c.delta)=some v):v.length≤20:=by
 split at h
 ·unfold subV at h
  split at h
  ·rename_i n hn
   simp only [Option.some.injEq] at h
   subst h
   have hn2:=parseV_bd hn
   have:=hc.d0
   exact zJ5 _ (by omega)
  ·cases h
 ·unfold addV at h
  split at h
  ·rename_i n hn
   simp only [Option.some.injEq] at h
   subst h
   exact zJ5 _ (by rw [IntKind.wrap_u64]; omega)
  ·cases h
theorem rDo_mem {n:Nat} {X:St} {now:Int} {c:Cd} {most:Int} {x:It} {is:Bool} (hm:zT0 c=true) (h0:1≤now) (h1:now≤1099511627776) (hc:CdOk c) (hX:∀ y∈X.items,ItV n y) (hx:is=true→ItV n x) {y:It} (hy:y∈(rDo X now c most x is).1.items):ItV (n+1) y:=by
 obtain ⟨m1,m2,m3,m4,m5,m6,m7⟩:=zR2 hm
 have up:∀ y∈X.items,ItV (n+1) y:=fun y hy=>(hX y hy).mono (Nat.le_succ _)
 have fit:∀ {st num:Int} {z:It},ItV (n+1) z→y∈(rFit X most st num z).1.items→ItV (n+1) y:=fun {st num z} hz hy=>by
  unfold rFit at hy
  split at hy
  ·exact up y hy
  ·rcases zI9 hy with rfl | h
   ·exact hz
   ·exact up y h
 have hkey:c.op ≠ 6→c.key.length≤250:=fun h=>key_lt (m1.resolve_left h)
 unfold rDo at hy
 split at hy
 ·rename_i ho
  unfold rGet at hy
  split at hy
  ·exact up y hy
  split at hy
  ·rcases zI9 hy with rfl | h
   ·exact ⟨hkey (by omega),Nat.zero_le _,zJ9 m3 h0 h1⟩
   ·exact up y h
  ·rename_i hns
   have his:is=true:=by cases is with | true=>rfl | false=>exact absurd rfl hns
   rcases zI9 hy with rfl | h
   ·obtain ⟨a1,a2,a3⟩:=(hx his).mono (Nat.le_succ n)
    refine ⟨a1,a2,?_⟩
    show -4398046511104≤(if c.hasExp then zY7 now c.exp else x.exp)∧(if c.hasExp then zY7 now c.exp else x.exp)≤4398046511104
    split
    ·exact zJ9 m2 h0 h1
    ·exact a3
   ·exact up y h
 split at hy
 ·rename_i ho
  unfold zT9 at hy
  split at hy
  ·exact up y hy
  rename_i hq
  split at hy
  ·exact up y hy
  split at hy
  ·exact up y hy
  refine fit ?_ hy
  unfold rNew
  have hi:c.mode=3∨c.mode=4→is=true:=fun h=>by
   cases is with
   | true=>rfl
   | false=>exact absurd (by rcases h with h | h <;> simp [h]) hq
  split
  ·rename_i h3
   obtain ⟨a1,a2,a3⟩:=hx (hi (.inl h3))
   exact ⟨a1,by show (x.val++c.val).length≤_; rw [List.length_append]; omega,a3⟩
  split
  ·rename_i h4
   obtain ⟨a1,a2,a3⟩:=hx (hi (.inr h4))
   exact ⟨a1,by show (c.val++x.val).length≤_; rw [List.length_append]; omega,a3⟩
  ·exact ⟨hkey (by omega),by show c.val.length≤_; omega,zJ9 m2 h0 h1⟩
 split at hy
 ·rename_i ho
  unfold rMath at hy
  split at hy
  ·exact up y hy
  split at hy
  ·exact fit ⟨hkey (by omega),by have:=dec20 c.init hc.i0 hc.i1; show (Lib.decDigits c.init.toNat).length≤_; omega,zJ9 m3 h0 h1⟩ hy
  rename_i hns
  have his:is=true:=by cases is with | true=>rfl | false=>exact absurd rfl hns
  split at hy
  ·exact up y hy
  split at hy
  ·exact up y hy
  ·rename_i v hv
   obtain ⟨a1,a2,a3⟩:=(hx his).mono (Nat.le_succ n)
   refine fit (z:={ x with val:=v,exp:=if c.hasExp then zY7 now c.exp else x.exp }) ⟨a1,?_,?_⟩ hy
   ·show v.length≤_
    have:=num20 hc hv
    omega
   ·show -4398046511104≤(if c.hasExp then zY7 now c.exp else x.exp)∧(if c.hasExp then zY7 now c.exp else x.exp)≤4398046511104
    split
    ·exact zJ9 m2 h0 h1
    ·exact a3
 split at hy
 ·split at hy
  ·exact up y hy
  ·cases hy
 split at hy
 ·exact up y hy
 rename_i hns
 have his:is=true:=by cases is with | true=>rfl | false=>exact absurd rfl hns
 have hxm:=(hx his).mono (Nat.le_succ n)
 split at hy
 ·unfold zP7 at hy
  split at hy
  ·exact up y hy
  split at hy
  ·unfold rDrop at hy
   split at hy
   ·simp only [List.mem_append] at hy
    rcases hy with h | h
    ·exact up y (List.mem_of_mem_take h)
    ·exact up y (List.mem_of_mem_drop h)
   ·exact up y hy
  ·rcases zI9 hy with rfl | h
   ·obtain ⟨a1,a2,a3⟩:=hxm
    refine ⟨a1,a2,?_⟩
    show -4398046511104≤(if c.hasExp then zY7 now c.exp else x.exp)∧(if c.hasExp then zY7 now c.exp else x.exp)≤4398046511104
    split
    ·exact zJ9 m2 h0 h1
    ·exact a3
   ·exact up y h
 split at hy
 ·exact up y hy
 ·rcases zI9 hy with rfl | h
  ·exact ⟨hxm.1,hxm.2.1,zJ9 m2 h0 h1⟩
  ·exact up y h
theorem zJ8 {X:St} {x:It} (h:Sorted X.items):Sorted (rPut X x).items:=by rw [zS8 h]; exact h.putL x
theorem rDo_sorted {X:St} {now:Int} {c:Cd} {most:Int} {x:It} {is:Bool} (h:Sorted X.items):Sorted (rDo X now c most x is).1.items:=by
 have fit:∀ {st num:Int} {z:It},Sorted (rFit X most st num z).1.items:=fun {st num z}=>by
  unfold rFit
  split
  ·exact h
  ·exact zJ8 (X:={ X with cas:=nx X }) h
 unfold rDo
 split
 ·unfold rGet
  split
  ·exact h
  split
  ·exact zJ8 (X:={ X with cas:=nx X }) h
  ·exact zJ8 h
 split
 ·unfold zT9
  split
  ·exact h
  split
  ·exact h
  split
  ·exact h
  exact fit
 split
 ·unfold rMath
  split
  ·exact h
  split
  ·exact fit
  split
  ·exact h
  split
  ·exact h
  ·exact fit
 split
 ·split
  ·exact h
  ·exact Sorted.nil
 split
 ·exact h
 split
 ·unfold zP7
  split
  ·exact h
  split
  ·unfold rDrop
   split
   ·show Sorted (X.items.take (atF X.items c.key)++X.items.drop (atF X.items c.key+1))
    rw [← List.eraseIdx_eq_take_drop_succ]
    exact h.erase _
   ·exact h
  ·exact zJ8 (X:={ X with cas:=nx X }) h
 split
 ·exact h
 ·exact zJ8 h
theorem nice_step {n:Nat} {X:St} {now:Int} {c:Cd} {most:Int} (h:NiceV n X) (hc:CdOk c):NiceV (n+1) (zA9 X now c most).1:=by
 rw [← ref_eq h.sorted]
 have hl:=ref_len X now c most
 refine ⟨?_,by have:=h.len; omega,?_⟩
 ·unfold refF
  split
  ·exact rDo_sorted (zD6 now h.sorted)
  ·exact Sorted.nil
 ·intro y hy
  unfold refF at hy
  split at hy
  ·rename_i hm
   have hlv:=h.live now
   refine rDo_mem hm.1 hm.2.1 hm.2.2 hc hlv.bd (fun his=>?_) hy
   have hlt:=zG7 his
   rw [if_pos his]
   refine hlv.bd _ ?_
   have:itF (zB1 X now).items (atF (zB1 X now).items c.key)=(zB1 X now).items[atF (zB1 X now).items c.key]:=by unfold itF; rw [List.getD_eq_getElem?_getD,List.getElem?_eq_getElem hlt]; rfl
   rw [this]
   exact List.getElem_mem hlt
  ·cases hy
theorem live_live (X:St) (now:Int):zB1 (zB1 X now) now=zB1 X now:=by
 unfold zB1
 by_cases h:X.flush ≠ 0∧X.flush≤now
 ·rw [if_pos h]
  simp
 ·rw [if_neg h]
  simp only
  rw [if_neg h]
  simp
theorem app_live (X:St) (now:Int) (c:Cd) (most:Int):zA9 (zB1 X now) now c most=zA9 X now c most:=by
 unfold zA9
 rw [live_live]
theorem eqCs_self:∀ l:List SC,(∀ x∈l,qL x x=true)→qM l l=true
 | [],_=>rfl
 | x :: l,h=>by simp only [qM,h x (List.mem_cons_self ..),eqCs_self l (fun y hy=>h y (List.mem_cons_of_mem _ hy)),Bool.and_self]
theorem eqAn_self (a:An):eqAn a a=true:=by
 refine eqCs_self _ fun x hx=>?_
 simp only [anS,List.mem_cons,List.not_mem_nil,or_false] at hx
 rcases hx with rfl | rfl | rfl | rfl | rfl | rfl | rfl | rfl | rfl | rfl | rfl | rfl | rfl <;> simp [qL]
theorem eqAn_st {a b:An} (h:a.st ≠ b.st):eqAn a b=false:=by
 simp [eqAn,anS,qM,qL,h]
theorem st_ne12 {X:St} {now:Int} {c:Cd} {most:Int} (h:Sorted X.items):(zA9 X now c most).2.st ≠ 12:=by
 rw [← ref_eq h]
 have fit:∀ {X:St} {st num:Int} {z:It},st ≠ 12→(rFit X most st num z).2.st ≠ 12:=fun {X st num z} hz=>by
  unfold rFit
  split
  ·show (11:Int) ≠ 12; decide
  ·exact hz
 have nt:∀ {X:St} {n:Int},n ≠ 12→((X,zA7 n):St × An).2.st ≠ 12:=fun h=>h
 unfold refF
 split
 ·generalize (if isF (zB1 X now).items c.key then itF (zB1 X now).items (atF (zB1 X now).items c.key) else It.zero)=x
  generalize isF (zB1 X now).items c.key=is
  generalize zB1 X now=Y
  unfold rDo
  split
  ·unfold rGet
   split
   ·exact nt (by decide)
   split
   ·show (1:Int) ≠ 12; decide
   ·show (1:Int) ≠ 12; decide
  split
  ·unfold zT9
   split
   ·exact nt (by decide)
   split
   ·exact nt (by decide)
   split
   ·exact nt (by decide)
   exact fit (by decide)
  split
  ·unfold rMath
   split
   ·exact nt (by decide)
   split
   ·exact fit (by decide)
   split
   ·exact nt (by decide)
   split
   ·exact nt (by decide)
   ·exact fit (by decide)
  split
  ·split <;> exact nt (by decide)
  split
  ·exact nt (by decide)
  split
  ·unfold zP7
   split
   ·exact nt (by decide)
   split
   ·show (9:Int) ≠ 12; decide
   ·show (9:Int) ≠ 12; decide
  split
  ·show (1:Int) ≠ 12; decide
  ·show (8:Int) ≠ 12; decide
 ·show (0:Int) ≠ 12; decide
end Go.Proofs.YtfpeholdlkfmoaaGreatDoor
/- audit's live, walked. Printed by gen_aulive.py. -/
namespace Go.Proofs.YtfpeholdlkfmoaaGreatDoor
set_option linter.unusedSimpArgs false
set_option linter.unusedVariables false
set_option maxHeartbeats 8000000
open Go.RowKit
set_option maxRecDepth 100000
def alS (a:Option Addr) (n c i m:Nat) (now:Int):List (Nat × SV):=[(28,.c (.i .i64 (i:Int))),(27,.c (.i .i64 (n:Int))),(26,.c (.v (.slice a n c))),(6,.c (.rw 2 m)),(5,.c (.p 1 0)),(4,.c (.p 0 0)),(1,.c (.i .i64 now))]
def alE (a:Option Addr) (n c:Nat) (cs fl:Int) (L:List It):List EN:=[⟨(25,0,whole),[.v (.slice none 0 0),.i .u64 0,.i .i64 0],true⟩,⟨(25,0,whole),[.v (.slice a n c),.i .u64 cs,.i .i64 fl],true⟩,rwE 33 8 L.length (zB6 itS L)]
def StCells (w:World) (g o:Nat) (a:Option Addr) (n c:Nat) (X:St):Prop:=w.cell? ⟨g,o,none⟩=some (.slice a n c)∧w.cell? ⟨g,o+1,none⟩=some (.int .u64 X.cas)∧w.cell? ⟨g,o+2,none⟩=some (.int .i64 X.flush)
theorem alive_w {w:World} {g:Nat} {a:Option Addr} {n c:Nat} {X:St} (hg:g < w.heap.size) (hc:StCells w g 0 a n c X) (ha:RawI w a X.items) (hn:n=X.items.length) (hl:n≤100000000) (now:Int) :
  Calls Tryz.prog 71 #[.pointer (some ⟨g,0,none⟩),.int .i64 now] w (StP w (zB1 X now).items (zB1 X now).cas (zB1 X now).flush):=by
 refine zB8 Tryz.func71 rfl kp71 (S:=Non) (ρ:=fun _=>⟨0,[],[],0,none⟩) (en:=[]) [.c (.v (.pointer (some ⟨g,0,none⟩))),.c (.i .i64 now)] Tryz.ntmps71 (At.nil _ _ _) (by intro y hy; simp only [List.mem_cons,List.not_mem_nil,or_false] at hy; rcases hy with rfl | rfl <;> trivial) (by simp) ?_
 intro C hC hP hk
 have hS:C.S=Non:=by rw [hC]; rfl
 have hw:C.w0=w:=by rw [hC]; rfl
 have hn0:C.n0=0:=by rw [hC]; rfl
 have hctr:=zE6 hP
 have hr0:C.rd g 0 3=some [.v (.slice a n c),.i .u64 X.cas,.i .i64 X.flush]:=rd_arg (vs:=[.slice a n c,.int .u64 X.cas,.int .i64 X.flush]) hS hw hg (fun j v hv=>by
  obtain ⟨c0,c1,c2⟩:=hc
  match j with
  | 0=>simp only [List.getElem?_cons_zero,Option.some.injEq] at hv; subst hv; exact c0
  | 1=>simp only [List.getElem?_cons_succ,List.getElem?_cons_zero,Option.some.injEq] at hv; subst hv; exact c1
  | 2=>simp only [List.getElem?_cons_succ,List.getElem?_cons_zero,Option.some.injEq] at hv; subst hv; exact c2
  | _+3=>simp at hv) rfl
 by_cases hf:X.flush ≠ 0∧X.flush≤now
 ·have f1:(X.flush != 0)=true:=by rw [bne_iff_ne]; exact hf.1
  have f2:decide (X.flush≤now)=true:=decide_eq_true hf.2
  have hlv:zB1 X now=⟨[],X.cas,0⟩:=by unfold zB1; rw [if_pos hf]
  (refine zB0 hctr (rs:=res71) true 300 _ _ _ ?_; simp (maxSteps:=1000000) only [VT,jf,jZ,qE,qF,qG,qH,qI,qJ,qK,qO,qP,qQ,qR,qS,qV,qf,qg,qp,q0t,qu,qv,ev,qy,qz,zA,zB,zC,zD,zE,zF,zG,zI,zJ,TE.sv,zK,zM,↓reduceIte,reduceCtorEq,Value.oneCell',Nat.reduceEqDiff,Nat.reduceAdd,Nat.reduceLT,zP,zQ,zR,zV,zt,zu,hP,hk,res71,kp71,Nat.reduceAdd,hr0,f1,f2])
  refine zY6 (v:=.g [.v (.slice none 0 0),.i .u64 X.cas,.i .i64 0]) hC hres71 fun ρ w' hw' _ _=>?_
  have hup:=hw'.up
  rw [hC] at hup
  rw [hlv]
  exact ⟨⟨⟨w.heap.size,[],[],0,some none⟩,⟨Nat.le_refl _,⟨by simp [zD4],.inr ⟨rfl,rfl,rfl⟩⟩,(fun h=>by cases h),fun _=>rfl⟩,rfl⟩,hup.to_below⟩
 have hlv:zB1 X now=⟨zF0 now X.items,X.cas,X.flush⟩:=by unfold zB1; rw [if_neg hf]; rfl
 obtain ⟨fb,hfb⟩:∃ fb,(X.flush != 0)=fb:=⟨_,rfl⟩
 have hfb2:fb=true→decide (X.flush≤now)=false:=fun h=>decide_eq_false fun h2=>hf ⟨by rw [h] at hfb; simpa using hfb,h2⟩
 (refine zB0 hctr (rs:=res71) true 14 _ _ _ ?_; simp (maxSteps:=1000000) only [VT,qH,qI,qJ,qK,qO,qP,qQ,qV,q0t,qu,qv,ev,qy,zC,zD,zE,zF,zG,zI,zJ,zK,zM,↓reduceIte,reduceCtorEq,Value.oneCell',Nat.reduceEqDiff,Nat.reduceAdd,Nat.reduceLT,zP,zQ,zR,zt,zu,hP,hk,kp71,Nat.reduceAdd,hr0])
 refine Run_join (κ:=Unit) (fun _=>[(5,.c (.p 1 0)),(4,.c (.p 0 0)),(1,.c (.i .i64 now))]) (fun _=>[⟨(25,0,whole),[.v (.slice none 0 0),.i .u64 0,.i .i64 0],true⟩,⟨(25,0,whole),[.v (.slice a n c),.i .u64 X.cas,.i .i64 X.flush],true⟩]) (fun _=>?_) fun use=>?_
 rotate_left
 ·have use:=use ()
  cases fb with
  | false =>
   (refine zB0 hctr (rs:=res71) true 14 _ _ _ ?_; simp (maxSteps:=1000000) only [VT,jg,jd,qH,qI,qK,qO,qP,qR,qS,qV,qp,ev,qy,qz,zD,zI,zJ,zM,↓reduceIte,reduceCtorEq,Nat.reduceEqDiff,Nat.reduceLT,zP,zQ,zR,zW,zt,hP,hk,res71,kp71,hfb])
   exact use _ (zH6 ⟨rfl,rfl,rfl,trivial⟩)
  | true =>
   have hfl:=hfb2 rfl
   (refine zB0 hctr (rs:=res71) true 14 _ _ _ ?_; simp (maxSteps:=1000000) only [VT,jf,jg,jZ,qH,qI,qK,qO,qP,qR,qS,qV,qp,ev,qy,qz,zD,zI,zJ,zM,↓reduceIte,reduceCtorEq,Nat.reduceEqDiff,Nat.reduceLT,zP,zQ,zR,zV,zW,zt,hP,hk,res71,kp71,hfb,hfl])
   exact use _ (zH6 ⟨rfl,rfl,rfl,trivial⟩)
 show Run C _ 49 [(5,.c (.p 1 0)),(4,.c (.p 0 0)),(1,.c (.i .i64 now))] [⟨(25,0,whole),[.v (.slice none 0 0),.i .u64 0,.i .i64 0],true⟩,⟨(25,0,whole),[.v (.slice a n c),.i .u64 X.cas,.i .i64 X.flush],true⟩]
 (refine zB0 hctr (rs:=res71) true 300 _ _ _ ?_; simp (maxSteps:=1000000) only [VT,qH,qI,qK,qN,qO,qP,qV,qe,ev,qy,qz,zD,zI,zJ,zM,↓reduceIte,reduceCtorEq,Nat.reduceEqDiff,Nat.reduceLT,zP,zQ,zR,zu,hP,hk,kp71])
 refine zI8 true (en':=[⟨(25,0,whole),[.v (.slice none 0 0),.i .u64 0,.i .i64 0],true⟩,⟨(25,0,whole),[.v (.slice a n c),.i .u64 X.cas,.i .i64 X.flush],true⟩]) (sl':=alS a n c 0 0 now) (33,0,rowP 8 0 0) rfl (fun _=>⟨rfl,.inr ⟨rfl,rfl,rfl⟩⟩) (fun _=>by show ¬ ((33:Nat)=zE8); decide) ?_ ?_ ?_
 ·exact ⟨⟨rfl,rfl,fun _ _=>rfl,zC8 trivial⟩,⟨rfl,rfl,fun _ _=>rfl,zC8 trivial⟩,trivial⟩
 ·refine ⟨⟨⟨_,rfl,fun _ _=>rfl⟩,trivial⟩,⟨⟨_,rfl,fun _ _=>rfl⟩,trivial⟩,⟨⟨_,rfl,fun _ _=>rfl⟩,trivial⟩,⟨⟨_,rfl,fun ρ h=>?_⟩,?_⟩,⟨⟨_,rfl,fun _ _=>rfl⟩,?_⟩,⟨⟨_,rfl,fun _ _=>rfl⟩,?_⟩,⟨⟨_,rfl,fun _ _=>rfl⟩,trivial⟩,trivial⟩
  ·have h:(ρ 2).nl=some none:=h
   simp only [SV.den,SC.den,zG4 h]
  ·show 2 < 2+1; decide
  ·show 1 < 2+1; decide
  ·show 0 < 2+1; decide
 refine zS1 (ι:={ i:Nat // i≤n }) (fun i=>alS a n c i.1 (zF0 now (X.items.take i.1)).length now) (fun i=>alE a n c X.cas X.flush (zF0 now (X.items.take i.1))) (fun i=>n - i.1) ⟨0,Nat.zero_le _⟩ (zH6 ⟨rfl,rfl,rfl,rfl,rfl,rfl,rfl,trivial⟩) rfl ?_
 rintro ⟨i,hi⟩ D dP dS dw dn dr dk ddf dPan dRet hX hJ
 have hP0:=hP; have hk0:=hk; have hctr0:=hctr
 have hi:i≤n:=hi
 have hP:D.P=Tryz.prog:=by rw [dP]; exact hP0
 have hk:D.kp=kp71:=by rw [dk]; exact hk0
 have hctr:=zE6 hP
 have hDS:D.S=Non:=by rw [dS]; exact hS
 have hDw:D.w0=w:=by rw [dw]; exact hw
 have hn0':D.n0=0:=by rw [dn]; exact hn0
 obtain ⟨L,hL⟩:∃ L,zF0 now (X.items.take i)=L:=⟨_,rfl⟩
 have hLl:L.length≤i:=by rw [← hL]; exact Nat.le_trans (List.length_filter_le _ _) (by rw [List.length_take]; omega)
 show Run D _ _ (alS a n c i (zF0 now (X.items.take i)).length now) (alE a n c X.cas X.flush (zF0 now (X.items.take i)))
 rw [hL]
 by_cases hin:i < n
 ·have q1:decide ((i:Int) < (n:Int))=true:=decide_eq_true (by omega)
  have p0:(0:Int)≤(i:Int):=by omega
  have p1:(i:Int) < (n:Int):=by omega
  have p3:IntKind.i64.wrap ((i:Int)+1)=((i+1:Nat):Int):=by rw [IntWalk.i64_in _ (by omega)]; rfl
  obtain ⟨x,hx⟩:∃ x,X.items[i]?=some x:=⟨_,List.getElem?_eq_getElem (by omega)⟩
  obtain ⟨gg,oo,rfl,hgg,hcc⟩:=ha i x hx
  have rx:D.rd gg (oo+i * 8) 8=some (itS x):=(raw_rd hDS hDw hgg hcc).1
  have htk:X.items.take (i+1)=X.items.take i++[x]:=by rw [List.take_add_one,hx]; rfl
  cases hgo:zE2 now x with
  | true =>
   have hgo':=hgo
   simp only [zE2,Bool.and_eq_true,Bool.not_eq_true',decide_eq_true_eq,decide_eq_false_iff_not] at hgo'
   have g1:(x.exp == 0)=false:=by rw [beq_eq_false_iff_ne]; exact hgo'.1
   have g2:decide (now < x.exp)=false:=decide_eq_false (by omega)
   have hnx:zF0 now (X.items.take (i+1))=L:=by
    rw [htk,zF0,List.filter_append,← hL,zF0]
    simp [hgo]
   (refine zB0 hctr (rs:=res71) true 300 _ _ _ ?_; simp (maxSteps:=1000000) only [VT,jf,jg,jZ,qH,qI,qJ,qK,qO,qP,qR,qS,qV,qX,qp,q0t,qu,qv,ev,qy,qz,zC,zD,zE,zF,zG,zI,zJ,zM,↓reduceIte,reduceCtorEq,Nat.reduceEqDiff,Nat.reduceAdd,Nat.reduceLT,zP,zQ,zR,zT,zV,zW,zh,zo,zt,rwE,hP,hk,res71,kp71,itS,Nat.reduceAdd,alS,alE,rwE,p0,p1,rx,g1,g2,p3])
   have hJ':=hJ ⟨i+1,hin⟩ (alS (some ⟨gg,oo,none⟩) n c (i+1) (zF0 now (X.items.take (i+1))).length now) (by show n - (i+1) < n - i; omega) (fun d v h=>h)
   have hJ':Run D [] _ (alS (some ⟨gg,oo,none⟩) n c (i+1) (zF0 now (X.items.take (i+1))).length now) (alE (some ⟨gg,oo,none⟩) n c X.cas X.flush (zF0 now (X.items.take (i+1)))):=hJ'
   rw [hnx] at hJ'
   refine zM3 (f:=fun q=>q) (enK:=alE (some ⟨gg,oo,none⟩) n c X.cas X.flush L) (slK:=alS (some ⟨gg,oo,none⟩) n c (i+1) L.length now) ⟨fun q hq=>absurd hq (by rw [hn0']; exact Nat.not_lt_zero _),by rw [hn0']; exact Nat.zero_le _⟩ (fun p q hp hq h=>h) ?_ ?_ hJ'
   ·exact ⟨⟨_,rfl,fun ρ=>rfl,zC8 trivial⟩,⟨_,rfl,fun ρ=>rfl,zC8 trivial⟩,⟨_,rfl,fun ρ=>rfl,zF4 _ _⟩,trivial⟩
   ·refine ⟨⟨?_,_,rfl,fun ρ=>rfl⟩,⟨?_,_,rfl,fun ρ=>rfl⟩,⟨?_,_,rfl,fun ρ=>rfl⟩,⟨?_,_,rfl,fun ρ=>rfl⟩,⟨?_,_,rfl,fun ρ=>rfl⟩,⟨?_,_,rfl,fun ρ=>rfl⟩,⟨?_,_,rfl,fun ρ=>rfl⟩,trivial⟩
    all_goals simp [SV.wf,SC.wf,alE]
  | false =>
   have hnx:zF0 now (X.items.take (i+1))=L++[x]:=by
    rw [htk,zF0,List.filter_append,← hL,zF0]
    simp [hgo]
   obtain ⟨i0,hi',hz0,hz1,hz2⟩:=info_parts infoItD
   have fin:Run D [] 49 (alS (some ⟨gg,oo,none⟩) n c (i+1) (L.length+1) now) (alE (some ⟨gg,oo,none⟩) n c X.cas X.flush (L++[x])):=by
    have hJ':=hJ ⟨i+1,hin⟩ (alS (some ⟨gg,oo,none⟩) n c (i+1) (zF0 now (X.items.take (i+1))).length now) (by show n - (i+1) < n - i; omega) (fun d v h=>h)
    have hJ':Run D [] 49 (alS (some ⟨gg,oo,none⟩) n c (i+1) (zF0 now (X.items.take (i+1))).length now) (alE (some ⟨gg,oo,none⟩) n c X.cas X.flush (zF0 now (X.items.take (i+1)))):=hJ'
    rw [hnx,show (L++[x]).length=L.length+1 by simp] at hJ'
    exact hJ'
   cases he0:(x.exp == 0) with
   | true =>
    (refine zB0 hctr (rs:=res71) true 300 _ _ _ ?_; simp (maxSteps:=1000000) only [VT,jf,jd,qA,qB,qC,qD,qH,qI,qJ,qK,qN,qO,qP,qR,qS,qV,qX,qg,qp,q0t,qu,qv,ev,qy,qz,zA,zB,zC,zD,zE,zF,zG,zI,zJ,zM,↓reduceIte,reduceCtorEq,Nat.reduceEqDiff,Nat.reduceAdd,Nat.reduceLT,Nat.reduceLeDiff,zP,zQ,zR,zT,zV,zh,zk,zl,zo,zt,rwE,hP,hk,res71,kp71,itS,Nat.reduceAdd,Nat.reduceMul,alS,alE,rwE,p0,p1,rx,he0])
    refine zM2 (n:=L.length) (m:=1) (z:=8) (bts:=72) (cells:=zB6 itS L) (news:=itS x) (o:=some 2) (X:=.rw 2 L.length) (Y:=.sl 4 0 1 1) (by rw [hP]; exact Tryz.underlying22) (by rw [hP]; exact hi') hz0 hz1 hz2 rfl (by decide) (by decide) (.some rfl) rfl rfl (zN7 (c:=4) (o:=0) (L:=8) rfl rfl) rfl rfl (fun pr=>zW9 pr x) (by omega) (by omega) (by rw [hn0']; exact Nat.zero_le _) rfl (by simp) ?_
    (refine zB0 hctr (rs:=res71) true 300 _ _ _ ?_; simp (maxSteps:=1000000) only [VT,qH,qI,qK,qO,qR,qS,ev,qy,qz,zD,zE,zF,zG,zI,zJ,↓reduceIte,reduceCtorEq,Nat.reduceEqDiff,Nat.reduceAdd,Nat.reduceLT,zP,zQ,zR,zt,zF7,zA4,rwE,jN,hk,kp71,itS,Nat.reduceAdd,rwE,zF7,zA4,p3])
    have hll:(L++[x]).length=L.length+1:=by simp
    refine zM3 (f:=fun q=>if q=2 then 5 else q) (enK:=alE (some ⟨gg,oo,none⟩) n c X.cas X.flush (L++[x])) (slK:=alS (some ⟨gg,oo,none⟩) n c (i+1) (L.length+1) now) ⟨fun q hq=>absurd hq (by rw [hn0']; exact Nat.not_lt_zero _),by rw [hn0']; exact Nat.zero_le _⟩ (fun p q hp hq h=>?_) ?_ ?_ fin
    ·have hp:p < 3:=hp
     have hq:q < 3:=hq
     split at h <;> split at h <;> omega
    ·rw [alE,hll]
     exact ⟨⟨_,rfl,fun ρ=>rfl,zC8 trivial⟩,⟨_,rfl,fun ρ=>rfl,zC8 trivial⟩,⟨_,by rw [zH3,zI3]; rfl,fun ρ=>(zC0 _ _).trans (zC0 _ _).symm,zF4 _ _⟩,trivial⟩
    ·refine ⟨⟨?_,_,rfl,fun ρ=>rfl⟩,⟨?_,_,rfl,fun ρ=>rfl⟩,⟨?_,_,rfl,fun ρ=>rfl⟩,⟨?_,_,rfl,fun ρ=>rfl⟩,⟨?_,_,rfl,fun ρ=>rfl⟩,⟨?_,_,rfl,fun ρ=>rfl⟩,⟨?_,_,rfl,fun ρ=>rfl⟩,trivial⟩
     all_goals simp [SV.wf,SC.wf,alE]
   | false =>
    have he1:decide (now < x.exp)=true:=decide_eq_true (by
     have h0:x.exp ≠ 0:=by simpa using he0
     simp only [zE2,Bool.and_eq_false_iff,Bool.not_eq_false',decide_eq_true_eq,decide_eq_false_iff_not] at hgo
     rcases hgo with h | h
     ·exact absurd h h0
     ·omega)
    (refine zB0 hctr (rs:=res71) true 300 _ _ _ ?_; simp (maxSteps:=1000000) only [VT,jf,jg,jZ,qA,qB,qC,qD,qH,qI,qJ,qK,qN,qO,qP,qR,qS,qV,qX,qg,qp,q0t,qu,qv,ev,qy,qz,zA,zB,zC,zD,zE,zF,zG,zI,zJ,zM,↓reduceIte,reduceCtorEq,Nat.reduceEqDiff,Nat.reduceAdd,Nat.reduceLT,Nat.reduceLeDiff,zP,zQ,zR,zT,zV,zW,zh,zk,zl,zo,zt,rwE,hP,hk,res71,kp71,itS,Nat.reduceAdd,Nat.reduceMul,alS,alE,rwE,p0,p1,rx,he0,he1])
    refine zM2 (n:=L.length) (m:=1) (z:=8) (bts:=72) (cells:=zB6 itS L) (news:=itS x) (o:=some 2) (X:=.rw 2 L.length) (Y:=.sl 4 0 1 1) (by rw [hP]; exact Tryz.underlying22) (by rw [hP]; exact hi') hz0 hz1 hz2 rfl (by decide) (by decide) (.some rfl) rfl rfl (zN7 (c:=4) (o:=0) (L:=8) rfl rfl) rfl rfl (fun pr=>zW9 pr x) (by omega) (by omega) (by rw [hn0']; exact Nat.zero_le _) rfl (by simp) ?_
    (refine zB0 hctr (rs:=res71) true 300 _ _ _ ?_; simp (maxSteps:=1000000) only [VT,qH,qI,qK,qO,qR,qS,ev,qy,qz,zD,zE,zF,zG,zI,zJ,↓reduceIte,reduceCtorEq,Nat.reduceEqDiff,Nat.reduceAdd,Nat.reduceLT,zP,zQ,zR,zt,zF7,zA4,rwE,jN,hk,kp71,itS,Nat.reduceAdd,rwE,zF7,zA4,p3])
    have hll:(L++[x]).length=L.length+1:=by simp
    refine zM3 (f:=fun q=>if q=2 then 5 else q) (enK:=alE (some ⟨gg,oo,none⟩) n c X.cas X.flush (L++[x])) (slK:=alS (some ⟨gg,oo,none⟩) n c (i+1) (L.length+1) now) ⟨fun q hq=>absurd hq (by rw [hn0']; exact Nat.not_lt_zero _),by rw [hn0']; exact Nat.zero_le _⟩ (fun p q hp hq h=>?_) ?_ ?_ fin
    ·have hp:p < 3:=hp
     have hq:q < 3:=hq
     split at h <;> split at h <;> omega
    ·rw [alE,hll]
     exact ⟨⟨_,rfl,fun ρ=>rfl,zC8 trivial⟩,⟨_,rfl,fun ρ=>rfl,zC8 trivial⟩,⟨_,by rw [zH3,zI3]; rfl,fun ρ=>(zC0 _ _).trans (zC0 _ _).symm,zF4 _ _⟩,trivial⟩
    ·refine ⟨⟨?_,_,rfl,fun ρ=>rfl⟩,⟨?_,_,rfl,fun ρ=>rfl⟩,⟨?_,_,rfl,fun ρ=>rfl⟩,⟨?_,_,rfl,fun ρ=>rfl⟩,⟨?_,_,rfl,fun ρ=>rfl⟩,⟨?_,_,rfl,fun ρ=>rfl⟩,⟨?_,_,rfl,fun ρ=>rfl⟩,trivial⟩
     all_goals simp [SV.wf,SC.wf,alE]
 ·have q1:decide ((i:Int) < (n:Int))=false:=decide_eq_false (by omega)
  (refine zB0 hctr (rs:=res71) true 300 _ _ _ ?_; simp (maxSteps:=1000000) only [VT,jg,qH,qI,qK,qR,qS,ev,qy,zH,zI,zJ,↓reduceIte,reduceCtorEq,Nat.reduceEqDiff,Nat.reduceLT,zP,zR,zW,rwE,hk,res71,kp71,alS,alE,rwE,q1])
  refine hX rfl rfl ?_
  have hP:=hP0; have hk:=hk0; have hctr:=hctr0
  (refine zB0 hctr (rs:=res71) true 300 _ _ _ ?_; simp (maxSteps:=1000000) only [VT,qE,qF,qG,qH,qI,qJ,qK,qO,qP,qV,q0t,qu,qv,ev,qy,zA,zB,zC,zD,zE,zG,zI,zJ,TE.sv,zM,↓reduceIte,reduceCtorEq,Nat.reduceEqDiff,Nat.reduceAdd,Nat.reduceLT,zP,zQ,zR,zt,zu,hP,hk,res71,kp71,Nat.reduceAdd])
  have hall:L=zF0 now X.items:=by rw [← hL,show i=X.items.length by omega,List.take_length]
  refine zY6 (v:=.g [.rw 2 L.length,.i .u64 X.cas,.i .i64 X.flush]) hC hres71 fun ρ w' hw' _ _=>?_
  have hup:=hw'.up
  rw [hC] at hup
  have k1:=RowOk.of (N:=2) (n:=L.length) (z:=8) (e:=33) (cells:=zB6 itS L) hw' hS rfl (by decide)
  rw [hw,zC0] at k1
  rw [hlv,← hall]
  exact ⟨⟨ρ 2,k1,rfl⟩,hup.to_below⟩
end Go.Proofs.YtfpeholdlkfmoaaGreatDoor
/- Plain laws of zA9 at states of one item at most. No program in sight. -/
namespace Go.Proofs.YtfpeholdlkfmoaaGreatDoor
set_option linter.unusedSimpArgs false
set_option linter.unusedVariables false
def one (x:It) (cas:Int):St:=⟨[x],cas,0⟩
def none' (cas:Int):St:=⟨[],cas,0⟩
def okB (now:Int) (c:Cd):Prop:=zT0 c=true∧1≤now∧now≤1099511627776
theorem live_nil (cas now:Int):zB1 (none' cas) now=none' cas:=by simp [zB1,none']
theorem app_nil {cas now:Int} {c:Cd} {most:Int} (h:okB now c):zA9 (none' cas) now c most=doF (none' cas) now c most 0 false:=by
 unfold zA9; rw [if_pos (show zT0 c=true∧1≤now∧now≤1099511627776 from h),live_nil]; rfl
end Go.Proofs.YtfpeholdlkfmoaaGreatDoor
/- shown returns true (without the calls of drawn regions, which SxFresh has). -/
namespace Go.Proofs.YtfpeholdlkfmoaaGreatDoor
set_option linter.unusedSimpArgs false
set_option linter.unusedVariables false
set_option maxHeartbeats 8000000
open Go.RowKit
theorem wrap64 (n:Int) (h0:0≤n) (h1:n < 18446744073709551616):IntKind.u64.wrap n=n:=by rw [IntKind.wrap_u64]; omega
theorem good_nil (cas flush:Int):Good ⟨[],cas,flush⟩:=⟨Sorted.nil,by simp,by simp⟩
set_option maxRecDepth 100000
end Go.Proofs.YtfpeholdlkfmoaaGreatDoor
/- Items that are owned, as entries that may be written; copied and both Applys as calls on them. Printed by gen_apd.py. -/
namespace Go.Proofs.YtfpeholdlkfmoaaGreatDoor
set_option linter.unusedSimpArgs false
set_option linter.unusedVariables false
set_option maxHeartbeats 8000000
open Go.RowKit
set_option maxRecDepth 100000
def rowQ (n:Nat):RE→Prop:=fun r=>(r.nl=none∧r.pre=[]∧n * 8+r.post.length=r.cap * 8∧n≤r.cap∧r.cap≤maxLen)∨(r.nl ≠ none∧n=0∧r.pre=[])
def muE (n:Nat) (cells:List SC):EN:=⟨(33,0,rowQ n),cells,true⟩
def owE (L:List It):EN:=muE L.length (zB6 itS L)
theorem own_ow {ρ:Nat→RE} {pr:Nat→Prop} {en:List EN} {w:World} {d:Nat} {L:List It} (hp:Hp ρ pr en w) (ho:Ho ρ pr en) (ld:pr d) (hd:zD en d=some (owE L)):OwnI 0 w (zE9 (ρ d) L.length) L:=by
 obtain ⟨_,hO⟩:=ho d _ _ _ ld hd
 rcases hO with ⟨h1,h2,h3,h4,h5⟩ | ⟨h1,h2,h3⟩
 ·have hwd:=(hp d _ _ _ ld hd).heap ⟨(by show ¬ (33:Nat)=zE8; decide),h1⟩
  rw [h2,List.nil_append,zC0] at hwd
  by_cases hc:(ρ d).cap=0
  ·have hL:L=[]:=List.eq_nil_of_length_eq_zero (by omega)
   subst hL
   exact .inl ⟨_,by rw [zF2 h1,hc]; rfl,rfl⟩
  ·exact .inr ⟨_,_,(ρ d).post,zF2 h1 _,Nat.zero_le _,by omega,⟨hwd,h3,h5⟩⟩
 ·have hL:L=[]:=List.eq_nil_of_length_eq_zero h2
  subst hL
  cases hnl:(ρ d).nl with
  | none=>exact absurd hnl h1
  | some p=>exact .inl ⟨p,zG4 hnl _,rfl⟩
theorem own_h {C:Cx} {nE N:Nat} {mk:Nat→Prop} {en en':List EN} {f:FuncId} {xs:List SV} {L:List It} {v:SV} (vf:Value→Value) (hP:C.P=Tryz.prog) (hent:∀ args w,(callFunc f args).run Tryz.prog w=.ok (.enter f args) w)
  (hmk:∀ q,mk q ↔ q=N) (hn0:C.n0≤N) (hN:zD en' N=some (owE L)) (hq:∀ q,q ≠ N→zD en' q=zD en q) (hvw:∀ pr:Nat→Prop,pr N→v.wf pr) (hvf:∀ ρ,v.den ρ=vf (zE9 (ρ N) L.length))
  (H:∀ ρ pr w,Hw C ρ pr en w→(∀ x∈xs,x.wf pr)→Calls Tryz.prog f (xs.map (SV.den ρ)).toArray w fun e w'=>∃ v',e=.returned (vf v')∧OwnI w.heap.size w' v' L∧Below w.heap.size w w') :
  zP3 C nE mk en en' f xs v:=by
 refine fresh_h (e:=owE L) (vals:=zD4 L) (fun args w=>by rw [hP]; exact hent args w) hmk hn0 hN hq (by show ¬ (33:Nat)=zE8; decide) (fun ρ=>zC0 ρ _) (fun pr=>zF4 pr _) hvw ?_
 intro ρ pr w hw _ hwf
 rw [hP]
 refine (H ρ pr w hw hwf).mono ?_
 rintro z w'' ⟨v',rfl,ho,hb⟩
 rcases ho with ⟨p,rfl,rfl⟩ | ⟨g,cap,R,rfl,hg,hc,hI⟩
 ·refine ⟨⟨w.heap.size,[],[],0,some p⟩,⟨rfl,.inr ⟨by simp,rfl,rfl⟩,(fun h=>by cases h),fun _=>rfl,fun _=>Nat.le_refl _⟩,fun ρ' _ h=>?_,hb⟩
  rw [hvf,h]; rfl
 ·refine ⟨⟨g,[],R,cap,none⟩,⟨rfl,.inl ⟨rfl,rfl,hI.fit,hI.le,hI.big⟩,fun _=>⟨hg,hI.heap⟩,fun h=>absurd rfl h,fun h=>absurd rfl h⟩,fun ρ' _ h=>?_,hb⟩
  rw [hvf,h]; rfl
section
variable {C:Cx} {nt:Nat} {sl:List (Nat × SV)} {en:List EN} {k:List KI} {dst:Option Nat} {ty:TypeId} {pos:String} {af:Array Edge} {all r:List Oper}
end
structure Asked (X:St) (cd:Cd):Prop where
 good:Good X
 bd:∀ x∈X.items,x.key.length≤1000000000∧x.val.length≤1000000000∧0≤x.exp∧x.exp≤9223372036854775807
 cok:CdOk cd
 val:cd.val.length≤1000000000
end Go.Proofs.YtfpeholdlkfmoaaGreatDoor
/- model.Drop, walked; Drop and audit's live as calls of a walk. Printed by gen_audrop.py. -/
namespace Go.Proofs.YtfpeholdlkfmoaaGreatDoor
set_option linter.unusedSimpArgs false
set_option linter.unusedVariables false
set_option maxHeartbeats 8000000
open Go.RowKit
set_option maxRecDepth 100000
def zG6 (X:St) (k:List UInt8):List It:=if isF X.items k then X.items.eraseIdx (atF X.items k) else X.items
theorem drop_w {w:World} {v:Value} (X:St) (k:List UInt8) (ho:OwnI 0 w v X.items) (hs:Sorted X.items) (hl:X.items.length≤100000000) :
  Calls Tryz.prog 18 #[.agg #[v,.int .u64 X.cas,.int .i64 X.flush],.string ⟨k.toArray⟩] w fun e w'=>∃ v',e=.returned (.tuple #[.agg #[v',.int .u64 X.cas,.int .i64 X.flush],.bool (isF X.items k)])∧OwnI w.heap.size w' v' (zG6 X k)∧Below w.heap.size w w':=by
 obtain ⟨ρ,hat,hv⟩:=src_at ho
 rw [← hv]
 refine zB8 Tryz.func18 rfl kp18 (S:=Non) (ρ:=ρ) (en:=[srcE X.items]) [.g [.rw 0 X.items.length,.i .u64 X.cas,.i .i64 X.flush],.c (.s k)] Tryz.ntmps18 hat (by intro y hy; simp only [List.mem_cons,List.not_mem_nil,or_false] at hy; rcases hy with rfl | rfl; exact zC8 (by show 0 < 1; decide); trivial) (by simp) ?_
 intro C hC hP hk
 have hS:C.S=Non:=by rw [hC]; rfl
 have hw:C.w0=w:=by rw [hC]; rfl
 have hn0:C.n0=1:=by rw [hC]; rfl
 have hctr:zE4 C (mCA w.heap.size X.items):=mCA_ok _ _ hP
 have hl9:X.items.length≤1000000000:=by omega
 (refine zB0 hctr (rs:=res18) true 300 _ _ _ ?_; simp (maxSteps:=1000000) only [VT,qH,qI,qJ,qK,qO,qP,qV,qh,q0t,qu,qv,ev,qw,qy,qz,zD,zE,zF,zG,zI,zJ,TE.sv,zK,zM,↓reduceIte,reduceCtorEq,Value.oneCell',Nat.reduceEqDiff,Nat.reduceAdd,Nat.reduceLT,zP,zQ,zR,zt,zu,hP,hk,res18,kp18,mCA,zJ6,Nat.reduceAdd,srcE])
 refine zE5 rfl (.c (.rw 3 X.items.length)) (zF _ (zG3 w.heap.size X.items)) (clone_h (N:=3) (d:=0) (b:=0) (base:=w.heap.size) (xs:=X.items) (mu:=false) hP rfl (by rw [hw]; exact Nat.le_refl _) (by rw [hn0]; decide) hl9 (by show 0 < 3; decide) (fun q=>by rw [zC7]; show (3≤q∧q < 3+1) ↔ q=3; omega) rfl (fun q h=>zC3 h)) (by rw [zC7]; omega) (by simp) ?_
 cases his:isF X.items k with
 | false =>
  (refine zB0 hctr (rs:=res18) true 300 _ _ _ ?_; simp (maxSteps:=1000000) only [VT,jg,qE,qF,qG,qH,qI,qJ,qK,qO,qP,qV,qh,q0t,qu,qv,ev,qw,qy,zA,zB,zC,zD,zE,zF,zG,zI,zJ,TE.sv,zM,↓reduceIte,reduceCtorEq,Nat.reduceEqDiff,Nat.reduceAdd,Nat.reduceLT,zP,zQ,zR,zT,zW,zt,zu,jN,hP,hk,res18,kp18,mCA,zJ6,Nat.reduceAdd,his,hs,hl9,zG3])
  refine zY6 (v:=.t [.g [.rw 3 X.items.length,.i .u64 X.cas,.i .i64 X.flush],.c (.b false)]) hC hres18 fun ρ' w' hw' _ _=>?_
  have hup:=hw'.up
  rw [hC] at hup
  refine ⟨_,by rw [his] ; rfl,?_,hup.to_below⟩
  have:=zW6 (xs:=X.items) (base:=w.heap.size) (d:=3) (mu:=true) hw' (by show 3 < 4; decide) rfl
  have e:zG6 X k=X.items:=by unfold zG6; rw [his]; rfl
  rw [e]; exact this
 | true =>
  obtain ⟨i,hi⟩:∃ i,atF X.items k=i:=⟨_,rfl⟩
  have hil:i < X.items.length:=by rw [← hi]; exact zG7 his
  have p3:IntKind.i64.wrap ((i:Int)+1)=(i:Int)+1:=IntWalk.i64_in _ (by omega)
  (refine zB0 hctr (rs:=res18) true 300 _ _ _ ?_; simp (maxSteps:=1000000) only [VT,jf,qE,qF,qG,qH,qI,qJ,qK,qO,qP,qR,qS,qV,qh,q0t,qv,ev,qw,qy,qz,zB,zC,zD,zE,zF,zG,zI,zJ,TE.sv,zM,↓reduceIte,reduceCtorEq,Value.oneCell',Nat.reduceEqDiff,Nat.reduceLT,zP,zQ,zR,zT,zV,zt,zu,jN,hP,hk,res18,kp18,mCA,zJ6,his,hs,hl9,hi,p3,zG3])
  refine zE5 rfl (.c (.rw 4 (X.items.eraseIdx i).length)) [⟨(33,0,rowI 0 X.items),[],false⟩,⟨(25,0,whole),[.rw 3 X.items.length,.i .u64 X.cas,.i .i64 X.flush],true⟩,⟨(25,0,whole),[.v (.slice none 0 0),.i .u64 0,.i .i64 0],true⟩,zA4 (zG3 w.heap.size X.items),zG3 w.heap.size (X.items.eraseIdx i)] (zX9 (N:=4) (d:=3) (base:=w.heap.size) (xs:=X.items) (i:=i) hP rfl (.inl rfl) (by rw [hn0]; decide) hil hl9 (by show 3 < 4; decide) (fun q=>by show (4≤q∧q < 5) ↔ q=4; omega) ⟨rfl,fun q hq=>by match q with | 0=>exact .inl ⟨by decide,rfl⟩ | 1=>exact .inl ⟨by decide,rfl⟩ | 2=>exact .inl ⟨by decide,rfl⟩ | 3=>exact .inr ⟨rfl,_,rfl,rfl⟩ | 4=>exact absurd rfl hq | _+5=>exact .inl ⟨by omega,rfl⟩⟩) (by show 4≤5; decide) (by simp) ?_
  (refine zB0 hctr (rs:=res18) true 300 _ _ _ ?_; simp (maxSteps:=1000000) only [VT,qE,qF,qG,qH,qI,qJ,qK,qO,qP,qV,q0t,qu,qv,ev,qy,zA,zB,zC,zD,zE,zG,zI,zJ,zM,↓reduceIte,reduceCtorEq,Nat.reduceEqDiff,Nat.reduceAdd,Nat.reduceLT,zP,zQ,zR,zt,zu,zA4,jN,hP,hk,res18,kp18,Nat.reduceAdd,zA4,zG3])
  refine zY6 (v:=.t [.g [.rw 4 (X.items.eraseIdx i).length,.i .u64 X.cas,.i .i64 X.flush],.c (.b true)]) hC hres18 fun ρ' w' hw' _ _=>?_
  have hup:=hw'.up
  rw [hC] at hup
  refine ⟨_,by rw [his] ; rfl,?_,hup.to_below⟩
  have:=zW6 (xs:=(X.items.eraseIdx i)) (base:=w.heap.size) (d:=4) (mu:=true) hw' (by show 4 < 5; decide) rfl
  have e:zG6 X k=(X.items.eraseIdx i):=by unfold zG6; rw [if_pos his,hi]
  rw [e]; exact this
theorem dropc_h {C:Cx} {nE M N:Nat} {mk:Nat→Prop} {en en':List EN} {X:St} (k:List UInt8) (hP:C.P=Tryz.prog) (hs:Sorted X.items) (hl:X.items.length≤100000000) (hM:zD en M=some (owE X.items)) {n:Nat} (hn:n=X.items.length)
  (hmk:∀ q,mk q ↔ q=N) (hn0:C.n0≤N) (hN:zD en' N=some (owE (zG6 X k))) (hq:∀ q,q ≠ N→zD en' q=zD en q) :
  zP3 C nE mk en en' 18 [.g [.rw M n,.i .u64 X.cas,.i .i64 X.flush],.c (.s k)] (.t [.g [.rw N (zG6 X k).length,.i .u64 X.cas,.i .i64 X.flush],.c (.b (isF X.items k))]):=by
 subst hn
 refine own_h (L:=zG6 X k) (fun v=>.tuple #[.agg #[v,.int .u64 X.cas,.int .i64 X.flush],.bool (isF X.items k)]) hP (fun args w=>Tryz.call18 args w) hmk hn0 hN hq ?_ (fun ρ=>rfl) ?_
 ·intro pr h y hy
  simp only [List.mem_cons,List.not_mem_nil,or_false] at hy
  rcases hy with rfl | rfl
  ·exact zC8 h
  ·trivial
 intro ρ pr w hw hwf
 have h0:wfs pr [.rw M X.items.length,.i .u64 X.cas,.i .i64 X.flush]:=hwf (.g _) (List.mem_cons_self ..)
 have lM:pr M:=h0 (.rw M _) (List.mem_cons_self ..)
 exact drop_w X k (own_ow hw.hp hw.ho lM hM) hs hl
end Go.Proofs.YtfpeholdlkfmoaaGreatDoor
/- A call met at this very world: what it leaves is told anew. No program in sight. -/
namespace Go.Proofs.YtfpeholdlkfmoaaGreatDoor
set_option linter.unusedSimpArgs false
set_option linter.unusedVariables false
open Go.RowKit
section
variable {C:Cx} {nt:Nat} {sl:List (Nat × SV)} {en:List EN} {k:List KI}
theorem zS3 {M:Type} {I:M→(Nat→RE)→World→Prop} {sl':M→List (Nat × SV)} {en':M→List EN} {dst:Option Nat} {f:FuncId} {args:Array Operand} {tys:Array TypeId} {ty:TypeId} {pos:String} {af:Array Edge} {all r:List Oper} {xs:List SV} (hxs:qw sl args.toList=some xs)
  (hent:∀ args w,(callFunc f args).run C.P w=.ok (.enter f args) w)
  (hI:∀ ρ a w,Rep C ρ nt sl en a w→Calls C.P f (xs.map (SV.den ρ)).toArray w fun e w'=>∃ m ρ' v,e=.returned v∧Wt C.df ρ' nt (sl' m) (en' m) (a.put dst v) w'∧I m ρ' w')
  (h:∀ m ρ w,(∃ a,Wt C.df ρ nt (sl' m) (en' m) a w)→I m ρ w→Run (cxW C ρ w (en' m)) (.ops all r :: k) nt (sl' m) (en' m)) :
  Run C (.ops all (⟨dst,.call ⟨.value (.func f),args,tys⟩,ty,pos,af,none⟩ :: r) :: k) nt sl en:=by
 intro ρ a w hr
 obtain ⟨g1,g2⟩:=hr.evs_ok _ _ hxs
 have hargs:args.map a.eval=(xs.map (SV.den ρ)).toArray:=by apply Array.toList_inj.1; simpa using g1
 rw [zH9]
 unfold wpList
 rw [if_pos (by simp [Region.wanted])]
 left
 unfold Oper.wp
 have hx':(execOp a.eval ⟨dst,.call ⟨.value (.func f),args,tys⟩,ty,pos,af,none⟩).run C.P w=.ok (.enter f (xs.map (SV.den ρ)).toArray) w:=by
  simp [execOp,resolve,Act.eval,Deferred.ofValue,invoke,hargs,hent]
 rw [hx']
 simp only [Oper.upon]
 refine (hI ρ a w hr).mono ?_
 rintro e w' ⟨m,ρ',v,rfl,h1,h2⟩
 have:=h m ρ' w' ⟨_,h1⟩ h2 ρ' _ w' h1.rep
 rw [show KQ (cxW C ρ' w' (en' m)) (.ops all r :: k)=KQ C (.ops all r :: k) from zI5 (C:=C) (D:=cxW C ρ' w' (en' m)) rfl rfl _] at this
 exact this
end
end Go.Proofs.YtfpeholdlkfmoaaGreatDoor
/- A drawn region whose first operations are quiet and whose last ones follow the text; look-ups in a map among the quiet ones; an update of a map. No program in sight. -/
namespace Go.Proofs.YtfpeholdlkfmoaaGreatDoor
set_option linter.unusedSimpArgs false
set_option linter.unusedVariables false
open Go.RowKit Go.Instr Go.ChangeMaps
section
variable {C:Cx} {nt:Nat} {sl:List (Nat × SV)} {en:List EN} {k:List KI}
def lkS (b:Nat) (f:Int→Option (Int × Int)) (sl:List (Nat × SV)):Op→Option (Prop × SV)
 | .lookup _ m x true=>match ev sl m,ev sl x with
  | some (.c (.v (.map (some b')))),some (.c (.i .i64 c))=>some (b'=b,.t [.g [.i .i64 ((f c).getD (0,0)).1,.i .i64 ((f c).getD (0,0)).2],.c (.b (f c).isSome)])
  | _,_=>none
 | _=>none
def putD (nt:Nat) (dst:Option Nat):Prop:=match dst with
 | some d=>d < nt
 | none=>True
def VS (C:Cx) (nt b:Nat) (f:Int→Option (Int × Int)) (en:List EN) (K:List (Nat × SV)→Prop):List Oper→List (Nat × SV)→Prop
 | [],sl=>K sl
 | ⟨dst,op,_,_,_,none⟩ :: r,sl=>match qK C.P C.rd en (ev sl) op with
  | some (p,v)=>p∧putD nt dst∧VS C nt b f en K r (jN dst v sl)
  | none=>match lkS b f sl op with
   | some (p,v)=>p∧putD nt dst∧VS C nt b f en K r (jN dst v sl)
   | none=>False
 | _ :: _,_=>False
def lkT (P:Program) (t:TypeId):Prop:=∃ kt e,P.underlying t=some (.map kt e)∧P.underlying kt=some (.int .i64)∧∀ w,(zeroValue e).run P w=.ok (tnV (0,0)) w
theorem VS_ok {b:Nat} {f:Int→Option (Int × Int)} {K:List (Nat × SV)→Prop} {ops:Array Oper} {Q:Act→Prop} {ρ:Nat→RE} {w:World} (hlk:MapAt w b f) (hK:∀ sl a,K sl→Rep C ρ nt sl en a w→Q a) :
  ∀ (l:List Oper) (sl:List (Nat × SV)) (a:Act),(∀ o∈l,∀ t m x,o.op=.lookup t m x true→lkT C.P t)→VS C nt b f en K l sl→Rep C ρ nt sl en a w→wpStill C.P ops w Q l a
 | [],sl,a,_,h,hr=>hK sl a h hr
 | ⟨dst,op,ty,pos,af,none⟩ :: r,sl,a,hl,h,hr=>by
  have hput:∀ v:SV,v.wf (· < en.length)→putD nt dst→VS C nt b f en K r (jN dst v sl)→wpStill C.P ops w Q r (a.put dst (v.den ρ)):=fun v hv hp h'=>by
   refine VS_ok hlk hK r _ _ (fun o ho=>hl o (List.mem_cons_of_mem _ ho)) h' ?_
   cases dst with
   | none=>exact hr
   | some d=>exact hr.put hp hv
  unfold wpStill
  rw [if_pos (by simp [Region.wanted])]
  unfold Oper.still
  unfold VS at h
  split at h
  ·rename_i p v hs
   obtain ⟨hp,hd,h'⟩:=h
   obtain ⟨r1,r2⟩:=softS_ok (o:=⟨dst,op,ty,pos,af,none⟩) rfl hs hp (fun x u hx=>hr.ev_ok x u hx) (rd_ok hr.hw.up) hr.hw.hp hr.hw.ho
   rw [r1,Oper.stillUpon_value]
   exact hput v r2 hd h'
  ·split at h
   ·rename_i p v hs
    obtain ⟨hp,hd,h'⟩:=h
    unfold lkS at hs
    split at hs
    ·rename_i t m x hsoft
     split at hs
     ·rename_i b' c hm hx
      simp only [Option.some.injEq,Prod.mk.injEq] at hs
      obtain ⟨rfl,rfl⟩:=hs
      subst hp
      obtain ⟨kt,e,t1,t2,t3⟩:=hl _ (List.mem_cons_self ..) t m x rfl
      obtain ⟨m1,_⟩:=hr.ev_ok _ _ hm
      obtain ⟨x1,_⟩:=hr.ev_ok _ _ hx
      have m1':a.eval m=.map (some b'):=m1
      have x1':a.eval x=.int .i64 c:=x1
      have hlook:=hlk.look (t:=t) t1 t2 (t3 w) c
      have hrun:(execOp a.eval ⟨dst,.lookup t m x true,ty,pos,af,none⟩).run C.P w=.ok (.value (SV.den ρ (.t [.g [.i .i64 ((f c).getD (0,0)).1,.i .i64 ((f c).getD (0,0)).2],.c (.b (f c).isSome)]))) w:=by
       simp [execOp,m1',x1',hlook]
       rfl
      rw [hrun,Oper.stillUpon_value]
      refine hput _ ?_ hd h'
      intro y hy
      simp only [List.mem_cons,List.not_mem_nil,or_false] at hy
      rcases hy with rfl | rfl
      ·intro z hz
       simp only [List.mem_cons,List.not_mem_nil,or_false] at hz
       rcases hz with rfl | rfl <;> trivial
      ·trivial
     ·cases hs
    ·cases hs
   ·exact h.elim
 | ⟨_,_,_,_,_,some _⟩ :: _,_,_,_,h,_=>by
  unfold VS at h
  exact h.elim
theorem Rep.drew {ρ:Nat→RE} {a:Act} {w:World} (h:Rep C ρ nt sl en a w):Rep C ρ nt sl en a { w with drawn:=w.drawn+1 }:=⟨h.hw.drew,h.tm,h.sz,h.df,h.n0⟩
def lkB (T:TypeId):Op→Bool
 | .lookup t _ _ _=>t == T
 | _=>true
theorem Run_still {b:Nat} {T:TypeId} {f:Int→Option (Int × Int)} {id:Nat} {l:List Oper} (n:Nat) (hm:C.P.follows .mixedOrders=true) (hB:Region.lexTailB .any l.toArray n=true) (hlk:∀ w,Upd C.S C.w0 w→MapAt w b f)
  (hT:lkT C.P T) (hl:((l.take n).all fun o=>lkB T o.op)=true) (h:VS C nt b f en (fun sl'=>Run C (.ops l (l.drop n) :: k) nt sl' en) (l.take n) sl):Run C (.code (.region id l.toArray true) :: k) nt sl en:=by
 intro ρ a w hr
 show (Code.region id l.toArray true).wp C.P (KQ C k) a w
 refine wp_region_still_tail n hm hB ?_
 refine VS_ok (C:=C) (K:=fun sl'=>Run C (.ops l (l.drop n) :: k) nt sl' en) (hlk _ hr.drew.hw.up) (fun sl' a' hK hr'=>?_) (l.take n) sl a (fun o ho t m x hop=>?_) h hr.drew
 ·have:=hK ρ a' _ hr'
  rwa [zH9] at this
 ·have:=List.all_eq_true.1 hl o ho
  rw [hop] at this
  simp only [lkB,beq_iff_eq] at this
  rw [this]; exact hT
theorem Run_mapput {b:Nat} {f:Int→Option (Int × Int)} {t:TypeId} {m x y:Operand} {c:Int} {v:Int × Int} {ty:TypeId} {pos:String} {af:Array Edge} {all r:List Oper} (hlt:lkT C.P t) (hlk:∀ w,Upd C.S C.w0 w→MapAt w b f)
  (hm:ev sl m=some (.c (.v (.map (some b))))) (hx:ev sl x=some (.c (.i .i64 c))) (hy:ev sl y=some (.g [.i .i64 v.1,.i .i64 v.2]))
  (h:∀ ρ w,(∃ w1,Hw C ρ (· < en.length) en w1∧C.n0≤en.length∧(∀ q,q ≠ b→w.heap[q]?=w1.heap[q]?)∧w.heap.size=w1.heap.size)→Upd (fun q=>C.S q∨q=b) C.w0 w→MapAt w b (zJ0 f c v)→∀ E:Cx,SameQ E C→E.S=wrB ρ en→E.w0=w→E.n0=en.length→E.ρ0=ρ→Run E (.ops all r :: k) nt sl en) :
  Run C (.ops all (⟨none,.mapUpdate t m x y,ty,pos,af,none⟩ :: r) :: k) nt sl en:=by
 intro ρ a w hr
 obtain ⟨kt,e,t1,t2,t3⟩:=hlt
 have hM:=hlk w hr.hw.up
 obtain ⟨o,hrun,hM'⟩:=hM.put (P:=C.P) (t:=t) t1 t2 c v
 obtain ⟨m1,_⟩:=hr.ev_ok _ _ hm
 obtain ⟨x1,_⟩:=hr.ev_ok _ _ hx
 obtain ⟨y1,_⟩:=hr.ev_ok _ _ hy
 have m1':a.eval m=.map (some b):=m1
 have x1':a.eval x=.int .i64 c:=x1
 have y1':a.eval y=tnV v:=y1
 rw [zH9]
 unfold wpList
 rw [if_pos (by simp [Region.wanted])]
 left
 unfold Oper.wp
 obtain ⟨es,clock,ks,hb,_,_⟩:=hM
 have hoth:∀ q,q ≠ b→(setBlock w b o).heap[q]?=w.heap[q]?:=fun q hq=>heap_setBlock_other hb o hq
 have hsz:(setBlock w b o).heap.size=w.heap.size:=by simp [setBlock]
 have hne:∀ q t cells mu,q < en.length→zD en q=some ⟨t,cells,mu⟩→(t.1 ≠ zE8∧(ρ q).nl=none)→(ρ q).blk ≠ b:=fun q t cells mu hq he hl hqb=>by
  have:=(hr.hw.hp q t cells mu hq he).heap hl
  rw [hqb,hb] at this
  cases this
 have hwt:Wt C.df ρ nt sl en a (setBlock w b o):=by
  refine ⟨fun q t cells mu hq he=>?_,hr.hw.ho,hr.hw.inj,hr.tm,hr.sz,hr.df⟩
  have g:=hr.hw.hp q t cells mu hq he
  refine ⟨fun hl=>?_,g.wf,g.dead,g.non⟩
  rw [hoth _ (hne q t cells mu hq he hl)]
  exact g.heap hl
 have hup:Upd (fun q=>C.S q∨q=b) C.w0 (setBlock w b o):=by
  have hu:=hr.hw.up
  refine ⟨hu.os,hu.tape,hu.output,by rw [hsz]; exact hu.size,fun q hq hS=>?_⟩
  rw [hoth q (fun h=>hS (.inr h))]
  exact hu.block q hq (fun h=>hS (.inl h))
 have:=h ρ (setBlock w b o) ⟨w,hr.hw,hr.n0,hoth,hsz⟩ hup hM' (cxW C ρ (setBlock w b o) en) ⟨rfl,rfl,rfl,rfl⟩ rfl rfl rfl rfl ρ a _ hwt.rep
 rw [show KQ (cxW C ρ (setBlock w b o) en) (.ops all r :: k)=KQ C (.ops all r :: k) from zI5 (C:=C) (D:=cxW C ρ (setBlock w b o) en) rfl rfl _,zH9] at this
 have hx':(execOp a.eval ⟨none,.mapUpdate t m x y,ty,pos,af,none⟩).run C.P w=.ok .skip (setBlock w b o):=by
  simp [execOp,m1',x1',y1',hrun,Result.andThen]
 rw [hx']
 simp only [Oper.upon]
 exact this
end
end Go.Proofs.YtfpeholdlkfmoaaGreatDoor
