/- What every walk by the engine wants: no contracts, no entries, entries that are only read, the end of a function that only reads. No program in sight but its types. -/
import Derived.Test.YtfpeholdlkfmoaaGreatDoorBS04
import Derived.Test.YtfpeholdlkfmoaaGreatDoorCSxLay
import Derived.IntWalk
import Derived.Test.YtfpeholdlkfmoaaGreatDoorBS00
import Derived.WalkKit
import Derived.Lib.Bytealg
import Derived.Laws.CopyRow
import Derived.Laws.AppendOwn
import Derived.Lib.SliceRun
import Derived.Shelf.Small.Strs
import Derived.Shelf.LaysM
import Derived.Test.YtfpeholdlkfmoaaGreatDoorProg
import Derived.Test.YtfpeholdlkfmoaaGreatDoorChecked
import Derived.WalkSmall
import Derived.WalkSpells
import Derived.LoopTactic
import Derived.BigQuiet
import Derived.Deep.QuietTactic
import Derived.Deep.MidRow
import Derived.Outline
import Derived.Maps.AppendAt
import Derived.Shelf.Spec.SlicesInsertGrow
import Derived.StillTailTactics
import Derived.Deep.RegionLaw
import Derived.OwnWalk
namespace Go.Proofs.YtfpeholdlkfmoaaGreatDoor
set_option linter.unusedSimpArgs false
set_option linter.unusedVariables false
open Go.RowKit
def noC:Ctr:=fun _ _ _=>none
theorem zE6 {C:Cx} (_:C.P=Tryz.prog):zE4 C noC:=fun _ _ _ _ _ h=>by cases h
theorem At.nil (S:Nat→Prop) (ρ:Nat→RE) (w:World):At S ρ [] w:=⟨fun c _ _ _ hc=>absurd hc (by simp),fun c _ _ _ hc=>absurd hc (by simp),fun c _ hc=>absurd hc (by simp),fun c _ _ hc=>absurd hc (by simp)⟩
def ro (en:List EN):List EN:=en.map fun e=>{ e with mu:=false }
theorem zZ9 {en:List EN} {c:Nat} {ty:TypeId × Nat × (RE→Prop)} {cells:List SC} {mu:Bool} (h:zD en c=some ⟨ty,cells,mu⟩):zD (ro en) c=some ⟨ty,cells,false⟩:=by
 rw [zA5] at h ⊢
 simp [ro,h]
theorem nth_ro' {en:List EN} {c:Nat} {ty:TypeId × Nat × (RE→Prop)} {cells:List SC} {mu:Bool} (h:zD (ro en) c=some ⟨ty,cells,mu⟩):∃ mu',zD en c=some ⟨ty,cells,mu'⟩∧mu=false:=by
 rw [zA5] at h
 simp only [ro,List.getElem?_map,Option.map_eq_some_iff] at h
 obtain ⟨e,he,h2⟩:=h
 cases e
 simp only [EN.mk.injEq] at h2
 obtain ⟨rfl,rfl,h3⟩:=h2
 exact ⟨_,by rw [zA5]; exact he,h3.symm⟩
theorem zT8 (en:List EN):(ro en).length=en.length:=by simp [ro]
theorem At.roOf {ρ:Nat→RE} {en:List EN} {w:World} (hp:Hp ρ (· < en.length) en w) (ho:Ho ρ (· < en.length) en) (inj:Inj ρ (· < en.length) en):At Non ρ (ro en) w:=by
 refine ⟨?_,?_,?_,?_⟩
 ·intro c ty cells mu hc he
  obtain ⟨mu',he',hmf⟩:=nth_ro' he
  rw [zT8] at hc
  have h1:=hp c ty cells mu' hc he'
  exact ⟨h1.heap,by rw [zT8]; exact h1.wf,fun hd=>⟨(h1.dead hd).1,by assumption⟩,h1.non⟩
 ·intro c ty cells mu hc he
  obtain ⟨mu',he',_⟩:=nth_ro' he
  rw [zT8] at hc
  exact ho c ty cells mu' hc he'
 ·intro c d hc hd hcl hdl
  rw [zT8] at hc hd
  have hl:∀ z,zE7 (ρ z) (zD (ro en) z)=zE7 (ρ z) (zD en z):=fun z=>by
   cases hx:zD en z with
   | none=>rw [zA5] at hx ⊢; simp [ro,hx]
   | some e=>cases e with | mk ty cells mu=>rw [zZ9 hx]; rfl
  rw [hl] at hcl hdl
  exact inj c d hc hd hcl hdl
 ·intro c ty cells hc he
  obtain ⟨mu',_,h⟩:=nth_ro' he
  cases h
theorem wfC_iff {n:Nat} {x:SC} (h:x.wf (· < n)):jV n x=true:=by
 cases x with
 | p c o=>exact decide_eq_true h
 | sl c o k m=>exact decide_eq_true h
 | rw c k=>exact decide_eq_true h
 | f fn cap=>simp only [jV,List.all_eq_true,decide_eq_true_eq]; exact h
 | _=>rfl
theorem zL2 {n:Nat}:∀ {l:List SC},wfs (· < n) l→jW n l=true
 | [],_=>rfl
 | x :: l,h=>by
  have h1:=wfC_iff (h x (List.mem_cons_self ..))
  have h2:=zL2 (l:=l) (fun y hy=>h y (List.mem_cons_of_mem _ hy))
  simp only [jW,h1,h2,cond_true]
theorem wfE_iff {n:Nat}:∀ {l:List EN},(∀ e∈l,wfs (· < n) e.cells)→jX n l=true
 | [],_=>rfl
 | ⟨ty,cells,mu⟩ :: l,h=>by
  have h1:=zL2 (h ⟨ty,cells,mu⟩ (List.mem_cons_self ..))
  have h2:=wfE_iff (l:=l) (fun y hy=>h y (List.mem_cons_of_mem _ hy))
  have h1':jW n cells=true:=h1
  simp only [jX,h1',h2,cond_true]
theorem At.wfE {S:Nat→Prop} {ρ:Nat→RE} {en:List EN} {w:World} (h:At S ρ en w):jX (zG en) en=true:=by
 rw [zB9]
 refine wfE_iff fun e he=>?_
 obtain ⟨c,hc,rfl⟩:=List.mem_iff_getElem.1 he
 exact (h.hp c en[c].ty en[c].cells en[c].mu hc (by rw [zA5,List.getElem?_eq_getElem hc])).wf
theorem zU4 {C:Cx} {P:Program} {fn:Func} {v v':SV} {ρ:Nat→RE} {w:World} {n:Nat} {kp:List Nat} {en:List EN} {rs:List ResultVar} (hC:C=zL P fn (fun e w'=>e=.returned (v.den ρ)∧Below w.heap.size w w') Non w ρ n kp) (hrs:fn.results.toList=rs) (hv:v'=v) (hw:v.wf (· < n)):Fin C rs v' en:=by
 subst hC
 subst hv
 exact zK7 zL1 hrs fun ρ' w' h hn _=>⟨congrArg _ (SV.den_congr hw (fun c hc=>h.ini c hc)),h.up.to_below⟩
end Go.Proofs.YtfpeholdlkfmoaaGreatDoor
/- Plain laws on decimal texts, the second part: a number's text says it; texts are ordered as numbers are. No program in sight. -/
namespace Go.Proofs.YtfpeholdlkfmoaaGreatDoor
set_option linter.unusedSimpArgs false
set_option linter.unusedVariables false
open Go.Lib
theorem zJ5 (u:Nat) (h:u < 18446744073709551616):(decDigits u).length≤20:=by
 rw [decDigits_length]
 by_cases h1:1≤u
 ·have h2:=numDigits_eq u h1 h; split at h2 <;> omega
 ·rw [show u=0 by omega,nDigits_small (by omega)]; omega
end Go.Proofs.YtfpeholdlkfmoaaGreatDoor
/- The model's plain functions: what Apply computes of a state and a command. No program in sight. -/
namespace Go.Proofs.YtfpeholdlkfmoaaGreatDoor
set_option linter.unusedSimpArgs false
set_option linter.unusedVariables false
open Go.Lib
structure It where
 key:List UInt8
 flags:Int
 val:List UInt8
 exp:Int
 cas:Int
 last:Int
 stale:Bool
 won:Bool
structure St where
 items:List It
 cas:Int
 flush:Int
structure Cd where
 op:Int
 mode:Int
 key:List UInt8
 val:List UInt8
 flags:Int
 exp:Int
 hasExp:Bool
 cas:Int
 hasCas:Bool
 delta:Int
 init:Int
 down:Bool
 viv:Bool
 vive:Int
 recache:Int
 inval:Bool
structure An where
 st:Int
 it:It
 num:Int
 w:Bool
 x:Bool
 z:Bool
def It.zero:It:=⟨[],0,[],0,0,0,false,false⟩
def St.zero:St:=⟨[],0,0⟩
def An.zero:An:=⟨0,It.zero,0,false,false,false⟩
def zA7 (n:Int):An:=⟨n,It.zero,0,false,false,false⟩
def keyB (k:List UInt8):Bool:=!k.isEmpty && (k.all fun c=>decide (32 < c.toNat) && decide (c.toNat ≠ 127)) && decide (k.length≤250)
def zF5 (n:Int):Bool:=decide (-1099511627776≤n) && decide (n≤1099511627776)
def zT0 (c:Cd):Bool:=decide (1≤c.op) && decide (c.op≤7) && decide (0≤c.mode) && decide (c.mode≤4) && decide (c.val.length≤65536) && (zF5 c.exp && zF5 c.vive && zF5 c.recache) && (decide (c.op=6) || keyB c.key)
def zF3 (now e:Int):Int:=if e=0∨2592000 < e then e else if e < 0 then now else now+e
def zE2 (now:Int) (x:It):Bool:=!decide (x.exp=0) && decide (x.exp≤now)
def addV (l:List UInt8) (d:Int):Option (List UInt8):=match zD8 l with | some n=>some (decDigits (IntKind.u64.wrap ((n:Int)+d)).toNat) | none=>none
def subV (l:List UInt8) (d:Int):Option (List UInt8):=match zD8 l with | some n=>some (decDigits ((n:Int) - min (n:Int) d).toNat) | none=>none
def atF (l:List It) (k:List UInt8):Nat:=(l.takeWhile fun x=>Op.bytesLess x.key k).length
def isF (l:List It) (k:List UInt8):Bool:=match l[atF l k]? with | some x=>x.key == k | none=>false
def itF (l:List It) (i:Nat):It:=l.getD i It.zero
def zJ4 (X:St) (i:Nat) (is:Bool) (x:It):St × It:=
 ({ X with cas:=IntKind.u64.wrap (X.cas+1),items:=if is then X.items.set i { x with cas:=IntKind.u64.wrap (X.cas+1) } else X.items.take i++{ x with cas:=IntKind.u64.wrap (X.cas+1) } :: X.items.drop i },
  { x with cas:=IntKind.u64.wrap (X.cas+1) })
def zB3 (c:Cd) (x:It):Bool:=c.hasCas && !decide (x.cas=c.cas)
def soonB (now:Int) (c:Cd) (x:It):Bool:=decide (0≤c.recache) && !decide (x.exp=0) && decide (x.exp - now < c.recache)
def winB (now:Int) (c:Cd) (x:It):Bool:=!x.won && (x.stale || soonB now c x)
def gotF (now:Int) (c:Cd) (x:It):It:={ x with won:=x.won || winB now c x,last:=now,exp:=if c.hasExp then zF3 now c.exp else x.exp }
def getF (X:St) (now:Int) (c:Cd) (i:Nat) (is:Bool):St × An:=
 if is then ({ X with items:=X.items.set i (gotF now c (itF X.items i)) },⟨1,gotF now c (itF X.items i),0,winB now c (itF X.items i),(itF X.items i).stale,(itF X.items i).won⟩)
 else if c.viv then ((zJ4 X i false ⟨c.key,0,[],zF3 now c.vive,0,0,false,true⟩).1,⟨1,(zJ4 X i false ⟨c.key,0,[],zF3 now c.vive,0,0,false,true⟩).2,0,true,false,false⟩)
 else (X,zA7 5)
def zK1 (now:Int) (c:Cd) (x:It) (stale:Bool):It:=
 if c.mode=3 then { x with val:=x.val++c.val,stale:=stale,won:=false }
 else if c.mode=4 then { x with val:=c.val++x.val,stale:=stale,won:=false }
 else ⟨c.key,c.flags,c.val,zF3 now c.exp,0,0,stale,false⟩
def zD9 (most:Int) (x:It):Bool:=decide ((x.key.length:Int)+(x.val.length:Int)≤most)
def zA8 (X:St) (now:Int) (c:Cd) (most:Int) (i:Nat) (is:Bool):St × An:=
 if (decide (c.mode=1) && is || decide (1 < c.mode) && !is)=true then (X,zA7 3)
 else if (c.hasCas && !is)=true then (X,zA7 5)
 else if (is && zB3 c (itF X.items i) && !(c.inval && decide (c.cas < (itF X.items i).cas)))=true then (X,zA7 4)
 else if zD9 most (zK1 now c (itF X.items i) (is && zB3 c (itF X.items i))) then
  ((zJ4 X i is (zK1 now c (itF X.items i) (is && zB3 c (itF X.items i)))).1,⟨2,(zJ4 X i is (zK1 now c (itF X.items i) (is && zB3 c (itF X.items i)))).2,0,false,false,false⟩)
 else (X,zA7 11)
def zH0 (X:St) (most:Int) (i:Nat) (is:Bool) (x:It):St × An:=
 if zD9 most x then ((zJ4 X i is x).1,⟨6,(zJ4 X i is x).2,(((zD8 x.val).getD 0:Nat):Int),false,false,false⟩) else (X,zA7 11)
def zD3 (X:St) (now:Int) (c:Cd) (most:Int) (i:Nat) (is:Bool):St × An:=
 if is then
  if zB3 c (itF X.items i) then (X,zA7 4)
  else match (if c.down then subV (itF X.items i).val c.delta else addV (itF X.items i).val c.delta) with
   | none=>(X,zA7 7)
   | some v=>zH0 X most i true { itF X.items i with val:=v,exp:=if c.hasExp then zF3 now c.exp else (itF X.items i).exp }
 else if c.viv then zH0 X most i false ⟨c.key,0,decDigits c.init.toNat,zF3 now c.vive,0,0,false,false⟩
 else (X,zA7 5)
def zX0 (now:Int) (c:Cd) (x:It):It:={ x with stale:=true,won:=false,exp:=if c.hasExp then zF3 now c.exp else x.exp }
def zD1 (X:St) (now:Int) (c:Cd) (i:Nat) (is:Bool):St × An:=
 if is then
  if zB3 c (itF X.items i) then (X,zA7 4)
  else if c.inval then ((zJ4 X i true (zX0 now c (itF X.items i))).1,⟨9,(zJ4 X i true (zX0 now c (itF X.items i))).2,0,false,false,false⟩)
  else ({ X with items:=X.items.eraseIdx i },zA7 9)
 else (X,zA7 5)
def zI2 (X:St) (now:Int) (c:Cd):St × An:=
 if zF3 now c.exp≤now then ({ X with items:=[],flush:=0 },zA7 10) else ({ X with flush:=zF3 now c.exp },zA7 10)
def zV1 (X:St) (now:Int) (c:Cd) (i:Nat) (is:Bool):St × An:=
 if is then ({ X with items:=X.items.set i { itF X.items i with exp:=zF3 now c.exp } },⟨8,{ itF X.items i with exp:=zF3 now c.exp },0,false,false,false⟩) else (X,zA7 5)
def lookF (X:St) (i:Nat) (is:Bool):St × An:=if is then (X,⟨1,itF X.items i,0,false,false,false⟩) else (X,zA7 5)
def zB1 (X:St) (now:Int):St:=
 if X.flush ≠ 0∧X.flush≤now then { X with items:=[],flush:=0 } else { X with items:=X.items.filter fun x=>!zE2 now x }
def doF (X:St) (now:Int) (c:Cd) (most:Int) (i:Nat) (is:Bool):St × An:=
 if c.op=1 then getF X now c i is
 else if c.op=2 then zA8 X now c most i is
 else if c.op=3 then zD3 X now c most i is
 else if c.op=4 then zV1 X now c i is
 else if c.op=7 then lookF X i is
 else if c.op=5 then zD1 X now c i is
 else zI2 X now c
def zA9 (X:St) (now:Int) (c:Cd) (most:Int):St × An:=
 if zT0 c=true∧1≤now∧now≤1099511627776 then doF (zB1 X now) now c most (atF (zB1 X now).items c.key) (isF (zB1 X now).items c.key)
 else (St.zero,An.zero)
end Go.Proofs.YtfpeholdlkfmoaaGreatDoor
/- The model's small functions by the symbolic walk: told, moment, item, other; their rows of contracts. -/
namespace Go.Proofs.YtfpeholdlkfmoaaGreatDoor
set_option linter.unusedSimpArgs false
set_option linter.unusedVariables false
set_option maxHeartbeats 8000000
open Go.RowKit
def itS (x:It):List SC:=[.s x.key,.i .u32 x.flags,.s x.val,.i .i64 x.exp,.i .u64 x.cas,.i .i64 x.last,.b x.stale,.b x.won]
def anS (a:An):List SC:=[.i .i64 a.st,.s a.it.key,.i .u32 a.it.flags,.s a.it.val,.i .i64 a.it.exp,.i .u64 a.it.cas,.i .i64 a.it.last,.b a.it.stale,.b a.it.won,.i .u64 a.num,.b a.w,.b a.x,.b a.z]
def woS (v:SC) (X:St) (now:Int) (c:Cd) (most:Int) (i:Nat) (is:Bool):List SC:=
 [v,.i .u64 X.cas,.i .i64 X.flush,.i .i64 now,.i .i64 c.op,.i .i64 c.mode,.s c.key,.s c.val,.i .u32 c.flags,.i .i64 c.exp,.b c.hasExp,.i .u64 c.cas,.b c.hasCas,.i .u64 c.delta,.i .u64 c.init,.b c.down,.b c.viv,.i .i64 c.vive,.i .i64 c.recache,.b c.inval,.i .i64 most,.i .i64 i,.b is]
def zB5:List SV→Option (Prop × SV)
 | [.c (.i .i64 n)]=>some (True,.g (anS (zA7 n)))
 | _=>none
def zA3 (en:List EN):List SV→Option (Prop × SV)
 | [.c (.p c 0),.c (.i .i64 e)]=>match zD en c with
  | some ⟨_,cells,_⟩=>match zD cells 3 with
   | some (.i .i64 now)=>some (1≤now∧now≤1099511627776,.c (.i .i64 (zF3 now e)))
   | _=>none
  | none=>none
 | _=>none
def zB7 (en:List EN):List SV→Option (Prop × SV)
 | [.c (.p c 0)]=>match zD en c with
  | some ⟨_,cells,_⟩=>match zD cells 0,zD cells 21 with
   | some (.rw d n),some (.i .i64 j)=>match zD en d with
    | some ⟨(_,off,_),_ :: _,_⟩=>some (0≤j∧j < (n:Int)∧j.toNat * 8=off,.c (.p d 0))
    | _=>none
   | _,_=>none
  | none=>none
 | _=>none
def zC2 (en:List EN):List SV→Option (Prop × SV)
 | [.c (.p c 0)]=>match zD en c with
  | some ⟨_,cells,_⟩=>match zD cells 0,zD cells 21,zD cells 12,zD cells 11 with
   | some (.rw d n),some (.i .i64 j),some (.b hc),some (.i .u64 b)=>match zD en d with
    | some ⟨(_,off,_),c0 :: cs,_⟩=>match zD (c0 :: cs) 4 with
     | some (.i .u64 a)=>some (0≤j∧j < (n:Int)∧j.toNat * 8=off,.c (.b (hc && !decide (a=b))))
     | _=>none
    | _=>none
   | _,_,_,_=>none
  | none=>none
 | _=>none
section
variable {en:List EN} {ρ:Nat→RE} {w:World} {xs:List SV} {p:Prop} {v:SV}
set_option maxRecDepth 100000
theorem rowTold_ok (h:zB5 xs=some (p,v)):v.wf (· < en.length)∧Calls Tryz.prog 37 (xs.map (SV.den ρ)).toArray w fun e w'=>e=.returned (v.den ρ)∧Below w.heap.size w w':=by
 unfold zB5 at h
 split at h <;> simp only [Option.some.injEq,Prod.mk.injEq,reduceCtorEq] at h
 rename_i n
 obtain ⟨_,rfl⟩:=h
 refine ⟨by simp [SV.wf,wfs,anS,SC.wf],zB8 Tryz.func37 rfl kp37 (S:=Non) (ρ:=ρ) (en:=[]) [.c (.i .i64 n)] Tryz.ntmps37 (At.nil _ _ _) (by simp [SV.wf,SC.wf]) (by simp) ?_⟩
 intro C hC hP hk
 have hctr:=zE6 hP
 (refine zH1 hctr (rs:=res37) 300 _ _ _ ?_; simp (maxSteps:=1000000) only [VC,qE,qF,qG,qH,qI,qJ,qK,qO,qP,qf,qg,q0t,qu,qv,ev,qy,zA,zB,zC,zD,zE,zF,zG,zI,zJ,TE.sv,zK,zM,↓reduceIte,reduceCtorEq,Nat.reduceEqDiff,Nat.reduceAdd,Nat.reduceLT,zP,zQ,zR,zt,hP,hk,res37,kp37])
 exact zU4 hC hres37 rfl (by simp [SV.wf,wfs,anS,SC.wf])
theorem rowMoment_ok (h:zA3 en xs=some (p,v)) (hp:p) (hat:At Non ρ (ro en) w) (hwf:∀ x∈xs,x.wf (· < en.length)) :
  v.wf (· < en.length)∧Calls Tryz.prog 38 (xs.map (SV.den ρ)).toArray w fun e w'=>e=.returned (v.den ρ)∧Below w.heap.size w w':=by
 unfold zA3 at h
 split at h <;> try cases h
 rename_i c e
 split at h <;> try cases h
 rename_i ty cells mu he
 split at h <;> try cases h
 rename_i now hn
 have he':=zZ9 he
 obtain ⟨hp1,hp2⟩:=hp
 refine ⟨trivial,zB8 Tryz.func38 rfl kp38 [.c (.p c 0),.c (.i .i64 e)] Tryz.ntmps38 hat (by rw [zT8]; exact hwf) (by simp) ?_⟩
 intro C hC hP hk
 have hctr:=zE6 hP
 (refine zH1 hctr (rs:=res38) 200 _ _ _ ?_; simp (maxSteps:=1000000) only [VC,qE,qF,qG,qH,qI,qK,qO,qP,qQ,qR,qS,qV,qp,ev,qy,qz,zD,zI,zJ,TE.sv,zK,zM,↓reduceIte,reduceCtorEq,Nat.reduceEqDiff,Nat.reduceLT,zP,zQ,zR,zS,zW,zb,zc,zd,ze,zf,zg,zt,hP,hk,res38,kp38,he',hn])
 have fin:∀ x:Int,x=zF3 now e→Fin C res38 (.c (.i .i64 x)) (ro en):=fun x hx=>zU4 hC hres38 (by rw [hx]) trivial
 refine ⟨fun h0=>⟨fun h1=>fin _ ?_,fun h1=>⟨fun h2=>fin _ ?_,fun h2=>fin _ ?_⟩⟩,fun h0=>fin _ ?_⟩
 ·unfold zF3; rw [if_pos (.inr h1)]
 ·unfold zF3; rw [if_neg (by omega),if_pos h2]
 ·unfold zF3; rw [if_neg (by omega),if_neg h2]; exact IntWalk.i64_in _ (by omega)
 ·unfold zF3; rw [if_pos (.inl h0)]
theorem rowItem_ok (h:zB7 en xs=some (p,v)) (hp:p) (hat:At Non ρ (ro en) w) (hwf:∀ x∈xs,x.wf (· < en.length)) :
  v.wf (· < en.length)∧Calls Tryz.prog 39 (xs.map (SV.den ρ)).toArray w fun e w'=>e=.returned (v.den ρ)∧Below w.heap.size w w':=by
 unfold zB7 at h
 split at h <;> try cases h
 rename_i c
 split at h <;> try cases h
 rename_i ty cells mu he
 split at h <;> try cases h
 rename_i d n j h0 h21
 split at h <;> simp only [Option.some.injEq,Prod.mk.injEq,reduceCtorEq] at h
 rename_i ty2 off iv c0 cs mu2 hd
 obtain ⟨rfl,rfl⟩:=h
 have he':=zZ9 he
 have hd':=zZ9 hd
 have hdl:d < en.length:=by rw [zA5] at hd; exact (List.getElem?_eq_some_iff.1 hd).1
 obtain ⟨hp1,hp2,hp3⟩:=hp
 refine ⟨hdl,zB8 Tryz.func39 rfl kp39 [.c (.p c 0)] Tryz.ntmps39 hat (by rw [zT8]; exact hwf) (by simp) ?_⟩
 intro C hC hP hk
 have hctr:=zE6 hP
 (refine zH1 hctr (rs:=res39) 300 _ _ _ ?_; simp (maxSteps:=1000000) only [VC,qH,qI,qK,qO,ev,qz,zI,zJ,zK,↓reduceIte,reduceCtorEq,Nat.reduceLT,zP,zR,hk,kp39])
 (refine zA1 hctr (by rw [hP]; rfl) rs39_1 [] (ensure_type_of% (Cmp.of (by simp (maxSteps := 1000000) only [qK, qO, qP, qQ, qV, qX, ev, qy, zD, zM, ↓reduceIte, reduceCtorEq, Nat.reduceEqDiff, zT, zt, zu, cD, cO, jC, jD, jN, hP, he', h0, h21, hd', hp1, hp2, hp3]; rfl)) "" Cmp.mk) (by kernel_rfl) (by kernel_rfl) (by first | exact zA2 _ | kernel_rfl) (by kernel_rfl) (by rfl) (by rfl) (by first | exact zA0 _ | rfl) (by rfl) (by simp (maxSteps := 1000000) only [qK, qO, qP, qQ, qV, qX, ev, qy, zD, zM, ↓reduceIte, reduceCtorEq, Nat.reduceEqDiff, zR, zT, zn, zt, zu, jD, jN, jP, jQ, jR, jS, jT, hP, he', h0, h21, hd', hp1, hp2, hp3]) ?_; refine zH1 hctr (rs := res39) 300 _ _ _ ?_; simp (maxSteps := 1000000) only [VC, qE, qF, qG, qy, zG, zI, zJ, TE.sv, ↓reduceIte, reduceCtorEq, Nat.reduceEqDiff, Nat.reduceAdd, zP, zQ, zt, jN, jO, hk, res39, kp39])
 exact zU4 hC hres39 rfl (by rw [zT8]; exact hdl)
def mC0:Ctr:=fun f en xs=>match f with
 | 37=>zB5 xs
 | 38=>zA3 en xs
 | 39=>zB7 en xs
 | _=>none
theorem mC0_ok {C:Cx} (hP:C.P=Tryz.prog):zE4 C mC0:=by
 intro f en xs p v h hp ρ w _ hHp hHo hinj hwf
 rw [hP]
 unfold mC0 at h
 split at h
 ·exact ⟨fun args w=>Tryz.call37 args w,rowTold_ok h⟩
 ·exact ⟨fun args w=>Tryz.call38 args w,rowMoment_ok h hp (At.roOf hHp hHo hinj) hwf⟩
 ·exact ⟨fun args w=>Tryz.call39 args w,rowItem_ok h hp (At.roOf hHp hHo hinj) hwf⟩
 ·cases h
theorem rowOther_ok (h:zC2 en xs=some (p,v)) (hp:p) (hat:At Non ρ (ro en) w) (hwf:∀ x∈xs,x.wf (· < en.length)) :
  v.wf (· < en.length)∧Calls Tryz.prog 58 (xs.map (SV.den ρ)).toArray w fun e w'=>e=.returned (v.den ρ)∧Below w.heap.size w w':=by
 unfold zC2 at h
 split at h <;> try cases h
 rename_i c
 split at h <;> try cases h
 rename_i ty cells mu he
 split at h <;> try cases h
 rename_i d n j hc b h0 h21 h12 h11
 split at h <;> try cases h
 rename_i ty2 off iv c0 cs mu2 hd
 split at h <;> simp only [Option.some.injEq,Prod.mk.injEq,reduceCtorEq] at h
 rename_i a h4
 have h4:zD cs 3=some (.i .u64 a):=h4
 obtain ⟨rfl,rfl⟩:=h
 have he':=zZ9 he
 have hd':=zZ9 hd
 obtain ⟨hp1,hp2,hp3⟩:=hp
 refine ⟨trivial,zB8 Tryz.func58 rfl kp58 [.c (.p c 0)] Tryz.ntmps58 hat (by rw [zT8]; exact hwf) (by simp) ?_⟩
 intro C hC hP hk
 have hctr:=mC0_ok hP
 have hwe:=hat.wfE
 have hcl:c < zG (ro en):=by rw [zB9]; rw [zA5] at he'; exact (List.getElem?_eq_some_iff.1 he').1
 (refine zH1 hctr (rs:=res58) 300 _ _ _ ?_; simp (maxSteps:=1000000) only [VC,qH,qI,qK,qO,ev,qz,zI,zJ,zK,↓reduceIte,reduceCtorEq,Nat.reduceLT,zP,zR,hk,kp58])
 cases hc with
 | false =>
  (refine zA1 hctr (by rw [hP]; rfl) rs58_1 [] (ensure_type_of% (Cmp.of (by simp (maxSteps := 1000000) only [qK, qO, qP, qQ, qV, qp, ev, qy, qz, zD, zM, ↓reduceIte, reduceCtorEq, Nat.reduceEqDiff, Nat.reduceAdd, zt, cD, cO, jC, jD, jE, jN, hP, he', h12]; rfl)) "" Cmp.mk) (by kernel_rfl) (by kernel_rfl) (by first | exact zA2 _ | kernel_rfl) (by kernel_rfl) (by rfl) (by rfl) (by first | exact zA0 _ | rfl) (by rfl) (by simp (maxSteps := 1000000) only [qK, qO, qP, qQ, qV, qp, ev, qy, qz, zD, zM, ↓reduceIte, reduceCtorEq, Nat.reduceEqDiff, Nat.reduceAdd, zT, zn, zt, jD, jE, jN, jP, jQ, jR, jS, jT, hP, he', h12]) ?_; refine zH1 hctr (rs := res58) 300 _ _ _ ?_; simp (maxSteps := 1000000) only [VC, qE, qF, qG, qy, zG, zI, zJ, TE.sv, ↓reduceIte, reduceCtorEq, Nat.reduceEqDiff, Nat.reduceAdd, zP, zQ, zt, jN, jO, hk, res58, kp58])
  exact zU4 hC hres58 rfl trivial
 | true =>
  (refine zA1 hctr (by rw [hP]; rfl) rs58_1 [] (ensure_type_of% (Cmp.of (by simp (maxSteps := 1000000) only [qK, qO, qP, qQ, qR, qS, qV, qp, ev, qw, qy, qz, zD, zM, ↓reduceIte, reduceCtorEq, Nat.reduceEqDiff, Nat.reduceAdd, zT, zt, cD, cO, jC, jD, jE, jN, hP, he', h0, h21, hd', h12, h11, h4, hp1, hp2, hp3, mC0, zB7, zA0]; rfl)) "" Cmp.mk) (by kernel_rfl) (by kernel_rfl) (by first | exact zA2 _ | kernel_rfl) (by kernel_rfl) (by rfl) (by rfl) (by first | exact zA0 _ | rfl) (by rfl) (by simp (maxSteps := 1000000) only [qK, qO, qP, qQ, qR, qS, qV, qp, ev, qw, qy, qz, zD, zM, ↓reduceIte, reduceCtorEq, Nat.reduceEqDiff, Nat.reduceAdd, zP, zR, zT, zn, zo, zt, jD, jE, jN, jP, jQ, jR, jS, jT, jV, jY, hP, he', h0, h21, hd', h12, h11, h4, hp1, hp2, hp3, mC0, zB7, zA0, hwe, hcl]) ?_; refine zH1 hctr (rs := res58) 300 _ _ _ ?_; simp (maxSteps := 1000000) only [VC, qE, qF, qG, qy, zG, zI, zJ, TE.sv, ↓reduceIte, reduceCtorEq, Nat.reduceEqDiff, Nat.reduceAdd, zP, zQ, zt, jN, jO, hk, res58, kp58])
  exact zU4 hC hres58 (congrArg (fun x=>SV.c (SC.b x)) (by by_cases h:a=b <;> simp [h])) trivial
end
end Go.Proofs.YtfpeholdlkfmoaaGreatDoor
/- Plain laws on keys and their order, and on where a key stands in a sorted list of items. No program in sight. -/
namespace Go.Proofs.YtfpeholdlkfmoaaGreatDoor
set_option linter.unusedSimpArgs false
set_option linter.unusedVariables false
open Go.Lib Go.Op
theorem zT7 (a:UInt8):¬ a < a:=by rw [UInt8.lt_iff_toNat_lt]; omega
theorem zE3:∀ a:List UInt8,bytesLess a a=false
 | []=>rfl
 | c :: a=>by
  have h:=zE3 a
  simp [bytesLess,h]
theorem zH8:∀ {a b c:List UInt8},bytesLess a b=true→bytesLess b c=true→bytesLess a c=true
 | [],[],_,h,_=>by simp [bytesLess] at h
 | [],_ :: _,[],_,h=>by simp [bytesLess] at h
 | [],_ :: _,_ :: _,_,_=>by simp [bytesLess]
 | _ :: _,[],_,h,_=>by simp [bytesLess] at h
 | _ :: _,_ :: _,[],_,h=>by simp [bytesLess] at h
 | x :: a,y :: b,z :: c,h1,h2=>by
  simp only [bytesLess,Bool.or_eq_true,Bool.and_eq_true,decide_eq_true_eq,beq_iff_eq,UInt8.lt_iff_toNat_lt] at h1 h2 ⊢
  rcases h1 with h1 | ⟨rfl,h1⟩
  ·rcases h2 with h2 | ⟨rfl,_⟩
   ·exact .inl (by omega)
   ·exact .inl h1
  ·rcases h2 with h2 | ⟨rfl,h2⟩
   ·exact .inl h2
   ·exact .inr ⟨rfl,zH8 h1 h2⟩
theorem zL8:∀ (a b:List UInt8),bytesLess a b=false→bytesLess b a=false→a=b
 | [],[],_,_=>rfl
 | [],_ :: _,h,_=>by simp [bytesLess] at h
 | _ :: _,[],_,h=>by simp [bytesLess] at h
 | x :: a,y :: b,h1,h2=>by
  simp only [bytesLess,Bool.or_eq_false_iff,Bool.and_eq_false_iff,decide_eq_false_iff_not,beq_eq_false_iff_ne,UInt8.lt_iff_toNat_lt] at h1 h2
  have e:x=y:=UInt8.toNat_inj.1 (by omega)
  subst e
  rw [zL8 a b (by simpa using h1.2) (by simpa using h2.2)]
theorem zT2 {a b:List UInt8} (h:bytesLess a b=true):bytesLess b a=false:=by
 refine Bool.eq_false_iff.2 fun h2=>?_
 have:=zH8 h h2
 rw [zE3] at this; cases this
theorem cmp_lt:∀ (a b:List UInt8),compareBytes a b < 0 ↔ bytesLess a b=true
 | [],[]=>by simp [compareBytes,bytesLess]
 | [],_ :: _=>by simp [compareBytes,bytesLess]
 | _ :: _,[]=>by simp [compareBytes,bytesLess]
 | x :: a,y :: b=>by
  have ih:=cmp_lt a b
  simp only [compareBytes,bytesLess]
  by_cases h:x < y
  ·simp [h]
  ·rw [if_neg h]
   by_cases h2:y < x
   ·rw [if_pos h2]
    have hne:¬ x=y:=fun e=>by subst e; exact h h2
    simp [h,hne]
   ·rw [if_neg h2]
    have e:x=y:=by
     rw [UInt8.lt_iff_toNat_lt] at h h2
     exact UInt8.toNat_inj.1 (by omega)
    subst e
    simp [ih]
theorem cmp_eq:∀ (a b:List UInt8),compareBytes a b=0 ↔ a=b
 | [],[]=>by simp [compareBytes]
 | [],_ :: _=>by simp [compareBytes]
 | _ :: _,[]=>by simp [compareBytes]
 | x :: a,y :: b=>by
  have ih:=cmp_eq a b
  simp only [compareBytes]
  by_cases h:x < y
  ·rw [if_pos h]
   constructor
   ·intro h'; omega
   ·intro e; cases e; exact absurd h (zT7 _)
  ·rw [if_neg h]
   by_cases h2:y < x
   ·rw [if_pos h2]
    constructor
    ·intro h'; omega
    ·intro e; cases e; exact absurd h2 (zT7 _)
   ·rw [if_neg h2,ih]
    have e:x=y:=by
     rw [UInt8.lt_iff_toNat_lt] at h h2
     exact UInt8.toNat_inj.1 (by omega)
    subst e
    simp
def Sorted (l:List It):Prop:=l.Pairwise fun a b=>bytesLess a.key b.key=true
theorem Sorted.get {l:List It} (h:Sorted l) {i j:Nat} {x y:It} (hi:l[i]?=some x) (hj:l[j]?=some y) (hij:i < j):bytesLess x.key y.key=true:=by
 obtain ⟨h1,rfl⟩:=List.getElem?_eq_some_iff.1 hi
 obtain ⟨h2,rfl⟩:=List.getElem?_eq_some_iff.1 hj
 exact List.pairwise_iff_getElem.1 h i j h1 h2 hij
theorem Sorted.filter {l:List It} (h:Sorted l) (p:It→Bool):Sorted (l.filter p):=List.Pairwise.filter p h
theorem Sorted.nil:Sorted []:=List.Pairwise.nil
theorem atF_of_part {l:List It} {k:List UInt8} {p:Nat} (hp:p≤l.length) (h1:∀ j x,j < p→l[j]?=some x→bytesLess x.key k=true) (h2:∀ x,l[p]?=some x→bytesLess x.key k=false):atF l k=p:=by
 unfold atF
 induction l generalizing p with
 | nil=>simp at hp; subst hp; rfl
 | cons a l ih =>
  cases p with
  | zero =>
   have:=h2 a rfl
   rw [List.takeWhile_cons,if_neg (by simp [this])]
   rfl
  | succ p =>
   have:=h1 0 a (by omega) rfl
   rw [List.takeWhile_cons,if_pos this,List.length_cons]
   rw [ih (p:=p) (by simpa using hp) (fun j x hj hx=>h1 (j+1) x (by omega) (by simpa using hx)) (fun x hx=>h2 x (by simpa using hx))]
theorem zN2 (l:List It) (k:List UInt8):atF l k≤l.length:=(List.takeWhile_sublist _).length_le
theorem isF_iff {l:List It} {k:List UInt8}:isF l k=true ↔ ∃ x,l[atF l k]?=some x∧x.key=k:=by
 unfold isF
 cases h:l[atF l k]? with
 | none=>simp
 | some x=>simp
theorem zG7 {l:List It} {k:List UInt8} (h:isF l k=true):atF l k < l.length:=by
 obtain ⟨x,hx,_⟩:=isF_iff.1 h
 exact (List.getElem?_eq_some_iff.1 hx).1
theorem itF_of {l:List It} {i:Nat} {x:It} (h:l[i]?=some x):itF l i=x:=by
 unfold itF; rw [List.getD_eq_getElem?_getD,h]; rfl
theorem Sorted.set {l:List It} (h:Sorted l) {i:Nat} {x y:It} (hx:l[i]?=some x) (hk:y.key=x.key):Sorted (l.set i y):=by
 refine List.pairwise_iff_getElem.2 fun a b ha hb hab=>?_
 rw [List.length_set] at ha hb
 have g:=fun (c:Nat) (hc:c < l.length)=>(show ((l.set i y)[c]'(by rw [List.length_set]; exact hc)).key=(l[c]).key by
  rw [List.getElem_set]
  split
  ·rename_i e; subst e
   rw [hk]; congr 1
   exact (Option.some.inj ((List.getElem?_eq_getElem hc).symm.trans hx)).symm
  ·rfl)
 rw [g a ha,g b hb]
 exact List.pairwise_iff_getElem.1 h a b ha hb hab
theorem Sorted.erase {l:List It} (h:Sorted l) (i:Nat):Sorted (l.eraseIdx i):=List.Pairwise.sublist (List.eraseIdx_sublist l i) h
end Go.Proofs.YtfpeholdlkfmoaaGreatDoor
/- Rows of structs in memory: what the builtins copy, clear and append do to a row that is known whole; items as cells. -/
namespace Go.Proofs.YtfpeholdlkfmoaaGreatDoor
set_option linter.unusedSimpArgs false
set_option linter.unusedVariables false
open Go.RowKit
variable {P:Program}
def over (cur:Array Value) (o:Nat) (vs:List Value):Array Value:=(cur.toList.take o++vs++cur.toList.drop (o+vs.length)).toArray
theorem zK8 (w:World) (dT sT ty e:TypeId) (i:TypeInfo) (size:Nat) (hu:P.underlying dT=some (.slice e)) (hi:P.info? e=some i) (hs:i.size=size)
  (g o:Nat) (cur:Array Value) (hg:w.heap[g]?=some (.cells cur e (0,0))) (dLen dCap:Nat) (a:Addr) (sLen sCap k:Nat) (hk:Nat.min sLen dLen=k) (cs:List Value) (hl:cs.length=k * size)
  (hsrc:∀ j v,cs[j]?=some v→w.cell? (a.add j)=some v) (hfit:o+cs.length≤cur.size) (h1:∀ v∈cs,v.oneCell'=true) :
  (Builtin.copy_ #[dT,sT] ty #[.slice (some ⟨g,o,none⟩) dLen dCap,.slice (some a) sLen sCap]).run P w=.ok (goInt k) (w.setRow g (over cur o cs)):=by
 have hf:=run_firstCells_some (P:=P) (w:=w) size k a sLen sCap cs hl hsrc
 have hst:=run_storeCells_at P g o e cs 0 cur w hg (by simpa using hfit) h1
 simp only [Nat.add_zero] at hst
 subst hs
 simp [Builtin.copy_,run_underlying hu,Builtin.lenOf,sizeOf,typeInfo,hi,hk,hf,hst,over]
theorem zG8 (z:Array Value) (n:Nat):(Builtin.zeroCells z n).toList.length=n * z.size:=by simp [Builtin.zeroCells]
theorem zeroCells_one (z:Array Value) (n:Nat) (h:∀ v∈z.toList,v.oneCell'=true):∀ v∈(Builtin.zeroCells z n).toList,v.oneCell'=true:=by
 intro v hv
 simp only [Builtin.zeroCells,Array.toList_map,List.mem_map,Array.toList_range,List.mem_range] at hv
 obtain ⟨i,hi,rfl⟩:=hv
 have hz:0 < z.size:=by
  rcases Nat.eq_zero_or_pos z.size with h0 | h0
  ·rw [h0,Nat.mul_zero] at hi; omega
  ·exact h0
 have hm:=Nat.mod_lt i hz
 rw [getElem!_pos z (i % z.size) hm]
 exact h _ (by simp)
theorem run_clear_own (w:World) (t ty e:TypeId) (z:Value) (hu:P.underlying t=some (.slice e)) (hz:∀ w,(zeroValue e).run P w=.ok z w) (h1:∀ v∈z.cells.toList,v.oneCell'=true)
  (g o:Nat) (cur:Array Value) (hg:w.heap[g]?=some (.cells cur e (0,0))) (n c:Nat) (hfit:o+n * z.cells.size≤cur.size) :
  (Builtin.clear_ #[t] ty #[.slice (some ⟨g,o,none⟩) n c]).run P w=.ok (.tuple #[]) (w.setRow g (over cur o (Builtin.zeroCells z.cells n).toList)):=by
 have hst:=run_storeCells_at P g o e (Builtin.zeroCells z.cells n).toList 0 cur w hg (by rw [zG8]; simpa using hfit) (zeroCells_one _ _ h1)
 simp only [Nat.add_zero] at hst
 cases n with
 | zero =>
  have e0:(Builtin.zeroCells z.cells 0).toList=[]:=List.length_eq_zero_iff.1 (by rw [zG8,Nat.zero_mul])
  have e1:w.setRow g (over cur o (Builtin.zeroCells z.cells 0).toList)=w:=by
   rw [e0]
   unfold over
   simp only [List.append_nil,List.length_nil,Nat.add_zero,List.take_append_drop,Array.toArray_toList]
   exact setRow_self w g cur e (0,0) hg
  rw [e1]
  simp [Builtin.clear_,run_underlying hu]
 | succ m=>simp [Builtin.clear_,run_underlying hu,hz,hst,over]
def It.cells (x:It):List Value:=[.string ⟨x.key.toArray⟩,.int .u32 x.flags,.string ⟨x.val.toArray⟩,.int .i64 x.exp,.int .u64 x.cas,.int .i64 x.last,.bool x.stale,.bool x.won]
def zD4 (l:List It):List Value:=l.flatMap It.cells
theorem It.cells_len (x:It):x.cells.length=8:=rfl
theorem It.cells_one (x:It):∀ v∈x.cells,v.oneCell'=true:=by
 intro v hv; simp only [It.cells,List.mem_cons,List.not_mem_nil,or_false] at hv
 rcases hv with rfl | rfl | rfl | rfl | rfl | rfl | rfl | rfl <;> rfl
theorem zR7:zD4 []=[]:=rfl
theorem zH2 (x:It) (l:List It):zD4 (x :: l)=x.cells++zD4 l:=by simp [zD4]
theorem zL0 (l m:List It):zD4 (l++m)=zD4 l++zD4 m:=by simp [zD4]
theorem zB2 (l:List It):(zD4 l).length=l.length * 8:=by
 induction l with
 | nil=>rfl
 | cons x l ih=>rw [zH2,List.length_append,ih,It.cells_len,List.length_cons]; omega
theorem zV0 (l:List It):∀ v∈zD4 l,v.oneCell'=true:=by
 intro v hv
 obtain ⟨x,_,hx⟩:=List.mem_flatMap.1 hv
 exact x.cells_one v hx
theorem zM0 (l:List It) (i:Nat):(zD4 l).take (i * 8)=zD4 (l.take i):=by
 induction l generalizing i with
 | nil=>simp [zR7]
 | cons x l ih =>
  cases i with
  | zero=>simp [zR7]
  | succ i =>
   rw [zH2,List.take_succ_cons,zH2,List.take_append,It.cells_len,← ih i,show (i+1) * 8 - 8=i * 8 by omega,List.take_of_length_le (by rw [It.cells_len]; omega)]
theorem zK3 (l:List It) (i:Nat):(zD4 l).drop (i * 8)=zD4 (l.drop i):=by
 induction l generalizing i with
 | nil=>simp [zR7]
 | cons x l ih =>
  cases i with
  | zero=>simp
  | succ i =>
   rw [zH2,List.drop_succ_cons,List.drop_append,It.cells_len,← ih i,show (i+1) * 8 - 8=i * 8 by omega,List.drop_of_length_le (by rw [It.cells_len]; omega),List.nil_append]
theorem flat_get (l:List It) (i:Nat) (x:It) (h:l[i]?=some x) (j:Nat) (hj:j < 8):(zD4 l)[i * 8+j]?=x.cells[j]?:=by
 have h1:(zD4 l)[i * 8+j]?=((zD4 l).drop (i * 8))[j]?:=by rw [List.getElem?_drop]
 rw [h1,zK3]
 obtain ⟨hi,rfl⟩:=List.getElem?_eq_some_iff.1 h
 rw [List.drop_eq_getElem_cons hi,zH2,List.getElem?_append_left (by rw [It.cells_len]; exact hj)]
structure Items (w:World) (g cap:Nat) (xs:List It) (R:List Value):Prop where
 heap:w.heap[g]?=some (.cells (zD4 xs++R).toArray 33 (0,0))
 fit:xs.length * 8+R.length=cap * 8
 big:cap≤maxLen
variable {w w':World} {g cap:Nat} {xs:List It} {R:List Value}
theorem Items.le (h:Items w g cap xs R):xs.length≤cap:=by have:=h.fit; omega
theorem Items.lt (h:Items w g cap xs R):g < w.heap.size:=(Array.getElem?_eq_some_iff.1 h.heap).1
theorem Items.cell (h:Items w g cap xs R) (j:Nat):w.cell? ⟨g,j,none⟩=(zD4 xs++R)[j]?:=by
 rw [cell_of_row w g j _ _ _ h.heap]; simp
theorem Items.frozen (h:Items w g cap xs R) (j:Nat):w.frozen? ⟨g,j,none⟩=false:=by
 simp [World.frozen?,h.heap]
theorem Items.at (h:Items w g cap xs R) {i:Nat} {x:It} (hi:xs[i]?=some x) (j:Nat) (hj:j < 8):w.cell? ⟨g,i * 8+j,none⟩=x.cells[j]?:=by
 have hl:=(List.getElem?_eq_some_iff.1 hi).1
 rw [h.cell,List.getElem?_append_left (by rw [zB2]; omega),flat_get xs i x hi j hj]
theorem Items.kept (h:Items w g cap xs R) (hk:w'.heap[g]?=w.heap[g]?):Items w' g cap xs R:=⟨hk.trans h.heap,h.fit,h.big⟩
theorem Items.below (h:Items w g cap xs R) (hb:Below w.heap.size w w'):Items w' g cap xs R:=h.kept (hb.block g h.lt)
theorem Items.own (h:Items w g cap xs R) {base:Nat} (hb:base≤g):w.ownsRow base 33 8 (.slice (some ⟨g,0,none⟩) xs.length cap) xs.length (zD4 xs):=
 ⟨zB2 xs,.inr ⟨g,cap,_,rfl,hb,h.heap,h.le,h.big,by rw [List.size_toArray,List.length_append,zB2]; exact h.fit,by
  rw [List.toList_toArray,List.take_append_of_le_length (by rw [zB2]; omega),List.take_of_length_le (by rw [zB2]; omega)]⟩⟩
theorem Items.of_own {base:Nat} {v:Value} (h:w.ownsRow base 33 8 v xs.length (zD4 xs)):(v=.slice none 0 0∧xs=[])∨∃ g cap R,v=.slice (some ⟨g,0,none⟩) xs.length cap∧base≤g∧Items w g cap xs R:=by
 obtain ⟨_,⟨hv,hn⟩ | ⟨g,cap,cur,hv,hb,hh,hle,hbig,hsz,ht⟩⟩:=h
 ·exact .inl ⟨hv,List.length_eq_zero_iff.1 hn⟩
 ·refine .inr ⟨g,cap,cur.toList.drop (xs.length * 8),hv,hb,?_,?_,hbig⟩
  ·rw [← ht,List.take_append_drop]; exact hh
  ·have h2:cur.toList.length=cap * 8:=hsz
   have h3:xs.length≤cap:=hle
   show xs.length * 8+(cur.toList.drop (xs.length * 8)).length=cap * 8
   rw [List.length_drop]; omega
theorem Items.over (h:Items w g cap xs R) {ys:List It} {R':List Value} {o:Nat} {vs:List Value} (he:(zD4 xs++R).take o++vs++(zD4 xs++R).drop (o+vs.length)=zD4 ys++R') (hf:ys.length * 8+R'.length=cap * 8) :
  Items (w.setRow g (over (zD4 xs++R).toArray o vs)) g cap ys R':=by
 refine ⟨?_,hf,h.big⟩
 rw [← he]
 exact setRow_heap w g _ _ _ _ h.heap
end Go.Proofs.YtfpeholdlkfmoaaGreatDoor
/- The contracts of library functions that this claim uses, laid at this translation by the guide's shelf tools: each is one application of a theorem of the library. -/
namespace Go.Proofs
set_option linter.unusedSimpArgs false
set_option linter.unusedVariables false
open Go.Shelf
def Tryz.lays106_ren:Go.Shelf.Ren:=⟨fun | 106=>56 | 213=>66 | 265=>75 | n=>n,fun | 9=>9 | 3=>3 | n=>n,fun | n=>n⟩
theorem Tryz.lays106:Go.Proofs.Lays.n106 Tryz.prog Tryz.lays106_ren:={
 mixed:=by kernel_rfl
 f106:=Tryz.func56.trans (congrArg some (by kernel_rfl))
 f213:=Tryz.func66.trans (congrArg some (by kernel_rfl))
 f265:=Tryz.func75.trans (congrArg some (by kernel_rfl))
 t3:=Tryz.underlying3
 a3:=Tryz.isAgg3
 z3:=Tryz.sizeOf3
 v3:=Tryz.zeroValue3
 t9:=Tryz.underlying9
 a9:=Tryz.isAgg9
 z9:=Tryz.sizeOf9
 v9:=Tryz.zeroValue9 }
open Go.RowKit in
theorem Tryz.strings_Compare (a b:ByteArray) (w:World) :
  Calls Tryz.prog 56 #[.string a,.string b] w fun e w'=>e=.returned (.int .i64 (Lib.compareBytes a.data.toList b.data.toList))∧w'=w:=Any.strings_Compare Tryz.lays106 a b w
end Go.Proofs
/- The model's world in memory, and its small functions: told, moment, item, other, and the two closures. -/
namespace Go.Proofs.YtfpeholdlkfmoaaGreatDoor
set_option linter.unusedSimpArgs false
set_option linter.unusedVariables false
open Go.RowKit
def anA (a:An):Array Value:=#[.int .i64 a.st,.string ⟨a.it.key.toArray⟩,.int .u32 a.it.flags,.string ⟨a.it.val.toArray⟩,.int .i64 a.it.exp,.int .u64 a.it.cas,.int .i64 a.it.last,.bool a.it.stale,.bool a.it.won,.int .u64 a.num,.bool a.w,.bool a.x,.bool a.z]
def cdA (c:Cd):Array Value:=#[.int .i64 c.op,.int .i64 c.mode,.string ⟨c.key.toArray⟩,.string ⟨c.val.toArray⟩,.int .u32 c.flags,.int .i64 c.exp,.bool c.hasExp,.int .u64 c.cas,.bool c.hasCas,.int .u64 c.delta,.int .u64 c.init,.bool c.down,.bool c.viv,.int .i64 c.vive,.int .i64 c.recache,.bool c.inval]
def itA (x:It):Array Value:=#[.string ⟨x.key.toArray⟩,.int .u32 x.flags,.string ⟨x.val.toArray⟩,.int .i64 x.exp,.int .u64 x.cas,.int .i64 x.last,.bool x.stale,.bool x.won]
theorem itA_list (x:It):(itA x).toList=x.cells:=rfl
def woA (v:Value) (X:St) (now:Int) (c:Cd) (most:Int) (i:Nat) (is:Bool):Array Value:=
 #[v,.int .u64 X.cas,.int .i64 X.flush,.int .i64 now,.int .i64 c.op,.int .i64 c.mode,.string ⟨c.key.toArray⟩,.string ⟨c.val.toArray⟩,.int .u32 c.flags,.int .i64 c.exp,.bool c.hasExp,.int .u64 c.cas,.bool c.hasCas,.int .u64 c.delta,.int .u64 c.init,.bool c.down,.bool c.viv,.int .i64 c.vive,.int .i64 c.recache,.bool c.inval,.int .i64 most,.int .i64 i,.bool is]
theorem told (n:Int) (w:World):Calls Tryz.prog 37 #[.int .i64 n] w fun e w'=>e=.returned (.agg (anA (zA7 n)))∧Below w.heap.size w w':=by
 go_enter Tryz.func37,Tryz.ntmps37
 go_wp2_with fail
 exact bodyPost_ret (v:=.agg (anA (zA7 n))) (by simp [results,Tryz.results37,go_sem,anA,zA7,It.zero]) rfl ⟨rfl,(Below.refl _ _).alloc (Nat.le_refl _) _⟩
theorem moment (g:Nat) (now e:Int) (hn0:1≤now) (hn1:now≤1099511627776) (w:World) (hc:w.cell? ⟨g,3,none⟩=some (.int .i64 now)) :
  Calls Tryz.prog 38 #[.pointer (some ⟨g,0,none⟩),.int .i64 e] w fun r w'=>r=.returned (.int .i64 (zF3 now e))∧w=w':=by
 by_cases h0:e=0
 ·subst h0
  go_enter Tryz.func38,Tryz.ntmps38
  go_wp2_with fail
  go_ret
  exact ⟨ret_int (by unfold zF3; rw [if_pos (.inl rfl)]),rfl⟩
 ·have hb0:(e == 0)=false:=by simpa using h0
  by_cases h1:2592000 < e
  ·have hfin:zF3 now e=e:=by unfold zF3; rw [if_pos (.inr h1)]
   have H0:=Lib.hid h0; have HF:=Lib.hid hfin; clear h0 hfin
   go_enter Tryz.func38,Tryz.ntmps38
   go_wp2_with fail
   go_ret
   exact ⟨ret_int HF.out.symm,rfl⟩
  ·by_cases h2:e < 0
   ·have hfin:zF3 now e=now:=by unfold zF3; rw [if_neg (by omega),if_pos h2]
    have H0:=Lib.hid h0; have HF:=Lib.hid hfin; clear h0 hfin
    go_enter Tryz.func38,Tryz.ntmps38
    go_wp2_with fail
    go_ret
    exact ⟨ret_int HF.out.symm,rfl⟩
   ·have hfin:zF3 now e=now+e:=by unfold zF3; rw [if_neg (by omega),if_neg h2]
    have H0:=Lib.hid h0; have HF:=Lib.hid hfin; clear h0 hfin
    have h3:0≤e:=by omega
    have h4:e≤2592000:=by omega
    go_enter Tryz.func38,Tryz.ntmps38
    go_wp2_with fail
    go_ret
    exact ⟨ret_int HF.out.symm,rfl⟩
theorem item (g r n cap i:Nat) (hi:i < n) (w:World) (h0:w.cell? ⟨g,0,none⟩=some (.slice (some ⟨r,0,none⟩) n cap)) (h1:w.cell? ⟨g,21,none⟩=some (.int .i64 i)) :
  Calls Tryz.prog 39 #[.pointer (some ⟨g,0,none⟩)] w fun e w'=>e=.returned (.pointer (some ⟨r,i * 8,none⟩))∧∃ q,w'=w.drewN q:=by
 have b0:(0:Int)≤(i:Int):=by omega
 have b1:(i:Int) < (n:Int):=by omega
 go_enter Tryz.func39,Tryz.ntmps39
 go_wp2_with fail
 go_quiet (fail)
 go_wp2_with fail
 go_ret
 exact ⟨rfl,_,rfl⟩
theorem other (g r n cap i:Nat) (hi:i < n) (hc:Bool) (a b:Int) (w:World) (h0:w.cell? ⟨g,0,none⟩=some (.slice (some ⟨r,0,none⟩) n cap)) (h1:w.cell? ⟨g,21,none⟩=some (.int .i64 i))
  (h2:w.cell? ⟨g,12,none⟩=some (.bool hc)) (h3:w.cell? ⟨g,11,none⟩=some (.int .u64 b)) (h4:w.cell? ⟨r,i * 8+4,none⟩=some (.int .u64 a)) :
  Calls Tryz.prog 58 #[.pointer (some ⟨g,0,none⟩)] w fun e w'=>e=.returned (.bool (hc && !decide (a=b)))∧∃ q,w'=w.drewN q:=by
 cases hc with
 | false =>
  go_enter Tryz.func58,Tryz.ntmps58
  go_wp2_with fail
  go_quiet (fail)
  go_wp2_with fail
  go_ret
  exact ⟨rfl,_,rfl⟩
 | true =>
  by_cases hab:a=b
  ·subst hab
   go_enter Tryz.func58,Tryz.ntmps58
   go_wp2_with fail
   go_quiet ((go_at_call 39; exact Calls.quiet_of (item g r n cap i hi _ (by simpa using h0) (by simpa using h1))))
   go_wp2_with fail
   go_ret
   exact ⟨zH5 (by simp),_,rfl⟩
  ·have hne:(a != b)=true:=by simpa using hab
   have hfin:(true && !decide (a=b))=true:=by simpa using hab
   have HF:=Lib.hid hfin; clear hfin hab
   go_enter Tryz.func58,Tryz.ntmps58
   go_wp2_with fail
   go_quiet ((go_at_call 39; exact Calls.quiet_of (item g r n cap i hi _ (by simpa using h0) (by simpa using h1))))
   go_wp2_with fail
   go_ret
   exact ⟨zH5 HF.out.symm,_,rfl⟩
theorem gone (b:Nat) (now:Int) (x:It) (w:World) (hc:w.cell? ⟨b,0,none⟩=some (.int .i64 now)) :
  Calls Tryz.prog 32 #[.agg (itA x),.pointer (some ⟨b,0,none⟩)] w fun e w'=>e=.returned (.bool (zE2 now x))∧Below w.heap.size w w':=by
 have hlt:=block_lt_of_cell (w:=w) (a:=⟨b,0,none⟩) (v:=.int .i64 now) (by rw [hc])
 by_cases h0:x.exp=0
 ·have hb:(x.exp != 0)=false:=by simp [h0]
  have hfin:zE2 now x=false:=by unfold zE2; simp [h0]
  have H0:=Lib.hid h0; have HF:=Lib.hid hfin; clear h0 hfin
  go_enter Tryz.func32,Tryz.ntmps32
  simp only [itA]
  go_wp2_with fail
  go_ret
  exact ⟨zH5 HF.out.symm,(Below.refl _ _).alloc (Nat.le_refl _) _⟩
 ·have hb:(x.exp != 0)=true:=by simp [h0]
  have hfin:zE2 now x=decide (x.exp≤now):=by unfold zE2; simp [h0]
  have H0:=Lib.hid h0; have HF:=Lib.hid hfin; clear h0 hfin
  have hc2:∀ o,(w.alloc o).cell? ⟨b,0,none⟩=some (.int .i64 now):=fun o=>Lib.cell?_alloc_some o hc
  go_enter Tryz.func32,Tryz.ntmps32
  simp only [itA]
  go_wp2_with fail
  go_ret
  exact ⟨zH5 HF.out.symm,(Below.refl _ _).alloc (Nat.le_refl _) _⟩
theorem cmp1 (k:List UInt8) (x:It) (w:World) :
  Calls Tryz.prog 55 #[.agg (itA x),.string ⟨k.toArray⟩] w fun e w'=>e=.returned (.int .i64 (Lib.compareBytes x.key k))∧Below w.heap.size w w':=by
 go_enter Tryz.func55,Tryz.ntmps55
 simp only [itA]
 go_wp2_with fail
 refine (Tryz.strings_Compare _ _ _).mono ?_
 rintro e w' ⟨rfl,rfl⟩
 go_wp2_with fail
 go_ret
 exact ⟨rfl,(Below.refl _ _).alloc (Nat.le_refl _) _⟩
end Go.Proofs.YtfpeholdlkfmoaaGreatDoor
/- The library's functions on slices of items: IndexFunc and DeleteFunc (of what is gone), BinarySearchFunc (by the key). -/
namespace Go.Proofs.YtfpeholdlkfmoaaGreatDoor
set_option linter.unusedSimpArgs false
set_option linter.unusedVariables false
open Go.RowKit
theorem zU0:(Tryz.prog.info? 33).map (fun i=>(i.zero,i.size,i.bytes))=some (some (.agg (itA It.zero)),8,72):=by kernel_rfl
theorem getElem?_itA (x:It) (j:Nat):(itA x)[j]?=x.cells[j]?:=by simp [itA,It.cells]
theorem zS5 {ops:Array Oper} {rest:List Oper} {op:Oper} {a:Act} {Q:Exit→Act→World→Prop} (w:World) (hgd:op.guard=none) (x y:Operand) (ho:op.op=.store 33 x y)
  (g i cap:Nat) (xs:List It) (R:List Value) (hI:Items w g cap xs R) (z:It) (hi:i < xs.length) (hx:a.eval x=.pointer (some ⟨g,i * 8,none⟩)) (hy:a.eval y=.agg (itA z))
  (hK:∀ w',Items w' g cap (xs.set i z) R→Upd (One g) w w'→wpList Tryz.prog ops Q rest (a.put op.dst undef) w'):wpList Tryz.prog ops Q (op :: rest) a w:=by
 refine wpList_plain hgd fun K hK'=>?_
 obtain ⟨i0,hi0,hz0,hz1,hz2⟩:=info_parts zU0
 have hst:=run_storeCells_at Tryz.prog g (i * 8) 33 z.cells 0 _ w hI.heap (by rw [It.cells_len,List.size_toArray,List.length_append,zB2]; omega) z.cells_one
 simp only [Nat.add_zero] at hst
 have hrun:(storeVar 33 ⟨g,i * 8,none⟩ (.agg (itA z))).run Tryz.prog w=.ok () (w.setRow g (over (zD4 xs++R).toArray (i * 8) z.cells)):=by
  simp [storeVar,sizeOf,typeInfo,hi0,Value.cells,itA_list,hz1,hst,over,show (itA z).size=8 from rfl]
 unfold Oper.wp execOp
 simp only [ho,hx,hy,Instr.storeAt,Instr.sureAddr,Sem.run_bind,Sem.run_pure,Result.andThen_ok,hrun]
 refine hK' _ _ (hK _ (hI.over (ys:=xs.set i z) (R':=R) ?_ (by rw [List.length_set]; exact hI.fit)) ((Upd.refl (One g) w).setRow (g:=g) (fun _=>rfl) _))
 have h1:(zD4 xs++R).take (i * 8)=zD4 (xs.take i):=by rw [List.take_append_of_le_length (by rw [zB2]; omega),zM0]
 have h2:(zD4 xs++R).drop (i * 8+z.cells.length)=zD4 (xs.drop (i+1))++R:=by
  rw [It.cells_len,show i * 8+8=(i+1) * 8 by omega,List.drop_append,zK3,show (i+1) * 8 - (zD4 xs).length=0 by rw [zB2]; omega,List.drop_zero]
 rw [h1,h2,List.set_eq_take_append_cons_drop,if_pos hi,zL0,zH2]
 simp only [List.append_assoc]
theorem Items.clear {w:World} {g cap:Nat} {xs:List It} {R:List Value} (h:Items w g cap xs R) (m:Nat) (hm:m≤xs.length) :
  ∃ w',(∀ ty c,(Builtin.clear_ #[22] ty #[.slice (some ⟨g,m * 8,none⟩) (xs.length - m) c]).run Tryz.prog w=.ok (.tuple #[]) w')∧(∃ R',Items w' g cap (xs.take m) R')∧Upd (One g) w w':=by
 obtain ⟨i0,hi0,hz0,hz1,hz2⟩:=info_parts zU0
 have hz:∀ w,(zeroValue 33).run Tryz.prog w=.ok (.agg (itA It.zero)) w:=fun w=>by kernel_rfl
 have hs:(Value.agg (itA It.zero)).cells.size=8:=rfl
 have hzl:=zG8 (Value.agg (itA It.zero)).cells (xs.length - m)
 rw [hs] at hzl
 have hf:=h.fit
 refine ⟨_,fun ty c=>run_clear_own w _ ty _ _ Tryz.underlying22 hz (fun v hv=>It.zero.cells_one v hv) g (m * 8) _ h.heap (xs.length - m) c (by rw [hs,List.size_toArray,List.length_append,zB2]; omega),⟨(Builtin.zeroCells (Value.agg (itA It.zero)).cells (xs.length - m)).toList++R,h.over ?_ ?_⟩,(Upd.refl (One g) w).setRow (g:=g) (fun _=>rfl) _⟩
 ·have h1:(zD4 xs++R).take (m * 8)=zD4 (xs.take m):=by rw [List.take_append_of_le_length (by rw [zB2]; omega),zM0]
  rw [h1,hzl,show m * 8+(xs.length - m) * 8=(zD4 xs).length by rw [zB2]; omega,List.drop_left,List.append_assoc]
 ·rw [List.length_append,hzl,List.length_take]; omega
set_option maxHeartbeats 1000000 in
theorem indexGone (b g cap:Nat) (now:Int) (xs:List It) (R:List Value) (w:World) (hI:Items w g cap xs R) (hc:w.cell? ⟨b,0,none⟩=some (.int .i64 now)) (hn:xs.length≤1000000000) :
  Calls Tryz.prog 53 #[.slice (some ⟨g,0,none⟩) xs.length cap,.func (.func 32) #[] #[.pointer (some ⟨b,0,none⟩)]] w fun e w' =>
   ((e=.returned (.int .i64 (-1))∧∀ x∈xs,zE2 now x=false)∨(∃ m:Nat,e=.returned (.int .i64 m)∧m < xs.length∧(∃ x,xs[m]?=some x∧zE2 now x=true)∧∀ j x,j < m→xs[j]?=some x→zE2 now x=false))∧Below w.heap.size w w':=by
 have hlt:=block_lt_of_cell (w:=w) (a:=⟨b,0,none⟩) (v:=.int .i64 now) (by rw [hc])
 have hg:=hI.lt
 obtain ⟨n,hnn⟩:∃ n,n=xs.length:=⟨_,rfl⟩
 rw [← hnn] at hn ⊢
 have HN:=Lib.hid hnn; clear hnn
 have HC:=Lib.hid hc; clear hc
 go_enter Tryz.func53,Tryz.ntmps53
 go_wp2_with fail
 go_loopw [8] (fun i wr=>∃ k:Nat,k≤n∧i=.int .i64 k∧Below w.heap.size w wr∧∀ j x,j < k→xs[j]?=some x→zE2 now x=false) (fun i _=>n - (intOf i).toNat)
 case atStart=>exact ⟨0,by omega,rfl,Below.refl _ _,fun j x hj=>absurd hj (by omega)⟩
 case round =>
  obtain ⟨k,hk,rfl,hb,hpre⟩:=hrel
  have HP:=Lib.hid hpre; clear hpre
  by_cases hlt':k < n
  ·obtain ⟨x,hx⟩:∃ x,xs[k]?=some x:=⟨xs[k]'(by rw [← HN.out]; exact hlt'),List.getElem?_eq_getElem _⟩
   have hIr:=hI.below hb
   have e0:wr.cell? ⟨g,k * 8,none⟩=some (.string ⟨x.key.toArray⟩):=hIr.at hx 0 (by omega)
   have e1:wr.cell? ⟨g,k * 8+1,none⟩=some (.int .u32 x.flags):=hIr.at hx 1 (by omega)
   have e2:wr.cell? ⟨g,k * 8+2,none⟩=some (.string ⟨x.val.toArray⟩):=hIr.at hx 2 (by omega)
   have e3:wr.cell? ⟨g,k * 8+3,none⟩=some (.int .i64 x.exp):=hIr.at hx 3 (by omega)
   have e4:wr.cell? ⟨g,k * 8+4,none⟩=some (.int .u64 x.cas):=hIr.at hx 4 (by omega)
   have e5:wr.cell? ⟨g,k * 8+5,none⟩=some (.int .i64 x.last):=hIr.at hx 5 (by omega)
   have e6:wr.cell? ⟨g,k * 8+6,none⟩=some (.bool x.stale):=hIr.at hx 6 (by omega)
   have e7:wr.cell? ⟨g,k * 8+7,none⟩=some (.bool x.won):=hIr.at hx 7 (by omega)
   have HX:=Lib.hid hx; clear hx
   have h1:(k:Int) < (n:Int):=by omega
   have h0:(0:Int)≤(k:Int):=by omega
   go_wp2_with fail
   refine (gone b now x wr ((hb.cell (p:=⟨b,0,none⟩) hlt).trans HC.out)).mono ?_
   rintro e w1 ⟨rfl,hb1⟩
   have hbb:=hb.trans (hb1.mono hb.size)
   by_cases hgx:zE2 now x=true
   ·rw [hgx]
    have HGX:=Lib.hid hgx; clear hgx
    go_wp2_with fail
    go_ret
    exact ⟨.inr ⟨k,rfl,hlt',⟨x,HX.out,HGX.out⟩,HP.out⟩,hbb⟩
   ·rw [show zE2 now x=false by simpa using hgx]
    have HGX:=Lib.hid hgx; clear hgx
    go_wp2_with fail
    go_roundw
    case rel =>
     refine ⟨k+1,by omega,by go_num,hbb,fun j y hj hy=>?_⟩
     rcases Nat.lt_or_ge j k with h | h
     ·exact HP.out j y h hy
     ·obtain rfl:j=k:=by omega
      rw [HX.out] at hy; cases hy; simpa using HGX.out
    case measure=>simp [intOf]; omega
  ·obtain rfl:k=n:=by omega
   go_wp2_with fail
   go_ret
   refine ⟨.inl ⟨rfl,fun x hx=>?_⟩,hb⟩
   obtain ⟨j,hj⟩:=List.mem_iff_getElem?.1 hx
   exact HP.out j x (by rw [HN.out]; exact (List.getElem?_eq_some_iff.1 hj).1) hj
end Go.Proofs.YtfpeholdlkfmoaaGreatDoor
/- DeleteFunc of what is gone, and BinarySearchFunc by the key, at items. -/
namespace Go.Proofs.YtfpeholdlkfmoaaGreatDoor
set_option linter.unusedSimpArgs false
set_option linter.unusedVariables false
open Go.RowKit
theorem zX3 {now:Int} {xs:List It} (h:∀ x∈xs,zE2 now x=false):xs.filter (fun x=>!zE2 now x)=xs:=
 List.filter_eq_self.2 fun x hx=>by rw [h x hx]; rfl
theorem zQ2 (now:Int) (xs:List It) (k:Nat) (x:It) (h:xs[k]?=some x) :
  (xs.take (k+1)).filter (fun x=>!zE2 now x)=(xs.take k).filter (fun x=>!zE2 now x)++(if zE2 now x then [] else [x]):=by
 rw [List.take_add_one,h,List.filter_append]
 cases hg:zE2 now x <;> simp [hg]
set_option maxRecDepth 100000 in
set_option maxHeartbeats 2000000 in
theorem deleteGone (b g cap:Nat) (now:Int) (xs:List It) (R:List Value) (w:World) (hI:Items w g cap xs R) (hc:w.cell? ⟨b,0,none⟩=some (.int .i64 now)) (hbg:b ≠ g) (hn:xs.length≤1000000000) :
  Calls Tryz.prog 30 #[.slice (some ⟨g,0,none⟩) xs.length cap,.func (.func 32) #[] #[.pointer (some ⟨b,0,none⟩)]] w fun e w' =>
   e=.returned (.slice (some ⟨g,0,none⟩) (xs.filter fun x=>!zE2 now x).length cap)∧(∃ R',Items w' g cap (xs.filter fun x=>!zE2 now x) R')∧Upd (One g) w w':=by
 have hlt:=block_lt_of_cell (w:=w) (a:=⟨b,0,none⟩) (v:=.int .i64 now) (by rw [hc])
 have hg:=hI.lt
 have hle:=hI.le
 have hbig:=hI.big
 unfold maxLen at hbig
 have I0:=Lib.hid (indexGone b g cap now xs R w hI hc hn)
 obtain ⟨n,hnn⟩:∃ n,n=xs.length:=⟨_,rfl⟩
 rw [← hnn] at hn I0 hle ⊢
 have HN:=Lib.hid hnn; clear hnn
 have HC:=Lib.hid hc; clear hc
 go_enter Tryz.func30,Tryz.ntmps30
 go_wp2_with fail
 refine I0.out.mono ?_
 rintro e w1 ⟨⟨rfl,hall⟩ | ⟨m0,rfl,hm0,hat,hpre⟩,hb1⟩
 ·have HA:=Lib.hid hall; clear hall
  go_wp2_with fail
  go_ret
  rw [zX3 HA.out]
  refine ⟨?_,⟨R,hI.below hb1⟩,(Upd.refl (One g) w).below hb1⟩
  show Ending.returned (Value.slice (some ⟨g,0,none⟩) n cap)=_
  rw [HN.out]
 ·have HAT:=Lib.hid hat; have HPRE:=Lib.hid hpre; clear hat hpre
  have hI1:=hI.below hb1
  have hu1:Upd (One g) w w1:=(Upd.refl (One g) w).below hb1
  have hm2:((m0:Int) == -1)=false:=by simp
  go_wp2_with fail
  go_loopw [5,6] (fun i j wr=>∃ (m k:Nat) (ys:List It),m < k∧k≤n∧i=.int .i64 m∧j=.int .i64 k∧ys.length=n∧ys.take m=(xs.take k).filter (fun x=>!zE2 now x)∧ys.drop k=xs.drop k∧Items wr g cap ys R∧Upd (One g) w wr) (fun _ j _=>n - (intOf j).toNat)
  case atStart =>
   refine ⟨m0,m0+1,xs,by omega,by omega,rfl,by go_num,HN.out.symm,?_,rfl,hI1,hu1⟩
   obtain ⟨x,hx,hgx⟩:=HAT.out
   rw [zQ2 now xs m0 x hx,hgx,if_pos rfl,List.append_nil]
   refine (zX3 fun y hy=>?_).symm
   obtain ⟨j,hj⟩:=List.mem_iff_getElem?.1 hy
   have hjm:j < m0:=by have:=(List.getElem?_eq_some_iff.1 hj).1; rw [List.length_take] at this; omega
   rw [List.getElem?_take_of_lt hjm] at hj
   exact HPRE.out j y hjm hj
  case round =>
   obtain ⟨m,k,ys,hmk,hk,rfl,rfl,hyl,hyt,hyd,hIr,hu⟩:=hrel
   have HYL:=Lib.hid hyl; have HYT:=Lib.hid hyt; have HYD:=Lib.hid hyd; clear hyl hyt hyd
   by_cases hlt':k < n
   ·obtain ⟨x,hx⟩:∃ x,xs[k]?=some x:=⟨xs[k]'(by rw [← HN.out]; exact hlt'),List.getElem?_eq_getElem _⟩
    have hyx:ys[k]?=some x:=by
     have h1:(ys.drop k)[0]?=(xs.drop k)[0]?:=by rw [HYD.out]
     rw [List.getElem?_drop,List.getElem?_drop,Nat.add_zero] at h1
     rw [h1,hx]
    have e0:wr.cell? ⟨g,k * 8,none⟩=some (.string ⟨x.key.toArray⟩):=hIr.at hyx 0 (by omega)
    have e1:wr.cell? ⟨g,k * 8+1,none⟩=some (.int .u32 x.flags):=hIr.at hyx 1 (by omega)
    have e2:wr.cell? ⟨g,k * 8+2,none⟩=some (.string ⟨x.val.toArray⟩):=hIr.at hyx 2 (by omega)
    have e3:wr.cell? ⟨g,k * 8+3,none⟩=some (.int .i64 x.exp):=hIr.at hyx 3 (by omega)
    have e4:wr.cell? ⟨g,k * 8+4,none⟩=some (.int .u64 x.cas):=hIr.at hyx 4 (by omega)
    have e5:wr.cell? ⟨g,k * 8+5,none⟩=some (.int .i64 x.last):=hIr.at hyx 5 (by omega)
    have e6:wr.cell? ⟨g,k * 8+6,none⟩=some (.bool x.stale):=hIr.at hyx 6 (by omega)
    have e7:wr.cell? ⟨g,k * 8+7,none⟩=some (.bool x.won):=hIr.at hyx 7 (by omega)
    have HX:=Lib.hid hx; have HYX:=Lib.hid hyx; clear hx hyx
    have h1:(k:Int) < (n:Int):=by omega
    have h0:(0:Int)≤(k:Int):=by omega
    have hm0':(0:Int)≤(m:Int):=by omega
    have hmn:(m:Int) < (n:Int):=by omega
    go_wp2_with fail
    refine (gone b now x _ (Lib.cell?_alloc_some _ ((hu.cell (p:=⟨b,0,none⟩) hlt hbg).trans HC.out))).mono ?_
    rintro e w2 ⟨rfl,hb2⟩
    have hB:=(Blk.new wr 33 (itA x)).below hb2
    have hI2:Items w2 g cap ys R:=(hIr.kept (Below.heap_alloc wr _ g hIr.lt)).below hb2
    have hu2:Upd (One g) w w2:=(hu.alloc _).below hb2
    clear e0 e1 e2 e3 e4 e5 e6 e7
    by_cases hgx:zE2 now x=true
    ·rw [hgx]
     have HGX:=Lib.hid hgx; clear hgx
     go_wp2_with fail
     go_roundw
     case rel =>
      refine ⟨m,k+1,ys,by omega,by omega,rfl,by go_num,HYL.out,?_,?_,hI2,hu2⟩
      ·rw [zQ2 now xs k x HX.out,HGX.out,if_pos rfl,List.append_nil]; exact HYT.out
      ·rw [← List.drop_drop,← List.drop_drop,HYD.out]
     case measure=>simp [intOf]; omega
    ·rw [show zE2 now x=false by simpa using hgx]
     have HGX:=Lib.hid hgx; clear hgx
     have f0:w2.cell? ⟨wr.heap.size,0,none⟩=some (.string ⟨x.key.toArray⟩):=hB.cell 0
     have f1:w2.cell? ⟨wr.heap.size,1,none⟩=some (.int .u32 x.flags):=hB.cell 1
     have f2:w2.cell? ⟨wr.heap.size,2,none⟩=some (.string ⟨x.val.toArray⟩):=hB.cell 2
     have f3:w2.cell? ⟨wr.heap.size,3,none⟩=some (.int .i64 x.exp):=hB.cell 3
     have f4:w2.cell? ⟨wr.heap.size,4,none⟩=some (.int .u64 x.cas):=hB.cell 4
     have f5:w2.cell? ⟨wr.heap.size,5,none⟩=some (.int .i64 x.last):=hB.cell 5
     have f6:w2.cell? ⟨wr.heap.size,6,none⟩=some (.bool x.stale):=hB.cell 6
     have f7:w2.cell? ⟨wr.heap.size,7,none⟩=some (.bool x.won):=hB.cell 7
     clear hB
     go_wp2_with (refine zS5 _ rfl _ _ rfl g m cap ys R hI2 x (by rw [HYL.out]; omega) rfl rfl ?_; intro w3 hI3 hu3)
     go_roundw
     case rel =>
      have hml:m < ys.length:=by rw [HYL.out]; omega
      refine ⟨m+1,k+1,ys.set m x,by omega,by omega,by go_num,by go_num,by rw [List.length_set]; exact HYL.out,?_,?_,hI3,hu2.same hu3⟩
      ·rw [zQ2 now xs k x HX.out,if_neg HGX.out,← HYT.out,List.take_add_one,List.getElem?_set_self hml,List.take_set_of_le (Nat.le_refl _)]; rfl
      ·rw [List.drop_set_of_lt (by omega),← List.drop_drop,← List.drop_drop,HYD.out]
     case measure=>simp [intOf]; omega
   ·obtain rfl:k=n:=by omega
    have hmn:(m:Int) < (k:Int):=by omega
    have hmc:¬ (cap=m):=by omega
    have hmn2:(m:Int)≤(k:Int):=by omega
    have hmcap:(m:Int)≤(cap:Int):=by omega
    obtain ⟨w3,hcl,⟨R',hI3⟩,hu3⟩:=hIr.clear m (by rw [HYL.out]; omega)
    rw [HYL.out] at hcl
    have hfl:(ys.take m).length=m:=by rw [List.length_take,HYL.out]; omega
    have HFL:=Lib.hid hfl; clear hfl
    go_wp2_with fail
    go_ret
    have hxk:xs.take k=xs:=List.take_of_length_le (by rw [HN.out]; exact Nat.le_refl _)
    rw [← hxk,← HYT.out]
    refine ⟨?_,⟨R',hI3⟩,hu.same hu3⟩
    show Ending.returned (Value.slice (some ⟨g,0,none⟩) m cap)=_
    rw [HFL.out]
set_option maxRecDepth 100000 in
set_option maxHeartbeats 2000000 in
/-- BinarySearchFunc by the key, at rising keys -/
theorem search (g cap:Nat) (k:List UInt8) (xs:List It) (R:List Value) (hs:Sorted xs) (w:World) (hI:Items w g cap xs R) (hn:xs.length≤1000000000) :
  Calls Tryz.prog 54 #[.slice (some ⟨g,0,none⟩) xs.length cap,.string ⟨k.toArray⟩,.func (.func 55) #[] #[]] w fun e w' =>
   e=.returned (.tuple #[.int .i64 (atF xs k),.bool (isF xs k)])∧Below w.heap.size w w':=by
 obtain ⟨n,hnn⟩:∃ n,n=xs.length:=⟨_,rfl⟩
 rw [← hnn] at hn ⊢
 have HN:=Lib.hid hnn; clear hnn
 have HS:=Lib.hid hs; clear hs
 go_enter Tryz.func54,Tryz.ntmps54
 go_wp2_with fail
 go_loopw [9,10] (fun i j wr=>∃ (a b:Nat),a≤b∧b≤n∧i=.int .i64 a∧j=.int .i64 b∧(∀ q x,q < a→xs[q]?=some x→Op.bytesLess x.key k=true)∧(∀ q x,b≤q→xs[q]?=some x→Op.bytesLess x.key k=false)∧Below w.heap.size w wr) (fun i j _=>(intOf j).toNat - (intOf i).toNat)
 case atStart=>exact ⟨0,n,by omega,by omega,rfl,rfl,fun q x hq=>absurd hq (by omega),fun q x hq hx=>by have:=(List.getElem?_eq_some_iff.1 hx).1; rw [← HN.out] at this; omega,Below.refl _ _⟩
 case round =>
  obtain ⟨a,b,hab,hbn,rfl,rfl,hlo,hhi,hb⟩:=hrel
  have HLO:=Lib.hid hlo; have HHI:=Lib.hid hhi; clear hlo hhi
  by_cases hlt:a < b
  ·obtain ⟨x,hx⟩:∃ x,xs[(a+b) / 2]?=some x:=⟨xs[(a+b) / 2]'(by rw [← HN.out]; omega),List.getElem?_eq_getElem _⟩
   have hIr:=hI.below hb
   have e0:wr.cell? ⟨g,(a+b) / 2 * 8,none⟩=some (.string ⟨x.key.toArray⟩):=hIr.at hx 0 (by omega)
   have e1:wr.cell? ⟨g,(a+b) / 2 * 8+1,none⟩=some (.int .u32 x.flags):=hIr.at hx 1 (by omega)
   have e2:wr.cell? ⟨g,(a+b) / 2 * 8+2,none⟩=some (.string ⟨x.val.toArray⟩):=hIr.at hx 2 (by omega)
   have e3:wr.cell? ⟨g,(a+b) / 2 * 8+3,none⟩=some (.int .i64 x.exp):=hIr.at hx 3 (by omega)
   have e4:wr.cell? ⟨g,(a+b) / 2 * 8+4,none⟩=some (.int .u64 x.cas):=hIr.at hx 4 (by omega)
   have e5:wr.cell? ⟨g,(a+b) / 2 * 8+5,none⟩=some (.int .i64 x.last):=hIr.at hx 5 (by omega)
   have e6:wr.cell? ⟨g,(a+b) / 2 * 8+6,none⟩=some (.bool x.stale):=hIr.at hx 6 (by omega)
   have e7:wr.cell? ⟨g,(a+b) / 2 * 8+7,none⟩=some (.bool x.won):=hIr.at hx 7 (by omega)
   have HX:=Lib.hid hx; clear hx
   have g1:(a:Int) < (b:Int):=by omega
   go_wp2_with fail
   refine (cmp1 k x wr).mono ?_
   rintro e w1 ⟨rfl,hb1⟩
   have hbb:=hb.trans (hb1.mono hb.size)
   clear e0 e1 e2 e3 e4 e5 e6 e7
   have hcl:=cmp_lt x.key k
   obtain ⟨c,hc⟩:∃ c,c=Lib.compareBytes x.key k:=⟨_,rfl⟩
   rw [← hc] at hcl ⊢
   clear hc
   by_cases hlx:Op.bytesLess x.key k=true
   ·have hc0:c < 0:=hcl.2 hlx
    have HLX:=Lib.hid hlx; clear hcl hlx
    go_wp2_with fail
    go_roundw
    case rel =>
     refine ⟨(a+b) / 2+1,b,by omega,hbn,by go_num,rfl,fun q y hq hy=>?_,HHI.out,hbb⟩
     rcases Nat.lt_or_ge q ((a+b) / 2) with hq1 | hq1
     ·exact zH8 (HS.out.get hy HX.out hq1) HLX.out
     ·obtain rfl:q=(a+b) / 2:=by omega
      rw [HX.out] at hy; cases hy; exact HLX.out
    case measure=>simp [intOf]; omega
   ·have hc0:¬ c < 0:=fun h=>hlx (hcl.1 h)
    have HLX:=Lib.hid hlx; clear hcl hlx
    go_wp2_with fail
    go_roundw
    case rel =>
     refine ⟨a,(a+b) / 2,by omega,by omega,rfl,by go_num,HLO.out,fun q y hq hy=>?_,hbb⟩
     rcases Nat.lt_or_ge ((a+b) / 2) q with hq1 | hq1
     ·refine Bool.eq_false_iff.2 fun h=>HLX.out (zH8 (HS.out.get HX.out hy hq1) h)
     ·obtain rfl:q=(a+b) / 2:=by omega
      rw [HX.out] at hy; cases hy; exact Bool.eq_false_iff.2 HLX.out
    case measure=>simp [intOf]; omega
  ·obtain rfl:a=b:=by omega
   have hat:atF xs k=a:=atF_of_part (by rw [← HN.out]; exact hbn) HLO.out (fun x hx=>HHI.out a x (Nat.le_refl _) hx)
   have HAT:=Lib.hid hat; clear hat
   have hg0:¬ (a:Int) < (a:Int):=by omega
   by_cases hlt2:a < n
   ·obtain ⟨x,hx⟩:∃ x,xs[a]?=some x:=⟨xs[a]'(by rw [← HN.out]; omega),List.getElem?_eq_getElem _⟩
    have hIr:=hI.below hb
    have e0:wr.cell? ⟨g,a * 8,none⟩=some (.string ⟨x.key.toArray⟩):=hIr.at hx 0 (by omega)
    have e1:wr.cell? ⟨g,a * 8+1,none⟩=some (.int .u32 x.flags):=hIr.at hx 1 (by omega)
    have e2:wr.cell? ⟨g,a * 8+2,none⟩=some (.string ⟨x.val.toArray⟩):=hIr.at hx 2 (by omega)
    have e3:wr.cell? ⟨g,a * 8+3,none⟩=some (.int .i64 x.exp):=hIr.at hx 3 (by omega)
    have e4:wr.cell? ⟨g,a * 8+4,none⟩=some (.int .u64 x.cas):=hIr.at hx 4 (by omega)
    have e5:wr.cell? ⟨g,a * 8+5,none⟩=some (.int .i64 x.last):=hIr.at hx 5 (by omega)
    have e6:wr.cell? ⟨g,a * 8+6,none⟩=some (.bool x.stale):=hIr.at hx 6 (by omega)
    have e7:wr.cell? ⟨g,a * 8+7,none⟩=some (.bool x.won):=hIr.at hx 7 (by omega)
    have hfin:isF xs k=decide (x.key=k):=by
     unfold isF; rw [HAT.out,hx]
     show (x.key == k)=_
     by_cases h:x.key=k <;> simp [h]
    have HX:=Lib.hid hx; have HF:=Lib.hid hfin; clear hx hfin
    have g1:(a:Int) < (n:Int):=by omega
    have g2:(0:Int)≤(a:Int):=by omega
    go_wp2_with fail
    refine (cmp1 k x wr).mono ?_
    rintro e w1 ⟨rfl,hb1⟩
    have hbb:=hb.trans (hb1.mono hb.size)
    clear e0 e1 e2 e3 e4 e5 e6 e7
    have hce:=cmp_eq x.key k
    obtain ⟨c,hc⟩:∃ c,c=Lib.compareBytes x.key k:=⟨_,rfl⟩
    rw [← hc] at hce ⊢
    clear hc
    by_cases hc0:c=0
    ·have hkk:decide (x.key=k)=true:=decide_eq_true (hce.1 hc0)
     have HK:=Lib.hid hkk; clear hkk hce
     subst hc0
     go_wp2_with fail
     go_ret2
     rw [HF.out,HAT.out,HK.out]
     exact ⟨rfl,hbb⟩
    ·have hkk:decide (x.key=k)=false:=decide_eq_false fun h=>hc0 (hce.2 h)
     have HK:=Lib.hid hkk
     have hc1:(c == 0)=false:=by simpa using hc0
     clear hkk hce hc0
     go_wp2_with fail
     go_ret2
     rw [HF.out,HAT.out,HK.out]
     exact ⟨rfl,hbb⟩
   ·have hfin:isF xs k=false:=by
     unfold isF; rw [HAT.out,List.getElem?_eq_none (by rw [← HN.out]; omega)]
    have HF:=Lib.hid hfin; clear hfin
    have g1:¬ (a:Int) < (n:Int):=by omega
    go_wp2_with fail
    go_ret2
    rw [HF.out,HAT.out]
    exact ⟨rfl,hb⟩
end Go.Proofs.YtfpeholdlkfmoaaGreatDoor
/- slices.Insert of one item, and slices.Delete of one, at items. -/
namespace Go.Proofs.YtfpeholdlkfmoaaGreatDoor
set_option linter.unusedSimpArgs false
set_option linter.unusedVariables false
open Go.RowKit
theorem shape_of {w:World} {g:Nat} {t:TypeId} {cs:Array Value} {fr:Nat × Nat} (h:w.heap[g]?=some (.cells cs t fr)):w.shape? g=some (t,cs.size):=by simp [World.shape?,h]
theorem Items.put {w:World} {g cap:Nat} {xs:List It} {R:List Value} (h:Items w g cap xs R) (i:Nat) (hi:i < xs.length) (z:It) :
  Items (w.setRow g (Go.Proofs.YtfpeholdlkfmoaaGreatDoor.over (zD4 xs++R).toArray (i * 8) z.cells)) g cap (xs.set i z) R:=by
 refine h.over ?_ (by rw [List.length_set]; exact h.fit)
 have h1:(zD4 xs++R).take (i * 8)=zD4 (xs.take i):=by rw [List.take_append_of_le_length (by rw [zB2]; omega),zM0]
 have h2:(zD4 xs++R).drop (i * 8+z.cells.length)=zD4 (xs.drop (i+1))++R:=by
  rw [It.cells_len,show i * 8+8=(i+1) * 8 by omega,List.drop_append,zK3,show (i+1) * 8 - (zD4 xs).length=0 by rw [zB2]; omega,List.drop_zero]
 rw [h1,h2,List.set_eq_take_append_cons_drop,if_pos hi,zL0,zH2]
 simp only [List.append_assoc]
theorem Items.lay {w:World} {g cap:Nat} {xs:List It} {R:List Value} (h:Items w g cap xs R) (ys:List It) (hc:xs.length+ys.length≤cap) :
  Items (w.setRow g (Go.Proofs.YtfpeholdlkfmoaaGreatDoor.over (zD4 xs++R).toArray (xs.length * 8) (zD4 ys))) g cap (xs++ys) (R.drop (ys.length * 8)):=by
 have hf:=h.fit
 refine h.over ?_ (by rw [List.length_append,List.length_drop]; omega)
 rw [← zB2 xs,List.take_left,zB2 ys,List.drop_append,List.drop_of_length_le (l:=zD4 xs) (by omega),List.nil_append,Nat.add_sub_cancel_left,zL0]
theorem Items.shift {w:World} {g cap:Nat} {xs:List It} {R:List Value} (h:Items w g cap xs R) (i:Nat) (hi:i < xs.length) (hc:xs.length+1≤cap) :
  Items (w.setRow g (Go.Proofs.YtfpeholdlkfmoaaGreatDoor.over (zD4 xs++R).toArray ((i+1) * 8) (zD4 (xs.drop i)))) g cap (xs.take (i+1)++xs.drop i) (R.drop 8):=by
 have hf:=h.fit
 refine h.over ?_ (by rw [List.length_append,List.length_take,List.length_drop,List.length_drop]; omega)
 have h1:(zD4 xs++R).take ((i+1) * 8)=zD4 (xs.take (i+1)):=by rw [List.take_append_of_le_length (by rw [zB2]; omega),zM0]
 rw [h1,zB2,List.length_drop,show (i+1) * 8+(xs.length - i) * 8=(zD4 xs).length+8 by rw [zB2]; omega,List.drop_append,List.drop_of_length_le (l:=zD4 xs) (by omega),List.nil_append,Nat.add_sub_cancel_left,zL0]
theorem set_shift (xs:List It) (i:Nat) (hi:i < xs.length) (x:It):(xs.take (i+1)++xs.drop i).set i x=xs.take i++x :: xs.drop i:=by
 rw [List.set_eq_take_append_cons_drop,if_pos (by rw [List.length_append,List.length_take]; omega)]
 congr 1
 ·rw [List.take_append_of_le_length (by rw [List.length_take]; omega),List.take_take,Nat.min_eq_left (by omega)]
 ·congr 1
  have h1:(xs.take (i+1)).length=i+1:=by rw [List.length_take]; omega
  exact List.drop_left' h1
theorem zN5 {w w':World} {row:Option Nat} (h:w.grownBy w' row):Upd (fun k=>row=some k) w w':=
 ⟨h.os,h.tape,h.output,h.size,fun k hk hr=>h.block k hk (fun e=>hr e.symm)⟩
set_option maxRecDepth 100000 in
set_option maxHeartbeats 2000000 in
theorem insert_shift (g cap i vb vc:Nat) (xs:List It) (R:List Value) (x:It) (w:World) (hI:Items w g cap xs R) (hi:i < xs.length) (hc:xs.length+1≤cap) (hv:Blk w vb 33 (itA x)) (hne:vb ≠ g) (hn:xs.length≤1000000000) :
  Calls Tryz.prog 67 #[.slice (some ⟨g,0,none⟩) xs.length cap,.int .i64 i,.slice (some ⟨vb,0,none⟩) 1 vc] w fun e w' =>
   e=.returned (.slice (some ⟨g,0,none⟩) (xs.length+1) cap)∧(∃ R',Items w' g cap (xs.take i++x :: xs.drop i) R')∧Upd (One g) w w':=by
 obtain ⟨i0,hi0,hz0,hz1,hz2⟩:=info_parts zU0
 have hbig:=hI.big
 unfold maxLen at hbig
 have hsz:∀ w,(Go.sizeOf 33).run Tryz.prog w=.ok 8 w:=fun w=>by simp [Go.sizeOf,typeInfo,hi0,hz1]
 have hov:∀ lb cb,(callFunc 76 #[.slice (some ⟨vb,0,none⟩) 1 vc,.slice (some ⟨g,(i+1) * 8,none⟩) lb cb]).run Tryz.prog w=.ok (.value (.bool false)) w:=fun lb cb=>by
  rw [run_callFunc_extern Tryz.func76 (by kernel_rfl) (by kernel_rfl) (by kernel_rfl) (e:=Extern.SlicesOverlaps.overlaps #[22,22] #[4]) (by kernel_rfl),
   Lib.run_overlaps_apart w 22 4 33 Tryz.underlying22 8 hsz ⟨vb,0,none⟩ ⟨g,(i+1) * 8,none⟩ 1 vc lb cb hne _ _ _ _ (shape_of hv) (shape_of hI.heap) (by rw [List.size_toArray,List.length_append,zB2]; omega) (hv.frozen 0) (hv.frozen _)]
  rfl
 have hfit:=hI.fit
 have hId:Items w.drew g cap xs R:=hI.kept rfl
 have hcp1:∀ ty dc sc,(Builtin.copy_ #[22,22] ty #[.slice (some ⟨g,(i+1) * 8,none⟩) (xs.length - i) dc,.slice (some ⟨g,i * 8,none⟩) (xs.length+1 - i) sc]).run Tryz.prog w.drew=.ok (goInt ((xs.length - i:Nat):Int)) (w.drew.setRow g (over (zD4 xs++R).toArray ((i+1) * 8) (zD4 (xs.drop i)))):=fun ty dc sc =>
  zK8 w.drew _ _ ty _ i0 8 Tryz.underlying22 hi0 hz1 g ((i+1) * 8) _ hId.heap (xs.length - i) dc ⟨g,i * 8,none⟩ (xs.length+1 - i) sc (xs.length - i) (by simp only [Nat.min_def]; split <;> omega) (zD4 (xs.drop i)) (by rw [zB2,List.length_drop])
   (fun j v hj=>by
    rw [Addr.add_lit,hId.cell,List.getElem?_append_left (by have:=(List.getElem?_eq_some_iff.1 hj).1; rw [zB2,List.length_drop] at this; rw [zB2]; omega)]
    rw [← zK3,List.getElem?_drop] at hj; exact hj)
   (by rw [zB2,List.length_drop,List.size_toArray,List.length_append,zB2]; omega) (zV0 _)
 have hI1:=hId.shift i hi hc
 obtain ⟨W1,hW1⟩:∃ W1,W1=w.drew.setRow g (over (zD4 xs++R).toArray ((i+1) * 8) (zD4 (xs.drop i))):=⟨_,rfl⟩
 rw [← hW1] at hcp1 hI1
 have hu1:Upd (One g) w W1:=by rw [hW1]; exact ((Upd.refl (One g) w).drew).setRow (g:=g) (fun _=>rfl) _
 have hv1:Blk W1 vb 33 (itA x):=hv.upd hu1 hne
 have hl1:(xs.take (i+1)++xs.drop i).length=xs.length+1:=by rw [List.length_append,List.length_take,List.length_drop]; omega
 have hcp2:∀ ty dc,(Builtin.copy_ #[22,22] ty #[.slice (some ⟨g,i * 8,none⟩) (xs.length+1 - i) dc,.slice (some ⟨vb,0,none⟩) 1 vc]).run Tryz.prog W1=.ok (goInt ((1:Nat):Int)) (W1.setRow g (over (zD4 (xs.take (i+1)++xs.drop i)++R.drop 8).toArray (i * 8) x.cells)):=fun ty dc =>
  zK8 W1 _ _ ty _ i0 8 Tryz.underlying22 hi0 hz1 g (i * 8) _ hI1.heap (xs.length+1 - i) dc ⟨vb,0,none⟩ 1 vc 1 (by simp only [Nat.min_def]; split <;> omega) x.cells rfl
   (fun j v hj=>by rw [Addr.add_lit,Nat.zero_add,hv1.cell,getElem?_itA]; exact hj)
   (by rw [It.cells_len,List.size_toArray,List.length_append,zB2,hl1,List.length_drop]; omega) x.cells_one
 have hI2:=hI1.put i (by rw [hl1]; omega) x
 rw [set_shift xs i hi] at hI2
 obtain ⟨W2,hW2⟩:∃ W2,W2=W1.setRow g (over (zD4 (xs.take (i+1)++xs.drop i)++R.drop 8).toArray (i * 8) x.cells):=⟨_,rfl⟩
 rw [← hW2] at hcp2 hI2
 have hu2:Upd (One g) w W2:=by rw [hW2]; exact hu1.setRow (g:=g) (fun _=>rfl) _
 obtain ⟨n,hnn⟩:∃ n,n=xs.length:=⟨_,rfl⟩
 rw [← hnn] at hn hi hc hcp1 hcp2 hfit ⊢
 have HI2:=Lib.hid hI2; have HU2:=Lib.hid hu2
 clear hnn hW1 hW2 hI2 hu2 hI1 hId hu1 hv1 hl1 hsz hi0 hz0 hz1 hz2 hfit
 have hb1:(0:Int)≤(i:Int):=by omega
 have hb2:(i:Int) < (n:Int):=by omega
 have hb3:(n:Int)+1≤(cap:Int):=by omega
 have hb4:¬ ((i:Int)=(n:Int)):=by omega
 have hb5:((i:Int) == (n:Int))=false:=by simp; omega
 have hb6:¬ (cap=i+1):=by omega
 have hb7:¬ (cap=i):=by omega
 have hb8:((i:Int)+1).toNat=i+1:=by omega
 have hb9:(0:Int)≤(i:Int)+1:=by omega
 have hb10:(i:Int)≤(n:Int):=by omega
 have hb11:(i:Int)≤(n:Int)+1:=by omega
 have hb12:IntKind.i64.wrap ((i:Int)+1)=(i:Int)+1:=by rw [IntKind.wrap_i64]; omega
 go_enter Tryz.func67,Tryz.ntmps67
 go_wp2_with (simp only [hov])
 go_region_law (refine step_copy_runI rfl _ _ 22 22 rfl _ _ (by simp [Act.eval,Act.put]) (by simp [Act.eval,Act.put]) (hcp1 _ _ _) ?_)
 go_wp2_with fail
 go_ret
 exact ⟨rfl,⟨_,HI2.out⟩,HU2.out⟩
set_option maxRecDepth 100000 in
set_option maxHeartbeats 4000000 in
theorem insert_grow (g cap i vb vc:Nat) (xs:List It) (R:List Value) (x:It) (w:World) (hI:Items w g cap xs R) (hi:i < xs.length) (hc:cap=xs.length) (hv:Blk w vb 33 (itA x)) (hn:xs.length≤1000000000) :
  Calls Tryz.prog 67 #[.slice (some ⟨g,0,none⟩) xs.length cap,.int .i64 i,.slice (some ⟨vb,0,none⟩) 1 vc] w fun e w' =>
   ∃ G R',e=.returned (.slice (some ⟨w.heap.size,0,none⟩) (xs.length+1) G)∧Items w' w.heap.size G (xs.take i++x :: xs.drop i) R'∧Upd Non w w':=by
 obtain ⟨i0,hi0,hz0,hz1,hz2⟩:=info_parts zU0
 have hId:Items w.drew g cap xs R:=hI.kept rfl
 have hgl:=hI.lt
 have hvl:=hv.lt
 have hold:(Builtin.firstCells i0.size i (.slice (some ⟨g,0,none⟩) i cap)).run Tryz.prog w.drew=.ok (zD4 (xs.take i)).toArray w.drew:=by
  rw [hz1]
  exact run_firstCells_some (w:=w.drew) 8 i ⟨g,0,none⟩ i cap (zD4 (xs.take i)) (by rw [zB2,List.length_take]; omega) (fun j v hj=>by
   have hj2:=(List.getElem?_eq_some_iff.1 hj).1
   rw [zB2,List.length_take] at hj2
   rw [Addr.add_lit,Nat.zero_add,hId.cell,List.getElem?_append_left (by rw [zB2]; omega)]
   rw [← zM0,List.getElem?_take_of_lt (by omega)] at hj; exact hj)
 have hik:i+(xs.length+1 - i)=xs.length+1:=by omega
 have hrz:∀ ty,(Builtin.append_ #[22,3] ty #[.slice (some ⟨g,0,none⟩) i cap,.int .i64 ((xs.length:Int)+1 - (i:Int))]).run Tryz.prog w =
   .ok (.slice (some ⟨w.heap.size,0,none⟩) (xs.length+1) (grownCap w (xs.length+1) cap 33)) (w.drew.alloc (.cells ((zD4 (xs.take i)).toArray++Builtin.zeroCells (Value.agg (itA It.zero)).cells (xs.length+1 - i)++Builtin.zeroCells (Value.agg (itA It.zero)).cells (grownCap w (xs.length+1) cap 33 - (xs.length+1))) 33)):=fun ty=>by
  have h:=Lib.run_append_grow_zeros w 22 3 ty 33 i0 _ .i64 .i64 Tryz.underlying22 Tryz.underlying3 hi0 hz0 (some ⟨g,0,none⟩) i cap (zD4 (xs.take i)) hold (xs.length+1 - i) (by omega) (by omega) (by omega) (by omega) (by rw [hz2]; omega) (by rw [hz2,hik]; exact growslice_fits (by omega) (by omega))
  rw [hik] at h
  rw [show (xs.length:Int)+1 - (i:Int)=((xs.length+1 - i:Nat):Int) by omega]
  exact h
 obtain ⟨G,hG⟩:∃ G,G=grownCap w (xs.length+1) cap 33:=⟨_,rfl⟩
 have hGn:xs.length+1≤G:=by rw [hG]; exact grownCap_ge w _ _ _
 have hG63:G≤maxLen:=by rw [hG]; exact grownCap_le_maxLen w (xs.length+1) cap 33 (by unfold maxLen; omega)
 rw [← hG] at hrz
 obtain ⟨R1,hR1⟩:∃ R1,R1=(Builtin.zeroCells (Value.agg (itA It.zero)).cells (xs.length+1 - i)).toList++(Builtin.zeroCells (Value.agg (itA It.zero)).cells (G - (xs.length+1))).toList:=⟨_,rfl⟩
 have hR1l:R1.length=(G - i) * 8:=by
  rw [hR1,List.length_append,zG8,zG8,show (Value.agg (itA It.zero)).cells.size=8 from rfl]; omega
 have hrow:(zD4 (xs.take i)).toArray++Builtin.zeroCells (Value.agg (itA It.zero)).cells (xs.length+1 - i)++Builtin.zeroCells (Value.agg (itA It.zero)).cells (G - (xs.length+1))=(zD4 (xs.take i)++R1).toArray:=by
  apply Array.toList_inj.1
  rw [hR1]; simp
 rw [hrow] at hrz
 obtain ⟨W1,hW1⟩:∃ W1,W1=w.drew.alloc (.cells (zD4 (xs.take i)++R1).toArray 33):=⟨_,rfl⟩
 rw [← hW1] at hrz
 have hti:(xs.take i).length=i:=by rw [List.length_take]; omega
 have hI1:Items W1 w.heap.size G (xs.take i) R1:=⟨by rw [hW1]; exact heap_alloc_new w.drew _,by rw [hti,hR1l]; omega,hG63⟩
 have hu1:Upd Non w W1:=by rw [hW1]; exact ((Upd.refl Non w).drew).alloc _
 have hv1:Blk W1 vb 33 (itA x):=hv.upd hu1 (fun h=>h)
 have hS1:Items W1 g cap xs R:=hI.kept (hu1.block g hgl (fun h=>h))
 have hcpA:∀ ty dc,(Builtin.copy_ #[22,22] ty #[.slice (some ⟨w.heap.size,i * 8,none⟩) (xs.length+1 - i) dc,.slice (some ⟨vb,0,none⟩) 1 vc]).run Tryz.prog W1=.ok (goInt ((1:Nat):Int)) (W1.setRow w.heap.size (over (zD4 (xs.take i)++R1).toArray (i * 8) x.cells)):=fun ty dc =>
  zK8 W1 _ _ ty _ i0 8 Tryz.underlying22 hi0 hz1 w.heap.size (i * 8) _ hI1.heap (xs.length+1 - i) dc ⟨vb,0,none⟩ 1 vc 1 (by simp only [Nat.min_def]; split <;> omega) x.cells rfl
   (fun j v hj=>by rw [Addr.add_lit,Nat.zero_add,hv1.cell,getElem?_itA]; exact hj)
   (by rw [It.cells_len,List.size_toArray,List.length_append,zB2,hti,hR1l]; omega) x.cells_one
 have hI2:=hI1.lay [x] (by rw [hti,List.length_singleton]; omega)
 rw [hti,show zD4 [x]=x.cells by rw [zH2,zR7,List.append_nil],List.length_singleton] at hI2
 obtain ⟨W2,hW2⟩:∃ W2,W2=W1.setRow w.heap.size (over (zD4 (xs.take i)++R1).toArray (i * 8) x.cells):=⟨_,rfl⟩
 rw [← hW2] at hcpA hI2
 have hu2:Upd Non w W2:=by rw [hW2]; exact hu1.setRow (g:=w.heap.size) (fun h=>absurd h (by omega)) _
 have hS2:Items W2 g cap xs R:=hI.kept (hu2.block g hgl (fun h=>h))
 have hS2d:Items W2.drew g cap xs R:=hS2.kept rfl
 have hI2d:Items W2.drew w.heap.size G (xs.take i++[x]) (R1.drop (1 * 8)):=hI2.kept rfl
 have htl:(xs.take i++[x]).length=i+1:=by rw [List.length_append,hti]; rfl
 have hcpB:∀ ty dc sc,(Builtin.copy_ #[22,22] ty #[.slice (some ⟨w.heap.size,(i+1) * 8,none⟩) (xs.length - i) dc,.slice (some ⟨g,i * 8,none⟩) (xs.length - i) sc]).run Tryz.prog W2.drew=.ok (goInt ((xs.length - i:Nat):Int)) (W2.drew.setRow w.heap.size (over (zD4 (xs.take i++[x])++R1.drop (1 * 8)).toArray ((i+1) * 8) (zD4 (xs.drop i)))):=fun ty dc sc =>
  zK8 W2.drew _ _ ty _ i0 8 Tryz.underlying22 hi0 hz1 w.heap.size ((i+1) * 8) _ hI2d.heap (xs.length - i) dc ⟨g,i * 8,none⟩ (xs.length - i) sc (xs.length - i) (by simp) (zD4 (xs.drop i)) (by rw [zB2,List.length_drop])
   (fun j v hj=>by
    rw [Addr.add_lit,hS2d.cell,List.getElem?_append_left (by have:=(List.getElem?_eq_some_iff.1 hj).1; rw [zB2,List.length_drop] at this; rw [zB2]; omega)]
    rw [← zK3,List.getElem?_drop] at hj; exact hj)
   (by rw [zB2,List.length_drop,List.size_toArray,List.length_append,zB2,htl,List.length_drop,hR1l]; omega) (zV0 _)
 have hI3:=hI2d.lay (xs.drop i) (by rw [htl,List.length_drop]; omega)
 rw [htl,List.append_assoc,List.singleton_append] at hI3
 obtain ⟨W3,hW3⟩:∃ W3,W3=W2.drew.setRow w.heap.size (over (zD4 (xs.take i++[x])++R1.drop (1 * 8)).toArray ((i+1) * 8) (zD4 (xs.drop i))):=⟨_,rfl⟩
 rw [← hW3] at hcpB hI3
 have hu3:Upd Non w W3:=by rw [hW3]; exact hu2.drew.setRow (g:=w.heap.size) (fun h=>absurd h (by omega)) _
 obtain ⟨n,hnn⟩:∃ n,n=xs.length:=⟨_,rfl⟩
 obtain ⟨B,hB⟩:∃ B,B=w.heap.size:=⟨_,rfl⟩
 unfold maxLen at hG63
 rw [← hnn] at hn hi hc hrz hcpA hcpB hGn ⊢
 rw [← hB] at hrz hcpA hcpB hI3 ⊢
 have HI3:=Lib.hid hI3; have HU3:=Lib.hid hu3
 clear hnn hB hW1 hW2 hW3 hI3 hu3 hI2 hI2d hS2 hS2d hu2 hI1 hId hu1 hv1 hti htl hR1 hR1l hrow hi0 hz0 hz1 hz2 hold hik hG
 subst hc
 have hb1:(0:Int)≤(i:Int):=by omega
 have hb2:(i:Int) < (cap:Int):=by omega
 have hb4:¬ ((i:Int)=(cap:Int)):=by omega
 have hb5:((i:Int) == (cap:Int))=false:=by simp; omega
 have hb6:¬ (G=i+1):=by omega
 have hb7:¬ (G=i):=by omega
 have hb7b:¬ (cap=i):=by omega
 have hb3:(cap:Int) < (cap:Int)+1:=by omega
 have hb8:((i:Int)+1).toNat=i+1:=by omega
 have hb9:(0:Int)≤(i:Int)+1:=by omega
 have hb10:(i:Int)≤(cap:Int):=by omega
 have hb11:(i:Int)≤(cap:Int)+1:=by omega
 have hb12:IntKind.i64.wrap ((i:Int)+1)=(i:Int)+1:=by rw [IntKind.wrap_i64]; omega
 go_enter Tryz.func67,Tryz.ntmps67
 go_wp2_with (first
  | (at_builtin; refine Lib.wpList_append_run _ rfl _ _ _ _ rfl _ _ rfl rfl _ _ (hrz _) ?_))
 go_region_law (refine step_copy_runI rfl _ _ 22 22 rfl _ _ (by simp [Act.eval,Act.put]) (by simp [Act.eval,Act.put]) (hcpB _ _ _) ?_)
 go_wp2_with fail
 go_ret
 exact ⟨G,_,rfl,HI3.out,HU3.out⟩
set_option maxRecDepth 100000 in
set_option maxHeartbeats 2000000 in
theorem insert_end (base vb vc:Nat) (v:Value) (xs:List It) (x:It) (w:World) (ho:w.ownsRow base 33 8 v xs.length (zD4 xs)) (hv:Blk w vb 33 (itA x)) (hbase:base≤w.heap.size) (hn:xs.length≤1000000000) :
  Calls Tryz.prog 67 #[v,.int .i64 xs.length,.slice (some ⟨vb,0,none⟩) 1 vc] w fun e w' =>
   ∃ v',e=.returned v'∧w'.ownsRow base 33 8 v' (xs++[x]).length (zD4 (xs++[x]))∧Upd (fun k=>v.ownBlock=some k) w w'∧(v'.ownBlock=v.ownBlock∨∃ k,v'.ownBlock=some k∧w.heap.size≤k):=by
 obtain ⟨i0,hi0,hz0,hz1,hz2⟩:=info_parts zU0
 have hfl:zD4 (xs++[x])=zD4 xs++x.cells:=by rw [zL0,zH2,zR7,List.append_nil]
 have hnl:(xs++[x]).length=xs.length+1:=by rw [List.length_append]; rfl
 rw [hfl,hnl]
 have hnews:∀ j u,x.cells[j]?=some u→w.cell? ((⟨vb,0,none⟩:Addr).add j)=some u:=fun j u hj=>by rw [Addr.add_lit,Nat.zero_add,hv.cell,getElem?_itA]; exact hj
 have hone:=x.cells_one
 have hcl:=x.cells_len
 obtain ⟨C,hC⟩:∃ C,C=x.cells:=⟨_,rfl⟩
 rw [← hC] at hnews hone hcl ⊢
 clear hC hfl hnl
 have hform:(v=.slice none 0 0∧xs.length=0)∨∃ g cap,v=.slice (some ⟨g,0,none⟩) xs.length cap∧xs.length≤cap∧cap≤maxLen:=by
  rcases ho.2 with ⟨h1,h2⟩ | ⟨g,cap,cur,h1,_,_,h2,h3,_⟩
  ·exact .inl ⟨h1,h2⟩
  ·exact .inr ⟨g,cap,h1,h2,h3⟩
 obtain ⟨n,hnn⟩:∃ n,n=xs.length:=⟨_,rfl⟩
 rw [← hnn] at hn ho hform ⊢
 have HN:=Lib.hid hnn; have HO:=Lib.hid ho; have HNEWS:=Lib.hid hnews; have HONE:=Lib.hid hone; have HCL:=Lib.hid hcl
 clear hnn ho hnews hone hcl
 rcases hform with ⟨rfl,h0⟩ | ⟨g,cap,rfl,hle,hbig⟩
 ·subst h0
  go_enter Tryz.func67,Tryz.ntmps67
  go_wp2_with (at_builtin; refine wpList_append_own_at _ rfl _ _ 22 rfl base 33 i0 _ 8 72 Tryz.underlying22 hi0 hz0 hz1 hz2 rfl (by decide) _ 0 (zD4 xs) rfl HO.out ⟨vb,0,none⟩ 1 vc C rfl HCL.out HNEWS.out HONE.out (by unfold maxLen; omega) (by omega) hbase ?_; intro v' w1 hown' hgrow _ hat)
  go_ret
  exact ⟨v',rfl,hown',zN5 hgrow,hat.imp id (fun h=>⟨_,h,Nat.le_refl _⟩)⟩
 ·unfold maxLen at hbig
  have hb0:((n:Int) == 0)=false∨True:=.inr trivial
  clear hb0
  have hb10:(n:Int)≤(n:Int):=Int.le_refl _
  by_cases hcn:cap=n
  all_goals
   go_enter Tryz.func67,Tryz.ntmps67
   go_wp2_with (at_builtin; refine wpList_append_own_at _ rfl _ _ 22 rfl base 33 i0 _ 8 72 Tryz.underlying22 hi0 hz0 hz1 hz2 rfl (by decide) _ n (zD4 xs) rfl HO.out ⟨vb,0,none⟩ 1 vc C rfl HCL.out HNEWS.out HONE.out (by unfold maxLen; omega) (by omega) hbase ?_; intro v' w1 hown' hgrow _ hat)
   go_ret
   exact ⟨v',rfl,hown',zN5 hgrow,hat.imp id (fun h=>⟨_,h,Nat.le_refl _⟩)⟩
end Go.Proofs.YtfpeholdlkfmoaaGreatDoor
