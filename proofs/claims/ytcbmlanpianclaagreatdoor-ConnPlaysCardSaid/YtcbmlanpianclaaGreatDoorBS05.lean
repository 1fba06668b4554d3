/- Functions of numbers and keys as rows of contracts. Printed by gen_e.py. -/
import Derived.Test.YtcbmlanpianclaaGreatDoorBS04
import Derived.Shelf.Strings.Trim
import Derived.Shelf.Small.Strs
import Derived.Shelf.LaysM
import Derived.Shelf.LaysC
import Derived.Shelf.Strings.Search3
import Derived.Test.YtcbmlanpianclaaGreatDoorProg
import Derived.Lib.AppendStr
import Derived.Recover
import Derived.WideLaws
namespace Go.Proofs.YtcbmlanpianclaaGreatDoor
set_option linter.unusedSimpArgs false
set_option linter.unusedVariables false
open Go.RowKit
set_option maxRecDepth 100000
def EnvC (C:Cx):Prop:=∀ w,Upd C.S C.w0 w→Env w
def zA8:List SV→Option (Prop × SV)
 | [.c (.s l)]=>some (l.length≤9223372036854775807,.t [.c (.i .u64 (((zB0 l).getD 0:Nat):Int)),.c (.b (zB0 l).isSome)])
 | _=>none
def zH8:List SV→Option (Prop × SV)
 | [.c (.s l)]=>some (l.length≤9223372036854775807,.t [.c (.i .i64 ((zC5 l).getD 0)),.c (.b (zC5 l).isSome)])
 | _=>none
def zV0:List SV→Option (Prop × SV)
 | [.c (.s l)]=>some (l.length≤9223372036854775807,.c (.b (zG3 l)))
 | _=>none
def tC0:Ctr:=fun f _ xs=>match f with
 | 57=>zA8 xs
 | 122=>zH8 xs
 | 60=>zV0 xs
 | _=>none
section
variable {en:List EN} {ρ:Nat→RE} {w:World} {xs:List SV} {p:Prop} {v:SV}
theorem rowParse_ok (h:zA8 xs=some (p,v)) (hp:p) (he:Env w):v.wf (· < en.length)∧Calls Tryz.prog 57 (xs.map (SV.den ρ)).toArray w fun e w'=>e=.returned (v.den ρ)∧Below w.heap.size w w':=by
 unfold zA8 at h
 split at h <;> simp only [Option.some.injEq,Prod.mk.injEq,reduceCtorEq] at h
 rename_i l
 obtain ⟨rfl,rfl⟩:=h
 refine ⟨by intro x hx; simp at hx; rcases hx with rfl | rfl <;> trivial,?_⟩
 exact parse l hp w he
theorem rowSigned_ok (h:zH8 xs=some (p,v)) (hp:p) (he:Env w):v.wf (· < en.length)∧Calls Tryz.prog 122 (xs.map (SV.den ρ)).toArray w fun e w'=>e=.returned (v.den ρ)∧Below w.heap.size w w':=by
 unfold zH8 at h
 split at h <;> simp only [Option.some.injEq,Prod.mk.injEq,reduceCtorEq] at h
 rename_i l
 obtain ⟨rfl,rfl⟩:=h
 refine ⟨by intro x hx; simp at hx; rcases hx with rfl | rfl <;> trivial,?_⟩
 exact signed l hp w he
theorem rowKeyB_ok (h:zV0 xs=some (p,v)) (hp:p):v.wf (· < en.length)∧Calls Tryz.prog 60 (xs.map (SV.den ρ)).toArray w fun e w'=>e=.returned (v.den ρ)∧Below w.heap.size w w':=by
 unfold zV0 at h
 split at h <;> simp only [Option.some.injEq,Prod.mk.injEq,reduceCtorEq] at h
 rename_i l
 obtain ⟨rfl,rfl⟩:=h
 refine ⟨trivial,(key l hp w).mono ?_⟩
 rintro e w' ⟨rfl,rfl⟩
 exact ⟨rfl,Below.refl _ _⟩
end
theorem tC0_ok {C:Cx} (hP:C.P=Tryz.prog) (hE:EnvC C):zC1 C tC0:=by
 intro f en xs p v h hp ρ w hup hHp hHo hinj hwf
 unfold tC0 at h
 split at h
 ·rw [hP]; exact ⟨fun args w=>Tryz.call57 args w,rowParse_ok h hp (hE w hup)⟩
 ·rw [hP]; exact ⟨fun args w=>Tryz.call122 args w,rowSigned_ok h hp (hE w hup)⟩
 ·rw [hP]; exact ⟨fun args w=>Tryz.call60 args w,rowKeyB_ok h hp⟩
 ·cases h
def zG7 (g:Nat):RE:=⟨g,[],[],0,none⟩
theorem zO4 {ρ:Nat→RE} {pr:Nat→Prop} {en:List EN} {w:World} {c:Nat} {t:TypeId} {cells:List SC} {mu:Bool} (hHp:Hp ρ pr en w) (hHo:Ho ρ pr en) (hc:pr c) (he:zD en c=some ⟨(t,0,whole),cells,mu⟩) (ht:t ≠ zC9) (hne:cells ≠ []) :
  Blk w (ρ c).blk t (zB8 ρ cells).toArray∧zE1 ρ c 0=.pointer (some ⟨(ρ c).blk,0,none⟩)∧(ρ c).pre=[]∧(ρ c).post=[]∧(ρ c).nl=none:=by
 have hnl:(ρ c).nl=none:=Decidable.byContradiction fun hd=>hne ((hHp c _ _ _ hc he).non hd)
 obtain ⟨_,h1,h2⟩:=hHo c _ _ _ hc he
 have:=(hHp c _ _ _ hc he).heap ⟨ht,hnl⟩
 rw [h1,h2] at this
 refine ⟨by simpa [Blk] using this,by simp [zE1,h1],h1,h2,hnl⟩
end Go.Proofs.YtcbmlanpianclaaGreatDoor
/- What b64.Decode and meta.Parse compute. No program in sight. Printed by gen_metaf.py. -/
namespace Go.Proofs.YtcbmlanpianclaaGreatDoor
set_option linter.unusedSimpArgs false
set_option linter.unusedVariables false
open Go.Lib
def b64L:List UInt8:=[65,66,67,68,69,70,71,72,73,74,75,76,77,78,79,80,81,82,83,84,85,86,87,88,89,90,97,98,99,100,101,102,103,104,105,106,107,108,109,110,111,112,113,114,115,116,117,118,119,120,121,122,48,49,50,51,52,53,54,55,56,57,43,47]
def zV4 (c:UInt8) (b n:Nat) (out:List UInt8):Option (Nat × Nat × List UInt8):=
 let k:=indexByte b64L c
 if k < 0 then none
 else
  let b':=(b * 64 % 4294967296) ||| k.toNat
  if 8≤n+6 then some (b',n - 2,out++[UInt8.ofNat (b' / 2 ^ (n - 2))]) else some (b',n+6,out)
def zL7:List UInt8→Nat→Nat→List UInt8→Option (Nat × Nat × List UInt8)
 | [],b,n,out=>some (b,n,out)
 | c :: l,b,n,out=>match zV4 c b n out with
  | some (b',n',out')=>zL7 l b' n' out'
  | none=>none
def zD4 (s:List UInt8):List UInt8:=(s.reverse.dropWhile (· == 61)).reverse
def zU3 (s:List UInt8):Option (List UInt8):=
 let body:=zD4 s
 if s.length % 4 ≠ 0∨2 < s.length - body.length then none
 else match zL7 body 0 0 [] with
  | some (b,n,out)=>if b % 2 ^ n=0 then some out else none
  | none=>none
structure Mq where
 kind:Int
 cmds:List Cd
 quiet:Bool
 reply:List UInt8
 skip:Int
 close:Bool
 name:List UInt8
 flags:List (List UInt8)
 word:List UInt8
def Mq.zero:Mq:=⟨0,[],false,[],0,false,[],[],[]⟩
def zD8 (s:List UInt8) (skip:Int):Mq:=⟨2,[],false,s,skip,false,[],[],[]⟩
def m_me:List UInt8:=[109,101]
def m_mg:List UInt8:=[109,103]
def m_ms:List UInt8:=[109,115]
def m_md:List UInt8:=[109,100]
def m_ma:List UInt8:=[109,97]
def m_mn:List UInt8:=[109,110]
def f_token:List UInt8:=[67,76,73,69,78,84,95,69,82,82,79,82,32,98,97,100,32,116,111,107,101,110,32,105,110,32,99,111,109,109,97,110,100,32,108,105,110,101,32,102,111,114,109,97,116]
def zX7:List UInt8:=[67,76,73,69,78,84,95,69,82,82,79,82,32,105,110,118,97,108,105,100,32,102,108,97,103]
def f_twice:List UInt8:=[67,76,73,69,78,84,95,69,82,82,79,82,32,100,117,112,108,105,99,97,116,101,32,102,108,97,103]
def cmd0 (op delta:Int):Cd:={ Cd.zero with op:=op,delta:=delta,recache:=-1 }
def zF0 (name:List UInt8):Cd × List UInt8:=
 if name=m_me then (cmd0 7 0,[98])
 else if name=m_mg then (cmd0 1 0,[98,99,102,107,113,115,116,118,79,78,82,84])
 else if name=m_ms then (cmd0 2 0,[98,99,107,113,73,67,70,77,79,84])
 else if name=m_md then (cmd0 5 0,[98,107,113,73,67,79,84])
 else if name=m_ma then (cmd0 3 1,[98,99,107,113,116,118,67,68,74,77,78,79,84])
 else (cmd0 0 0,[])
def zV3 (c:Cd) (s:List UInt8):Cd × Bool:=match s with
 | [x]=>if c.op=3 then
   let i:=indexByte [73,105,43,68,100,45] x
   ({ c with down:=decide (3≤i) },decide (0≤i))
  else
   let i:=indexByte [83,115,69,101,82,114,65,97,80,112] x
   ({ c with mode:=if 0 < i.tdiv 2 then i.tdiv 2 else 0 },decide (0≤i))
 | _=>(c,false)
def zT8 (s:List UInt8):Int × Bool:=(((zB0 s).getD 0:Nat),(zB0 s).isSome)
def zS3 (c:Cd) (x:UInt8) (s:List UInt8):Cd × Bool:=
 if x=67 then ({ c with cas:=(zT8 s).1,hasCas:=true },(zT8 s).2)
 else if x=68 then ({ c with delta:=(zT8 s).1 },(zT8 s).2)
 else if x=74 then ({ c with init:=(zT8 s).1 },(zT8 s).2)
 else if x=70 then ({ c with flags:=IntKind.u32.wrap (zT8 s).1 },(zT8 s).2 && decide ((zT8 s).1 < 4294967296))
 else if x=77 then zV3 c s
 else if x=78 then ({ c with viv:=true,vive:=(zI2 s).1 },(zI2 s).2)
 else if x=82 then ({ c with recache:=(zI2 s).1 },(zI2 s).2)
 else if x=84 then ({ c with hasExp:=decide (c.op ≠ 2),exp:=(zI2 s).1 },(zI2 s).2)
 else if x=79 then (c,decide (s ≠ []) && decide (s.length≤32))
 else ({ c with inval:=c.inval || decide (x=73) },decide (s=[]))
def zV8 (allowed:List UInt8):List (List UInt8)→Cd→List UInt8→Cd × List UInt8 × List UInt8
 | [],c,seen=>(c,[],seen)
 | [] :: _,c,_=>(c,zX7,[])
 | (x :: s) :: l,c,seen =>
  if allowed.contains x=false then (c,zX7,[])
  else if seen.contains x then (c,f_twice,[])
  else if (zS3 c x s).2 then zV8 allowed l (zS3 c x s).1 (seen++[x]) else ((zS3 c x s).1,f_token,[])
def okM:Option (List UInt8)→Bool
 | some k=>zG3 k
 | none=>false
def zR2 (name:List UInt8) (l:List (List UInt8)):Cd × List UInt8 × List UInt8:=zV8 (zF0 name).2 l (zF0 name).1 []
def keyM (name word:List UInt8) (l:List (List UInt8)):Option (List UInt8):=if (zR2 name l).2.2.contains 98 then zU3 word else some word
def zU4 (name word:List UInt8) (l:List (List UInt8)) (size:Nat):List UInt8:=
 if (zR2 name l).2.1 ≠ [] then (zR2 name l).2.1
 else if okM (keyM name word l)=false then zA2
 else if 65538 < size then zM3 else []
def doneM (name word:List UInt8) (l:List (List UInt8)) (val:List UInt8):Mq:=
 ⟨1,[{ (zR2 name l).1 with key:=(keyM name word l).getD [],val:=val }],(zR2 name l).2.2.contains 113,[],0,false,name,l,word⟩
def zO8 (name word:List UInt8) (l:List (List UInt8)) (size:Nat) (behind:List UInt8):Mq × Int × Bool:=
 if zU4 name word l size ≠ [] then (zD8 (zU4 name word l size) size,0,false)
 else if behind.length < size then (Mq.zero,0,true)
 else if 0 < size∧(behind.take size).drop (size - 2) ≠ [13,10] then (zD8 zO6 0,size,false)
 else (doneM name word l (if 0 < size then behind.take (size - 2) else []),size,false)
def readM (name:List UInt8) (w:List (List UInt8)) (behind:List UInt8):Mq × Int × Bool:=match w with
 | []=>(zD8 zA2 0,0,false)
 | word :: l=>if name=m_ms then (match l with
   | []=>(zD8 zA2 0,0,false)
   | z :: l'=>if (zT8 z).2 && decide ((zT8 z).1≤1073741824) then zO8 name word l' ((zT8 z).1.toNat+2) behind else (zD8 zA2 0,0,false))
  else zO8 name word l 0 behind
def zR6 (n:Nat) (behind:List UInt8):List (List UInt8)→Mq × Int
 | []=>(zD8 zA5 0,n)
 | name :: w=>if (zF0 name).2 ≠ [] then
   (if (readM name w behind).2.2 then (Mq.zero,0) else ((readM name w behind).1,n+(readM name w behind).2.1))
  else if name=m_mn∧w=[] then (⟨7,[],false,[],0,false,m_mn,[],[]⟩,n) else (zD8 zA5 0,n)
def zE9 (b:List UInt8):Mq × Int:=
 let s:=zB1 (b.take 2048)
 if s.2=0 then (if b.length < 2048 then (Mq.zero,0) else ({ zD8 zL8 0 with close:=true },2048))
 else zR6 s.2 (b.drop s.2) (wordsF (s.1.length+1) s.1)
end Go.Proofs.YtcbmlanpianclaaGreatDoor
/- Rows told as their elements' cells, one behind the other: what is read and stored at an element. -/
namespace Go.Proofs.YtcbmlanpianclaaGreatDoor
set_option linter.unusedSimpArgs false
set_option linter.unusedVariables false
open Go.RowKit
section
variable {α:Type} {f:α→List SC} {z:Nat}
def zC2 (f:α→List SC) (xs:List α):List SC:=xs.flatMap f
theorem zP9 (hz:∀ x,(f x).length=z):∀ xs:List α,(zC2 f xs).length=xs.length * z
 | []=>by simp [zC2]
 | x :: xs=>by
  have:=zP9 hz xs
  simp only [zC2,List.flatMap_cons,List.length_append,List.length_cons,hz] at this ⊢
  rw [this,Nat.add_mul]; omega
theorem flatG_app (xs ys:List α):zC2 f (xs++ys)=zC2 f xs++zC2 f ys:=by simp [zC2]
theorem zQ5 (hz:∀ x,(f x).length=z) {xs:List α} {i:Nat} {x:α} (hx:xs[i]?=some x):zC2 f xs=zC2 f (xs.take i)++f x++zC2 f (xs.drop (i+1))∧(zC2 f (xs.take i)).length=i * z:=by
 have hi:=(List.getElem?_eq_some_iff.1 hx).1
 have e:xs=xs.take i++x :: xs.drop (i+1):=by
  have h1:xs[i]=x:=(List.getElem?_eq_some_iff.1 hx).2
  rw [← h1,← List.drop_eq_getElem_cons hi,List.take_append_drop]
 refine ⟨?_,by rw [zP9 hz,List.length_take,Nat.min_eq_left (by omega)]⟩
 conv=>lhs; rw [e]
 rw [flatG_app]
 simp [zC2]
theorem flatG_nth (hz:∀ x,(f x).length=z) {xs:List α} {i j:Nat} {x:α} (hx:xs[i]?=some x) (hj:j < z):zD (zC2 f xs) (i * z+j)=(f x)[j]?:=by
 obtain ⟨h1,h2⟩:=zQ5 hz hx
 rw [zA3,h1,List.append_assoc,List.getElem?_append_right (by omega),h2,Nat.add_sub_cancel_left,List.getElem?_append_left (by rw [hz]; exact hj)]
theorem flatG_lay (hz:∀ x,(f x).length=z) {xs:List α} {i:Nat} {x y:α} (hx:xs[i]?=some x):zC (i * z) (f y) (zC2 f xs)=some (zC2 f (xs.set i y)):=by
 obtain ⟨h1,h2⟩:=zQ5 hz hx
 have hi:=(List.getElem?_eq_some_iff.1 hx).1
 have hy:(xs.set i y)[i]?=some y:=by rw [List.getElem?_set_self hi]
 obtain ⟨h3,_⟩:=zQ5 hz hy
 rw [List.take_set_of_le (Nat.le_refl i),List.drop_set_of_lt (by omega)] at h3
 rw [h1,h3]
 have key:∀ (a b c d:List SC),b.length=d.length→zC a.length d (a++b++c)=some (a++d++c):=by
  intro a b c d hbd
  induction a with
  | nil =>
   simp only [List.length_nil,List.nil_append]
   induction d generalizing b with
   | nil =>
    have:b=[]:=List.eq_nil_of_length_eq_zero hbd
    subst this; simp [zC]
   | cons q d ih =>
    cases b with
    | nil=>simp at hbd
    | cons p b=>simp [zC,ih b (by simpa using hbd)]
  | cons p a ih=>simp only [List.cons_append,List.length_cons,zC]; rw [ih]
 rw [← h2]
 exact key _ _ _ _ (by rw [hz,hz])
end
end Go.Proofs.YtcbmlanpianclaaGreatDoor
/- An entry whose cells were changed by a call; a store at one place of an element of a row. -/
namespace Go.Proofs.YtcbmlanpianclaaGreatDoor
set_option linter.unusedSimpArgs false
set_option linter.unusedVariables false
open Go.RowKit
theorem Hw.turn {C:Cx} {ρ:Nat→RE} {pr:Nat→Prop} {en:List EN} {w w':World} {N:Nat} {ty:TypeId × Nat × (RE→Prop)} {cells cells':List SC} (h:Hw C ρ pr en w) (hpl:∀ c,pr c→c < en.length) (hN:pr N) (he:zD en N=some ⟨ty,cells,true⟩)
  (hl:ty.1 ≠ zC9) (hnl:(ρ N).nl=none) (hU:Upd (One (ρ N).blk) w w') (hb:w'.heap[(ρ N).blk]?=some (.cells ((ρ N).pre++zB8 ρ cells'++(ρ N).post).toArray ty.1 (0,0))) (hwf:wfs pr cells'):Hw C ρ pr (zE en N ⟨ty,cells',true⟩) w':=by
 have hlN:zG5 (ρ N) (zD en N)=false:=(zA4 he).2 ⟨hl,hnl⟩
 have hNl:zD (zE en N ⟨ty,cells',true⟩) N=some ⟨ty,cells',true⟩:=nth_set he
 have hoth:∀ q,q ≠ N→zD (zE en N ⟨ty,cells',true⟩) q=zD en q:=fun q hq=>zG8 hq
 have hdead:∀ q,zG5 (ρ q) (zD (zE en N ⟨ty,cells',true⟩) q)=false→zG5 (ρ q) (zD en q)=false:=by
  intro q hq
  by_cases e:q=N
  ·subst e; exact hlN
  ·rw [hoth q e] at hq; exact hq
 refine ⟨?_,?_,?_,?_,?_,h.ini⟩
 ·intro q ty' cs mu hq hx
  by_cases e:q=N
  ·subst e
   rw [hNl] at hx
   simp only [Option.some.injEq,EN.mk.injEq] at hx
   obtain ⟨rfl,rfl,rfl⟩:=hx
   exact ⟨fun _=>hb,hwf,fun hd=>absurd hd hl,fun hn=>absurd hnl hn⟩
  ·rw [hoth q e] at hx
   have g:=h.hp q ty' cs mu hq hx
   refine ⟨fun hd=>?_,g.wf,g.dead,g.non⟩
   have hlq:zG5 (ρ q) (zD en q)=false:=(zA4 hx).2 hd
   rw [hU.block _ (h.lt hq hlq) (fun hb=>e (h.inj q N hq hN hlq hlN hb))]
   exact g.heap hd
 ·intro q ty' cs mu hq hx
  by_cases e:q=N
  ·subst e
   rw [hNl] at hx
   simp only [Option.some.injEq,EN.mk.injEq] at hx
   obtain ⟨rfl,rfl,rfl⟩:=hx
   exact h.ho q _ _ _ hq he
  ·rw [hoth q e] at hx
   exact h.ho q _ _ _ hq hx
 ·intro c d hc hd h1 h2 h3
  exact h.inj c d hc hd (hdead c h1) (hdead d h2) h3
 ·refine h.up.trans hU fun k hk hT=>?_
  rw [show k=(ρ N).blk from hT] at hk ⊢
  exact (h.mu N _ _ hN he).resolve_right (by omega)
 ·intro q ty' cs hq hx
  by_cases e:q=N
  ·subst e
   exact h.mu q _ _ hq he
  ·rw [hoth q e] at hx
   exact h.mu q _ _ hq hx
section
variable {α:Type} {f:α→List SC} {z:Nat}
theorem layN_one:∀ {n:Nat} {l:List SC} {v:SC},n < l.length→zC n [v] l=some (l.set n v)
 | 0,x :: l,v,_=>by
  have:zC 0 ([]:List SC) l=some l:=by cases l <;> rfl
  simp [zC,this]
 | n+1,x :: l,v,h=>by simp [zC,layN_one (n:=n) (l:=l) (v:=v) (by simpa using h)]
 | _,[],_,h=>by simp at h
theorem flatG_lay1 (hz:∀ x,(f x).length=z) {xs:List α} {i j:Nat} {x y:α} {v:SC} (hx:xs[i]?=some x) (hj:j < z) (hy:f y=(f x).set j v):zC (i * z+j) [v] (zC2 f xs)=some (zC2 f (xs.set i y)):=by
 have hi:=(List.getElem?_eq_some_iff.1 hx).1
 have hlen:=zP9 hz xs
 have hlt:i * z+j < (zC2 f xs).length:=by
  rw [hlen]
  have:(i+1) * z≤xs.length * z:=Nat.mul_le_mul_right z hi
  rw [Nat.add_mul] at this; omega
 rw [layN_one hlt]
 congr 1
 have h1:=flatG_lay (f:=f) hz (y:=y) hx
 obtain ⟨a,b⟩:=zQ5 hz hx
 obtain ⟨e1,e2⟩:=zO1 h1
 have key:∀ (p m q:List SC),j < m.length→(p++m++q).set (p.length+j) v=(p++m++q).take p.length++m.set j v++(p++m++q).drop (p.length+m.length):=by
  intro p m q hm
  rw [List.append_assoc,List.set_append_right _ _ (by omega),Nat.add_sub_cancel_left,List.set_append_left _ _ hm,List.take_left,List.append_assoc]
  congr 2
  rw [← List.append_assoc,show p.length+m.length=(p++m).length by simp,List.drop_left]
 have k:=key (zC2 f (xs.take i)) (f x) (zC2 f (xs.drop (i+1))) (by rw [hz]; exact hj)
 rw [← a,b,hz] at k
 rw [e1,hy,List.length_set,hz,k]
end
end Go.Proofs.YtcbmlanpianclaaGreatDoor
/- meta.bad, meta.seconds, meta.kind, walked. Printed by gen_ekind.py. -/
namespace Go.Proofs.YtcbmlanpianclaaGreatDoor
set_option linter.unusedSimpArgs false
set_option linter.unusedVariables false
set_option maxHeartbeats 8000000
open Go.RowKit
set_option maxRecDepth 100000
def ecS (c:Cd):List SC:=[.i .i64 c.op,.i .i64 c.mode,.s c.key,.s c.val,.i .u32 c.flags,.i .i64 c.exp,.b c.hasExp,.i .u64 c.cas,.b c.hasCas,.i .u64 c.delta,.i .u64 c.init,.b c.down,.b c.viv,.i .i64 c.vive,.i .i64 c.recache,.b c.inval]
def ecA (c:Cd):Array Value:=#[.int .i64 c.op,.int .i64 c.mode,.string ⟨c.key.toArray⟩,.string ⟨c.val.toArray⟩,.int .u32 c.flags,.int .i64 c.exp,.bool c.hasExp,.int .u64 c.cas,.bool c.hasCas,.int .u64 c.delta,.int .u64 c.init,.bool c.down,.bool c.viv,.int .i64 c.vive,.int .i64 c.recache,.bool c.inval]
def noS:SC:=.v (.slice none 0 0)
def mqS (cv fl:SC) (r:Mq):List SC:=[.i .i64 r.kind,cv,.b r.quiet,.b false,.s r.reply,.s [],.i .i64 r.skip,.b r.close,.s r.name,fl,.s r.word]
theorem mbad_w (l:List UInt8) (n:Int) (w:World) (ρ:Nat→RE):Calls Tryz.prog 38 #[.string ⟨l.toArray⟩,.int .i64 n] w fun e w'=>e=.returned ((SV.g (mqS noS noS (zD8 l n))).den ρ)∧Below w.heap.size w w':=by
 refine zA1 Tryz.func38 rfl kp38 (S:=Non) (ρ:=ρ) (en:=[]) [.c (.s l),.c (.i .i64 n)] Tryz.ntmps38 (At.nil _ _ _) (by simp [SV.wf,SC.wf]) (by simp) ?_
 intro C hC hP hk
 have hctr:=zF8 hP
 (refine zR7 hctr (rs:=res38) 200 _ _ _ ?_; simp (maxSteps:=1000000) only [VC,qE,qF,qG,qH,qI,qJ,qK,qO,qP,qf,qg,q0t,qu,qv,ev,qy,qz,zA,zB,zC,zD,zE,zF,zG,zI,zJ,TE.sv,zK,zM,↓reduceIte,reduceCtorEq,Value.oneCell',Nat.reduceEqDiff,Nat.reduceAdd,Nat.reduceLT,zP,zQ,zR,zt,hP,hk,res38,kp38])
 exact zH3 (v:=.g (mqS noS noS (zD8 l n))) hC hres38 rfl (by simp [SV.wf,wfs,SC.wf,mqS,noS])
theorem msecs_w (l:List UInt8) (hl:l.length≤9223372036854775807) (w:World) (hE:Env w):Calls Tryz.prog 116 #[.string ⟨l.toArray⟩] w fun e w'=>e=.returned (.tuple #[.int .i64 ((zC5 l).getD 0),.bool (zI2 l).2])∧Below w.heap.size w w':=by
 refine zA1 Tryz.func116 rfl kp116 (S:=Non) (ρ:=fun _=>⟨0,[],[],0,none⟩) (en:=[]) [.c (.s l)] Tryz.ntmps116 (At.nil _ _ _) (by simp [SV.wf,SC.wf]) (by simp) ?_
 intro C hC hP hk
 have hctr:=tC0_ok hP (fun w' hu=>by rw [hC] at hu; exact hE.below hu.to_below)
 have fin:∀ b,b=(zI2 l).2→Fin C res116 (.t [.c (.i .i64 ((zC5 l).getD 0)),.c (.b b)]) []:=fun b hb=>zH3 (v:=.t [.c (.i .i64 ((zC5 l).getD 0)),.c (.b (zI2 l).2)]) hC hres116 (by rw [hb]) (by simp [SV.wf,TE.wf,SC.wf])
 cases hv:zC5 l with
 | none =>
  rw [hv] at fin
  (refine zA0 hctr (rs:=res116) true 200 _ _ _ ?_; simp (maxSteps:=1000000) only [VT,jg,aA,qE,qF,qG,qH,qI,qK,qO,qh,qp,ev,qw,qy,qz,zD,zI,zJ,TE.sv,zK,↓reduceIte,reduceCtorEq,Nat.reduceEqDiff,Nat.reduceLT,zP,zQ,zR,zW,hP,hk,res116,kp116,tC0,zH8,hv,Option.getD_none,Option.isSome_none])
  exact ⟨hl,fin _ (by unfold zI2; rw [hv])⟩
 | some n =>
  rw [hv] at fin
  simp only [zI2,hv,Option.getD_some] at fin
  by_cases h1:-1099511627776≤n
  ·have c1:decide (-1099511627776≤n)=true:=decide_eq_true h1
   (refine zA0 hctr (rs:=res116) true 200 _ _ _ ?_; simp (maxSteps:=1000000) only [VT,jf,jZ,qE,qF,qG,qH,qI,qK,qO,qR,qS,qh,qp,ev,qw,qy,qz,zD,zI,zJ,TE.sv,zK,↓reduceIte,reduceCtorEq,Nat.reduceEqDiff,Nat.reduceLT,zP,zQ,zR,zV,hP,hk,res116,kp116,tC0,zH8,hv,Option.getD_some,Option.isSome_some,c1])
   exact ⟨hl,fin _ (by unfold nearB; rw [c1]; simp)⟩
  ·have c1:decide (-1099511627776≤n)=false:=decide_eq_false h1
   (refine zA0 hctr (rs:=res116) true 200 _ _ _ ?_; simp (maxSteps:=1000000) only [VT,jf,jg,jZ,aA,qE,qF,qG,qH,qI,qK,qO,qR,qS,qh,qp,ev,qw,qy,qz,zD,zI,zJ,TE.sv,zK,↓reduceIte,reduceCtorEq,Nat.reduceEqDiff,Nat.reduceLT,zP,zQ,zR,zV,zW,hP,hk,res116,kp116,tC0,zH8,hv,Option.getD_some,Option.isSome_some,c1])
   exact ⟨hl,fin _ (by unfold nearB; rw [c1]; simp)⟩
theorem mkind_w (name:List UInt8) (w:World) (ρ:Nat→RE):Calls Tryz.prog 40 #[.string ⟨name.toArray⟩] w fun e w'=>e=.returned ((SV.t [.g (ecS (zF0 name).1),.c (.s (zF0 name).2)]).den ρ)∧Below w.heap.size w w':=by
 refine zA1 Tryz.func40 rfl kp40 (S:=Non) (ρ:=ρ) (en:=[]) [.c (.s name)] Tryz.ntmps40 (At.nil _ _ _) (by simp [SV.wf,SC.wf]) (by simp) ?_
 intro C hC hP hk
 have hctr:=zF8 hP
 have fin:∀ v en,v=SV.t [.g (ecS (zF0 name).1),.c (.s (zF0 name).2)]→Fin C res40 v en:=fun v en hv=>by subst hv; exact zH3 (v:=.t [.g (ecS (zF0 name).1),.c (.s (zF0 name).2)]) hC hres40 rfl (by simp [SV.wf,TE.wf,wfs,SC.wf,ecS])
 by_cases h0:name=m_me
 ·subst h0
  simp only [m_me] at fin ⊢
  (refine zA0 hctr (rs:=res40) true 200 _ _ _ ?_; simp (maxSteps:=1000000) only [VT,jf,qE,qF,qG,qH,qI,qJ,qK,qO,qP,qR,qS,qV,q0t,qu,qv,ev,qy,qz,zA,zB,zC,zD,zE,zF,zG,zI,zJ,zK,zM,↓reduceIte,reduceCtorEq,Nat.reduceEqDiff,Nat.reduceAdd,Nat.reduceLT,Nat.reduceBEq,zP,zQ,zR,zV,zt,zu,zx,hP,hk,res40,kp40,lb1,lb4,u8b,UInt8.reduceToNat])
  exact fin _ _ rfl
 have c0:(name == [109,101])=false:=by refine Bool.eq_false_iff.2 fun e=>h0 (eq_of_beq e)
 by_cases h1:name=m_mg
 ·subst h1
  simp only [m_mg] at fin ⊢
  (refine zA0 hctr (rs:=res40) true 200 _ _ _ ?_; simp (maxSteps:=1000000) only [VT,jf,jg,qE,qF,qG,qH,qI,qJ,qK,qO,qP,qR,qS,qV,q0t,qu,qv,ev,qy,qz,zA,zB,zC,zD,zE,zF,zG,zI,zJ,zK,zM,↓reduceIte,reduceCtorEq,Nat.reduceEqDiff,Nat.reduceAdd,Nat.reduceLT,Nat.reduceBEq,zP,zQ,zR,zV,zW,zt,zu,zw,zx,hP,hk,res40,kp40,lb1,lb4,u8b,UInt8.reduceToNat])
  exact fin _ _ rfl
 have c1:(name == [109,103])=false:=by refine Bool.eq_false_iff.2 fun e=>h1 (eq_of_beq e)
 by_cases h2:name=m_ms
 ·subst h2
  simp only [m_ms] at fin ⊢
  (refine zA0 hctr (rs:=res40) true 200 _ _ _ ?_; simp (maxSteps:=1000000) only [VT,jf,jg,qE,qF,qG,qH,qI,qJ,qK,qO,qP,qR,qS,qV,q0t,qu,qv,ev,qy,qz,zA,zB,zC,zD,zE,zF,zG,zI,zJ,zK,zM,↓reduceIte,reduceCtorEq,Nat.reduceEqDiff,Nat.reduceAdd,Nat.reduceLT,Nat.reduceBEq,zP,zQ,zR,zV,zW,zt,zu,zw,zx,hP,hk,res40,kp40,lb1,lb4,u8b,UInt8.reduceToNat])
  exact fin _ _ rfl
 have c2:(name == [109,115])=false:=by refine Bool.eq_false_iff.2 fun e=>h2 (eq_of_beq e)
 by_cases h3:name=m_md
 ·subst h3
  simp only [m_md] at fin ⊢
  (refine zA0 hctr (rs:=res40) true 200 _ _ _ ?_; simp (maxSteps:=1000000) only [VT,jf,jg,qE,qF,qG,qH,qI,qJ,qK,qO,qP,qR,qS,qV,q0t,qu,qv,ev,qy,qz,zA,zB,zC,zD,zE,zF,zG,zI,zJ,zK,zM,↓reduceIte,reduceCtorEq,Nat.reduceEqDiff,Nat.reduceAdd,Nat.reduceLT,Nat.reduceBEq,zP,zQ,zR,zV,zW,zt,zu,zw,zx,hP,hk,res40,kp40,lb1,lb4,u8b,UInt8.reduceToNat])
  exact fin _ _ rfl
 have c3:(name == [109,100])=false:=by refine Bool.eq_false_iff.2 fun e=>h3 (eq_of_beq e)
 by_cases h4:name=m_ma
 ·subst h4
  simp only [m_ma] at fin ⊢
  (refine zA0 hctr (rs:=res40) true 200 _ _ _ ?_; simp (maxSteps:=1000000) only [VT,jf,jg,qE,qF,qG,qH,qI,qJ,qK,qO,qP,qR,qS,qV,q0t,qu,qv,ev,qy,qz,zA,zB,zC,zD,zE,zF,zG,zI,zJ,zK,zM,↓reduceIte,reduceCtorEq,Nat.reduceEqDiff,Nat.reduceAdd,Nat.reduceLT,Nat.reduceBEq,zP,zQ,zR,zV,zW,zt,zu,zw,zx,hP,hk,res40,kp40,lb1,lb4,u8b,UInt8.reduceToNat])
  exact fin _ _ rfl
 have c4:(name == [109,97])=false:=by refine Bool.eq_false_iff.2 fun e=>h4 (eq_of_beq e)
 (refine zA0 hctr (rs:=res40) true 200 _ _ _ ?_; simp (maxSteps:=1000000) only [VT,jg,qE,qF,qG,qH,qI,qJ,qK,qO,qP,qR,qS,qV,q0t,qu,qv,ev,qy,qz,zA,zB,zC,zD,zE,zF,zG,zI,zJ,zK,zM,↓reduceIte,reduceCtorEq,Nat.reduceEqDiff,Nat.reduceAdd,Nat.reduceLT,zP,zQ,zR,zW,zt,hP,hk,res40,kp40,c0,c1,c2,c3,c4])
 exact fin _ _ (by simp only [zF0,h0,h1,h2,h3,h4,if_false]; rfl)
end Go.Proofs.YtcbmlanpianclaaGreatDoor
/- The contracts of library functions that this claim uses, laid at this translation by the guide's shelf tools: each is one application of a theorem of the library. -/
namespace Go.Proofs
set_option linter.unusedSimpArgs false
set_option linter.unusedVariables false
open Go.Shelf
def Tryz.lays162_ren:Go.Shelf.Ren:=⟨fun | 162=>87 | 232=>117 | 227=>34 | 234=>118 | 236=>119 | 228=>52 | 271=>132 | 151=>54 | 120=>141 | 197=>53 | 152=>81 | 260=>80 | 137=>24 | 119=>110 | 224=>78 | 225=>77 | 217=>37 | 266=>55 | n=>n,fun | 9=>9 | 4=>4 | 3=>3 | 5=>5 | 117=>63 | 116=>62 | 0=>0 | 124=>66 | 21=>21 | 105=>82 | 46=>107 | 119=>134 | 139=>137 | 138=>136 | n=>n,fun | 3=>1 | 4=>2 | n=>n⟩
theorem Tryz.lays162:Go.Proofs.Lays.n162 Tryz.prog Tryz.lays162_ren:={
 mixed:=by kernel_rfl
 f119:=Tryz.func110.trans (congrArg some (by kernel_rfl))
 f120:=Tryz.func141.trans (congrArg some (by kernel_rfl))
 f137:=Tryz.func24.trans (congrArg some (by kernel_rfl))
 f151:=Tryz.func54.trans (congrArg some (by kernel_rfl))
 f152:=Tryz.func81.trans (congrArg some (by kernel_rfl))
 f162:=Tryz.func87.trans (congrArg some (by kernel_rfl))
 f197:=Tryz.func53.trans (congrArg some (by kernel_rfl))
 f217:=Tryz.func37.trans (congrArg some (by kernel_rfl))
 f224:=Tryz.func78.trans (congrArg some (by kernel_rfl))
 f225:=Tryz.func77.trans (congrArg some (by kernel_rfl))
 f227:=Tryz.func34.trans (congrArg some (by kernel_rfl))
 f228:=Tryz.func52.trans (congrArg some (by kernel_rfl))
 f232:=Tryz.func117.trans (congrArg some (by kernel_rfl))
 f234:=Tryz.func118.trans (congrArg some (by kernel_rfl))
 f236:=Tryz.func119.trans (congrArg some (by kernel_rfl))
 f260:=Tryz.func80.trans (congrArg some (by kernel_rfl))
 f266:=Tryz.func55.trans (congrArg some (by kernel_rfl))
 f271:=Tryz.func132.trans (congrArg some (by kernel_rfl))
 t0:=Tryz.underlying0
 a0:=Tryz.isAgg0
 z0:=Tryz.sizeOf0
 v0:=Tryz.zeroValue0
 t3:=Tryz.underlying3
 a3:=Tryz.isAgg3
 z3:=Tryz.sizeOf3
 v3:=Tryz.zeroValue3
 t4:=Tryz.underlying4
 a4:=Tryz.isAgg4
 z4:=Tryz.sizeOf4
 v4:=Tryz.zeroValue4
 t5:=Tryz.underlying5
 a5:=Tryz.isAgg5
 z5:=Tryz.sizeOf5
 v5:=Tryz.zeroValue5
 t9:=Tryz.underlying9
 a9:=Tryz.isAgg9
 z9:=Tryz.sizeOf9
 v9:=Tryz.zeroValue9
 t21:=Tryz.underlying21
 a21:=Tryz.isAgg21
 z21:=Tryz.sizeOf21
 v21:=Tryz.zeroValue21
 t46:=Tryz.underlying107
 a46:=Tryz.isAgg107
 z46:=Tryz.sizeOf107
 v46:=Tryz.zeroValue107
 t105:=Tryz.underlying82
 a105:=Tryz.isAgg82
 z105:=Tryz.sizeOf82
 v105:=Tryz.zeroValue82
 t116:=Tryz.underlying62
 a116:=Tryz.isAgg62
 z116:=Tryz.sizeOf62
 t117:=Tryz.underlying63
 a117:=Tryz.isAgg63
 z117:=Tryz.sizeOf63
 v117:=Tryz.zeroValue63
 t119:=Tryz.underlying134
 a119:=Tryz.isAgg134
 z119:=Tryz.sizeOf134
 t124:=Tryz.underlying66
 a124:=Tryz.isAgg66
 z124:=Tryz.sizeOf66
 v124:=Tryz.zeroValue66
 t138:=Tryz.underlying136
 a138:=Tryz.isAgg136
 z138:=Tryz.sizeOf136
 v138:=Tryz.zeroValue136
 t139:=Tryz.underlying137
 a139:=Tryz.isAgg137
 z139:=Tryz.sizeOf137
 v139:=Tryz.zeroValue137
 g3:=by kernel_rfl
 g4:=by kernel_rfl }
open Go.RowKit in
theorem Tryz.strings_TrimRight_one (s:ByteArray) (c:UInt8) (hc:c.toNat < 128) (w:World) (hs:s.size≤9223372036854775807) :
  Calls Tryz.prog 87 #[.string s,.string ⟨#[c]⟩] w fun e w'=>e=.returned (.string ⟨(Lib.trimRightB s.data.toList c).toArray⟩)∧w'=w:=Any.strings_TrimRight_one Tryz.lays162 s c hc w hs
def Tryz.lays137_ren:Go.Shelf.Ren:=⟨fun | 137=>24 | 217=>37 | 266=>55 | n=>n,fun | 9=>9 | 5=>5 | 3=>3 | n=>n,fun | n=>n⟩
theorem Tryz.lays137:Go.Proofs.Lays.n137 Tryz.prog Tryz.lays137_ren:={
 mixed:=by kernel_rfl
 f137:=Tryz.func24.trans (congrArg some (by kernel_rfl))
 f217:=Tryz.func37.trans (congrArg some (by kernel_rfl))
 f266:=Tryz.func55.trans (congrArg some (by kernel_rfl))
 t3:=Tryz.underlying3
 a3:=Tryz.isAgg3
 z3:=Tryz.sizeOf3
 v3:=Tryz.zeroValue3
 t5:=Tryz.underlying5
 a5:=Tryz.isAgg5
 z5:=Tryz.sizeOf5
 v5:=Tryz.zeroValue5
 t9:=Tryz.underlying9
 a9:=Tryz.isAgg9
 z9:=Tryz.sizeOf9
 v9:=Tryz.zeroValue9 }
open Go.RowKit in
theorem Tryz.strings_IndexByte (s:ByteArray) (c:Int) (w:World) :
  Calls Tryz.prog 24 #[.string s,.int .u8 c] w fun e w'=>e=.returned (.int .i64 (Lib.indexByte s.data.toList c.toNat.toUInt8))∧w'=w:=Any.strings_IndexByte Tryz.lays137 s c w
def Tryz.lays143_ren:Go.Shelf.Ren:=⟨fun | 143=>114 | 219=>51 | 217=>37 | 225=>77 | 224=>78 | 267=>79 | 266=>55 | 314=>109 | n=>n,fun | 9=>9 | 3=>3 | 4=>4 | 5=>5 | 46=>107 | 146=>132 | 51=>49 | n=>n,fun | 1=>0 | n=>n⟩
theorem Tryz.lays143:Go.Proofs.Lays.n143 Tryz.prog Tryz.lays143_ren:={
 mixed:=by kernel_rfl
 f143:=Tryz.func114.trans (congrArg some (by kernel_rfl))
 f217:=Tryz.func37.trans (congrArg some (by kernel_rfl))
 f219:=Tryz.func51.trans (congrArg some (by kernel_rfl))
 f224:=Tryz.func78.trans (congrArg some (by kernel_rfl))
 f225:=Tryz.func77.trans (congrArg some (by kernel_rfl))
 f266:=Tryz.func55.trans (congrArg some (by kernel_rfl))
 f267:=Tryz.func79.trans (congrArg some (by kernel_rfl))
 f314:=Tryz.func109.trans (congrArg some (by kernel_rfl))
 t3:=Tryz.underlying3
 a3:=Tryz.isAgg3
 z3:=Tryz.sizeOf3
 v3:=Tryz.zeroValue3
 t4:=Tryz.underlying4
 a4:=Tryz.isAgg4
 z4:=Tryz.sizeOf4
 v4:=Tryz.zeroValue4
 t5:=Tryz.underlying5
 a5:=Tryz.isAgg5
 z5:=Tryz.sizeOf5
 v5:=Tryz.zeroValue5
 t9:=Tryz.underlying9
 a9:=Tryz.isAgg9
 z9:=Tryz.sizeOf9
 v9:=Tryz.zeroValue9
 t46:=Tryz.underlying107
 a46:=Tryz.isAgg107
 z46:=Tryz.sizeOf107
 v46:=Tryz.zeroValue107
 t51:=Tryz.underlying49
 a51:=Tryz.isAgg49
 z51:=Tryz.sizeOf49
 v51:=Tryz.zeroValue49
 t146:=Tryz.underlying132
 a146:=Tryz.isAgg132
 z146:=Tryz.sizeOf132
 v146:=Tryz.zeroValue132
 g1:=by kernel_rfl }
open Go.RowKit Go.Lib in
theorem Tryz.strings_Index_one (s:ByteArray) (c:UInt8) (w:World) :
  Calls Tryz.prog 114 #[.string s,.string ⟨#[c]⟩] w fun e w'=>e=.returned (.int .i64 (Lib.indexByte s.data.toList c))∧w'=w:=Any.strings_Index_one Tryz.lays143 s c w
def Tryz.lays144_ren:Go.Shelf.Ren:=⟨fun | 144=>85 | 143=>114 | 219=>51 | 217=>37 | 225=>77 | 224=>78 | 267=>79 | 266=>55 | 314=>109 | n=>n,fun | 9=>9 | 4=>4 | 3=>3 | 5=>5 | 46=>107 | 146=>132 | 51=>49 | n=>n,fun | 1=>0 | n=>n⟩
theorem Tryz.lays144:Go.Proofs.Lays.n144 Tryz.prog Tryz.lays144_ren:={
 mixed:=by kernel_rfl
 f143:=Tryz.func114.trans (congrArg some (by kernel_rfl))
 f144:=Tryz.func85.trans (congrArg some (by kernel_rfl))
 f217:=Tryz.func37.trans (congrArg some (by kernel_rfl))
 f219:=Tryz.func51.trans (congrArg some (by kernel_rfl))
 f224:=Tryz.func78.trans (congrArg some (by kernel_rfl))
 f225:=Tryz.func77.trans (congrArg some (by kernel_rfl))
 f266:=Tryz.func55.trans (congrArg some (by kernel_rfl))
 f267:=Tryz.func79.trans (congrArg some (by kernel_rfl))
 f314:=Tryz.func109.trans (congrArg some (by kernel_rfl))
 t3:=Tryz.underlying3
 a3:=Tryz.isAgg3
 z3:=Tryz.sizeOf3
 v3:=Tryz.zeroValue3
 t4:=Tryz.underlying4
 a4:=Tryz.isAgg4
 z4:=Tryz.sizeOf4
 v4:=Tryz.zeroValue4
 t5:=Tryz.underlying5
 a5:=Tryz.isAgg5
 z5:=Tryz.sizeOf5
 v5:=Tryz.zeroValue5
 t9:=Tryz.underlying9
 a9:=Tryz.isAgg9
 z9:=Tryz.sizeOf9
 v9:=Tryz.zeroValue9
 t46:=Tryz.underlying107
 a46:=Tryz.isAgg107
 z46:=Tryz.sizeOf107
 v46:=Tryz.zeroValue107
 t51:=Tryz.underlying49
 a51:=Tryz.isAgg49
 z51:=Tryz.sizeOf49
 v51:=Tryz.zeroValue49
 t146:=Tryz.underlying132
 a146:=Tryz.isAgg132
 z146:=Tryz.sizeOf132
 v146:=Tryz.zeroValue132
 g1:=by kernel_rfl }
open Go.RowKit Go.Lib in
theorem Tryz.strings_Contains_one (s:ByteArray) (c:UInt8) (w:World) :
  Calls Tryz.prog 85 #[.string s,.string ⟨#[c]⟩] w fun e w'=>e=.returned (.bool (decide (0≤Lib.indexByte s.data.toList c)))∧w'=w:=Any.strings_Contains_one Tryz.lays144 s c w
end Go.Proofs
/- meta.mode, walked; a command in memory. Printed by gen_eset.py. -/
namespace Go.Proofs.YtcbmlanpianclaaGreatDoor
set_option linter.unusedSimpArgs false
set_option linter.unusedVariables false
set_option maxHeartbeats 8000000
open Go.RowKit
set_option maxRecDepth 100000
def enC (c:Cd) (mu:Bool):EN:=⟨(52,0,whole),ecS c,mu⟩
theorem ec_at {w:World} {g:Nat} {c:Cd} (h:Blk w g 52 (ecA c)) (mu:Bool) (S:Nat→Prop) (hS:mu=true→S g):At S (fun _=>zG7 g) [enC c mu] w:=by
 have h0:∀ i (e:EN),zD [enC c mu] i=some e→i=0:=by
  intro i e hc
  match i with
  | 0=>rfl
  | i+1=>simp [zD] at hc
 refine ⟨?_,?_,?_,?_⟩
 ·intro i ty cells mu' hc he
  have:i=0:=by have:i < 1:=hc; omega
  subst this
  simp only [zD,enC,Option.some.injEq,EN.mk.injEq] at he
  obtain ⟨rfl,rfl,rfl⟩:=he
  refine ⟨fun _=>h,?_,fun hd=>absurd hd (by decide),fun hn=>absurd rfl hn⟩
  intro x hx
  simp only [ecS,List.mem_cons,List.not_mem_nil,or_false] at hx
  rcases hx with rfl | rfl | rfl | rfl | rfl | rfl | rfl | rfl | rfl | rfl | rfl | rfl | rfl | rfl | rfl | rfl <;> trivial
 ·intro i ty cells mu' hc he
  have:i=0:=by have:i < 1:=hc; omega
  subst this
  simp only [zD,enC,Option.some.injEq,EN.mk.injEq] at he
  obtain ⟨rfl,rfl,rfl⟩:=he
  exact ⟨rfl,rfl,rfl⟩
 ·intro i d hc hd _ _ _
  have h1:i < 1:=hc
  have h2:d < 1:=hd
  omega
 ·intro i ty cells hc he
  have:i=0:=by have:i < 1:=hc; omega
  subst this
  simp only [zD,enC,Option.some.injEq,EN.mk.injEq] at he
  exact hS he.2.2
theorem ec_blk {C:Cx} {ρ:Nat→RE} {en:List EN} {w':World} {g:Nat} {c:Cd} {mu:Bool} (hw:Hw C ρ (· < en.length) en w') (hen:zD en 0=some (enC c mu)) (hn0:0 < C.n0) (hρ:C.ρ0 0=zG7 g):Blk w' g 52 (ecA c):=by
 have e:=hw.ini 0 hn0
 rw [hρ] at e
 have hl:0 < en.length:=by rw [zA3] at hen; exact (List.getElem?_eq_some_iff.1 hen).1
 have:=(hw.hp 0 _ _ _ hl hen).heap ⟨(by show (52:Nat) ≠ zC9; decide),by rw [e]; rfl⟩
 rw [e] at this
 exact this
def rowIdx:List SV→Option (Prop × SV)
 | [.c (.s l),.c (.s [x])]=>some (True,.c (.i .i64 (Lib.indexByte l x)))
 | _=>none
def rowCon:List SV→Option (Prop × SV)
 | [.c (.s l),.c (.s [x])]=>some (True,.c (.b (decide (0≤Lib.indexByte l x))))
 | _=>none
def zW5:List SV→Option (Prop × SV)
 | [.c (.s l)]=>some (l.length≤9223372036854775807,.t [.c (.i .i64 ((zC5 l).getD 0)),.c (.b (zI2 l).2)])
 | _=>none
def eC0:Ctr:=fun f en xs=>match f with
 | 114=>rowIdx xs
 | 85=>rowCon xs
 | 116=>zW5 xs
 | _=>tC0 f en xs
theorem eC0_ok {C:Cx} (hP:C.P=Tryz.prog) (hE:EnvC C):zC1 C eC0:=by
 intro f en xs p v h hp ρ w hup hHp hHo hinj hwf
 unfold eC0 at h
 split at h
 ·rw [hP]
  refine ⟨fun args w=>Tryz.call114 args w,?_⟩
  unfold rowIdx at h
  split at h <;> simp only [Option.some.injEq,Prod.mk.injEq,reduceCtorEq] at h
  rename_i l x
  obtain ⟨rfl,rfl⟩:=h
  refine ⟨trivial,(Tryz.strings_Index_one ⟨l.toArray⟩ x w).mono ?_⟩
  rintro e w' ⟨rfl,rfl⟩
  exact ⟨rfl,Below.refl _ _⟩
 ·rw [hP]
  refine ⟨fun args w=>Tryz.call85 args w,?_⟩
  unfold rowCon at h
  split at h <;> simp only [Option.some.injEq,Prod.mk.injEq,reduceCtorEq] at h
  rename_i l x
  obtain ⟨rfl,rfl⟩:=h
  refine ⟨trivial,(Tryz.strings_Contains_one ⟨l.toArray⟩ x w).mono ?_⟩
  rintro e w' ⟨rfl,rfl⟩
  exact ⟨rfl,Below.refl _ _⟩
 ·rw [hP]
  refine ⟨fun args w=>Tryz.call116 args w,?_⟩
  unfold zW5 at h
  split at h <;> simp only [Option.some.injEq,Prod.mk.injEq,reduceCtorEq] at h
  rename_i l
  obtain ⟨rfl,rfl⟩:=h
  refine ⟨by intro x hx; simp at hx; rcases hx with rfl | rfl <;> trivial,?_⟩
  exact msecs_w l hp w (hE w hup)
 ·exact tC0_ok hP hE f en xs p v h hp ρ w hup hHp hHo hinj hwf
theorem ib_lt (l:List UInt8) (c:UInt8):Lib.indexByte l c < (l.length:Int):=by
 by_cases h:0≤Lib.indexByte l c
 ·obtain ⟨n,hn⟩:=Int.eq_ofNat_of_zero_le h
  have:=(List.getElem?_eq_some_iff.1 (Lib.indexByte_some hn).1).1
  omega
 ·omega
theorem td2 (i:Int) (h0:-1≤i) (h1:i < 10):-1≤i.tdiv 2∧i.tdiv 2 < 10:=by
 by_cases h:0≤i
 ·rw [Int.tdiv_eq_ediv_of_nonneg h]; omega
 ·have:i=-1:=by omega
  subst this; decide
def SetP (g:Nat) (w:World) (r:Cd × Bool) (e:Ending) (w':World):Prop:=e=.returned (.bool r.2)∧Upd (One g) w w'∧Blk w' g 52 (ecA r.1)
theorem set_fin {C:Cx} {fn:Func} {w:World} {g:Nat} {r:Cd × Bool} {rs:List ResultVar} (hC:C=zL Tryz.prog fn (SetP g w r) (One g) w (fun _=>zG7 g) 1 C.kp) (hrs:fn.results.toList=rs) {c:Cd} {b:Bool} (h:(c,b)=r):Fin C rs (.c (.b b)) [enC c true]:=by
 subst h
 refine zC3 hC hrs fun ρ w' hw _ _=>?_
 have hb:=ec_blk hw rfl (by rw [hC]; exact Nat.zero_lt_one) (by rw [hC]; rfl)
 have hup:=hw.up
 rw [hC] at hup
 exact ⟨rfl,hup,hb⟩
theorem mode_w {w:World} {g:Nat} {c:Cd} (h:Blk w g 52 (ecA c)) (s:List UInt8) (hE:Env w) (hEg:∀ w',Upd (One g) w w'→Env w') :
  Calls Tryz.prog 115 #[.pointer (some ⟨g,0,none⟩),.string ⟨s.toArray⟩] w (SetP g w (zV3 c s)):=by
 refine zA1 Tryz.func115 rfl kp115 (S:=One g) (ρ:=fun _=>zG7 g) [.c (.p 0 0),.c (.s s)] Tryz.ntmps115 (ec_at h true (One g) (fun _=>rfl)) (by simp [SV.wf,SC.wf]) (by simp) ?_
 intro C hC hP hk
 have hctr:=eC0_ok hP (fun w' hu=>by rw [hC] at hu; exact hEg w' hu)
 have fin:∀ c' b,(c',b)=zV3 c s→Fin C res115 (.c (.b b)) [enC c' true]:=fun c' b e=>set_fin (by rw [hC]; rfl) hres115 e
 by_cases h1:∃ x,s=[x]
 ·obtain ⟨x,rfl⟩:=h1
  have g1:=Lib.indexByte_ge [73,105,43,68,100,45] x
  have g2:=Lib.indexByte_ge [83,115,69,101,82,114,65,97,80,112] x
  have cl:(((1:Nat):Int) != 1)=false:=rfl
  by_cases h3:c.op=3
  ·have c3:(c.op == 3)=true:=by rw [h3]; rfl
   (refine zA0 hctr (rs:=res115) true 200 _ _ _ ?_; simp (maxSteps:=1000000) only [VT,jf,jg,qE,qF,qG,qH,qI,qJ,qK,qN,qO,qP,qQ,qR,qS,qV,qe,q0t,qv,ev,qw,qy,qz,zC,zD,zE,zG,zI,zJ,TE.sv,zK,zM,↓reduceIte,reduceCtorEq,Nat.reduceEqDiff,Nat.reduceLT,zP,zQ,zR,zV,zW,zk,zl,zt,zu,hP,hk,res115,kp115,eC0,rowIdx,enC,ecS,c3,cl])
   exact fin { c with down:=decide (3≤Lib.indexByte [73,105,43,68,100,45] x) } _ (by simp only [zV3,if_pos h3])
  ·have c3:(c.op == 3)=false:=by simpa using h3
   (refine zA0 hctr (rs:=res115) true 200 _ _ _ ?_; simp (maxSteps:=1000000) only [VT,jg,qE,qF,qG,qH,qI,qJ,qK,qN,qO,qP,qQ,qR,qS,qV,qe,qo,q0t,qv,ev,qw,qy,qz,zC,zD,zE,zG,zI,zJ,TE.sv,zK,zM,↓reduceIte,reduceCtorEq,Nat.reduceEqDiff,Nat.reduceLT,zP,zQ,zR,zW,zi,zk,zl,zt,zu,hP,hk,res115,kp115,eC0,rowIdx,enC,ecS,c3,cl])
   have g3:=td2 _ g2 (by have:=ib_lt [83,115,69,101,82,114,65,97,80,112] x; simpa using this)
   have g5:=IntWalk.i64_in ((Lib.indexByte [83,115,69,101,82,114,65,97,80,112] x).tdiv 2) (by omega)
   refine ⟨by decide,?_⟩
   rw [g5]
   exact fin { c with mode:=if 0 < (Lib.indexByte [83,115,69,101,82,114,65,97,80,112] x).tdiv 2 then (Lib.indexByte [83,115,69,101,82,114,65,97,80,112] x).tdiv 2 else 0 } _ (by simp only [zV3,if_neg h3])
 ·have c0:((s.length:Int) != 1)=true:=by
   refine bne_iff_ne.2 fun e=>h1 ?_
   match s,e with
   | [x],_=>exact ⟨x,rfl⟩
   | [],e=>simp at e
   | x :: y :: t,e=>simp at e; omega
  (refine zA0 hctr (rs:=res115) true 200 _ _ _ ?_; simp (maxSteps:=1000000) only [VT,jf,qE,qF,qG,qH,qI,qK,qN,qO,qR,qS,qe,ev,qy,qz,zI,zJ,TE.sv,zK,zM,↓reduceIte,reduceCtorEq,Nat.reduceEqDiff,Nat.reduceLT,zP,zQ,zR,zV,zt,hP,hk,res115,kp115,enC,ecS,c0])
  refine fin c false ?_
  match s,h1 with
  | [],_=>rfl
  | [x],h1=>exact absurd ⟨x,rfl⟩ h1
  | x :: y :: t,_=>rfl
end Go.Proofs.YtcbmlanpianclaaGreatDoor
/- meta.set, walked; set and mode as calls of a walk. Printed by gen_eset3.py. -/
namespace Go.Proofs.YtcbmlanpianclaaGreatDoor
set_option linter.unusedSimpArgs false
set_option linter.unusedVariables false
set_option maxHeartbeats 8000000
open Go.RowKit
set_option maxRecDepth 100000
theorem dens_ec (ρ:Nat→RE) (c:Cd):zB8 ρ (ecS c)=(ecA c).toList:=rfl
theorem setl_h {C:Cx} {nE:Nat} {mk:Nat→Prop} {en en':List EN} {N:Nat} {c:Cd} {f:FuncId} {ys:List SV} {r:Cd × Bool} (hP:C.P=Tryz.prog) (hE:EnvC C) (h0:zD en N=some (enC c true)) (hN:N < nE) (hmk:∀ q,¬ mk q)
  (hent:∀ args w,(callFunc f args).run Tryz.prog w=.ok (.enter f args) w)
  (H:∀ (ρ:Nat→RE) w g,Blk w g 52 (ecA c)→(∀ w',Upd (One g) w w'→Env w')→Env w→Calls Tryz.prog f (Value.pointer (some ⟨g,0,none⟩) :: ys.map (SV.den ρ)).toArray w (SetP g w r))
  (hen:en'=zE en N (enC r.1 true)):zJ0 C nE mk en en' f (.c (.p N 0) :: ys) (.c (.b r.2)):=by
 subst hen
 refine ⟨fun args w=>by rw [hP]; exact hent args w,?_⟩
 intro ρ pr w hpr hmn hw hex hwf
 rw [hP]
 have hNp:=hpr N hN
 obtain ⟨k1,k2,k3,k4,k5⟩:=zO4 hw.hp hw.ho hNp h0 (by decide) (by simp [ecS])
 have hmu:=hw.mu N _ _ hNp h0
 have hpl:∀ c,pr c→c < en.length:=by
  intro q hq
  refine Decidable.byContradiction fun hd=>hex q hq ?_
  rw [zA3,List.getElem?_eq_none (by omega)]
 have hup:∀ w',Upd (One (ρ N).blk) w w'→Env w':=fun w' hu=>hE w' (hw.up.trans hu fun q hq (hs:q=(ρ N).blk)=>by
  rcases hmu with h | h
  ·rw [hs]; exact h
  ·omega)
 have hc:=H ρ w (ρ N).blk k1 hup (hE w hw.up)
 simp only [List.map_cons,SV.den,SC.den,k2]
 refine hc.mono ?_
 rintro e w' ⟨rfl,hU,hb⟩
 refine ⟨ρ,fun _ _=>rfl,rfl,trivial,?_,fun q hq=>absurd hq (hmk q)⟩
 have:=hw.turn hpl hNp h0 (by show ¬ (52:Nat)=zC9; decide) k5 hU (cells':=ecS r.1) (by rw [k3,k4]; simpa [Blk,dens_ec] using hb) (by
  intro x hx
  simp only [ecS,List.mem_cons,List.not_mem_nil,or_false] at hx
  rcases hx with rfl | rfl | rfl | rfl | rfl | rfl | rfl | rfl | rfl | rfl | rfl | rfl | rfl | rfl | rfl | rfl <;> trivial)
 exact this.iff fun q=>⟨fun h=>h.resolve_right (hmk q),Or.inl⟩
theorem mode_h {C:Cx} {nE:Nat} {mk:Nat→Prop} {en en':List EN} {N:Nat} {c:Cd} {s:List UInt8} (hP:C.P=Tryz.prog) (hE:EnvC C) (h0:zD en N=some (enC c true)) (hN:N < nE) (hmk:∀ q,¬ mk q) (hen:en'=zE en N (enC (zV3 c s).1 true)) :
  zJ0 C nE mk en en' 115 [.c (.p N 0),.c (.s s)] (.c (.b (zV3 c s).2)):=
 setl_h hP hE h0 hN hmk (fun args w=>Tryz.call115 args w) (fun ρ w g hb hu he=>mode_w hb s he hu) hen
theorem zK1 {x:UInt8} {k:Nat} (hk:k < 256) (h:x=UInt8.ofNat k):((x.toNat:Int) == (k:Int))=true:=by
 subst h; simp [UInt8.toNat_ofNat',Nat.mod_eq_of_lt hk]
theorem zK0 {x:UInt8} {k:Nat} (h:¬ x=UInt8.ofNat k):((x.toNat:Int) == (k:Int))=false:=by
 refine Bool.eq_false_iff.2 fun e=>h ?_
 have:(x.toNat:Int)=(k:Int):=eq_of_beq e
 have h2:x.toNat=k:=by omega
 rw [← h2,UInt8.ofNat_toNat]
theorem mset_w {w:World} {g:Nat} {c:Cd} (h:Blk w g 52 (ecA c)) (x:UInt8) (s:List UInt8) (hl:s.length≤9223372036854775807) (hE:Env w) (hEg:∀ w',Upd (One g) w w'→Env w') :
  Calls Tryz.prog 86 #[.pointer (some ⟨g,0,none⟩),.int .u8 x.toNat,.string ⟨s.toArray⟩] w (SetP g w (zS3 c x s)):=by
 refine zA1 Tryz.func86 rfl kp86 (S:=One g) (ρ:=fun _=>zG7 g) [.c (.p 0 0),.c (.i .u8 x.toNat),.c (.s s)] Tryz.ntmps86 (ec_at h true (One g) (fun _=>rfl)) (by simp [SV.wf,SC.wf]) (by simp) ?_
 intro C hC hP hk
 have hEC:EnvC C:=fun w' hu=>by rw [hC] at hu; exact hEg w' hu
 have hctr:=eC0_ok hP hEC
 have fin:∀ c' b,(c',b)=zS3 c x s→Fin C res86 (.c (.b b)) [enC c' true]:=fun c' b e=>set_fin (by rw [hC]; rfl) hres86 e
 have hsv:(zC5 s).getD 0=(zI2 s).1:=by unfold zI2; cases zC5 s <;> rfl
 by_cases h0:x=67
 ·have e0:((x.toNat:Int) == 67)=true:=zK1 (k:=67) (by decide) h0
  (refine zA0 hctr (rs:=res86) true 300 _ _ _ ?_; simp (maxSteps:=1000000) only [VT,jf,qE,qF,qG,qH,qI,qJ,qK,qO,qQ,qR,qS,qV,qh,q0t,qv,ev,qw,qy,qz,zC,zD,zE,zG,zI,zJ,TE.sv,zK,zM,↓reduceIte,reduceCtorEq,Nat.reduceEqDiff,Nat.reduceAdd,Nat.reduceLT,zP,zQ,zR,zV,zt,hP,hk,res86,kp86,eC0,tC0,zA8,enC,ecS,e0])
  exact ⟨hl,fin { c with cas:=((zB0 s).getD 0:Nat),hasCas:=true } _ (by unfold zS3; rw [if_pos h0]; rfl)⟩
 have d0:((x.toNat:Int) == 67)=false:=zK0 (k:=67) h0
 by_cases h1:x=68
 ·have e1:((x.toNat:Int) == 68)=true:=zK1 (k:=68) (by decide) h1
  (refine zA0 hctr (rs:=res86) true 300 _ _ _ ?_; simp (maxSteps:=1000000) only [VT,jf,jg,qE,qF,qG,qH,qI,qJ,qK,qO,qQ,qR,qS,qV,qh,q0t,qv,ev,qw,qy,qz,zC,zD,zE,zG,zI,zJ,TE.sv,zK,zM,↓reduceIte,reduceCtorEq,Nat.reduceEqDiff,Nat.reduceAdd,Nat.reduceLT,zP,zQ,zR,zV,zW,zt,hP,hk,res86,kp86,eC0,tC0,zA8,enC,ecS,d0,e1])
  exact ⟨hl,fin { c with delta:=((zB0 s).getD 0:Nat) } _ (by unfold zS3; rw [if_neg h0,if_pos h1]; rfl)⟩
 have d1:((x.toNat:Int) == 68)=false:=zK0 (k:=68) h1
 by_cases h2:x=74
 ·have e2:((x.toNat:Int) == 74)=true:=zK1 (k:=74) (by decide) h2
  (refine zA0 hctr (rs:=res86) true 300 _ _ _ ?_; simp (maxSteps:=1000000) only [VT,jf,jg,qE,qF,qG,qH,qI,qJ,qK,qO,qQ,qR,qS,qV,qh,q0t,qv,ev,qw,qy,qz,zC,zD,zE,zG,zI,zJ,TE.sv,zK,zM,↓reduceIte,reduceCtorEq,Nat.reduceEqDiff,Nat.reduceAdd,Nat.reduceLT,zP,zQ,zR,zV,zW,zt,hP,hk,res86,kp86,eC0,tC0,zA8,enC,ecS,d0,d1,e2])
  exact ⟨hl,fin { c with init:=((zB0 s).getD 0:Nat) } _ (by unfold zS3; rw [if_neg h0,if_neg h1,if_pos h2]; rfl)⟩
 have d2:((x.toNat:Int) == 74)=false:=zK0 (k:=74) h2
 by_cases h3:x=70
 ·have e3:((x.toNat:Int) == 70)=true:=zK1 (k:=70) (by decide) h3
  cases hp:zB0 s with
  | none =>
   (refine zA0 hctr (rs:=res86) true 300 _ _ _ ?_; simp (maxSteps:=1000000) only [VT,jf,jg,aA,qE,qF,qG,qH,qI,qJ,qK,qO,qQ,qR,qS,qU,qV,qh,qp,q0t,qv,ev,qw,qy,qz,zC,zD,zE,zG,zI,zJ,TE.sv,zK,zM,↓reduceIte,reduceCtorEq,Value.oneCell',Nat.reduceEqDiff,Nat.reduceAdd,Nat.reduceLT,zP,zQ,zR,zV,zW,zt,hP,hk,res86,kp86,eC0,tC0,zA8,enC,ecS,d0,d1,d2,e3,hp,Option.getD_none,Option.isSome_none])
   exact ⟨hl,fin { c with flags:=IntKind.u32.wrap ((0:Nat):Int) } _ (by unfold zS3; rw [if_neg h0,if_neg h1,if_neg h2,if_pos h3]; simp [zT8,hp])⟩
  | some v =>
   (refine zA0 hctr (rs:=res86) true 300 _ _ _ ?_; simp (maxSteps:=1000000) only [VT,jf,jg,jZ,qE,qF,qG,qH,qI,qJ,qK,qO,qQ,qR,qS,qU,qV,qh,qp,q0t,qv,ev,qw,qy,qz,zC,zD,zE,zG,zI,zJ,TE.sv,zK,zM,↓reduceIte,reduceCtorEq,Value.oneCell',Nat.reduceEqDiff,Nat.reduceAdd,Nat.reduceLT,zP,zQ,zR,zV,zW,zt,hP,hk,res86,kp86,eC0,tC0,zA8,enC,ecS,d0,d1,d2,e3,hp,Option.getD_some,Option.isSome_some])
   exact ⟨hl,fin { c with flags:=IntKind.u32.wrap (v:Int) } _ (by unfold zS3; rw [if_neg h0,if_neg h1,if_neg h2,if_pos h3]; simp [zT8,hp])⟩
 have d3:((x.toNat:Int) == 70)=false:=zK0 (k:=70) h3
 by_cases h4:x=77
 ·have e4:((x.toNat:Int) == 77)=true:=zK1 (k:=77) (by decide) h4
  (refine zA0 hctr (rs:=res86) true 300 _ _ _ ?_; simp (maxSteps:=1000000) only [VT,jf,jg,qH,qI,qK,qO,qR,qS,ev,qw,qy,qz,zI,zJ,zK,↓reduceIte,reduceCtorEq,Nat.reduceEqDiff,Nat.reduceAdd,Nat.reduceLT,zP,zQ,zR,zV,zW,zt,hk,res86,kp86,eC0,tC0,enC,ecS,d0,d1,d2,d3,e4])
  refine zA6 rfl (.c (.b (zV3 c s).2)) _ (mode_h (C:=C) hP hEC (N:=0) (c:=c) (s:=s) rfl (by simp [zG]) (fun q hq=>by simp only [zG,zE] at hq; omega) rfl) (by simp [zG,zE]) (by simp) ?_
  (refine zA0 hctr (rs:=res86) true 300 _ _ _ ?_; simp (maxSteps:=1000000) only [VT,qE,qF,qG,qH,qI,qK,qO,ev,qy,zE,zI,zJ,TE.sv,↓reduceIte,reduceCtorEq,Nat.reduceEqDiff,Nat.reduceLT,zP,zQ,zR,jN,hk,res86,kp86,enC,ecS,zE])
  exact fin (zV3 c s).1 _ (by unfold zS3; rw [if_neg h0,if_neg h1,if_neg h2,if_neg h3,if_pos h4])
 have d4:((x.toNat:Int) == 77)=false:=zK0 (k:=77) h4
 by_cases h5:x=78
 ·have e5:((x.toNat:Int) == 78)=true:=zK1 (k:=78) (by decide) h5
  (refine zA0 hctr (rs:=res86) true 300 _ _ _ ?_; simp (maxSteps:=1000000) only [VT,jf,jg,qE,qF,qG,qH,qI,qJ,qK,qO,qQ,qR,qS,qV,qh,q0t,qv,ev,qw,qy,qz,zC,zD,zE,zG,zI,zJ,TE.sv,zK,zM,↓reduceIte,reduceCtorEq,Nat.reduceEqDiff,Nat.reduceAdd,Nat.reduceLT,zP,zQ,zR,zV,zW,zt,hP,hk,res86,kp86,eC0,zW5,enC,ecS,d0,d1,d2,d3,d4,e5])
  exact ⟨hl,fin { c with viv:=true,vive:=(zC5 s).getD 0 } _ (by unfold zS3; rw [if_neg h0,if_neg h1,if_neg h2,if_neg h3,if_neg h4,if_pos h5]; simp only [← hsv])⟩
 have d5:((x.toNat:Int) == 78)=false:=zK0 (k:=78) h5
 by_cases h6:x=82
 ·have e6:((x.toNat:Int) == 82)=true:=zK1 (k:=82) (by decide) h6
  (refine zA0 hctr (rs:=res86) true 300 _ _ _ ?_; simp (maxSteps:=1000000) only [VT,jf,jg,qE,qF,qG,qH,qI,qJ,qK,qO,qQ,qR,qS,qV,qh,q0t,qv,ev,qw,qy,qz,zC,zD,zE,zG,zI,zJ,TE.sv,zK,zM,↓reduceIte,reduceCtorEq,Nat.reduceEqDiff,Nat.reduceAdd,Nat.reduceLT,zP,zQ,zR,zV,zW,zt,hP,hk,res86,kp86,eC0,zW5,enC,ecS,d0,d1,d2,d3,d4,d5,e6])
  exact ⟨hl,fin { c with recache:=(zC5 s).getD 0 } _ (by unfold zS3; rw [if_neg h0,if_neg h1,if_neg h2,if_neg h3,if_neg h4,if_neg h5,if_pos h6]; simp only [← hsv])⟩
 have d6:((x.toNat:Int) == 82)=false:=zK0 (k:=82) h6
 by_cases h7:x=84
 ·have e7:((x.toNat:Int) == 84)=true:=zK1 (k:=84) (by decide) h7
  (refine zA0 hctr (rs:=res86) true 300 _ _ _ ?_; simp (maxSteps:=1000000) only [VT,jf,jg,qE,qF,qG,qH,qI,qJ,qK,qO,qP,qQ,qR,qS,qV,qh,q0t,qv,ev,qw,qy,qz,zC,zD,zE,zG,zI,zJ,TE.sv,zK,zM,↓reduceIte,reduceCtorEq,Nat.reduceEqDiff,Nat.reduceAdd,Nat.reduceLT,zP,zQ,zR,zV,zW,zt,zu,hP,hk,res86,kp86,eC0,zW5,enC,ecS,d0,d1,d2,d3,d4,d5,d6,e7])
  exact ⟨hl,fin { c with hasExp:=c.op != 2,exp:=(zC5 s).getD 0 } _ (by unfold zS3; rw [if_neg h0,if_neg h1,if_neg h2,if_neg h3,if_neg h4,if_neg h5,if_neg h6,if_pos h7]; simp only [← hsv]; by_cases ho:c.op=2 <;> simp [ho])⟩
 have d7:((x.toNat:Int) == 84)=false:=zK0 (k:=84) h7
 by_cases h8:x=79
 ·have e8:((x.toNat:Int) == 79)=true:=zK1 (k:=79) (by decide) h8
  by_cases hs:s=[]
  ·have hs1:(s == [])=true:=by rw [hs]; rfl
   (refine zA0 hctr (rs:=res86) true 300 _ _ _ ?_; simp (maxSteps:=1000000) only [VT,jf,jg,aA,qE,qF,qG,qH,qI,qK,qO,qR,qS,qp,ev,qy,qz,zD,zI,zJ,TE.sv,zK,↓reduceIte,reduceCtorEq,Nat.reduceEqDiff,Nat.reduceAdd,Nat.reduceLT,zP,zQ,zR,zV,zW,zt,hP,hk,res86,kp86,enC,ecS,d0,d1,d2,d3,d4,d5,d6,d7,e8,hs1])
   exact fin c _ (by unfold zS3; rw [if_neg h0,if_neg h1,if_neg h2,if_neg h3,if_neg h4,if_neg h5,if_neg h6,if_neg h7,if_pos h8]; simp [hs])
  ·have hs1:(s == [])=false:=by simpa using hs
   (refine zA0 hctr (rs:=res86) true 300 _ _ _ ?_; simp (maxSteps:=1000000) only [VT,jf,jg,jZ,qE,qF,qG,qH,qI,qK,qN,qO,qR,qS,qe,qp,ev,qy,qz,zD,zI,zJ,TE.sv,zK,zM,↓reduceIte,reduceCtorEq,Nat.reduceEqDiff,Nat.reduceAdd,Nat.reduceLT,zP,zQ,zR,zV,zW,zt,hP,hk,res86,kp86,enC,ecS,d0,d1,d2,d3,d4,d5,d6,d7,e8,hs1])
   exact fin c _ (by unfold zS3; rw [if_neg h0,if_neg h1,if_neg h2,if_neg h3,if_neg h4,if_neg h5,if_neg h6,if_neg h7,if_pos h8]; simp [hs]; omega)
 have d8:((x.toNat:Int) == 79)=false:=zK0 (k:=79) h8
 cases hi:c.inval with
 | true =>
  (refine zA0 hctr (rs:=res86) true 300 _ _ _ ?_; simp (maxSteps:=1000000) only [VT,jf,jg,aA,qE,qF,qG,qH,qI,qJ,qK,qO,qP,qQ,qR,qS,qV,qp,q0t,qv,ev,qy,qz,zC,zD,zE,zG,zI,zJ,TE.sv,zK,zM,↓reduceIte,reduceCtorEq,Value.oneCell',Nat.reduceEqDiff,Nat.reduceAdd,Nat.reduceLT,zP,zQ,zR,zV,zW,zi,zt,hP,hk,res86,kp86,enC,ecS,d0,d1,d2,d3,d4,d5,d6,d7,d8,hi])
  exact fin { c with inval:=true } _ (by unfold zS3; rw [if_neg h0,if_neg h1,if_neg h2,if_neg h3,if_neg h4,if_neg h5,if_neg h6,if_neg h7,if_neg h8]; simp [hi]; cases s <;> simp)
 | false =>
  by_cases hx:x=73
  ·have e9:((x.toNat:Int) == 73)=true:=zK1 (k:=73) (by decide) hx
   (refine zA0 hctr (rs:=res86) true 300 _ _ _ ?_; simp (maxSteps:=1000000) only [VT,jg,jZ,qE,qF,qG,qH,qI,qJ,qK,qO,qP,qQ,qR,qS,qV,qp,q0t,qv,ev,qy,qz,zC,zD,zE,zG,zI,zJ,TE.sv,zK,zM,↓reduceIte,reduceCtorEq,Value.oneCell',Nat.reduceEqDiff,Nat.reduceAdd,Nat.reduceLT,zP,zQ,zR,zW,zi,zt,hP,hk,res86,kp86,enC,ecS,d0,d1,d2,d3,d4,d5,d6,d7,d8,hi,e9])
   exact fin { c with inval:=true } _ (by unfold zS3; rw [if_neg h0,if_neg h1,if_neg h2,if_neg h3,if_neg h4,if_neg h5,if_neg h6,if_neg h7,if_neg h8]; simp [hi,hx]; cases s <;> simp)
  ·have e9:((x.toNat:Int) == 73)=false:=zK0 (k:=73) hx
   (refine zA0 hctr (rs:=res86) true 300 _ _ _ ?_; simp (maxSteps:=1000000) only [VT,jg,jZ,qE,qF,qG,qH,qI,qJ,qK,qO,qP,qQ,qR,qS,qV,qp,q0t,qv,ev,qy,qz,zC,zD,zE,zG,zI,zJ,TE.sv,zK,zM,↓reduceIte,reduceCtorEq,Value.oneCell',Nat.reduceEqDiff,Nat.reduceAdd,Nat.reduceLT,zP,zQ,zR,zW,zi,zt,hP,hk,res86,kp86,enC,ecS,d0,d1,d2,d3,d4,d5,d6,d7,d8,hi,e9])
   exact fin { c with inval:=false } _ (by unfold zS3; rw [if_neg h0,if_neg h1,if_neg h2,if_neg h3,if_neg h4,if_neg h5,if_neg h6,if_neg h7,if_neg h8]; simp [hi,hx]; cases s <;> simp)
end Go.Proofs.YtcbmlanpianclaaGreatDoor
/- meta.all, walked. Printed by gen_eall.py. -/
namespace Go.Proofs.YtcbmlanpianclaaGreatDoor
set_option linter.unusedSimpArgs false
set_option linter.unusedVariables false
set_option maxHeartbeats 8000000
open Go.RowKit
set_option maxRecDepth 100000
def RawS (w:World) (g:Nat) (a:Option Addr) (ws:List (List UInt8)):Prop:=
 ∀ (k:Nat) x,ws[k]?=some x→∃ b o,a=some ⟨b,o,none⟩∧b < w.heap.size∧b ≠ g∧w.cell? ⟨b,o+k,none⟩=some (.string ⟨x.toArray⟩)
theorem RawS.rd {w:World} {g:Nat} {a:Option Addr} {ws:List (List UInt8)} (h:RawS w g a ws) {D:Cx} (hS:∀ k,D.S k→k=g) (hw:D.w0=w) {k:Nat} {x:List UInt8} (hx:ws[k]?=some x):∃ b o,a=some ⟨b,o,none⟩∧D.rd b (o+k) 1=some [.s x]:=by
 obtain ⟨b,o,ha,hb,hg,hc⟩:=h k x hx
 refine ⟨b,o,ha,rd_of (vs:=[.string ⟨x.toArray⟩]) ?_ rfl⟩
 intro w' hu j v hv
 have hj:j=0:=by have:=(List.getElem?_eq_some_iff.1 hv).1; simp at this; exact this
 subst hj
 rw [hw] at hu
 simp only [List.getElem?_cons_zero,Option.some.injEq] at hv
 rw [← hv]
 exact (hu.cell (p:=⟨b,o+k,none⟩) hb (fun hs=>hg (hS _ hs))).trans hc
theorem RawS.upd {w w':World} {g:Nat} {a:Option Addr} {ws:List (List UInt8)} (h:RawS w g a ws) (hu:Upd (One g) w w'):RawS w' g a ws:=by
 intro k x hx
 obtain ⟨b,o,ha,hb,hg,hc⟩:=h k x hx
 exact ⟨b,o,ha,Nat.lt_of_lt_of_le hb hu.size,hg,(hu.cell (p:=⟨b,o+k,none⟩) hb (fun hs=>hg hs)).trans hc⟩
theorem mset_h {C:Cx} {nE:Nat} {mk:Nat→Prop} {en en':List EN} {N:Nat} {c:Cd} {x:UInt8} {s:List UInt8} (hP:C.P=Tryz.prog) (hE:EnvC C) (hl:s.length≤9223372036854775807) (h0:zD en N=some (enC c true)) (hN:N < nE) (hmk:∀ q,¬ mk q) (hen:en'=zE en N (enC (zS3 c x s).1 true)) :
  zJ0 C nE mk en en' 86 [.c (.p N 0),.c (.i .u8 x.toNat),.c (.s s)] (.c (.b (zS3 c x s).2)):=
 setl_h hP hE h0 hN hmk (fun args w=>Tryz.call86 args w) (fun ρ w g hb hu he=>mset_w hb x s hl he hu) hen
theorem con_ib (l:List UInt8) (x:UInt8):decide (0≤Lib.indexByte l x)=l.contains x:=by
 induction l with
 | nil=>rfl
 | cons b l ih =>
  by_cases hb:b=x
  ·subst hb; simp [Lib.indexByte]
  ·have h2:(b == x)=false:=by simpa using hb
   have h3:(x == b)=false:=by simpa using fun e=>hb (Eq.symm e)
   rw [List.contains_cons,h3,Bool.false_or,← ih]
   simp only [Lib.indexByte,h2]
   have:=Lib.indexByte_ge l x
   by_cases h0:0≤Lib.indexByte l x
   ·simp [h0]; try omega
   ·have:Lib.indexByte l x=-1:=by omega
    simp [this]
def AllP (g:Nat) (w:World) (r:Cd × List UInt8 × List UInt8) (e:Ending) (w':World):Prop:=e=.returned (.tuple #[.string ⟨r.2.1.toArray⟩,.bool (r.2.2.contains 98),.bool (r.2.2.contains 113)])∧Upd (One g) w w'∧Blk w' g 52 (ecA r.1)
def slAll (a:Option Addr) (n cap:Nat) (allowed:List UInt8) (j:Nat) (seen:List UInt8):List (Nat × SV):=[(14,.c (.i .i64 (j:Int))),(13,.c (.i .i64 (n:Int))),(12,.c (.v (.slice a n cap))),(9,.c (.s seen)),(0,.c (.p 0 0)),(1,.c (.s allowed))]
theorem all_w {w:World} {g:Nat} {c:Cd} (h:Blk w g 52 (ecA c)) (allowed:List UInt8) {a:Option Addr} {n cap:Nat} {ws:List (List UInt8)} (hn:n=ws.length) (hraw:RawS w g a ws) (hl:∀ x∈ws,x ≠ []∧x.length≤100000) (hlen:n≤100000) (hE:Env w) (hEg:∀ w',Upd (One g) w w'→Env w') :
  Calls Tryz.prog 58 #[.pointer (some ⟨g,0,none⟩),.string ⟨allowed.toArray⟩,.slice a n cap] w (AllP g w (zV8 allowed ws c [])):=by
 refine zA1 Tryz.func58 rfl kp58 (S:=One g) (ρ:=fun _=>zG7 g) [.c (.p 0 0),.c (.s allowed),.c (.v (.slice a n cap))] Tryz.ntmps58 (ec_at h true (One g) (fun _=>rfl)) (by simp [SV.wf,SC.wf]) (by simp) ?_
 intro C hC hP hk
 have hEC:EnvC C:=fun w' hu=>by rw [hC] at hu; exact hEg w' hu
 have hctr:=eC0_ok hP hEC
 (refine zA0 hctr (rs:=res58) true 300 _ _ _ ?_; simp (maxSteps:=1000000) only [VT,qH,qI,qK,qN,qO,qe,ev,qy,qz,zI,zJ,zK,zM,↓reduceIte,reduceCtorEq,Nat.reduceEqDiff,Nat.reduceAdd,Nat.reduceLT,zP,zR,zt,hP,hk,kp58,enC,ecS])
 have fin:∀ c2 (v:SV) en,v=.t [.c (.s (zV8 allowed ws c []).2.1),.c (.b ((zV8 allowed ws c []).2.2.contains 98)),.c (.b ((zV8 allowed ws c []).2.2.contains 113))]→(zV8 allowed ws c []).1=c2→en=[enC c2 true]→Fin C res58 v en:=fun c2 v en hv hc he=>by
  subst hv; subst hc; subst he
  refine zC3 hC hres58 fun ρ w' hw _ _=>?_
  have hb:=ec_blk hw rfl (by rw [hC]; exact Nat.zero_lt_one) (by rw [hC]; rfl)
  have hup:=hw.up
  rw [hC] at hup
  exact ⟨rfl,hup,hb⟩
 refine zD6 (ι:={ y:Nat × Cd × List UInt8 // y.1≤n∧y.2.2.length≤y.1∧zV8 allowed (ws.drop y.1) y.2.1 y.2.2=zV8 allowed ws c [] }) (fun y=>slAll a n cap allowed y.1.1 y.1.2.2) (fun y=>[enC y.1.2.1 true]) (fun y=>n+1 - y.1.1) ⟨(0,c,[]),Nat.zero_le _,Nat.le_refl _,rfl⟩ (zB3 ⟨rfl,rfl,rfl,rfl,rfl,rfl,trivial⟩) rfl ?_
 rintro ⟨⟨j,c1,seen⟩,hj,hsl,hall⟩ D dP dS dw dn dr dk ddf dPan dRet hX hJ
 have hP0:=hP; have hk0:=hk; have hctr0:=hctr
 have hP:D.P=Tryz.prog:=by rw [dP]; exact hP0
 have hk:D.kp=kp58:=by rw [dk]; exact hk0
 have hED:EnvC D:=by unfold EnvC; rw [dS,dw]; exact hEC
 have hctr:zC1 D eC0:=eC0_ok hP hED
 simp only at hj hsl hall
 show Run D _ _ (slAll a n cap allowed j seen) [enC c1 true]
 by_cases hjn:j < n
 ·obtain ⟨x,hx⟩:∃ x,ws[j]?=some x:=⟨_,List.getElem?_eq_getElem (by omega)⟩
  obtain ⟨hx0,hxl⟩:=hl x (List.mem_of_getElem? hx)
  obtain ⟨b,t,rfl⟩:∃ b t,x=b :: t:=by cases x with | nil=>exact absurd rfl hx0 | cons b t=>exact ⟨b,t,rfl⟩
  obtain ⟨b0,o,rfl,hr⟩:=hraw.rd (D:=D) (by rw [dS,hC]; exact fun k hk=>hk) (by rw [dw,hC]; rfl) hx
  have p3:IntKind.i64.wrap ((j:Int)+1)=((j+1:Nat):Int):=by rw [IntWalk.i64_in _ (by omega)]; rfl
  have q1:decide ((j:Int) < ((n:Nat):Int))=true:=decide_eq_true (by omega)
  have p0:(0:Int)≤(j:Int):=by omega
  have p1:(j:Int) < ((n:Nat):Int):=by omega
  have hdr:ws.drop j=(b :: t) :: ws.drop (j+1):=by
   rw [List.drop_eq_getElem_cons (by omega)]; congr 1
   exact (List.getElem?_eq_some_iff.1 hx).2
  rw [hdr,zV8] at hall
  have dFin:∀ c2 (v:SV) en,v=.t [.c (.s (zV8 allowed ws c []).2.1),.c (.b ((zV8 allowed ws c []).2.2.contains 98)),.c (.b ((zV8 allowed ws c []).2.2.contains 113))]→(zV8 allowed ws c []).1=c2→en=[enC c2 true]→Fin D res58 v en:=fun c2 v en hv hc he ρ a w' hw hn hwf hd hr=>dRet _ _ (fin c2 v en hv hc he ρ a w' (hw.toC dS.symm dw.symm dr.symm dn.symm) (by rw [← dn]; exact hn) hwf (hd.trans ddf) (fun fn h=>by rw [← dP]; exact hr fn h))
  cases ha:allowed.contains b with
  | false =>
   rw [if_pos ha] at hall
   (refine zA0 hctr (rs:=res58) true 300 _ _ _ ?_; simp (maxSteps:=1000000) only [VT,jf,qE,qF,qG,qH,qI,qK,qO,qP,qR,qS,qT,qX,qZ,ql,ev,qw,qy,qz,zI,zJ,zM,↓reduceIte,reduceCtorEq,Nat.reduceEqDiff,Nat.reduceLT,zP,zQ,zR,zT,zV,zW,zh,zk,zo,hP,hk,res58,kp58,eC0,rowCon,con_ib,enC,ecS,slAll,hr,p0,p1,Int.toNat_zero,Int.toNat_one,Nat.mul_one,List.take_succ_cons,List.take_zero,List.drop_zero,ha])
   exact ⟨⟨Int.le_refl _,by decide,by omega⟩,dFin c1 _ _ (by rw [← hall]; rfl) (by rw [← hall]) rfl⟩
  | true =>
   rw [if_neg (by rw [ha]; simp)] at hall
   cases hs:seen.contains b with
   | true =>
    rw [if_pos hs] at hall
    (refine zA0 hctr (rs:=res58) true 300 _ _ _ ?_; simp (maxSteps:=1000000) only [VT,jf,jg,qE,qF,qG,qH,qI,qK,qO,qP,qR,qS,qT,qX,qZ,ql,ev,qw,qy,qz,zI,zJ,zM,↓reduceIte,reduceCtorEq,Nat.reduceEqDiff,Nat.reduceLT,zP,zQ,zR,zT,zV,zW,zh,zk,zo,hP,hk,res58,kp58,eC0,rowCon,con_ib,enC,ecS,slAll,hr,p0,p1,Int.toNat_zero,Int.toNat_one,Nat.mul_one,List.take_succ_cons,List.take_zero,List.drop_zero,ha,hs])
    exact ⟨⟨Int.le_refl _,by decide,by omega⟩,⟨Int.le_refl _,by decide,by omega⟩,dFin c1 _ _ (by rw [← hall]; rfl) (by rw [← hall]) rfl⟩
   | false =>
    rw [if_neg (by rw [hs]; simp)] at hall
    (refine zA0 hctr (rs:=res58) true 300 _ _ _ ?_; simp (maxSteps:=1000000) only [VT,jf,jg,qH,qI,qK,qO,qP,qR,qS,qT,qX,qZ,ql,ev,qw,qy,qz,zI,zJ,zM,↓reduceIte,reduceCtorEq,Nat.reduceEqDiff,Nat.reduceLT,zP,zQ,zR,zT,zV,zW,zh,zk,zo,hP,hk,res58,kp58,eC0,rowCon,con_ib,enC,ecS,slAll,hr,p0,p1,Int.toNat_zero,Int.toNat_one,Nat.mul_one,List.take_succ_cons,List.take_zero,List.drop_zero,ha,hs])
    refine ⟨⟨Int.le_refl _,by decide,by omega⟩,⟨Int.le_refl _,by decide,by omega⟩,?_⟩
    (refine zH2 hctr (by rw [hP]; rfl) rs58_9 [fun en => (.c (.b (zS3 c1 b t).2), zE en 0 (enC (zS3 c1 b t).1 true))] (ensure_type_of% (Cmp.of (by simp (maxSteps := 1000000) only [qA, qK, qO, qT, qY, qZ, ql, qm, ev, qw, qy, qz, zD, zE, zF, zG, zM, ↓reduceIte, reduceCtorEq, Nat.reduceEqDiff, zh, zk, zt, cE, jA, jC, jD, jI, jK, jL, jM, jN, hP, eC0, enC, ecS, Int.toNat_zero, Int.toNat_one, List.take_succ_cons, List.drop_zero, List.drop_succ_cons]; rfl)) "" Cmp.mk) (by kernel_rfl) (by kernel_rfl) (by first | exact zC7 _ | kernel_rfl) (by kernel_rfl) (by rfl) (by rfl) (by first | exact zB2 _ | rfl) (by rfl) ?_ ?_; rotate_left; refine zA0 hctr (rs := res58) true 300 _ _ _ ?_; simp (maxSteps := 1000000) only [VT, ev, qy, zG, zI, zJ, ↓reduceIte, reduceCtorEq, Nat.reduceEqDiff, Nat.reduceAdd, zP, zQ, zt, jN, jO, hk, res58, kp58]; rotate_left; simp (maxSteps := 1000000) only [qK, qO, qT, qY, qZ, ql, qm, ev, qw, qy, qz, zD, zG, zM, ↓reduceIte, reduceCtorEq, Nat.reduceEqDiff, Nat.reduceAdd, Nat.reduceSub, zR, zS, zT, zh, zk, zn, zt, jD, jN, jP, jQ, jR, jS, jT, jU, hP, Int.toNat_zero, Int.toNat_one, List.take_succ_cons, List.drop_zero, List.drop_succ_cons])
    ·refine ⟨⟨Int.le_refl _,by omega⟩,⟨by decide,by omega,Int.le_refl _⟩,?_⟩
     rw [List.take_length,show ((b :: t).getD 0 0)=b from rfl]
     exact mset_h (x:=b) (s:=t) (c:=c1) (N:=0) (en:=[enC c1 true]) hP hED (by simp only [List.length_cons] at hxl; omega) rfl Nat.zero_lt_one (fun q hq=>by simp [mkC] at hq) rfl
    cases hb:(zS3 c1 b t).2 with
    | false =>
     rw [if_neg (by rw [hb]; simp)] at hall
     simp (maxSteps:=1000000) only [VT,jf,qE,qF,qG,qH,qI,qK,qO,ev,qy,qz,zI,zJ,↓reduceIte,reduceCtorEq,Nat.reduceEqDiff,Nat.reduceLT,zP,zR,zV,zW,hk,kp58]
     exact dFin (zS3 c1 b t).1 _ _ (by rw [← hall]; rfl) (by rw [← hall]) rfl
    | true =>
     rw [if_pos hb] at hall
     simp (maxSteps:=1000000) only [VT,jg,qH,qI,qK,qO,qR,qS,qZ,ql,ev,qy,qz,zI,zJ,zM,↓reduceIte,reduceCtorEq,Nat.reduceEqDiff,Nat.reduceLT,Nat.reduceLeDiff,zP,zQ,zR,zV,zW,zk,zl,zt,hP,hk,kp58,p3,Int.toNat_zero,Int.toNat_one,List.take_succ_cons,List.take_zero,List.drop_zero]
     exact ⟨⟨Int.le_refl _,by decide,by omega⟩,by omega,hJ ⟨(j+1,(zS3 c1 b t).1,seen++[b]),by simp only; omega,by simp; omega,hall⟩ _ (by show n+1 - (j+1) < n+1 - j; omega) (zB3 ⟨rfl,rfl,rfl,rfl,rfl,rfl,trivial⟩)⟩
 ·have q1:decide ((j:Int) < ((n:Nat):Int))=false:=decide_eq_false (by omega)
  have hjn':j=n:=by omega
  (refine zA0 hctr (rs:=res58) true 300 _ _ _ ?_; simp (maxSteps:=1000000) only [VT,jg,qH,qI,qK,qR,qS,ev,qy,zH,zI,zJ,↓reduceIte,reduceCtorEq,Nat.reduceEqDiff,Nat.reduceLT,zP,zR,zW,hk,res58,kp58,enC,ecS,slAll,q1])
  refine hX rfl rfl ?_
  have hP:=hP0; have hk:=hk0; have hctr:=hctr0
  (refine zA0 hctr (rs:=res58) true 300 _ _ _ ?_; simp (maxSteps:=1000000) only [VT,qE,qF,qG,qH,qI,qK,qO,ev,qw,qy,qz,zI,zJ,↓reduceIte,reduceCtorEq,Nat.reduceEqDiff,Nat.reduceLT,zP,zQ,zR,hk,res58,kp58,eC0,rowCon,con_ib])
  rw [List.drop_of_length_le (by omega),zV8] at hall
  exact fin c1 _ _ (by rw [← hall]) (by rw [← hall]) rfl
end Go.Proofs.YtcbmlanpianclaaGreatDoor
/- append of a text's bytes to a row of bytes. No program in sight. -/
namespace Go.Proofs.YtcbmlanpianclaaGreatDoor
set_option linter.unusedSimpArgs false
set_option linter.unusedVariables false
open Go.RowKit
def zD5 (s:List UInt8):List SC:=s.map fun b=>SC.i .u8 (b.toNat:Int)
theorem zZ6 (a b:List UInt8):zD5 a++zD5 b=zD5 (a++b):=by simp [zD5]
theorem zI0 (a:List UInt8):(zD5 a).length=a.length:=by simp [zD5]
theorem zH1 (ρ:Nat→RE) (s:List UInt8):zB8 ρ (zD5 s)=Lib.strCells ⟨s.toArray⟩:=by simp [zB8,zD5,Lib.strCells,SC.den]
theorem zO5 (pr:Nat→Prop) (s:List UInt8):wfs pr (zD5 s):=by
 intro y hy
 simp only [zD5,List.mem_map] at hy
 obtain ⟨_,_,rfl⟩:=hy; trivial
section
variable {C:Cx} {nt:Nat} {sl:List (Nat × SV)} {en:List EN} {k:List KI}
variable {dst:Option Nat} {ty:TypeId} {pos:String} {af:Array Edge} {all r:List Oper} {gd:Option (Nat × Bool)}
end
end Go.Proofs.YtcbmlanpianclaaGreatDoor
/- A walk of a function that defers a closure, and of a deferred function that recovers. -/
namespace Go.Proofs.YtcbmlanpianclaaGreatDoor
set_option linter.unusedSimpArgs false
set_option linter.unusedVariables false
open Go.RowKit
section
variable {P:Program} {C:Cx} {ρ:Nat→RE} {nt:Nat} {sl:List (Nat × SV)} {en:List EN} {a:Act} {w:World} {k:List KI}
variable {dst:Option Nat} {op:Op} {ty:TypeId} {pos:String} {af:Array Edge} {all r:List Oper} {gd:Option (Nat × Bool)}
def cxD (P:Program) (fn:Func) (R:Ending→World→Prop) (S:Nat→Prop) (w0:World) (ρ0:Nat→RE) (n0:Nat) (kp:List Nat) (ds:List Deferred):Cx:=⟨P,bodyPostD P fn R,S,w0,ρ0,n0,kp,ds⟩
theorem wp_of_Run {c:Code} (hr:Rep C ρ nt sl en a w) (h:Run C [.code c] nt sl en):c.wp C.P C.Q a w:=
 h ρ a w hr
theorem calls_of_RunD {f:FuncId} {fn:Func} {c:Code} {R:Ending→World→Prop} (hf:P.funcs[f]?=some fn) (hb:fn.body=some c) {S:Nat→Prop} (kp:List Nat) (args:List SV) (hn:fn.ntmps=nt)
  (hat:At S ρ en w) (hargs:∀ x∈args,x.wf (· < en.length)) (hlen:args.length≤nt)
  (h:∀ C,C=cxD P fn R S w ρ en.length kp []→C.P=P→C.kp=kp→Run C [.code c] nt (zK 0 args) en):Calls P f (args.map (SV.den ρ)).toArray w R:=by
 refine calls_of_wp_defers hf hb ?_
 refine h _ rfl rfl rfl ρ _ w ⟨⟨hat.hp,hat.ho,hat.inj,Upd.refl _ _,fun c ty cells hc he=>.inl (hat.mu c ty cells hc he),fun c _=>rfl⟩,?_,?_,rfl,Nat.le_refl _⟩
 ·intro d v hd
  obtain ⟨h1,h2⟩:=getS_arg hd
  simp only [Nat.sub_zero] at h2
  have hl:=(List.getElem?_eq_some_iff.1 h2).1
  refine ⟨?_,hargs v (List.mem_of_getElem? h2)⟩
  rw [Array.getElem?_append_left (by simpa using hl)]
  simp [h2]
 ·simp [hn]; omega
theorem zG0 {C D:Cx} (hP:D.P=C.P) (hQ:D.Q=C.Q):∀ k:List KI,KQ D k=KQ C k
 | []=>hQ
 | .code c :: k=>by simp only [KQ]; rw [zG0 hP hQ k,hP]
 | .blk id :: k=>by simp only [KQ]; rw [zG0 hP hQ k]
 | .ops all r :: k=>by simp only [KQ]; rw [zG0 hP hQ k,hP]
def cxReb (C:Cx) (ρ:Nat→RE) (w:World) (n:Nat) (ds:List Deferred):Cx:=⟨C.P,C.Q,fun b=>C.S b∨C.w0.heap.size≤b,w,ρ,n,C.kp,ds⟩
theorem Hw.reb (hw:Hw C ρ (· < en.length) en w) (ds:List Deferred):Hw (cxReb C ρ w en.length ds) ρ (· < en.length) en w:=
 ⟨hw.hp,hw.ho,hw.inj,Upd.refl _ _,fun c ty cells hc he=>.inl (hw.mu c ty cells hc he),fun _ _=>rfl⟩
theorem Rep.reb (hr:Rep C ρ nt sl en a w):Rep (cxReb C ρ w en.length C.df) ρ nt sl en a w:=⟨hr.hw.reb _,hr.tm,hr.sz,hr.df,Nat.le_refl _⟩
theorem Run_defer {x:Operand} {fn:Fn} {cap:List (Nat × Nat)} {tys:Array TypeId} (hx:ev sl x=some (.c (.f fn cap)))
  (h:∀ ρ w,Hw C ρ (· < en.length) en w→C.n0≤en.length→Run (cxReb C ρ w en.length ({ target:=.fn fn (cap.map fun x=>zE1 ρ x.1 x.2).toArray,args:=#[] } :: C.df)) (.ops all r :: k) nt sl en) :
  Run C (.ops all (⟨none,.defer ⟨.value x,#[],tys⟩,ty,pos,af,none⟩ :: r) :: k) nt sl en:=by
 intro ρ a w hr
 obtain ⟨e1,_⟩:=hr.ev_ok _ _ hx
 rw [zN0]
 unfold wpList
 rw [if_pos (by simp [Region.wanted])]
 left
 unfold Oper.wp
 have he:(execOp a.eval ⟨none,.defer ⟨.value x,#[],tys⟩,ty,pos,af,none⟩).run C.P w=.ok (.defer { target:=.fn fn (cap.map fun x=>zE1 ρ x.1 x.2).toArray,args:=#[] }) w:=by
  simp [execOp,resolve,e1,SV.den,SC.den,Deferred.ofValue]
 rw [he]
 simp only [Oper.upon]
 have hr2:Rep (cxReb C ρ w en.length ({ target:=.fn fn (cap.map fun x=>zE1 ρ x.1 x.2).toArray,args:=#[] } :: C.df)) ρ nt sl en { a with defers:={ target:=.fn fn (cap.map fun x=>zE1 ρ x.1 x.2).toArray,args:=#[] } :: a.defers } w:=
  ⟨hr.hw.reb _,hr.tm,hr.sz,by show _ :: a.defers=_ :: C.df; rw [hr.df],Nat.le_refl _⟩
 have h2:=h ρ w hr.hw hr.n0 ρ _ w hr2
 rw [show KQ (cxReb C ρ w en.length ({ target:=.fn fn (cap.map fun x=>zE1 ρ x.1 x.2).toArray,args:=#[] } :: C.df)) (.ops all r :: k)=KQ C (.ops all r :: k) from zG0 (C:=C) (D:=cxReb C ρ w en.length ({ target:=.fn fn (cap.map fun x=>zE1 ρ x.1 x.2).toArray,args:=#[] } :: C.df)) rfl rfl _] at h2
 rw [zN0] at h2
 exact h2
theorem Run_isnil {d:Nat} {x:Operand} {t t':TypeId} {b:Bool} (hg:gdT all sl gd=true) (ht:C.P.underlying t=some (.interface (C.P.methodsAt t))∨∃ m,C.P.underlying t=some (.interface m)) (hgt:C.P.eqGuardType C.P.depth t=false)
  (hx:(b=true∧ev sl x=some (.c (.v .nilIface)))∨(b=false∧∃ ti u,ev sl x=some (.c (.v (.iface ti u))))) (hd:d < nt)
  (hK:Run C (.ops all r :: k) nt ((d,.c (.b b)) :: sl) en):Run C (.ops all (⟨some d,.binOp .eql t x (.const .nilIface) t',ty,pos,af,gd⟩ :: r) :: k) nt sl en:=by
 obtain ⟨m,hm⟩:∃ m,C.P.underlying t=some (.interface m):=by rcases ht with h | h; exact ⟨_,h⟩; exact h
 refine Run_softG (.c (.b b)) hg ?_ (by rintro d' h; cases h; exact hd) hK
 intro ρ act w hr
 refine ⟨?_,trivial⟩
 have hu:(underlying t).run C.P w=.ok (.interface m) w:=zD3 hm
 rcases hx with ⟨rfl,hx⟩ | ⟨rfl,ti,u,hx⟩
 ·obtain ⟨e1,_⟩:=hr.ev_ok _ _ hx
  have he:(Op.equal t .nilIface .nilIface).run C.P w=.ok true w:=by
   unfold Op.equal Op.maxDepth; rw [Op.equalIn]; simp [hu]
  simp [execOp,e1,show act.eval (.const .nilIface)=.nilIface from rfl,SV.den,SC.den,eqGuard,binOp,he]
 ·obtain ⟨e1,_⟩:=hr.ev_ok _ _ hx
  have he:(Op.equal t (.iface ti u) .nilIface).run C.P w=.ok false w:=by
   unfold Op.equal Op.maxDepth; rw [Op.equalIn]; simp [hu]
  simp [execOp,e1,show act.eval (.const .nilIface)=.nilIface from rfl,SV.den,SC.den,eqGuard,binOp,he]
theorem Run_assert {d:Nat} {x:Operand} {t ti:TypeId} {u:Value} {D:TypeDesc} (hg:gdT all sl gd=true) (ht:C.P.underlying ti=some D) (hD:∀ m,D ≠ .interface m) (hx:ev sl x=some (.c (.v (.iface ti u)))) (hd:d < nt)
  (hK:Run C (.ops all r :: k) nt ((d,.t [.c (qz u),.c (.b true)]) :: sl) en):Run C (.ops all (⟨some d,.typeAssert x t ti true,ty,pos,af,gd⟩ :: r) :: k) nt sl en:=by
 refine Run_softG (.t [.c (qz u),.c (.b true)]) hg ?_ (by rintro d' h; cases h; exact hd) hK
 intro ρ act w hr
 obtain ⟨e1,_⟩:=hr.ev_ok _ _ hx
 refine ⟨?_,by intro y hy; simp at hy; rcases hy with rfl | rfl; exact zP1 _ _; trivial⟩
 have hu:(underlying ti).run C.P w=.ok D w:=zD3 ht
 have hv:(SV.t [.c (qz u),.c (.b true)]).den ρ=.tuple #[u,.bool true]:=by
  show Value.tuple #[(qz u).den ρ,.bool true]=_
  rw [zK3]
 rw [hv]
 cases D with
 | interface m=>exact absurd rfl (hD m)
 | _=>simp [execOp,e1,SV.den,SC.den,Instr.typeAssert,hu]
def recM:FrameMode→Value × FrameMode
 | .panicking ({ v,recovered:=false,goexit:=false } :: older)=>(v,.panicking ({ v,recovered:=true } :: older))
 | m=>(.nilIface,m)
theorem wpOpsS_rec {o:Oper} {Q:Exit→Act→List Frame→World→Prop} {cs:List Frame} (ho:(execOp a.eval o).run P w=.ok .recover w) (hg:o.guard=none)
  (h1:∀ v cs',recoverD cs=some (v,cs')→Q .normal (a.put o.dst v) cs' w) (h2:recoverD cs=none→Q .normal (a.put o.dst .nilIface) cs w):wpOpsS P #[o] Q (List.range (#[o]:Array Oper).size) a cs w:=by
 have e0:List.range (#[o]:Array Oper).size=[0]:=rfl
 have e1:(#[o]:Array Oper)[0]?=some o:=rfl
 rw [e0]
 unfold wpOpsS
 rw [e1]
 simp only [Region.wanted,hg,if_true,ho]
 cases hr:recoverD cs with
 | none=>exact h2 hr
 | some x=>exact h1 x.1 x.2 hr
theorem rec_eq (c₀:Frame) (cs:List Frame):match recoverD (c₀ :: cs) with
  | some x=>x=((recM c₀.mode).1,{ c₀ with mode:=(recM c₀.mode).2 } :: cs)
  | none=>recM c₀.mode=(.nilIface,c₀.mode):=by
 obtain ⟨fn,tmps,todo,defers,mode,kind,ro⟩:=c₀
 cases mode with
 | run=>rfl
 | returning=>rfl
 | panicking ch =>
  match ch with
  | []=>rfl
  | { v:=v,recovered:=true,goexit:=_ } :: _=>rfl
  | { v:=v,recovered:=false,goexit:=true } :: _=>rfl
  | { v:=v,recovered:=false,goexit:=false } :: _=>rfl
theorem callsD_rec {f:FuncId} {fn:Func} {c:Code} {id d:Nat} {t:TypeId} {ps:String} {args:Array Value} {u:FrameMode} {w:World} {R:Ending→FrameMode→World→Prop}
  (hf:P.funcs[f]?=some fn) (hb:fn.body=some (Code.seq (.region id #[⟨some d,.call ⟨.builtin .recover,#[],#[]⟩,t,ps,#[],none⟩] false) c))
  (h:c.wp P (bodyPost P fn fun e w'=>R e (recM u).2 w') { tmps:=(args++Array.replicate (fn.ntmps - args.size) undef).setIfInBounds d (recM u).1,defers:=[] } w):CallsD P f args u w R:=by
 refine callsD_of_wpS hf hb fun c₀ cs hu=>wpS_seq (wpS_region ?_)
 have hx:(execOp ({ tmps:=args++Array.replicate (fn.ntmps - args.size) undef,defers:=[] }:Act).eval ⟨some d,.call ⟨.builtin .recover,#[],#[]⟩,t,ps,#[],none⟩).run P w=.ok .recover w:=by
  simp [execOp,resolve,invoke,builtin]
 have key:c.wpS P (bodyPostS P fn c₀ cs R) { tmps:=(args++Array.replicate (fn.ntmps - args.size) undef).setIfInBounds d (recM u).1,defers:=[] } ({ c₀ with mode:=(recM u).2 } :: cs) w:=by
  refine wpS_of_wp (Code.wp_mono ?_ h)
  intro e a' w' hq
  cases e with
  | normal=>exact ⟨hq.1,_,rfl,hq.2⟩
  | ret=>exact ⟨hq.1,_,rfl,hq.2⟩
  | panic ch=>exact ⟨hq.1,_,rfl,hq.2⟩
  | exit id=>exact hq.elim
  | goto l=>exact hq.elim
  | outgrown=>exact ⟨_,hq⟩
 refine wpOpsS_rec hx rfl (fun v cs' h1=>?_) (fun h1=>?_)
 ·have hrec:=rec_eq c₀ cs
  rw [h1,hu] at hrec
  have hv:v=(recM u).1:=congrArg Prod.fst hrec
  have hc:cs'={ c₀ with mode:=(recM u).2 } :: cs:=congrArg Prod.snd hrec
  rw [hv,hc]
  exact key
 ·have hrec:=rec_eq c₀ cs
  rw [h1,hu] at hrec
  have hv:(recM u).1=.nilIface:=congrArg Prod.fst hrec
  have hm:(recM u).2=c₀.mode:=(congrArg Prod.snd hrec).trans hu.symm
  rw [hv,hm] at key
  exact key
theorem callsD_Run {f:FuncId} {fn:Func} {c:Code} {id d:Nat} {t:TypeId} {ps:String} {R:Ending→FrameMode→World→Prop} (hf:P.funcs[f]?=some fn) (hb:fn.body=some (Code.seq (.region id #[⟨some d,.call ⟨.builtin .recover,#[],#[]⟩,t,ps,#[],none⟩] false) c))
  {S:Nat→Prop} (kp:List Nat) (args:List SV) (hn:fn.ntmps=nt) (hat:At S ρ en w) (hargs:∀ x∈args,x.wf (· < en.length)) (hlen:args.length≤d) (hd:d < nt) {u:FrameMode} (x:SC) (hx:x.den ρ=(recM u).1) (hxw:x.wf (· < en.length))
  (h:∀ C,C=zL P fn (fun e w'=>R e (recM u).2 w') S w ρ en.length kp→C.P=P→C.kp=kp→Run C [.code c] nt ((d,.c x) :: zK 0 args) en):CallsD P f (args.map (SV.den ρ)).toArray u w R:=by
 refine callsD_rec hf hb ?_
 refine wp_of_Run (C:=zL P fn (fun e w'=>R e (recM u).2 w') S w ρ en.length kp) (nt:=nt) (ρ:=ρ) (sl:=(d,.c x) :: zK 0 args) (en:=en) ⟨⟨hat.hp,hat.ho,hat.inj,Upd.refl _ _,fun c ty cells hc he=>.inl (hat.mu c ty cells hc he),fun c _=>rfl⟩,?_,?_,rfl,Nat.le_refl _⟩ (h _ rfl rfl rfl)
 ·intro e v he
  simp only [qy] at he
  split at he
  ·rename_i e'; subst e'
   simp only [Option.some.injEq] at he; subst he
   refine ⟨?_,hxw⟩
   rw [Array.getElem?_setIfInBounds_self_of_lt (by simp [hn]; omega)]
   rw [← hx]; rfl
  ·rename_i hne
   obtain ⟨h1,h2⟩:=getS_arg he
   simp only [Nat.sub_zero] at h2
   have hl:=(List.getElem?_eq_some_iff.1 h2).1
   refine ⟨?_,hargs v (List.mem_of_getElem? h2)⟩
   rw [Array.getElem?_setIfInBounds_ne hne,Array.getElem?_append_left (by simpa using hl)]
   simp [h2]
 ·simp [hn]; omega
theorem zF9 {f:FuncId} {args:Array Operand} {tys:Array TypeId} {xs:List SV} (hxs:qw sl args.toList=some xs) (hg:gdT all sl gd=true) (hent:∀ args w,(callFunc f args).run C.P w=.ok (.enter f args) w)
  (hc:∀ ρ a w,Rep C ρ nt sl en a w→(∀ x∈xs,x.wf (· < en.length))→Calls C.P f (xs.map (SV.den ρ)).toArray w fun e w'=>(∃ v,e=.returned v∧KQ C (.ops all r :: k) .normal (a.put dst v) w')∨∃ ch,e=.panicked ch∧C.Q (.panic ch) a w') :
  Run C (.ops all (⟨dst,.call ⟨.value (.func f),args,tys⟩,ty,pos,af,gd⟩ :: r) :: k) nt sl en:=by
 intro ρ a w hr
 obtain ⟨g1,g2⟩:=hr.evs_ok _ _ hxs
 have hargs:args.map a.eval=(xs.map (SV.den ρ)).toArray:=by apply Array.toList_inj.1; simpa using g1
 rw [zN0]
 unfold wpList
 rw [if_pos (gd_wanted hr hg)]
 left
 unfold Oper.wp
 have hx':(execOp a.eval ⟨dst,.call ⟨.value (.func f),args,tys⟩,ty,pos,af,gd⟩).run C.P w=.ok (.enter f (xs.map (SV.den ρ)).toArray) w:=by
  simp [execOp,resolve,Act.eval,Deferred.ofValue,invoke,hargs,hent]
 rw [hx']
 simp only [Oper.upon]
 refine (hc ρ a w hr g2).mono ?_
 rintro e w' (⟨v,rfl,h⟩ | ⟨ch,rfl,h⟩)
 ·rw [zN0] at h; exact h
 ·exact zQ7 _ _ _ _ h
theorem Hw.kill {pr:Nat→Prop} {w':World} {N:Nat} {e:EN} (h:Hw C ρ pr en w) (hN:pr N) (he:zD en N=some e) (hl:zG5 (ρ N) (zD en N)=false) (hU:Upd (One (ρ N).blk) w w') (hS:(ρ N).blk < C.w0.heap.size→C.S (ρ N).blk):Hw C ρ pr (zE en N ⟨(4294967295,e.ty.2.1,e.ty.2.2),[],false⟩) w':=by
 have hNl:=nth_set (x:=(⟨(4294967295,e.ty.2.1,e.ty.2.2),[],false⟩:EN)) he
 have hoth:∀ q,q ≠ N→zD (zE en N ⟨(4294967295,e.ty.2.1,e.ty.2.2),[],false⟩) q=zD en q:=fun q hq=>zG8 hq
 have hdead:∀ q,zG5 (ρ q) (zD (zE en N ⟨(4294967295,e.ty.2.1,e.ty.2.2),[],false⟩) q)=false→q ≠ N∧zG5 (ρ q) (zD en q)=false:=by
  intro q hq
  by_cases e:q=N
  ·subst e; rw [hNl] at hq; simp [zG5,zC9] at hq
  ·rw [hoth q e] at hq; exact ⟨e,hq⟩
 refine ⟨?_,?_,?_,?_,?_,h.ini⟩
 ·intro q ty' cs mu hq hx
  by_cases e:q=N
  ·subst e
   rw [hNl] at hx
   simp only [Option.some.injEq,EN.mk.injEq] at hx
   obtain ⟨rfl,rfl,rfl⟩:=hx
   exact ⟨fun hd=>absurd rfl hd.1,(by intro x hx; cases hx),fun _=>⟨rfl,rfl⟩,fun _=>rfl⟩
  ·rw [hoth q e] at hx
   have g:=h.hp q ty' cs mu hq hx
   refine ⟨fun hd=>?_,g.wf,g.dead,g.non⟩
   have hlq:zG5 (ρ q) (zD en q)=false:=(zA4 hx).2 hd
   rw [hU.block _ (h.lt hq hlq) (fun hb=>e (h.inj q N hq hN hlq hl hb))]
   exact g.heap hd
 ·intro q ty' cs mu hq hx
  by_cases e':q=N
  ·subst e'
   rw [hNl] at hx
   simp only [Option.some.injEq,EN.mk.injEq] at hx
   obtain ⟨rfl,rfl,rfl⟩:=hx
   obtain ⟨t,c,m⟩:=e
   have:=h.ho q t c m hq he
   exact this
  ·rw [hoth q e'] at hx
   exact h.ho q _ _ _ hq hx
 ·intro c d hc hd h1 h2 h3
  exact h.inj c d hc hd (hdead c h1).2 (hdead d h2).2 h3
 ·refine h.up.trans hU fun k hk hT=>?_
  rw [show k=(ρ N).blk from hT] at hk ⊢
  exact hS hk
 ·intro q ty' cs hq hx
  by_cases e:q=N
  ·subst e
   rw [hNl] at hx
   simp at hx
  ·rw [hoth q e] at hx
   exact h.mu q _ _ hq hx
def enL (l:List (Nat × TypeId × List SC × Bool)):List EN:=l.map fun x=>⟨(x.2.1,0,whole),x.2.2.1,x.2.2.2⟩
def roL (l:List (Nat × TypeId × List SC × Bool)):Nat→RE:=fun c=>⟨((l[c]?).map (·.1)).getD 0,[],[],0,none⟩
theorem at_list {S:Nat→Prop} {l:List (Nat × TypeId × List SC × Bool)} (hb:∀ x∈l,Blk w x.1 x.2.1 (zB8 (roL l) x.2.2.1).toArray∧x.2.1 ≠ zC9∧wfs (· < l.length) x.2.2.1∧(x.2.2.2=true→S x.1)) (hd:∀ (i j:Nat) x y,l[i]?=some x→l[j]?=some y→x.1=y.1→i=j):At S (roL l) (enL l) w:=by
 have hlen:(enL l).length=l.length:=by simp [enL]
 have hget:∀ c ty cells mu,zD (enL l) c=some ⟨ty,cells,mu⟩→∃ x,l[c]?=some x∧ty=(x.2.1,0,whole)∧cells=x.2.2.1∧mu=x.2.2.2∧roL l c=⟨x.1,[],[],0,none⟩:=by
  intro c ty cells mu hc
  rw [zA3] at hc
  simp only [enL,List.getElem?_map,Option.map_eq_some_iff,EN.mk.injEq] at hc
  obtain ⟨x,hx,rfl,rfl,rfl⟩:=hc
  exact ⟨x,hx,rfl,rfl,rfl,by simp [roL,hx]⟩
 refine ⟨?_,?_,?_,?_⟩
 ·intro c ty cells mu hc he
  obtain ⟨x,hx,rfl,rfl,rfl,hρ⟩:=hget c ty cells mu he
  obtain ⟨h1,h2,h3,_⟩:=hb x (List.mem_of_getElem? hx)
  refine ⟨fun _=>?_,by rw [hlen]; exact h3,fun h=>absurd h h2,fun h=>by rw [hρ] at h; exact absurd rfl h⟩
  rw [hρ]
  simpa [Blk] using h1
 ·intro c ty cells mu hc he
  obtain ⟨x,hx,rfl,rfl,rfl,hρ⟩:=hget c ty cells mu he
  rw [hρ]; exact ⟨rfl,rfl,rfl⟩
 ·intro c d hc hd' _ _ h3
  rw [hlen] at hc hd'
  refine hd c d _ _ (List.getElem?_eq_getElem hc) (List.getElem?_eq_getElem hd') ?_
  have e1:(roL l c).blk=l[c].1:=by simp [roL,List.getElem?_eq_getElem hc]
  have e2:(roL l d).blk=l[d].1:=by simp [roL,List.getElem?_eq_getElem hd']
  rw [← e1,← e2,h3]
 ·intro c ty cells hc he
  obtain ⟨x,hx,rfl,rfl,hm,hρ⟩:=hget c ty cells true he
  rw [hρ]
  exact (hb x (List.mem_of_getElem? hx)).2.2.2 hm.symm
end
end Go.Proofs.YtcbmlanpianclaaGreatDoor
/- A call whose text is walked in place: the callee's walk ends where the caller's goes on. No program in sight. -/
namespace Go.Proofs.YtcbmlanpianclaaGreatDoor
set_option linter.unusedSimpArgs false
set_option linter.unusedVariables false
open Go.RowKit
section
variable {C:Cx} {nt nf:Nat} {sl:List (Nat × SV)} {en:List EN} {k:List KI}
variable {dst:Option Nat} {ty:TypeId} {pos:String} {af:Array Edge} {all r:List Oper} {gd:Option (Nat × Bool)}
structure InlC (C D:Cx) (n:Nat) (kp:List Nat):Prop where
 p:D.P=C.P
 kp:D.kp=kp
 n0:D.n0=n
 df:D.df=[]
 up:∀ w,Upd D.S D.w0 w→Upd C.S C.w0 w
 rd:∀ b o m l,C.rd b o m=some l→D.rd b o m=some l
 sz:C.w0.heap.size≤D.w0.heap.size
 s:∀ b,D.S b ↔ C.S b∨C.w0.heap.size≤b
theorem InlC.ctr {D:Cx} {n:Nat} {kp:List Nat} (h:InlC C D n kp) {ctr:Ctr} (hc:zC1 C ctr):zC1 D ctr:=by
 intro f en xs p v hx hp ρ w hu
 rw [h.p]
 exact hc f en xs p v hx hp ρ w (h.up w hu)
end
end Go.Proofs.YtcbmlanpianclaaGreatDoor
