import Derived.WalkKit
import Derived.RangeFuncLeaves
import Derived.RangeFuncRecord
import Derived.OrdersIn
import Derived.TacticsIn
import Derived.Sort.LoopGhostIn
namespace Go.Proofs.YtpanhdnglicknaaGreat.Hw
open Go
abbrev PH:=Nat→Option Obj
abbrev HP:=PH→Prop
def Le(h k:PH):Prop:=∀b o,h b=some o→k b=some o
def Dj(h k:PH):Prop:=∀b,h b=none∨k b=none
def Has(h:PH)(w:World):Prop:=∀b o,h b=some o→w.heap[b]? = some o
def Blk(b:Nat)(o:Obj):HP:=fun h=>h b=some o
theorem Le.refl(h:PH):Le h h:=fun _ _ x=>x
theorem ob_{α β:Type}{a:α}{f:α→Option β}: (some a).bind f=f a:=rfl
theorem le_{h:PH}: Le h h:=fun _ _ x=>x
theorem Le.trans{a b c:PH}(h:Le a b)(k:Le b c):Le a c:=fun x o e=>k x o (h x o e)
theorem Dj.symm{h k:PH}(d:Dj h k):Dj k h:=fun b=>(d b).symm
theorem Dj.le{h h' k:PH}(d:Dj h k)(l:Le h' h):Dj h' k:=fun b=>by
 cases e:h' b with
 | none=>exact .inl rfl
 | some o=>exact .inr ((d b).resolve_left (by rw [l b o e];simp))
theorem Has.le{h h':PH}{w:World}(d:Has h w)(l:Le h' h):Has h' w:=fun b o e=>d b o (l b o e)
theorem Has.lt{h:PH}{w:World}(d:Has h w){b:Nat}(hb:h b≠none):b<w.heap.size:=by
 cases e:h b with
 | none=>exact absurd e hb
 | some o =>
  have:=d b o e
  rcases Nat.lt_or_ge b w.heap.size with h | h
  ·exact h
  ·simp [Array.getElem?_eq_none h] at this
structure St (G:World) (R:PH) (L:List HP) (w:World):Prop where
 os:w.os=G.os
 tape:w.tape=G.tape
 out:w.output=G.output
 ro:Has R w
 ex:∃σ:Nat→PH,(∀i p,L[i]? = some p→p (σ i)∧Has (σ i) w∧Dj R (σ i)) ∧
  (∀i j,i<L.length→j<L.length→i≠j→Dj (σ i) (σ j))
section
variable {G:World} {R R':PH} {L L':List HP} {w w':World} {p p':HP}
theorem St.drew(h:St G R L w):St G R L w.drew:=⟨h.os,h.tape,h.out,h.ro,h.ex⟩
theorem St.get(h:St G R L w){i:Nat}(hi:L[i]? = some p):∃k,p k∧Has k w:=by
 obtain ⟨σ,h1,_⟩:=h.ex
 exact ⟨σ i,(h1 i p hi).1,(h1 i p hi).2.1⟩
theorem St.blk(h:St G R L w){i b:Nat}{o:Obj}(hi:L[i]? = some (Blk b o)):w.heap[b]? = some o:=by
 obtain ⟨k,h1,h2⟩:=h.get hi
 exact h2 b o h1
theorem St.rd(h:St G R L w){b:Nat}{o:Obj}(hi:R b=some o):w.heap[b]? = some o:=h.ro b o hi
theorem St.head(h:St G R (p::L) w)(hos:w'.os=w.os)(htape:w'.tape=w.tape)(hout:w'.output=w.output)
  (hp:∀k,p k→Has k w→∃k',p' k'∧Has k' w'∧(∀b,k' b≠none→k b≠none∨w.heap.size≤b) ∧
   (∀b,b<w.heap.size→k b=none→w'.heap[b]? = w.heap[b]?)):St G R (p'::L) w':=by
 obtain ⟨σ,h1,h2⟩:=h.ex
 obtain ⟨hp0,hh0,hd0⟩:=h1 0 p rfl
 obtain ⟨k',q1,q2,q3,q4⟩:=hp (σ 0) hp0 hh0
 have keep:∀k:PH,Dj k (σ 0)→Has k w→Has k w':=fun k d hk b o e=>by
  have hb:b<w.heap.size:=hk.lt (b:=b) (by rw [e];simp)
  rw [q4 b hb ((d b).resolve_left (by rw [e];simp))]
  exact hk b o e
 have apart:∀k:PH,Dj k (σ 0)→Has k w→Dj k k':=fun k d hk b=>by
  by_cases e:k b=none
  ·exact .inl e
  ·right
   by_cases e':k' b=none
   ·exact e'
   ·rcases q3 b e' with x | x
    ·exact absurd ((d b).resolve_left e) x
    ·exact absurd (hk.lt e) (by omega)
 refine ⟨hos.trans h.os,htape.trans h.tape,hout.trans h.out,keep R hd0 h.ro,fun i=>if i=0 then k' else σ i,?_,?_⟩
 ·intro i q hi
  cases i with
  | zero =>
   simp only [List.getElem?_cons_zero,Option.some.injEq] at hi
   subst hi
   exact ⟨q1,q2,apart R hd0 h.ro⟩
  | succ i =>
   simp only [List.getElem?_cons_succ] at hi
   have hi':(p::L)[i+1]? = some q:=by simpa using hi
   obtain ⟨a1,a2,a3⟩:=h1 (i+1) q hi'
   have hlt:i+1<(p::L).length:=by
    rcases Nat.lt_or_ge (i+1) (p::L).length with x | x
    ·exact x
    ·rw [List.getElem?_eq_none x] at hi';cases hi'
   have hd:=h2 (i+1) 0 hlt (by simp) (by simp)
   simp only [Nat.add_one_ne_zero,if_false]
   exact ⟨a1,keep _ hd a2,a3⟩
 ·intro i j hi hj hij
  have gt:∀i,i<(p'::L).length→i≠0→∃q,(p::L)[i]? = some q:=fun i hi h0=>by
   have:i<(p::L).length:=by simpa using hi
   exact ⟨_,List.getElem?_eq_getElem this⟩
  have hi':i<(p::L).length:=by simpa using hi
  have hj':j<(p::L).length:=by simpa using hj
  by_cases e:i=0
  ·subst e
   have hj0:j≠0:=fun e=>hij e.symm
   obtain ⟨q,hq⟩:=gt j hj hj0
   simp only [if_true,if_neg hj0]
   exact (apart _ (h2 j 0 hj' (by simp) hj0) (h1 j q hq).2.1).symm
  ·by_cases e':j=0
   ·subst e'
    obtain ⟨q,hq⟩:=gt i hi e
    simp only [if_true,if_neg e]
    exact apart _ (h2 i 0 hi' (by simp) e) (h1 i q hq).2.1
   ·simp only [if_neg e,if_neg e']
    exact h2 i j hi' hj' hij
theorem St.add(h:St G R L w)(hos:w'.os=w.os)(htape:w'.tape=w.tape)(hout:w'.output=w.output)
  (hext:∀b,b<w.heap.size→w'.heap[b]? = w.heap[b]?) {k:PH} (hp:p k) (hk:Has k w') (hnew:∀b,k b≠none→w.heap.size≤b) :
  St G R (p::L) w':=by
 obtain ⟨σ,h1,h2⟩:=h.ex
 have keep:∀k:PH,Has k w→Has k w':=fun k hk b o e=>by
  rw [hext b (hk.lt (by rw [e];simp))];exact hk b o e
 have apart:∀q:PH,Has q w→Dj q k:=fun q hq b=>by
  by_cases e:q b=none
  ·exact .inl e
  ·right
   by_cases e':k b=none
   ·exact e'
   ·exact absurd (hq.lt e) (by have:=hnew b e';omega)
 refine ⟨hos.trans h.os,htape.trans h.tape,hout.trans h.out,keep R h.ro,fun i=>match i with | 0=>k | i+1=>σ i,?_,?_⟩
 ·intro i q hi
  cases i with
  | zero=>simp only [List.getElem?_cons_zero,Option.some.injEq] at hi;subst hi;exact ⟨hp,hk,apart R h.ro⟩
  | succ i =>
   simp only [List.getElem?_cons_succ] at hi
   obtain ⟨a1,a2,a3⟩:=h1 i q hi
   exact ⟨a1,keep _ a2,a3⟩
 ·have has:∀i,i<L.length→Has (σ i) w:=fun i hi=>(h1 i _ (List.getElem?_eq_getElem hi)).2.1
  intro i j hi hj hij
  cases i with
  | zero =>
   cases j with
   | zero=>exact absurd rfl hij
   | succ j=>exact (apart _ (has j (by simpa using hj))).symm
  | succ i =>
   cases j with
   | zero=>exact apart _ (has i (by simpa using hi))
   | succ j=>exact h2 i j (by simpa using hi) (by simpa using hj) (by omega)
theorem St.pick(h:St G R L w)(idx:List Nat)(hn:idx.Nodup)(hL:∀(k:Nat) (q:HP),L'[k]? = some q→∃i:Nat,idx[k]? = some i∧L[i]? = some q):St G R L' w:=by
 obtain ⟨σ,h1,h2⟩:=h.ex
 refine ⟨h.os,h.tape,h.out,h.ro,fun k=>σ (idx.getD k 0),?_,?_⟩
 ·intro k q hk
  obtain ⟨i,e,hi⟩:=hL k q hk
  simp only [List.getD_eq_getElem?_getD,e,Option.getD_some]
  exact h1 i q hi
 ·intro a b ha hb hab
  obtain ⟨i,e,hi⟩:=hL a _ (List.getElem?_eq_getElem ha)
  obtain ⟨j,f,hj⟩:=hL b _ (List.getElem?_eq_getElem hb)
  simp only [List.getD_eq_getElem?_getD,e,f,Option.getD_some]
  have lt:∀{n q},L[n]? = some q→n<L.length:=fun {n q} x=>by
   rcases Nat.lt_or_ge n L.length with y | y
   ·exact y
   ·rw [List.getElem?_eq_none y] at x;cases x
  refine h2 i j (lt hi) (lt hj) fun e' =>?_
  subst e'
  have la:a<idx.length:=by
   rcases Nat.lt_or_ge a idx.length with y | y
   ·exact y
   ·rw [List.getElem?_eq_none y] at e;cases e
  have lb:b<idx.length:=by
   rcases Nat.lt_or_ge b idx.length with y | y
   ·exact y
   ·rw [List.getElem?_eq_none y] at f;cases f
  have x:=List.getElem?_eq_getElem la
  have y:=List.getElem?_eq_getElem lb
  rw [e] at x;rw [f] at y
  have x:=Option.some.inj x
  have y:=Option.some.inj y
  have hp:=List.pairwise_iff_getElem.1 hn
  rcases Nat.lt_or_gt_of_ne hab with z | z
  ·exact hp a b la lb z (x.symm.trans y)
  ·exact hp b a lb la z (y.symm.trans x)
theorem St.drop(h:St G R (p::L) w):St G R L w:=by
 refine h.pick ((List.range L.length).map (· + 1)) ?_ ?_
 ·exact List.Pairwise.map _ (fun a b (hab:a≠b)=>by simpa using hab) List.nodup_range
 ·intro k q hk
  have hlt:k<L.length:=by
   rcases Nat.lt_or_ge k L.length with x | x
   ·exact x
   ·rw [List.getElem?_eq_none x] at hk;cases hk
  exact ⟨k+1,by simp [List.getElem?_range hlt],by simpa using hk⟩
end
theorem nbeq{a b:Nat}(h:a≠b):Nat.beq a b=false:=by
 cases e:Nat.beq a b
 ·rfl
 ·exact absurd (Nat.eq_of_beq_eq_true e) h
abbrev Env:=List (Nat×Value)
def lk:Env→Nat→Option Value
 | [],_=>none
 | (k,v)::r,d=>bif Nat.beq k d then some v else lk r d
def ev(E:Env):Operand→Option Value
 | .tmp t=>lk E t
 | .const v=>some v
 | .func f=>some (.func (.func f) #[] #[])
 | .global g=>some (.pointer (some ⟨g,0,none⟩))
def evs(E:Env):List Operand→Option (List Value)
 | []=>some []
 | x::xs=>match ev E x,evs E xs with
  | some v,some vs=>some (v::vs)
  | _,_=>none
structure Fr (N:Nat) (D:List Deferred) (E:Env) (a:Act):Prop where
 size:a.tmps.size=N
 df:a.defers=D
 get:∀d v,lk E d=some v→a.tmps[d]? = some v
theorem Fr.ev{N:Nat}{D:List Deferred}{E:Env}{a:Act}(h:Fr N D E a){x:Operand}{v:Value}(hx:ev E x=some v):a.eval x=v:=by
 cases x with
 | tmp t=>simp [Act.eval,Array.getD_eq_getD_getElem?,h.get t v hx]
 | const c=>exact Option.some.inj hx
 | func f=>exact Option.some.inj hx
 | global g=>exact Option.some.inj hx
theorem Fr.evs{N:Nat}{D:List Deferred}{E:Env}{a:Act}(h:Fr N D E a):∀{xs:List Operand} {vs:List Value},Hw.evs E xs=some vs→xs.map a.eval=vs
 | [],vs,e=>by simp [Hw.evs] at e;simp [e]
 | x::xs,vs,e=>by
  simp only [Hw.evs] at e
  cases e1:Hw.ev E x with
  | none=>simp [e1] at e
  | some v =>
   cases e2:Hw.evs E xs with
   | none=>simp [e1,e2] at e
   | some us =>
    simp only [e1,e2,Option.some.injEq] at e
    subst e
    simp [h.ev e1,h.evs e2]
theorem Fr.put{N:Nat}{D:List Deferred}{E:Env}{a:Act}(h:Fr N D E a){d:Nat}(hd:d<N)(v:Value):Fr N D ((d,v)::E) (a.put (some d) v):=by
 refine ⟨by simp [Act.put,h.size],h.df,?_⟩
 intro t u ht
 simp only [lk] at ht
 by_cases e:d=t
 ·subst e
  simp only [Nat.beq_refl,cond_true,Option.some.injEq] at ht
  subst ht
  simp [Act.put,h.size,hd]
 ·have:Nat.beq d t=false:=nbeq e
  rw [this,cond_false] at ht
  simp only [Act.put]
  rw [Array.getElem?_setIfInBounds_ne e]
  exact h.get t u ht
def Sub(E:Env):Env→Prop
 | []=>True
 | (k,v)::r=>lk E k=some v∧Sub E r
theorem Sub.get{E:Env}: ∀{E':Env},Sub E E'→∀d v,lk E' d=some v→lk E d=some v
 | [],_,d,v,h=>by simp [lk] at h
 | (k,u)::r,hs,d,v,h=>by
  simp only [lk] at h
  by_cases e:k=d
  ·subst e;simp only [Nat.beq_refl,cond_true,Option.some.injEq] at h;subst h;exact hs.1
  ·have:Nat.beq k d=false:=nbeq e
   rw [this,cond_false] at h
   exact Sub.get hs.2 d v h
theorem Fr.sub{N:Nat}{D:List Deferred}{E E':Env}{a:Act}(h:Fr N D E a)(hs:Sub E E'):Fr N D E' a:=⟨h.size,h.df,fun d v e=>h.get d v (hs.get d v e)⟩
def argE:Nat→List Value→Env
 | _,[]=>[]
 | i,v::r=>(i,v)::argE (i+1) r
theorem argE_get:∀(l:List Value) (i d:Nat) (v:Value),lk (argE i l) d=some v→i≤d∧l[d-i]? = some v
 | [],i,d,v,h=>by simp [argE,lk] at h
 | u::r,i,d,v,h=>by
  simp only [argE,lk] at h
  by_cases e:i=d
  ·subst e;simp only [Nat.beq_refl,cond_true,Option.some.injEq] at h;subst h;simp
  ·have:Nat.beq i d=false:=nbeq e
   rw [this,cond_false] at h
   obtain ⟨h1,h2⟩:=argE_get r (i+1) d v h
   refine ⟨by omega,?_⟩
   rw [show d-i=(d-(i+1))+1 from by omega]
   simpa using h2
theorem Fr.enter(args:List Value)(n:Nat):
  Fr (max n args.length) [] (argE 0 args) { tmps:=args.toArray++Array.replicate (n-args.toArray.size) undef,defers:=[] } := by
 refine ⟨by simp;omega,rfl,?_⟩
 intro d v h
 obtain ⟨_,h2⟩:=argE_get args 0 d v h
 have hlt:d<args.length:=by
  rcases Nat.lt_or_ge d args.length with x | x
  ·exact x
  ·rw [List.getElem?_eq_none (by omega)] at h2;cases h2
 simp only [Nat.sub_zero] at h2
 rw [Array.getElem?_append_left (by simpa using hlt)]
 simpa using h2
inductive KF where
 | seq (c:Code)
 | blk (id:Nat)
 | lp (I:Act→World→Prop)
def Post(G:World)(R:PH)(K:Ending→PH→List HP→Prop)(e:Ending)(w:World):Prop :=
 ∃R' L',Le R R'∧K e R' L'∧St G R' L' w
inductive Md where
 | fn
 | marks
 | round (l:Nat)
def Md.ro:Md→Option Nat
 | .round l=>some l
 | _=>none
structure Cx where
 P:Program
 fn:Func
 G:World
 R:PH
 N:Nat
 K:Ending→PH→List HP→Prop
 D:List Deferred
 md:Md
abbrev FF(m:Md):Fence := { Fence.wide with round:=m.ro }
def Kb(x:Cx):Exit→Act→World→Prop :=
 match x.md with
 | .fn=>bodyPost x.P x.fn (Post x.G x.R x.K)
 | .marks=>bodyPostM (FF .fn) 0 x.P x.fn (Post x.G x.R x.K)
 | .round _=>fun e _ w=>e = .normal∧Post x.G x.R x.K (.returned (.bool true)) w
def oWP(x:Cx)(o:Oper)(a:Act)(w:World)(K:Act→World→Prop)(Q:Exit→Act→World→Prop):Prop:=o.wpIn (FF x.md) 0 x.P a w K Q
theorem semAt_val{o:Oper}{P:Program}{m:Md}{ρ:Operand→Value}{w w':World}{n:Next}(h:(execOp ρ o).run P w = .ok n w')(hn:∀d,n ≠ .defer d):
  (o.semAt m.ro ρ).run P w = .ok n w':=by
 cases hm:m.ro with
 | none=>exact h
 | some l =>
  rw [Oper.semAt_eq]
  ·exact h
  ·intro c hc
   unfold execOp at h
   rw [hc] at h
   simp only [Sem.run_bind] at h
   cases hr:(resolve ρ c o.type).run P w with
   | ok d w1=>rw [hr] at h;simp [Result.andThen] at h;exact hn _ h.1.symm
   | halt e w1=>rw [hr] at h;simp [Result.andThen] at h
theorem oWP_val{x:Cx}{o:Oper}{a:Act}{w w':World}{K:Act→World→Prop}{Q:Exit→Act→World→Prop}{v:Value}
  (h:(execOp a.eval o).run x.P w = .ok (.value v) w') (k:K (a.put o.dst v) w'):oWP x o a w K Q:=by
 refine ⟨fun _ _=>trivial,?_⟩
 rw [show (FF x.md).round=x.md.ro from rfl,semAt_val h (by simp)]
 exact k
theorem oWP_skip{x:Cx}{o:Oper}{a:Act}{w w':World}{K:Act→World→Prop}{Q:Exit→Act→World→Prop}
  (h:(execOp a.eval o).run x.P w = .ok .skip w') (k:K (a.put o.dst undef) w'):oWP x o a w K Q:=by
 refine ⟨fun _ _=>trivial,?_⟩
 rw [show (FF x.md).round=x.md.ro from rfl,semAt_val h (by simp)]
 exact k
theorem oWP_enter{x:Cx}{o:Oper}{a:Act}{w w':World}{K:Act→World→Prop}{Q:Exit→Act→World→Prop}{f:FuncId}{args:Array Value}{R:Ending→World→Prop}
  (h:(execOp a.eval o).run x.P w = .ok (.enter f args) w') (c:Calls x.P f args w' R)
  (k:∀e w'',R e w''→match e with | .returned v=>K (a.put o.dst v) w'' | .panicked chain=>Q (.panic chain) a w'' | .outgrown=>LetsOut Q):oWP x o a w K Q:=by
 refine ⟨fun _ _=>trivial,?_⟩
 rw [show (FF x.md).round=x.md.ro from rfl,semAt_val h (by simp)]
 refine ⟨fun h=>(by cases h),?_⟩
 have c2:CallsIn (FF x.md) (0-1) x.P f args w' R:=(callsIn_wide (n:=0-1)).2 c
 refine c2.mono ?_
 intro e w'' q
 have:=k e w'' q
 cases e <;> exact this
def Kq(x:Cx):List KF→Exit→Act→World→Prop
 | []=>Kb x
 | .seq y::ks=>Exit.then (y.wpIn (FF x.md) 0 x.P (Kq x ks)) (Kq x ks)
 | .blk id::ks=>Exit.inBlock id (Kq x ks)
 | .lp I::ks=>Exit.then I (Kq x ks)
theorem Kq_ret{x:Cx}{a:Act}{w:World}(h:Kb x .ret a w):∀ks,Kq x ks .ret a w
 | []=>h
 | .seq _::ks=>Kq_ret h ks
 | .blk _::ks=>Kq_ret h ks
 | .lp _::ks=>Kq_ret h ks
theorem wpl_cons{x:Cx}{ops:Array Oper}{Q:Exit→Act→World→Prop}{o:Oper}{l:List Oper}{a:Act}{w:World}
  (h:if Region.wanted o (yielded ops a.tmps) then oWP x o a w (wpListIn (FF x.md) 0 x.P ops Q l) Q else wpListIn (FF x.md) 0 x.P ops Q l (a.put o.dst undef) w) :
  wpListIn (FF x.md) 0 x.P ops Q (o::l) a w:=by
 unfold wpListIn
 split
 ·rename_i hw;rw [if_pos hw] at h;exact h
 ·rename_i hw;rw [if_neg hw] at h;exact ⟨fun _ _=>trivial,h⟩
theorem wpo_of{x:Cx}{ops:Array Oper}{Q:Exit→Act→World→Prop}{o:Oper}{i:Nat}{K:Act→World→Prop}{a:Act}{w:World}(ho:ops[i]? = some o)
  (h:if Region.wanted o (yielded ops a.tmps) then oWP x o a w K Q else K (a.put o.dst undef) w):wpOpIn (FF x.md) 0 x.P ops Q i K a w:=by
 unfold wpOpIn
 rw [ho]
 dsimp only
 split
 ·rename_i hw;rw [if_pos hw] at h;exact h
 ·rename_i hw;rw [if_neg hw] at h;exact ⟨fun _ _=>trivial,h⟩
def CD(x:Cx)(c:Code)(ks:List KF)(E:Env)(R:PH)(L:List HP):Prop :=
 ∀a w,Fr x.N x.D E a→St x.G R L w→c.wpIn (FF x.md) 0 x.P (Kq x ks) a w
def EX(x:Cx)(e:Exit)(ks:List KF)(E:Env)(R:PH)(L:List HP):Prop :=
 ∀a w,Fr x.N x.D E a→St x.G R L w→Kq x ks e a w
def RL(x:Cx)(ops:Array Oper)(ks:List KF)(l:List Oper)(E:Env)(R:PH)(L:List HP):Prop :=
 ∀a w,Fr x.N x.D E a→St x.G R L w→wpListIn (FF x.md) 0 x.P ops (Kq x ks) l a w
def CO(P:Program)(f:FuncId)(args:List Value)(G:World)(R:PH)(L:List HP)(K:Ending→PH→List HP→Prop):Prop :=
 ∀w,St G R L w→Calls P f args.toArray w (Post G R K)
section
variable {x:Cx} {ks:List KF} {E E':Env} {R R':PH} {L L':List HP} {c d:Code} {ops:Array Oper} {l:List Oper} {e:Exit}
theorem co_of{P:Program}{f:FuncId}{fn:Func}{c:Code}{args:List Value}{G:World}{R:PH}{L:List HP}{K:Ending→PH→List HP→Prop}
  (hf:P.funcs[f]? = some fn) (hb:fn.body=some c)
  (h:CD ⟨P,fn,G,R,max fn.ntmps args.length,K,[],.fn⟩ c [] (argE 0 args) R L):CO P f args G R L K:=fun w hs =>
 calls_of_wp hf hb ((wpIn_wide (n:=0)).1 (h _ w (Fr.enter args fn.ntmps) hs))
theorem CO.mono{P:Program}{f:FuncId}{args:List Value}{G:World}{K K':Ending→PH→List HP→Prop}
  (h:CO P f args G R L K) (hk:∀e R' L',Le R R'→K e R' L'→K' e R' L'):CO P f args G R L K':=fun w hs =>
 (h w hs).mono fun e w' q=>by
  obtain ⟨R',L',a1,a2,a3⟩:=q
  exact ⟨R',L',a1,hk _ _ _ a1 a2,a3⟩
theorem c_seq(h:CD x c (.seq d::ks) E R L):CD x (.seq c d) ks E R L:=fun a w hf hs=>wpIn_seq (h a w hf hs)
theorem c_blk{id:Nat}(h:CD x c (.blk id::ks) E R L):CD x (.block id c) ks E R L:=fun a w hf hs=>wpIn_block (h a w hf hs)
theorem c_skip(h:EX x .normal ks E R L):CD x .skip ks E R L:=fun a w hf hs=>wpIn_skip (h a w hf hs)
theorem c_exit{id:Nat}(h:EX x (.exit id) ks E R L):CD x (.exit id) ks E R L:=fun a w hf hs=>wpIn_exit (h a w hf hs)
theorem c_ret(h:EX x .ret [] E R L):CD x .ret ks E R L:=fun a w hf hs=>wpIn_ret (Kq_ret (h a w hf hs) ks)
theorem c_tt{t:Operand}(ht:ev E t=some (.bool true))(h:CD x c ks E R L):CD x (.cond t c d) ks E R L :=
 fun a w hf hs=>wpIn_cond_true (hf.ev ht) (h a w hf hs)
theorem c_ff{t:Operand}(ht:ev E t=some (.bool false))(h:CD x d ks E R L):CD x (.cond t c d) ks E R L :=
 fun a w hf hs=>wpIn_cond_false (hf.ev ht) (h a w hf hs)
theorem c_if{t:Operand}{b:Bool}(ht:ev E t=some (.bool b))(h1:b=true→CD x c ks E R L)(h2:b=false→CD x d ks E R L):
  CD x (.cond t c d) ks E R L:=by
 cases b
 ·exact c_ff ht (h2 rfl)
 ·exact c_tt ht (h1 rfl)
theorem c_reg{id:Nat}(h:RL x ops ks ops.toList E R L):CD x (.region id ops false) ks E R L :=
 fun a w hf hs=>wpIn_region_list (h a w hf hs)
theorem x_seq(h:CD x c ks E R L):EX x .normal (.seq c::ks) E R L:=h
theorem x_blk{id:Nat}(h:EX x .normal ks E R L):EX x .normal (.blk id::ks) E R L:=h
def exitK(id:Nat):List KF→Option (List KF)
 | []=>none
 | .blk i::ks=>bif Nat.beq id i then some ks else exitK id ks
 | .seq _::ks=>exitK id ks
 | .lp _::ks=>exitK id ks
theorem exitK_spec{id:Nat}{a:Act}{w:World}: ∀{ks ks':List KF},exitK id ks=some ks'→Kq x ks' .normal a w→Kq x ks (.exit id) a w
 | [],_,h,_=>by simp [exitK] at h
 | .blk i::ks,ks',h,q=>by
  simp only [exitK] at h
  simp only [Kq,Exit.inBlock]
  by_cases e:id=i
  ·subst e
   simp only [Nat.beq_refl,cond_true,Option.some.injEq] at h
   subst h
   simpa using q
  ·have:Nat.beq id i=false:=nbeq e
   rw [this,cond_false] at h
   rw [if_neg e]
   exact exitK_spec h q
 | .seq _::ks,ks',h,q=>by simp only [exitK] at h;exact exitK_spec (ks:=ks) h q
 | .lp _::ks,ks',h,q=>by simp only [exitK] at h;exact exitK_spec (ks:=ks) h q
theorem x_exit{id:Nat}{ks':List KF}(hk:exitK id ks=some ks')(h:EX x .normal ks' E R L):EX x (.exit id) ks E R L :=
 fun a w hf hs=>exitK_spec hk (h a w hf hs)
theorem x_sub(h:EX x e ks E' R' L')(hE:Sub E E')(hL:∀w,St x.G R L w→St x.G R' L' w):EX x e ks E R L :=
 fun a w hf hs=>h a w (hf.sub hE) (hL w hs)
theorem cd_st(hL:∀w,St x.G R L w→St x.G R' L' w)(h:CD x c ks E R' L'):CD x c ks E R L:=fun a w hf hs=>h a w hf (hL w hs)
theorem rl_st(hL:∀w,St x.G R L w→St x.G R' L' w)(h:RL x ops ks l E R' L'):RL x ops ks l E R L:=fun a w hf hs=>h a w hf (hL w hs)
theorem ex_st(hL:∀w,St x.G R L w→St x.G R' L' w)(h:EX x e ks E R' L'):EX x e ks E R L:=fun a w hf hs=>h a w hf (hL w hs)
theorem c_loop{σ:Type}(M:Nat→σ→Prop)(Ef:σ→Env)(Rf:σ→PH)(Lf:σ→List HP)(h0:∀s,¬M 0 s)
  (hs:∀k s,M (k+1) s→CD x c (.lp (fun a w=>∃s',M k s'∧Fr x.N x.D (Ef s') a∧St x.G (Rf s') (Lf s') w)::ks) (Ef s) (Rf s) (Lf s))
  (k:Nat) (s:σ) (hM:M k s):CD x (.loop c) ks (Ef s) (Rf s) (Lf s):=by
 intro a w hf hst
 refine wpIn_loop_ghost (fun n a w=>∃s',M n s'∧Fr x.N x.D (Ef s') a∧St x.G (Rf s') (Lf s') w) k ⟨s,hM,hf,hst⟩ ?_
 rintro n a w ⟨s',hM',hf',hs'⟩
 cases n with
 | zero=>exact absurd hM' (h0 s')
 | succ n =>
  refine wpIn_mono (hs n s' hM' a w hf' hs') ?_
  intro e a' w' q
  cases e with
  | normal=>exact (⟨n,Nat.lt_succ_self n,q⟩:∃n',n'<n+1∧∃s',M n' s'∧Fr x.N x.D (Ef s') a'∧St x.G (Rf s') (Lf s') w')
  | exit id=>exact q
  | goto l=>exact q
  | ret=>exact q
  | panic ch=>exact q
  | outgrown=>exact q
theorem x_lp{σ:Type}{M:σ→Prop}{Ef:σ→Env}{Rf:σ→PH}{Lf:σ→List HP}(s:σ)(hM:M s)
  (hE:Sub E (Ef s)) (hL:∀w,St x.G R L w→St x.G (Rf s) (Lf s) w) :
  EX x .normal (.lp (fun a w=>∃s',M s'∧Fr x.N x.D (Ef s') a∧St x.G (Rf s') (Lf s') w)::ks) E R L :=
 fun a w hf hs=>(⟨s,hM,hf.sub hE,hL w hs⟩:∃s',M s'∧Fr x.N x.D (Ef s') a∧St x.G (Rf s') (Lf s') w)
def rvS(a:Act):ResultVar→Sem Value
 | .tmp t=>pure (a.tmps.getD t undef)
 | .cell p t=>do loadVar t (←asAddr (a.tmps.getD p undef))
def RV(x:Cx)(E:Env)(R:PH)(L:List HP)(r:ResultVar)(v:Value):Prop :=
 ∀a w,Fr x.N x.D E a→St x.G R L w→(rvS a r).run x.P w = .ok v w
theorem rv_t{t:Nat}{v:Value}(h:lk E t=some v):RV x E R L (.tmp t) v:=fun a w hf _=>by
 simp [rvS,Array.getD_eq_getD_getElem?,hf.get t v h]
theorem results_rvS{fn:Func}{rs:List ResultVar}(hr:fn.results=rs.toArray)(a:Act):
  results fn a.tmps=(do let vs ←rs.toArray.mapM (rvS a);pure (if h:vs.size=1 then vs[0] else .tuple vs)):=by
 unfold results
 rw [hr]
 congr 1
theorem kb_fn{a:Act}{w:World}(hm:x.md = .fn)(h:bodyPost x.P x.fn (Post x.G x.R x.K) e a w):Kb x e a w:=by
 unfold Kb;rw [hm];exact h
theorem x_r0(hr:x.fn.results = #[])(hR:Le x.R R)(hK:x.K (.returned (.tuple #[])) R L)(hm:x.md = .fn:=by rfl)(hD:x.D=[]:=by rfl):EX x .ret [] E R L:=fun a w hf hs =>
 kb_fn hm ⟨hf.df.trans hD,_,by simp [results,hr],⟨R,L,hR,hK,hs⟩⟩
theorem x_r1{r:ResultVar}{v:Value}(hr:x.fn.results = #[r])(h:RV x E R L r v)(hR:Le x.R R)(hK:x.K (.returned v) R L)(hm:x.md = .fn:=by rfl)(hD:x.D=[]:=by rfl):EX x .ret [] E R L:=fun a w hf hs=>by
 have:=h a w hf hs
 refine kb_fn hm ⟨hf.df.trans hD,v,?_,⟨R,L,hR,hK,hs⟩⟩
 rw [results_rvS (rs:=[r]) hr]
 simp [this]
theorem x_r2{r s:ResultVar}{v u:Value}(hr:x.fn.results = #[r,s])(h:RV x E R L r v)(k:RV x E R L s u)(hR:Le x.R R)
  (hK:x.K (.returned (.tuple #[v,u])) R L) (hm:x.md = .fn:=by rfl) (hD:x.D=[]:=by rfl):EX x .ret [] E R L:=fun a w hf hs=>by
 have h1:=h a w hf hs
 have h2:=k a w hf hs
 refine kb_fn hm ⟨hf.df.trans hD,_,?_,⟨R,L,hR,hK,hs⟩⟩
 rw [results_rvS (rs:=[r,s]) hr]
 simp [h1,h2]
theorem x_end(h:EX x .ret [] E R L)(hm:x.md = .fn:=by rfl):EX x .normal [] E R L:=fun a w hf hs=>by
 have:=h a w hf hs
 unfold Kq Kb at this ⊢;rw [hm] at this ⊢;exact this
end
end Go.Proofs.YtpanhdnglicknaaGreat.Hw
