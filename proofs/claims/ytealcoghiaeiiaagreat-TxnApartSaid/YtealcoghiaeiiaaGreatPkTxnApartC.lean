/- Texts by which the law's calls are walked (part 3): rules, printed conditions, contracts; no condition. -/
import Derived.TacticsIn
import Derived.TacticsInMore
import Derived.Deep.LoopGhost
import Derived.Sort.QuietThIn
import Derived.RangeFuncCalls
import Derived.RangeFuncNested
import Derived.RangeFuncLeaves
import Derived.WalkKit
import Derived.StillTail
import Derived.Test.YtealcoghiaeiiaaGreatProg
import Derived.KernelRfl
import Derived.Deep.WholeRow
import Derived.Laws.StructEq
import Derived.MapFrom
import Derived.Test.YtealcoghiaeiiaaGreatPkTxnApartB
set_option linter.unusedVariables false
set_option linter.unusedSimpArgs false
namespace Go.VB
open Go.RowKit
theorem Bel.trans {a b c:World} (h:Bel a b) (k:Bel b c):Bel a c:=Below.trans h ⟨k.os,k.tape,k.output,k.size,fun i hi=>k.block i (Nat.lt_of_lt_of_le hi h.size)⟩
theorem Bel.alloc (w:World) (o:Obj):Bel w (w.alloc o):=(Below.refl _ _).alloc (Nat.le_refl _) o
theorem Bel.le {a b:World} (h:Bel a b):a.heap.size≤b.heap.size:=h.size
theorem Bel.cell {a b:World} (h:Bel a b) {p:Addr} {v:Value} (hc:a.cell? p=some v):b.cell? p=some v:=
 (Below.cell h (World.block_lt_of_cell? _ _ hc)).trans hc
theorem Bel.blk {a b:World} (h:Bel a b) {k:Nat} {o:Obj} (hc:a.heap[k]?=some o):b.heap[k]?=some o:=
 (h.block k (Array.getElem?_eq_some_iff.1 hc).1).trans hc
theorem size_alloc' (w:World) (o:Obj):(w.alloc o).heap.size=w.heap.size+1:=by show (w.heap.push o).size=_;simp
theorem zOq (w:World) (o:Obj):(w.alloc o).heap[w.heap.size]?=some o:=by show (w.heap.push o)[w.heap.size]?=_;simp
def At (w:World) (a:Addr) (cs:List Value):Prop:=∀ j v,cs[j]?=some v→w.cell? (a.add j)=some v
theorem At.bel {w w':World} {a:Addr} {cs:List Value} (h:At w a cs) (hb:Bel w w'):At w' a cs:=fun j v hj=>hb.cell (h j v hj)
theorem add_plain' (g j:Nat):(⟨g,0,none⟩:Addr).add j=⟨g,j,none⟩:=by unfold Addr.add;split<;>simp_all
theorem zK9 (a:Addr) (i j:Nat):(a.add i).add j=a.add (i+j):=by
 unfold Addr.add
 by_cases h1:i=0<;>by_cases h2:j=0<;>simp [h1,h2]
 omega
theorem At.blk {w:World} {b:Nat} {cs:List Value} {t:TypeId} {fr:Nat × Nat} (h:w.heap[b]?=some (.cells cs.toArray t fr)):At w ⟨b,0,none⟩ cs:=by
 intro j v hj
 rw [add_plain']
 simp [World.cell?,h,hj]
theorem At.new (w:World) (cs:List Value) (t:TypeId):At (w.alloc (.cells cs.toArray t)) ⟨w.heap.size,0,none⟩ cs:=At.blk (zOq w _)
structure Agg (P:Program) (t n:Nat):Prop where
 agg:∀ w,(isAgg t).run P w=.ok true w
 size:∀ w,(sizeOf t).run P w=.ok n w
 info:(P.info? t).map (·.size)=some n
structure One (P:Program) (t:Nat):Prop where
 agg:∀ w,(isAgg t).run P w=.ok false w
 size:∀ w,(sizeOf t).run P w=.ok 1 w
theorem zK2 {P:Program} {t n:Nat} (h:Agg P t n) {w:World} {a:Addr} {cs:List Value} (hc:At w a cs) (hn:cs.length=n):
  (Instr.loadAt t (.pointer (some a))).run P w=.ok (.agg cs.toArray) w:=by
 subst hn
 simp [Instr.loadAt,Instr.sureAddr,loadVar,h.agg w,h.size w,run_loadCells_list w a cs hc]
theorem zKN {P:Program} {t:Nat} (h:One P t) {w:World} {a:Addr} {v:Value} (hc:w.cell? a=some v):
  (Instr.loadAt t (.pointer (some a))).run P w=.ok v w:=by
 simp [Instr.loadAt,Instr.sureAddr,loadVar,h.agg w,load,Sem.run,hc]
theorem zNU {P:Program} {t e n:Nat} (hu:P.underlying t=some (.slice e)) (hs:∀ w,(sizeOf e).run P w=.ok n w) {w:World} {s:Sl} {ad:Addr} {k:IntKind} {i:Int}
  (ha:s.a=some ad) (h0:0≤i) (h1:i<s.len):(Instr.indexAt t (Sl.v s) (.int k i)).run P w=.ok (.pointer (some (ad.add (i.toNat*n)))) w:=by
 simp [Instr.indexAt,run_underlying hu,asIntOf,ha,h0,h1,hs w]
structure Rd {α:Type} (c:α→List Value) (n:Nat) (w:World) (s:Sl) (xs:List α):Prop where
 len:xs.length=s.len
 cap:s.len≤s.cap
 capm:s.cap≤9223372036854775807
 big:s.len≤140737488355328
 nilc:s.a=none→s.cap=0
 cells:∀ i x,xs[i]?=some x→∃ ad,s.a=some ad∧At w (ad.add (i*n)) (c x)
theorem Rd.bel {α:Type} {c:α→List Value} {n:Nat} {w w':World} {s:Sl} {xs:List α} (h:Rd c n w s xs) (hb:Bel w w'):Rd c n w' s xs:=
 ⟨h.len,h.cap,h.capm,h.big,h.nilc,fun i x hx=>let ⟨ad,e,ha⟩:=h.cells i x hx;⟨ad,e,ha.bel hb⟩⟩
theorem Rd.nil {α:Type} (c:α→List Value) (n:Nat) (w:World):Rd c n w Sl.none []:=⟨rfl,by simp,by simp,by simp,fun _=>rfl,fun i x h=>by simp at h⟩
section
variable {P:Program} {w:World}
theorem zLL {α:Type} {c:α→List Value} {n t e:Nat} {s:Sl} {xs:List α} {i:Int} {k:Option Addr→World→Prop} (h:Rd c n w s xs)
  (hu:P.underlying t=some (.slice e)) (hs:∀ w,(sizeOf e).run P w=.ok n w) (h0:0≤i) {x:α} (hx:xs[i.toNat]?=some x) (H:∀ ad,At w ad (c x)→k (some ad) w):
  opE P Value.pointer (Instr.indexAt t (Sl.v s) (.int .i64 i)) w k:=by
 obtain ⟨ad,ha,hc⟩:=h.cells _ x hx
 have hlt:i.toNat<xs.length:=(List.getElem?_eq_some_iff.1 hx).1
 exact ⟨_,w,zNU hu hs ha h0 (by have:=h.len;omega),H _ hc⟩
theorem zII {τ:Type} {enc:τ→Value} {t n:Nat} (hA:Agg P t n) {ad:Addr} {cs:List Value} {k:τ→World→Prop} (x:τ) (hx:enc x=.agg cs.toArray) (h:At w ad cs) (hn:cs.length=n) (H:k x w):
  opE P enc (Instr.loadAt t (.pointer (some ad))) w k:=⟨x,w,by rw [zK2 hA h hn,hx],H⟩
theorem zHM {τ:Type} {enc:τ→Value} {t:Nat} (hA:One P t) {ad:Addr} {k:τ→World→Prop} (x:τ) (h:w.cell? ad=some (enc x)) (H:k x w):
  opE P enc (Instr.loadAt t (.pointer (some ad))) w k:=⟨x,w,zKN hA h,H⟩
theorem zDi {τ:Type} {enc:τ→Value} {s f off t:Nat} (hf:∀ p w,(Instr.fieldAt s (.pointer (some p)) f).run P w=.ok (.pointer (some (p.add off))) w) (hA:One P t)
  {ad:Addr} {cs:List Value} {k:τ→World→Prop} (h:At w ad cs) (x:τ) (hx:cs[off]?=some (enc x)) (H:k x w):
  opE P Value.pointer (Instr.fieldAt s (.pointer (some ad)) f) w (fun p w=>opE P enc (Instr.loadAt t (.pointer p)) w k):=
 ⟨_,w,hf ad w,x,w,zKN hA (h _ _ hx),H⟩
theorem zTr {t n:Nat} {z:List Value} (hz:∀ w,(Instr.alloc t true (.tuple #[])).run P w=.ok (.pointer (some ⟨w.heap.size,0,none⟩)) (w.alloc (.cells z.toArray t))) (hzn:z.length=n)
  (hA:Agg P t n) {cs:List Value} (hn:cs.length=n) (h1:cs.all (·.oneCell')=true) {v:Value} (hv:v=.agg cs.toArray) {k:Option Addr→World→Prop}
  (H:k (some ⟨w.heap.size,0,none⟩) (w.alloc (.cells cs.toArray t))):
  opE P Value.pointer (Instr.alloc t true (.tuple #[])) w (fun p w=>opU P (Instr.storeAt t (.pointer p) v) w (k p)):=by
 subst hv
 refine ⟨_,_,hz w,_,run_storeAt_new w t z.toArray cs.toArray ?_ (by simp [hzn,hn]) (by simpa using h1),H⟩
 rw [hA.info];simp [hn]
end
section
variable {P:Program} {w:World}
theorem zOL {α:Type} {c:α→List Value} {n t e:Nat} {s:Sl} {xs:List α} {i:Int} {k:Option Addr→Prop} (h:Rd c n w s xs)
  (hu:P.underlying t=some (.slice e)) (hs:∀ w,(sizeOf e).run P w=.ok n w) (h0:0≤i) {x:α} (hx:xs[i.toNat]?=some x) (H:∀ ad,At w ad (c x)→k (some ad)):
  opB P Value.pointer (Instr.indexAt t (Sl.v s) (.int .i64 i)) w k:=by
 obtain ⟨ad,ha,hc⟩:=h.cells _ x hx
 have hlt:i.toNat<xs.length:=(List.getElem?_eq_some_iff.1 hx).1
 exact ⟨_,fun w' _=>zNU hu hs ha h0 (by have:=h.len;omega),H _ hc⟩
theorem zOO {τ:Type} {enc:τ→Value} {t n:Nat} (hA:Agg P t n) {ad:Addr} {cs:List Value} {k:τ→Prop} (x:τ) (hx:enc x=.agg cs.toArray) (h:At w ad cs) (hn:cs.length=n) (H:k x):
  opB P enc (Instr.loadAt t (.pointer (some ad))) w k:=⟨x,fun w' hb=>by rw [zK2 hA (h.bel hb) hn,hx],H⟩
theorem zQu {τ:Type} {enc:τ→Value} {t:Nat} (hA:One P t) {ad:Addr} {k:τ→Prop} (x:τ) (h:w.cell? ad=some (enc x)) (H:k x):
  opB P enc (Instr.loadAt t (.pointer (some ad))) w k:=⟨x,fun w' hb=>zKN hA (hb.cell h),H⟩
theorem zMG {τ:Type} {enc:τ→Value} {s f off t:Nat} (hf:∀ p w,(Instr.fieldAt s (.pointer (some p)) f).run P w=.ok (.pointer (some (p.add off))) w) (hA:One P t)
  {ad:Addr} {cs:List Value} {k:τ→Prop} (h:At w ad cs) (x:τ) (hx:cs[off]?=some (enc x)) (H:k x):
  opB P Value.pointer (Instr.fieldAt s (.pointer (some ad)) f) w (fun p=>opB P enc (Instr.loadAt t (.pointer p)) w k):=
 ⟨_,fun w' _=>hf ad w',x,fun w' hb=>zKN hA (hb.cell (h _ _ hx)),H⟩
end
theorem zOd {α:Type} {c:α→List Value} {n:Nat} (hc:∀ x,(c x).length=n):∀ (xs:List α) (i j:Nat) (x:α),xs[i]?=some x→j<n→(xs.flatMap c)[i*n+j]?=(c x)[j]?
 |[],i,j,x,h,_=>by simp at h
 |y::r,0,j,x,h,hj=>by
  simp at h;subst h
  rw [List.flatMap_cons,List.getElem?_append_left (by rw [hc];omega)]
  simp
 |y::r,i+1,j,x,h,hj=>by
  have h':r[i]?=some x:=by simpa using h
  rw [List.flatMap_cons,List.getElem?_append_right (by rw [hc,Nat.add_mul];omega),hc,← zOd hc r i j x h' hj]
  congr 1
  rw [Nat.add_mul];omega
theorem zLo {α:Type} {c:α→List Value} {n:Nat} (hc:∀ x,(c x).length=n) (xs:List α):(xs.flatMap c).length=xs.length*n:=by
 induction xs with
 |nil=>simp
 |cons y r ih=>simp [List.flatMap_cons,hc,ih,Nat.add_mul];omega
theorem zAK {a b c:World} {row:Option Nat} (h:a.grownBy b row) (k:b.grownBy c row):a.grownBy c row:=
 ⟨k.os.trans h.os,k.tape.trans h.tape,k.output.trans h.output,Nat.le_trans h.size k.size,fun i hi hr=>(k.block i (Nat.lt_of_lt_of_le hi h.size) hr).trans (h.block i hi hr)⟩
structure OwnS {α:Type} (c:α→List Value) (n e base:Nat) (w:World) (s:Sl) (xs:List α):Prop where
 len:xs.length=s.len
 small:s.len≤140737488355328
 row:w.ownsRow base e n (Sl.v s) s.len (xs.flatMap c)
theorem OwnS.nil {α:Type} (c:α→List Value) (n e base:Nat) (w:World):OwnS c n e base w Sl.none []:=⟨rfl,by simp,World.ownsRow_nil _ _ _ _⟩
theorem OwnS.rd {α:Type} {c:α→List Value} {n e base:Nat} {w:World} {s:Sl} {xs:List α} (h:OwnS c n e base w s xs) (hc:∀ x,(c x).length=n):Rd c n w s xs:=by
 obtain ⟨hl,hs,hr⟩:=h
 obtain ⟨a,len,cap⟩:=s
 rcases hr.2 with ⟨h1,h2⟩|⟨g,cap',cur,h1,hb,hh,hcap,hm,hsz,htk⟩
 ·injection h1 with h3 h4 h5
  subst h3;subst h5
  simp only at h2;subst h2
  exact ⟨hl,by simp,by simp,by simp,fun _=>rfl,fun i x hx=>by
   have:i<xs.length:=(List.getElem?_eq_some_iff.1 hx).1
   simp at hl;subst hl;simp at this⟩
 ·injection h1 with h3 h4 h5
  subst h3;subst h5
  refine ⟨hl,hcap,by simpa [maxLen] using hm,hs,fun h=>by simp at h,fun i x hx=>⟨⟨g,0,none⟩,rfl,fun j u hj=>?_⟩⟩
  have hjn:j<n:=by have:=(List.getElem?_eq_some_iff.1 hj).1;rw [hc] at this;exact this
  rw [zK9]
  refine hr.cells (g:=g) rfl _ _ ?_
  rw [zOd hc xs i j x hx hjn];exact hj
theorem OwnS.kept {α:Type} {c:α→List Value} {n e base:Nat} {w w':World} {s:Sl} {xs:List α} (h:OwnS c n e base w s xs) {row:Option Nat} (hg:w.grownBy w' row) (hne:(Sl.v s).ownBlock=none∨(Sl.v s).ownBlock≠row):OwnS c n e base w' s xs:=
 ⟨h.len,h.small,h.row.kept hg hne⟩
theorem zAT {w w':World} (h:Bel w w') (row:Option Nat):w.grownBy w' row:=⟨h.os,h.tape,h.output,h.size,fun k hk _=>h.block k hk⟩
theorem OwnS.bel {α:Type} {c:α→List Value} {n e base:Nat} {w w':World} {s:Sl} {xs:List α} (h:OwnS c n e base w s xs) (hb:Bel w w'):OwnS c n e base w' s xs:=by
 refine h.kept (zAT hb none) ?_
 cases (Sl.v s).ownBlock<;>simp
theorem OwnS.lo {α:Type} {c:α→List Value} {n e base:Nat} {w:World} {s:Sl} {xs:List α} (h:OwnS c n e base w s xs) {k:Nat} (hk:(Sl.v s).ownBlock=some k):base≤k:=(h.row.lt k hk).1
theorem Bel.grown {w0 w w':World} {row:Option Nat} (h:Bel w0 w) (hg:w.grownBy w' row) (hr:∀ k,row=some k→w0.heap.size≤k):Bel w0 w':=Below.grown h hg h.size hr
section
variable {P:Program} {w0 w:World} {α:Type} {c:α→List Value} {n e t bytes base:Nat}
theorem zTN {s y:Sl} {xs ys:List α} (hO:OwnS c n e base w s xs) (hy:Rd c n w y ys) (hc:∀ x,(c x).length=n) (h1:∀ x,(c x).all (·.oneCell')=true) (hn:0<n)
  (hu:P.underlying t=some (.slice e)) {z:Value} (hi:(P.info? e).map (fun i=>(i.zero,i.size,i.bytes))=some (some z,n,bytes)) (hz:z.cells.size=n) (hby:0<bytes)
  (hB:Bel w0 w) (hb:w0.heap.size≤base) (hbw:base≤w.heap.size) (room:(xs.length+ys.length)*bytes≤140737488355328) {k:Sl→World→Prop} {ty:TypeId}
  (H:∀ s' w',OwnS c n e base w' s' (xs++ys)→Bel w0 w'→w.grownBy w' (Sl.v s).ownBlock→k s' w'):
  opE P Sl.v (Builtin.append_ #[t,t] ty [Sl.v s,Sl.v y].toArray) w k:=by
 obtain ⟨i0,hi0,hi1⟩:=Option.map_eq_some_iff.1 hi
 simp only [Prod.mk.injEq] at hi1
 obtain ⟨hz0,hz1,hz2⟩:=hi1
 have hroom:xs.length+ys.length≤140737488355328:=Nat.le_trans (Nat.le_mul_of_pos_right _ hby) room
 have hsl:=hO.len
 have hyl:=hy.len
 by_cases hya:y.a=none
 ·have hcap:=hy.nilc hya
  have hlen:y.len=0:=by have:=hy.cap;omega
  have hy0:ys=[]:=List.eq_nil_of_length_eq_zero (by omega)
  have hyv:Sl.v y=.slice none 0 0:=by simp [Sl.v,hya,hcap,hlen]
  refine ⟨s,w,?_,H s w (by rw [hy0];simpa using hO) hB (World.grownBy.refl _ _)⟩
  rw [hyv]
  exact run_append_owned_none (w:=w) base t ty e i0 n hu hi0 (Sl.v s) s.len _ hO.row
 ·obtain ⟨ad,had⟩:∃ ad,y.a=some ad:=by
   cases h:y.a with
   |none=>exact absurd h hya
   |some ad=>exact ⟨ad,rfl⟩
  have hnews:∀ j u,(ys.flatMap c)[j]?=some u→w.cell? (ad.add j)=some u:=by
   intro j u hj
   have hjl:j<ys.length*n:=by have:=(List.getElem?_eq_some_iff.1 hj).1;rwa [zLo hc] at this
   have hdiv:j / n<ys.length:=Nat.div_lt_of_lt_mul (by rwa [Nat.mul_comm] at hjl)
   have hmod:j % n<n:=Nat.mod_lt _ hn
   have hx:ys[j / n]?=some ys[j / n]:=by simp [hdiv]
   obtain ⟨ad',h3,h4⟩:=hy.cells _ _ hx
   rw [had] at h3;obtain rfl:=Option.some.inj h3
   have he:j / n*n+j % n=j:=by rw [Nat.mul_comm];exact Nat.div_add_mod j n
   have h5:=zOd hc ys (j / n) (j % n) _ hx hmod
   rw [he,hj] at h5
   have h6:=h4 (j % n) u h5.symm
   rwa [zK9,he] at h6
  obtain ⟨v',w',hrun,r1,r2,r3⟩:=run_append_own (P:=P) w base t ty e i0 z n bytes hu hi0 hz0 hz1 hz2 hz hn (Sl.v s) s.len _ hO.row ad y.len y.cap (ys.flatMap c) (by rw [zLo hc,hyl]) hnews
   (fun u hu'=>by
    obtain ⟨x,_,hx⟩:=List.mem_flatMap.1 hu'
    have:=h1 x
    rw [List.all_eq_true] at this
    exact this u hx) (by simp only [maxLen];omega) (by rw [← hsl,← hyl];exact room) hbw
  obtain ⟨s',hs'⟩:∃ s':Sl,v'=Sl.v s'∧s'.len=s.len+y.len:=by
   rcases r1.2 with ⟨h1,h2⟩|⟨g,cap,cur,h1,_⟩
   ·exact ⟨Sl.none,h1,by simp;omega⟩
   ·exact ⟨⟨some ⟨g,0,none⟩,s.len+y.len,cap⟩,h1,rfl⟩
  obtain ⟨rfl,hlen'⟩:=hs'
  refine ⟨s',w',?_,H s' w' ⟨by simp;omega,by omega,by rw [hlen',List.flatMap_append];exact r1⟩ (hB.grown r2 (fun k hk=>Nat.le_trans hb (hO.lo hk))) r2⟩
  have:Sl.v y=.slice (some ad) y.len y.cap:=by simp [Sl.v,had]
  rw [this];exact hrun
theorem zRG {s:Sl} {xs:List α} {x:α} {vx:Value} (hO:OwnS c n e base w s xs) (hc:∀ x,(c x).length=n) (h1:∀ x,(c x).all (·.oneCell')=true) (hn:0<n)
  (hu:P.underlying t=some (.slice e)) {z:Value} (hi:(P.info? e).map (fun i=>(i.zero,i.size,i.bytes))=some (some z,n,bytes)) (hz:z.cells.size=n) (hby:0<bytes)
  (hbs:∀ w,(Instr.buildSlice t 1 [(0,vx)].toArray).run P w=.ok (Sl.v ⟨some ⟨w.heap.size,0,none⟩,1,1⟩) (w.alloc (.cells (c x).toArray e)))
  (hB:Bel w0 w) (hb:w0.heap.size≤base) (hbw:base≤w.heap.size) (room:(xs.length+1)*bytes≤140737488355328) {k:Sl→World→Prop} {ty:TypeId}
  (H:∀ s' w',OwnS c n e base w' s' (xs++[x])→Bel w0 w'→w.grownBy w' (Sl.v s).ownBlock→k s' w'):
  opE P Sl.v (Instr.buildSlice t 1 [(0,vx)].toArray) w (fun y w=>opE P Sl.v (Builtin.append_ #[t,t] ty [Sl.v s,Sl.v y].toArray) w k):=by
 refine ⟨_,_,hbs w,?_⟩
 have hA:At (w.alloc (.cells (c x).toArray e)) ⟨w.heap.size,0,none⟩ (c x):=At.new w (c x) e
 refine zTN (ys:=[x]) (hO.bel (Bel.alloc _ _)) ⟨rfl,by simp,by simp,by simp,fun h=>by simp at h,fun i y hy=>?_⟩ hc h1 hn hu hi hz hby (hB.trans (Bel.alloc _ _)) hb (by rw [size_alloc'];omega) (by simpa using room) fun s' w' h1 h2 h3=>?_
 ·cases i with
  |zero=>
   simp at hy;subst hy
   exact ⟨_,rfl,by rw [Nat.zero_mul];simpa [Addr.add] using hA⟩
  |succ i=>simp at hy
 ·exact H s' w' h1 h2 (zAK (World.grownBy_alloc w _ _) h3)
theorem OwnS.lit0 (hbw:base≤w.heap.size):OwnS c n e base (w.alloc (.cells #[] e)) ⟨some ⟨w.heap.size,0,none⟩,0,0⟩ []:=
 ⟨rfl,by simp,by have:=World.ownsRow_lit (base:=base) (e:=e) (size:=n) w #[] 0 hbw (by simp) (by simp);simpa using this⟩
end
def Sl.sub (s:Sl) (l h n:Nat):Sl:=⟨if s.cap=l then s.a else s.a.map (·.add (l*n)),h - l,s.cap - l⟩
theorem zTc {P:Program} {w:World} {t e n:Nat} (hu:P.underlying t=some (.slice e)) (hs:∀ w,(sizeOf e).run P w=.ok n w) {s:Sl} {kl kh:IntKind} {l h:Nat} (h0:l≤h) (h1:h≤s.cap):
  (Instr.sliceAt t (Sl.v s) (some (.int kl l)) (some (.int kh h)) none).run P w=.ok (Sl.v (s.sub l h n)) w:=by
 simp [Instr.sliceAt,run_underlying hu,Instr.slice,Instr.sliceBounds,Instr.sliceBound,asIntOf,hs w,h0,h1,Sl.sub]
theorem zR3 {P:Program} {w:World} {t e n:Nat} (hu:P.underlying t=some (.slice e)) (hs:∀ w,(sizeOf e).run P w=.ok n w) {s:Sl} {kl:IntKind} {l:Nat} (h0:l≤s.len):
  (Instr.sliceAt t (Sl.v s) (some (.int kl l)) none none).run P w=.ok (Sl.v (s.sub l s.len n)) w:=by
 simp [Instr.sliceAt,run_underlying hu,Instr.slice,Instr.sliceBounds,Instr.sliceBound,asIntOf,hs w,h0,Sl.sub]
theorem zSC {P:Program} {w:World} {t e n:Nat} (hu:P.underlying t=some (.slice e)) (hs:∀ w,(sizeOf e).run P w=.ok n w) {s:Sl} {kh:IntKind} {h:Nat} (h1:h≤s.cap):
  (Instr.sliceAt t (Sl.v s) none (some (.int kh h)) none).run P w=.ok (Sl.v (s.sub 0 h n)) w:=by
 simp [Instr.sliceAt,run_underlying hu,Instr.slice,Instr.sliceBounds,Instr.sliceBound,asIntOf,hs w,h1,Sl.sub,Addr.add]
theorem Rd.sub {α:Type} {c:α→List Value} {n:Nat} {w:World} {s:Sl} {xs:List α} (hr:Rd c n w s xs) {l h:Nat} (h0:l≤h) (h1:h≤s.len):Rd c n w (s.sub l h n) ((xs.drop l).take (h - l)):=by
 have hcap:=hr.cap;have hlen:=hr.len;have hbig:=hr.big;have hm:=hr.capm
 refine ⟨by simp [Sl.sub];omega,by simp [Sl.sub];omega,by simp [Sl.sub];omega,by simp [Sl.sub];omega,fun hn=>?_,fun i x hx=>?_⟩
 ·have:s.a=none:=by
   unfold Sl.sub at hn;simp only at hn
   split at hn
   ·exact hn
   ·cases h:s.a with
    |none=>rfl
    |some a=>rw [h] at hn;simp at hn
  have:=hr.nilc this
  simp [Sl.sub];omega
 ·have hi:i<h - l:=by
   have:=(List.getElem?_eq_some_iff.1 hx).1
   simp at this;omega
  have hx':xs[l+i]?=some x:=by
   rw [List.getElem?_take_of_lt hi,List.getElem?_drop] at hx;exact hx
  obtain ⟨ad,ha,hA⟩:=hr.cells _ _ hx'
  have hne:¬ s.cap=l:=by omega
  refine ⟨ad.add (l*n),by simp [Sl.sub,hne,ha],?_⟩
  rw [zK9,← Nat.add_mul]
  exact hA
section
variable {P:Program} {w:World} {d:Nat} {xs ys:Array Value} {f:Field} {fs:List Field} {a b:Value}
theorem eqI {t:TypeId} {k k':IntKind} (h:P.underlying t=some (.int k')) (m n:Int):∃ r,(Op.equalIn (d+1) t (.int k m) (.int k n)).run P w=.ok r w∧(r=true↔m=n):=⟨_,run_equalIn_int w d t k k' m n h,by simp⟩
theorem eqS {t:TypeId} (h:P.underlying t=some .string) (m n:ByteArray):∃ r,(Op.equalIn (d+1) t (.string m) (.string n)).run P w=.ok r w∧(r=true↔m=n):=⟨_,run_equalIn_string w d t m n h,by rw [zKP];simp⟩
theorem eqB {t:TypeId} (h:P.underlying t=some .bool) (m n:Bool):∃ r,(Op.equalIn (d+1) t (.bool m) (.bool n)).run P w=.ok r w∧(r=true↔m=n):=⟨_,run_equalIn_bool w d t m n h,by simp⟩
theorem zTQ:∃ r,(Op.eqFields d xs ys []).run P w=.ok r w∧(r=true↔True):=⟨true,by simp [Op.eqFields],by simp⟩
theorem zOb {p q : Prop} (hn : (f.name == "_") = false) (ha : (part f.type xs f.offset).run P w = .ok a w) (hb : (part f.type ys f.offset).run P w = .ok b w)
  (he:∃ r,(Op.equalIn d f.type a b).run P w=.ok r w∧(r=true↔p)) (hr:∃ r,(Op.eqFields d xs ys fs).run P w=.ok r w∧(r=true↔q)):
  ∃ r,(Op.eqFields d xs ys (f::fs)).run P w=.ok r w∧(r=true↔p∧q):=by
 have hn' : f.name ≠ "_" := by simpa using hn
 obtain ⟨r,h1,h2⟩:=he
 obtain ⟨s,h3,h4⟩:=hr
 rw [Op.eqFields]
 simp only [if_pos hn',Sem.run_bind,ha,hb,h1,Result.andThen_ok]
 cases r
 ·exact ⟨false,by simp,by simp at h2;simp [h2]⟩
 ·refine ⟨s,by simpa using h3,?_⟩
  have hp:p:=h2.1 rfl
  rw [h4];exact ⟨fun h=>⟨hp,h⟩,fun h=>h.2⟩
theorem eqA {t:TypeId} {F:Array Field} {l:List Field} {p q:Prop} (hu:P.underlying t=some (.struct F)) (hl:F.toList=l) (hp:P.stoodInHeld t=false) (hpq:p↔q) (h:∃ r,(Op.eqFields d xs ys l).run P w=.ok r w∧(r=true↔q)):
  ∃ r,(Op.equalIn (d+1) t (.agg xs) (.agg ys)).run P w=.ok r w∧(r=true↔p):=by
 have hf:P.fieldsOf t=F:=by simp [Program.fieldsOf,hu]
 obtain ⟨r,h1,h2⟩:=h
 exact ⟨r,by rw [run_equalIn_struct (P:=P) w d t xs ys (by rw [hf];exact hu) hp,hf,hl];exact h1,h2.trans hpq.symm⟩
theorem neop {t:TypeId} {o1 o2:Operand} {p:Prop} (hg:P.eqGuardType P.depth t=false) (h:∀ d w,∃ r,(Op.equalIn (d+4) t (.agg xs) (.agg ys)).run P w=.ok r w∧(r=true↔p)):
  ∃ r,(∀ w,(do eqGuard .neq t o1 o2 (.agg xs) (.agg ys);binOp .neq t (.agg xs) (.agg ys):Sem Value).run P w=.ok (.bool r) w)∧(r=true↔¬ p):=by
 obtain ⟨r,h1,h2⟩:=h 9996 default
 refine ⟨!r,fun w=>?_,by cases r<;>simp_all⟩
 obtain ⟨r',h1',h2'⟩:=h 9996 w
 have:r'=r:=by
  cases r<;>cases r'<;>simp_all
 subst this
 have hgr:(eqGuard .neq t o1 o2 (.agg xs) (.agg ys)).run P w=.ok () w:=by
  unfold eqGuard
  simp [Sem.run,program,hg]
 simp [hgr,binOp,Op.equal,Op.maxDepth,h1']
end
theorem wr64 {n:Int} (h0 : -9223372036854775808≤n) (h1:n≤9223372036854775807):IntKind.wrap .i64 n=n:=IntWalk.i64_in _ ⟨h0,h1⟩
end Go.VB
set_option linter.unusedVariables false
namespace Go.Proofs.YtealcoghiaeiiaaGreat.VG
open Go.VB Go.Proofs
abbrev zFp:TypeId:=3
theorem zF4:One Tryz.prog 3:=⟨fun w=>by kernel_rfl,fun w=>by kernel_rfl⟩
abbrev zJw:List Value:=[.int .i64 0]
theorem zPt:∀ w,(Instr.alloc 3 true (.tuple #[])).run Tryz.prog w=.ok (.pointer (some ⟨w.heap.size,0,none⟩)) (w.alloc (.cells (zJw).toArray 3)):=fun w=>by kernel_rfl
abbrev zRZ:TypeId:=4
theorem zJu:One Tryz.prog 4:=⟨fun w=>by kernel_rfl,fun w=>by kernel_rfl⟩
abbrev zPB:TypeId:=9
theorem zAc:One Tryz.prog 9:=⟨fun w=>by kernel_rfl,fun w=>by kernel_rfl⟩
abbrev zFV:TypeId:=22
theorem zJx:One Tryz.prog 22:=⟨fun w=>by kernel_rfl,fun w=>by kernel_rfl⟩
abbrev zNr:List Value:=[.slice none 0 0]
theorem zN4:∀ w,(Instr.alloc 22 true (.tuple #[])).run Tryz.prog w=.ok (.pointer (some ⟨w.heap.size,0,none⟩)) (w.alloc (.cells (zNr).toArray 22)):=fun w=>by kernel_rfl
theorem zFR:Tryz.prog.underlying 22=some (.slice 66):=Tryz.underlying22
theorem zGe:∀ w,(sizeOf 66).run Tryz.prog w=.ok 2 w:=fun w=>by kernel_rfl
theorem zN3 (x:zAE):∀ w,(Instr.buildSlice 22 1 [(0,(zAE.v x))].toArray).run Tryz.prog w=.ok (Sl.v ⟨some ⟨w.heap.size,0,none⟩,1,1⟩) (w.alloc (.cells (zAE.cells x).toArray 66)):=fun w=>by kernel_rfl
theorem zNv:(Tryz.prog.info? 66).map (fun i=>(i.zero,i.size,i.bytes))=some (some (.agg ([.string ⟨#[]⟩,.string ⟨#[]⟩]).toArray),2,32):=by kernel_rfl
theorem zPN:Tryz.prog.underlying 24=some (.slice 3):=Tryz.underlying24
theorem zPE:∀ w,(sizeOf 3).run Tryz.prog w=.ok 1 w:=fun w=>by kernel_rfl
abbrev zLE:TypeId:=26
theorem zHE:One Tryz.prog 27:=⟨fun w=>by kernel_rfl,fun w=>by kernel_rfl⟩
abbrev zFQ:TypeId:=30
theorem zJc:One Tryz.prog 30:=⟨fun w=>by kernel_rfl,fun w=>by kernel_rfl⟩
theorem zGJ:Tryz.prog.underlying 30=some (.slice 34):=Tryz.underlying30
theorem zH1:∀ w,(sizeOf 34).run Tryz.prog w=.ok 3 w:=fun w=>by kernel_rfl
theorem zNk (x:zAD):∀ w,(Instr.buildSlice 30 1 [(0,(zAD.v x))].toArray).run Tryz.prog w=.ok (Sl.v ⟨some ⟨w.heap.size,0,none⟩,1,1⟩) (w.alloc (.cells (zAD.cells x).toArray 34)):=fun w=>by kernel_rfl
theorem zNJ:(Tryz.prog.info? 34).map (fun i=>(i.zero,i.size,i.bytes))=some (some (.agg ([.string ⟨#[]⟩,.string ⟨#[]⟩,.bool false]).toArray),3,40):=by kernel_rfl
abbrev zFE:TypeId:=34
theorem zDq:Agg Tryz.prog 34 3:=⟨fun w=>by kernel_rfl,fun w=>by kernel_rfl,by kernel_rfl⟩
theorem zD9:∀ p w,(Instr.fieldAt 34 (.pointer (some p)) 0).run Tryz.prog w=.ok (.pointer (some (p.add 0))) w:=fun _ _=>by kernel_rfl
theorem zGv:∀ p w,(Instr.fieldAt 34 (.pointer (some p)) 1).run Tryz.prog w=.ok (.pointer (some (p.add 1))) w:=fun _ _=>by kernel_rfl
theorem zHd:∀ p w,(Instr.fieldAt 34 (.pointer (some p)) 2).run Tryz.prog w=.ok (.pointer (some (p.add 2))) w:=fun _ _=>by kernel_rfl
abbrev zL0:List Value:=[.string ⟨#[]⟩,.string ⟨#[]⟩,.bool false]
theorem zGU:∀ w,(Instr.alloc 34 true (.tuple #[])).run Tryz.prog w=.ok (.pointer (some ⟨w.heap.size,0,none⟩)) (w.alloc (.cells (zL0).toArray 34)):=fun w=>by kernel_rfl
theorem zLi:∀ w,(zeroValue 34).run Tryz.prog w=.ok (.agg (zL0).toArray) w:=fun w=>by kernel_rfl
abbrev zMP:TypeId:=37
theorem zA9:One Tryz.prog 37:=⟨fun w=>by kernel_rfl,fun w=>by kernel_rfl⟩
theorem zNL:Tryz.prog.underlying 45=some (.slice 49):=Tryz.underlying45
theorem zNG:∀ w,(sizeOf 49).run Tryz.prog w=.ok 5 w:=fun w=>by kernel_rfl
theorem zGf:One Tryz.prog 47:=⟨fun w=>by kernel_rfl,fun w=>by kernel_rfl⟩
abbrev zLC:TypeId:=49
theorem zKk:Agg Tryz.prog 49 5:=⟨fun w=>by kernel_rfl,fun w=>by kernel_rfl,by kernel_rfl⟩
theorem zFC:∀ p w,(Instr.fieldAt 49 (.pointer (some p)) 0).run Tryz.prog w=.ok (.pointer (some (p.add 0))) w:=fun _ _=>by kernel_rfl
theorem zEl:∀ p w,(Instr.fieldAt 49 (.pointer (some p)) 1).run Tryz.prog w=.ok (.pointer (some (p.add 1))) w:=fun _ _=>by kernel_rfl
theorem zHf:∀ p w,(Instr.fieldAt 49 (.pointer (some p)) 2).run Tryz.prog w=.ok (.pointer (some (p.add 2))) w:=fun _ _=>by kernel_rfl
theorem zM5:∀ p w,(Instr.fieldAt 49 (.pointer (some p)) 3).run Tryz.prog w=.ok (.pointer (some (p.add 3))) w:=fun _ _=>by kernel_rfl
theorem zMi:∀ p w,(Instr.fieldAt 49 (.pointer (some p)) 4).run Tryz.prog w=.ok (.pointer (some (p.add 4))) w:=fun _ _=>by kernel_rfl
abbrev zNt:List Value:=[.int .u8 0,.int .i64 0,.string ⟨#[]⟩,.string ⟨#[]⟩,.string ⟨#[]⟩]
theorem zN2:∀ w,(Instr.alloc 49 true (.tuple #[])).run Tryz.prog w=.ok (.pointer (some ⟨w.heap.size,0,none⟩)) (w.alloc (.cells (zNt).toArray 49)):=fun w=>by kernel_rfl
abbrev zJh:TypeId:=51
theorem zIv:Agg Tryz.prog 51 7:=⟨fun w=>by kernel_rfl,fun w=>by kernel_rfl,by kernel_rfl⟩
theorem zEt:∀ p w,(Instr.fieldAt 51 (.pointer (some p)) 0).run Tryz.prog w=.ok (.pointer (some (p.add 0))) w:=fun _ _=>by kernel_rfl
theorem zMA:∀ p w,(Instr.fieldAt 51 (.pointer (some p)) 1).run Tryz.prog w=.ok (.pointer (some (p.add 1))) w:=fun _ _=>by kernel_rfl
theorem zLt:∀ p w,(Instr.fieldAt 51 (.pointer (some p)) 2).run Tryz.prog w=.ok (.pointer (some (p.add 2))) w:=fun _ _=>by kernel_rfl
theorem zL3:∀ p w,(Instr.fieldAt 51 (.pointer (some p)) 3).run Tryz.prog w=.ok (.pointer (some (p.add 3))) w:=fun _ _=>by kernel_rfl
theorem zLK:∀ p w,(Instr.fieldAt 51 (.pointer (some p)) 4).run Tryz.prog w=.ok (.pointer (some (p.add 4))) w:=fun _ _=>by kernel_rfl
theorem zLN:∀ p w,(Instr.fieldAt 51 (.pointer (some p)) 5).run Tryz.prog w=.ok (.pointer (some (p.add 5))) w:=fun _ _=>by kernel_rfl
theorem zLR:∀ p w,(Instr.fieldAt 51 (.pointer (some p)) 6).run Tryz.prog w=.ok (.pointer (some (p.add 6))) w:=fun _ _=>by kernel_rfl
abbrev zM6:List Value:=[.int .i64 0,.int .i64 0,.string ⟨#[]⟩,.bool false,.slice none 0 0,.slice none 0 0,.int .u64 0]
theorem zLF:∀ w,(Instr.alloc 51 true (.tuple #[])).run Tryz.prog w=.ok (.pointer (some ⟨w.heap.size,0,none⟩)) (w.alloc (.cells (zM6).toArray 51)):=fun w=>by kernel_rfl
abbrev zGc:TypeId:=66
theorem zGF:Agg Tryz.prog 66 2:=⟨fun w=>by kernel_rfl,fun w=>by kernel_rfl,by kernel_rfl⟩
theorem zF2:∀ p w,(Instr.fieldAt 66 (.pointer (some p)) 0).run Tryz.prog w=.ok (.pointer (some (p.add 0))) w:=fun _ _=>by kernel_rfl
theorem zLI:∀ p w,(Instr.fieldAt 66 (.pointer (some p)) 1).run Tryz.prog w=.ok (.pointer (some (p.add 1))) w:=fun _ _=>by kernel_rfl
abbrev zMT:List Value:=[.string ⟨#[]⟩,.string ⟨#[]⟩]
theorem zND:∀ w,(Instr.alloc 66 true (.tuple #[])).run Tryz.prog w=.ok (.pointer (some ⟨w.heap.size,0,none⟩)) (w.alloc (.cells (zMT).toArray 66)):=fun w=>by kernel_rfl
theorem zPc:∀ w,(zeroValue 66).run Tryz.prog w=.ok (.agg (zMT).toArray) w:=fun w=>by kernel_rfl
abbrev zAW:TypeId:=67
theorem zAl:One Tryz.prog 67:=⟨fun w=>by kernel_rfl,fun w=>by kernel_rfl⟩
theorem zBU:Tryz.prog.underlying 67=some (.slice 72):=Tryz.underlying67
theorem zC2:∀ w,(sizeOf 72).run Tryz.prog w=.ok 4 w:=fun w=>by kernel_rfl
theorem zM0:∀ w,(Instr.buildSlice 67 0 [].toArray).run Tryz.prog w=.ok (Sl.v ⟨some ⟨w.heap.size,0,none⟩,0,0⟩) (w.alloc (.cells #[] 72)):=fun w=>by kernel_rfl
theorem zK0 (x:zAB):∀ w,(Instr.buildSlice 67 1 [(0,(zAB.v x))].toArray).run Tryz.prog w=.ok (Sl.v ⟨some ⟨w.heap.size,0,none⟩,1,1⟩) (w.alloc (.cells (zAB.cells x).toArray 72)):=fun w=>by kernel_rfl
theorem zKe:(Tryz.prog.info? 72).map (fun i=>(i.zero,i.size,i.bytes))=some (some (.agg ([.string ⟨#[]⟩,.int .u64 0,.string ⟨#[]⟩,.bool false]).toArray),4,48):=by kernel_rfl
abbrev zAk:TypeId:=69
theorem zAg:Agg Tryz.prog 69 2:=⟨fun w=>by kernel_rfl,fun w=>by kernel_rfl,by kernel_rfl⟩
theorem zAh:∀ p w,(Instr.fieldAt 69 (.pointer (some p)) 0).run Tryz.prog w=.ok (.pointer (some (p.add 0))) w:=fun _ _=>by kernel_rfl
theorem zFa:∀ p w,(Instr.fieldAt 69 (.pointer (some p)) 1).run Tryz.prog w=.ok (.pointer (some (p.add 1))) w:=fun _ _=>by kernel_rfl
abbrev zKw:List Value:=[.slice none 0 0,.int .u64 0]
theorem zFd:∀ w,(Instr.alloc 69 true (.tuple #[])).run Tryz.prog w=.ok (.pointer (some ⟨w.heap.size,0,none⟩)) (w.alloc (.cells (zKw).toArray 69)):=fun w=>by kernel_rfl
abbrev zAp:TypeId:=72
theorem zAx:Agg Tryz.prog 72 4:=⟨fun w=>by kernel_rfl,fun w=>by kernel_rfl,by kernel_rfl⟩
theorem zEG:∀ p w,(Instr.fieldAt 72 (.pointer (some p)) 0).run Tryz.prog w=.ok (.pointer (some (p.add 0))) w:=fun _ _=>by kernel_rfl
theorem zFZ:∀ p w,(Instr.fieldAt 72 (.pointer (some p)) 1).run Tryz.prog w=.ok (.pointer (some (p.add 1))) w:=fun _ _=>by kernel_rfl
theorem zGN:∀ p w,(Instr.fieldAt 72 (.pointer (some p)) 2).run Tryz.prog w=.ok (.pointer (some (p.add 2))) w:=fun _ _=>by kernel_rfl
theorem zGr:∀ p w,(Instr.fieldAt 72 (.pointer (some p)) 3).run Tryz.prog w=.ok (.pointer (some (p.add 3))) w:=fun _ _=>by kernel_rfl
abbrev zIw:List Value:=[.string ⟨#[]⟩,.int .u64 0,.string ⟨#[]⟩,.bool false]
theorem zGO:∀ w,(Instr.alloc 72 true (.tuple #[])).run Tryz.prog w=.ok (.pointer (some ⟨w.heap.size,0,none⟩)) (w.alloc (.cells (zIw).toArray 72)):=fun w=>by kernel_rfl
theorem zF6:One Tryz.prog 85:=⟨fun w=>by kernel_rfl,fun w=>by kernel_rfl⟩
theorem zGB:Tryz.prog.underlying 85=some (.map 3 88):=Tryz.underlying85
abbrev zE4:TypeId:=87
theorem zCB:∀ p w,(Instr.fieldAt 87 (.pointer (some p)) 0).run Tryz.prog w=.ok (.pointer (some (p.add 0))) w:=fun _ _=>by kernel_rfl
theorem zEa:∀ p w,(Instr.fieldAt 87 (.pointer (some p)) 1).run Tryz.prog w=.ok (.pointer (some (p.add 2))) w:=fun _ _=>by kernel_rfl
theorem zGZ:∀ p w,(Instr.fieldAt 87 (.pointer (some p)) 2).run Tryz.prog w=.ok (.pointer (some (p.add 3))) w:=fun _ _=>by kernel_rfl
theorem zF5:∀ p w,(Instr.fieldAt 87 (.pointer (some p)) 3).run Tryz.prog w=.ok (.pointer (some (p.add 4))) w:=fun _ _=>by kernel_rfl
abbrev zJs:TypeId:=88
theorem zGD:One Tryz.prog 88:=⟨fun w=>by kernel_rfl,fun w=>by kernel_rfl⟩
abbrev zOj:List Value:=[.pointer none]
theorem zNA:∀ w,(Instr.alloc 88 true (.tuple #[])).run Tryz.prog w=.ok (.pointer (some ⟨w.heap.size,0,none⟩)) (w.alloc (.cells (zOj).toArray 88)):=fun w=>by kernel_rfl
theorem zPY:∀ w,(zeroValue 88).run Tryz.prog w=.ok (.pointer none) w:=fun w=>by kernel_rfl
abbrev zK6:TypeId:=89
theorem zCp:One Tryz.prog 89:=⟨fun w=>by kernel_rfl,fun w=>by kernel_rfl⟩
theorem zDh:Tryz.prog.underlying 89=some (.map 9 34):=Tryz.underlying89
abbrev zJa:TypeId:=90
theorem zGg:One Tryz.prog 90:=⟨fun w=>by kernel_rfl,fun w=>by kernel_rfl⟩
theorem zKl:Tryz.prog.underlying 90=some (.slice 103):=Tryz.underlying90
theorem zN1:∀ w,(sizeOf 103).run Tryz.prog w=.ok 3 w:=fun w=>by kernel_rfl
theorem zLz (x:zAm):∀ w,(Instr.buildSlice 90 1 [(0,(zAm.v x))].toArray).run Tryz.prog w=.ok (Sl.v ⟨some ⟨w.heap.size,0,none⟩,1,1⟩) (w.alloc (.cells (zAm.cells x).toArray 103)):=fun w=>by kernel_rfl
theorem zLe:(Tryz.prog.info? 103).map (fun i=>(i.zero,i.size,i.bytes))=some (some (.agg ([.string ⟨#[]⟩,.string ⟨#[]⟩,.bool false]).toArray),3,40):=by kernel_rfl
abbrev zF9:TypeId:=92
theorem zI0:∀ p w,(Instr.fieldAt 92 (.pointer (some p)) 0).run Tryz.prog w=.ok (.pointer (some (p.add 0))) w:=fun _ _=>by kernel_rfl
theorem zF3:∀ p w,(Instr.fieldAt 92 (.pointer (some p)) 1).run Tryz.prog w=.ok (.pointer (some (p.add 1))) w:=fun _ _=>by kernel_rfl
theorem zFH:∀ p w,(Instr.fieldAt 92 (.pointer (some p)) 2).run Tryz.prog w=.ok (.pointer (some (p.add 2))) w:=fun _ _=>by kernel_rfl
abbrev zNn:TypeId:=103
theorem zJ6:Agg Tryz.prog 103 3:=⟨fun w=>by kernel_rfl,fun w=>by kernel_rfl,by kernel_rfl⟩
theorem zKv:∀ p w,(Instr.fieldAt 103 (.pointer (some p)) 0).run Tryz.prog w=.ok (.pointer (some (p.add 0))) w:=fun _ _=>by kernel_rfl
theorem zLl:∀ p w,(Instr.fieldAt 103 (.pointer (some p)) 1).run Tryz.prog w=.ok (.pointer (some (p.add 1))) w:=fun _ _=>by kernel_rfl
theorem zM1:∀ p w,(Instr.fieldAt 103 (.pointer (some p)) 2).run Tryz.prog w=.ok (.pointer (some (p.add 2))) w:=fun _ _=>by kernel_rfl
abbrev zON:List Value:=[.string ⟨#[]⟩,.string ⟨#[]⟩,.bool false]
theorem zPH:∀ w,(Instr.alloc 103 true (.tuple #[])).run Tryz.prog w=.ok (.pointer (some ⟨w.heap.size,0,none⟩)) (w.alloc (.cells (zON).toArray 103)):=fun w=>by kernel_rfl
theorem zJ8:Tryz.prog.underlying 152=some (.map 9 153):=Tryz.underlying152
abbrev zMU:TypeId:=153
abbrev zBn:TypeId:=182
theorem zFB:One Tryz.prog 182:=⟨fun w=>by kernel_rfl,fun w=>by kernel_rfl⟩
abbrev zDj:List Value:=[.int .u64 0]
theorem zJE:∀ w,(Instr.alloc 182 true (.tuple #[])).run Tryz.prog w=.ok (.pointer (some ⟨w.heap.size,0,none⟩)) (w.alloc (.cells (zDj).toArray 182)):=fun w=>by kernel_rfl
theorem zOe (x y:zAD) (d:Nat) (w:World):∃ r,(Op.equalIn (d+4) 34 (zAD.v x) (zAD.v y)).run Tryz.prog w=.ok r w∧(r=true↔x=y):=by
 refine eqA Tryz.underlying34 rfl (by kernel_rfl) ?_ (zOb (a:=(.string x.Key)) (b:=(.string y.Key)) (by rfl) (by kernel_rfl) (by kernel_rfl) (eqS Tryz.underlying9 _ _) (zOb (a:=(.string x.Val)) (b:=(.string y.Val)) (by rfl) (by kernel_rfl) (by kernel_rfl) (eqS Tryz.underlying9 _ _) (zOb (a:=(.bool x.Gone)) (b:=(.bool y.Gone)) (by rfl) (by kernel_rfl) (by kernel_rfl) (eqB Tryz.underlying4 _ _) (zTQ))))
 cases x;cases y;simp
theorem zOf (x y:zAD) (o1 o2:Operand):∃ r,(∀ w,(do eqGuard .neq 34 o1 o2 (zAD.v x) (zAD.v y);binOp .neq 34 (zAD.v x) (zAD.v y):Sem Value).run Tryz.prog w=.ok (.bool r) w)∧(r=true↔¬ x=y):=neop (by kernel_rfl) (zOe x y)
end Go.Proofs.YtealcoghiaeiiaaGreat.VG
set_option linter.unusedVariables false
namespace Go.VB.Srt
structure SWO {α:Type} (lt:α→α→Bool):Prop where
 irr:∀ x,lt x x=false
 neg:∀ x y z,lt x z=true→lt x y=true∨lt y z=true
 asy:∀ x y,lt x y=true→lt y x=false
section
variable {α:Type} {lt:α→α→Bool}
def Le (lt:α→α→Bool) (x y:α):Prop:=lt y x=false
theorem SWO.refl (O:SWO lt) (x:α):Le lt x x:=O.irr x
theorem SWO.trans (O:SWO lt) {x y z:α} (h:Le lt x y) (k:Le lt y z):Le lt x z:=by
 unfold Le at*
 cases hz:lt z x with
 |false=>rfl
 |true=>
  rcases O.neg z y x hz with h1|h1
  ·rw [h1] at k;cases k
  ·rw [h1] at h;cases h
theorem SWO.of_lt (O:SWO lt) {x y:α} (h:lt x y=true):Le lt x y:=O.asy x y h
def swp (f:Nat→α) (i j:Nat):Nat→α:=fun k=>if k=i then f j else if k=j then f i else f k
theorem swp_i (f:Nat→α) (i j:Nat):swp f i j i=f j:=by simp [swp]
theorem swp_j (f:Nat→α) (i j:Nat):swp f i j j=f i:=by
 unfold swp;split
 ·rename_i h;rw [h]
 ·simp
theorem swp_o (f:Nat→α) {i j k:Nat} (hi:k≠i) (hj:k≠j):swp f i j k=f k:=by simp [swp,hi,hj]
inductive Seg (a b:Nat):(Nat→α)→(Nat→α)→Prop
 |refl (f:Nat→α):Seg a b f f
 |step {f g:Nat→α} (i j:Nat) (hi:a≤i) (hi':i<b) (hj:a≤j) (hj':j<b) (h:Seg a b f g):Seg a b f (swp g i j)
theorem Seg.trans {a b:Nat} {f g h:Nat→α} (p:Seg a b f g) (q:Seg a b g h):Seg a b f h:=by
 induction q with
 |refl=>exact p
 |step i j h1 h2 h3 h4 _ ih=>exact .step i j h1 h2 h3 h4 ih
theorem Seg.mono {a b a' b':Nat} (ha:a'≤a) (hb:b≤b') {f g:Nat→α} (p:Seg a b f g):Seg a' b' f g:=by
 induction p with
 |refl=>exact .refl _
 |step i j h1 h2 h3 h4 _ ih=>exact .step i j (by omega) (by omega) (by omega) (by omega) ih
theorem Seg.one {a b:Nat} (f:Nat→α) {i j:Nat} (h1:a≤i) (h2:i<b) (h3:a≤j) (h4:j<b):Seg a b f (swp f i j):=.step i j h1 h2 h3 h4 (.refl f)
theorem Seg.all {a b:Nat} {f g:Nat→α} (p:Seg a b f g) {Q:α→Prop} (h:∀ k,a≤k→k<b→Q (f k)):∀ k,a≤k→k<b→Q (g k):=by
 induction p with
 |refl=>exact h
 |step i j h1 h2 h3 h4 _ ih=>
  intro k hk hk'
  unfold swp
  split
  ·exact ih j h3 h4
  ·split
   ·exact ih i h1 h2
   ·exact ih k hk hk'
theorem Seg.out {a b:Nat} {f g:Nat→α} (p:Seg a b f g):∀ k,k<a∨b≤k→g k=f k:=by
 induction p with
 |refl=>exact fun _ _=>rfl
 |step i j h1 h2 h3 h4 _ ih=>
  intro k hk
  rw [swp_o _ (by omega) (by omega)]
  exact ih k hk
def tab (f:Nat→α) (n:Nat):List α:=(List.range n).map f
theorem zDJ (f:Nat→α) (n:Nat):(tab f n).length=n:=by simp [tab]
theorem zKC (f:Nat→α) {n k:Nat} (h:k<n):(tab f n)[k]?=some (f k):=by simp [tab,h]
theorem zRK (l:List α) (f:Nat→α) (h:∀ k x,l[k]?=some x→f k=x):tab f l.length=l:=by
 apply List.ext_getElem?
 intro k
 rcases Nat.lt_or_ge k l.length with h1|h1
 ·rw [zKC f h1]
  have:l[k]?=some l[k]:=by simp [h1]
  rw [h k _ this,this]
 ·rw [List.getElem?_eq_none (by rw [zDJ];exact h1),List.getElem?_eq_none h1]
theorem zRp (f:Nat→α) {n i:Nat} (h:i<n) (x:α):(tab f n).set i x=tab (fun k=>if k=i then x else f k) n:=by
 apply List.ext_getElem?
 intro k
 rcases Nat.lt_or_ge k n with h1|h1
 ·rw [zKC (fun k=>if k=i then x else f k) h1,List.getElem?_set]
  by_cases hk:i=k
  ·subst hk;simp [zDJ,h]
  ·rw [if_neg hk,zKC f h1,if_neg (fun e=>hk e.symm)]
 ·rw [List.getElem?_eq_none (by rw [List.length_set,zDJ];exact h1),List.getElem?_eq_none (by rw [zDJ];exact h1)]
theorem zRW (f:Nat→α) {n i j:Nat} (hi:i<n) (hj:j<n):((tab f n).set i (f j)).set j (f i)=tab (swp f i j) n:=by
 rw [zRp f hi,zRp _ hj]
 congr 1
 funext k
 unfold swp
 by_cases h1:k=i<;>by_cases h2:k=j
 ·subst h1;subst h2;simp
 ·simp [h1,h2];intro e;exact absurd (h1.trans e) (fun e'=>h2 e')
 ·simp [h1,h2];intro e;rw [← e]
 ·simp [h1,h2]
theorem zRv (f:Nat→α) {n i j:Nat} (hi:i<n) (hj:j<n):(tab (swp f i j) n).Perm (tab f n):=by
 rw [← zRW f hi hj]
 have h1:=@List.set_set_perm _ (tab f n) i j (by rw [zDJ];exact hi) (by rw [zDJ];exact hj)
 simpa [tab] using h1
theorem Seg.perm {a b n:Nat} (hb:b≤n) {f g:Nat→α} (p:Seg a b f g):(tab g n).Perm (tab f n):=by
 induction p with
 |refl=>exact .refl _
 |step i j h1 h2 h3 h4 _ ih=>exact (zRv _ (by omega) (by omega)).trans ih
def zBm (lt:α→α→Bool) (a b:Nat) (f:Nat→α):Prop:=∀ i j,a≤i→i<j→j<b→Le lt (f i) (f j)
theorem zBm.small {a b:Nat} {f:Nat→α} (h:b≤a+1):zBm lt a b f:=fun i j h1 h2 h3=>by omega
theorem zBm.congr {a b:Nat} {f g:Nat→α} (h:zBm lt a b f) (hg:∀ k,a≤k→k<b→g k=f k):zBm lt a b g:=fun i j h1 h2 h3=>by
 rw [hg i h1 (by omega),hg j (by omega) h3];exact h i j h1 h2 h3
def Hole (lt:α→α→Bool) (a i j:Nat) (f:Nat→α):Prop:=(∀ p q,a≤p→p<q→q≤i→p≠j→q≠j→Le lt (f p) (f q))∧∀ q,j<q→q≤i→Le lt (f j) (f q)
theorem Hole.start {a i:Nat} {f:Nat→α} (h:zBm lt a i f):Hole lt a i i f:=⟨fun p q h1 h2 h3 h4 h5=>h p q h1 h2 (by omega),fun q h1 h2=>by omega⟩
theorem Hole.done (O:SWO lt) {a i j:Nat} {f:Nat→α} (h:Hole lt a i j f) (hj:j≤a∨Le lt (f (j - 1)) (f j)):zBm lt a (i+1) f:=by
 intro p q h1 h2 h3
 by_cases hp:p=j
 ·subst hp;exact h.2 q h2 (by omega)
 by_cases hq:q=j
 ·subst hq
  rcases hj with hj|hj
  ·omega
  ·by_cases hpj:p=q - 1
   ·rw [hpj];exact hj
   ·exact O.trans (h.1 p (q - 1) h1 (by omega) (by omega) hp (by omega)) hj
 ·exact h.1 p q h1 h2 (by omega) hp hq
theorem Hole.step (O:SWO lt) {a i j:Nat} {f:Nat→α} (h:Hole lt a i j f) (ha:a<j) (hi:j≤i) (hl:lt (f j) (f (j - 1))=true):Hole lt a i (j - 1) (swp f j (j - 1)):=by
 refine ⟨fun p q h1 h2 h3 h4 h5=>?_,fun q h1 h2=>?_⟩
 ·have e:∀ k,k≠j - 1→swp f j (j - 1) k=f (if k=j then j - 1 else k):=fun k hk=>by
   unfold swp
   by_cases h:k=j
   ·simp [h]
   ·simp [h,hk]
  rw [e p h4,e q h5]
  by_cases hp:p=j
  ·rw [if_pos hp,if_neg (by omega)]
   exact h.1 (j - 1) q (by omega) (by omega) h3 (by omega) (by omega)
  ·rw [if_neg hp]
   by_cases hq:q=j
   ·rw [if_pos hq]
    exact h.1 p (j - 1) h1 (by omega) (by omega) hp (by omega)
   ·rw [if_neg hq];exact h.1 p q h1 h2 h3 hp hq
 ·rw [swp_j]
  by_cases hq:q=j
  ·rw [hq,swp_i];exact O.of_lt hl
  ·rw [swp_o f hq (by omega)];exact h.2 q (by omega) h2
def Child (c i:Nat):Prop:=c=2*i+1∨c=2*i+2
def Hp (lt:α→α→Bool) (o lo hi:Nat) (f:Nat→α):Prop:=∀ i c,lo≤i→Child c i→c<hi→Le lt (f (o+c)) (f (o+i))
structure HpX (lt:α→α→Bool) (o lo hi r:Nat) (f:Nat→α):Prop where
 up:∀ i c,lo≤i→i≠r→Child c i→c<hi→Le lt (f (o+c)) (f (o+i))
 over:∀ p c,lo≤p→Child r p→Child c r→c<hi→Le lt (f (o+c)) (f (o+p))
theorem HpX.start {o lo hi:Nat} {f:Nat→α} (h:Hp lt o (lo+1) hi f):HpX lt o lo hi lo f:=
 ⟨fun i c h1 h2 h3 h4=>h i c (by omega) h3 h4,fun p c h1 h2=>by unfold Child at h2;omega⟩
theorem HpX.done (O:SWO lt) {o lo hi r:Nat} {f:Nat→α} (h:HpX lt o lo hi r f) (hr:∀ c,Child c r→c<hi→Le lt (f (o+c)) (f (o+r))):Hp lt o lo hi f:=fun i c h1 h2 h3=>by
 by_cases hi:i=r
 ·subst hi;exact hr c h2 h3
 ·exact h.up i c h1 hi h2 h3
theorem HpX.step (O:SWO lt) {o lo hi r b:Nat} {f:Nat→α} (h:HpX lt o lo hi r f) (hlo:lo≤r) (hb:Child b r) (hbh:b<hi) (hmax:∀ c,Child c r→c<hi→Le lt (f (o+c)) (f (o+b))) (hl:lt (f (o+r)) (f (o+b))=true):
  HpX lt o lo hi b (swp f (o+r) (o+b)):=by
 have hrb:r<b:=by unfold Child at hb;omega
 have oth:∀ k,k≠r→k≠b→swp f (o+r) (o+b) (o+k)=f (o+k):=fun k h1 h2=>swp_o f (by omega) (by omega)
 have er:swp f (o+r) (o+b) (o+r)=f (o+b):=swp_i f _ _
 have eb:swp f (o+r) (o+b) (o+b)=f (o+r):=swp_j f _ _
 refine ⟨fun i c h1 h2 h3 h4=>?_,fun p c h1 h2 h3 h4=>?_⟩
 ·by_cases hi:i=r
  ·subst hi
   rw [er]
   by_cases hc:c=b
   ·subst hc;rw [eb];exact O.of_lt hl
   ·rw [oth c (by unfold Child at h3;omega) hc];exact hmax c h3 h4
  ·rw [oth i hi h2]
   by_cases hc:c=r
   ·subst hc;rw [er];exact h.over i b h1 h3 hb hbh
   ·rw [oth c hc (by unfold Child at h3 hb;omega)];exact h.up i c h1 hi h3 h4
 ·obtain rfl:p=r:=by unfold Child at h2 hb;omega
  rw [er,oth c (by unfold Child at h3 h2;omega) (by unfold Child at h3;omega)]
  exact h.up b c (by omega) (by omega) h3 h4
theorem Hp.root (O:SWO lt) {o hi:Nat} {f:Nat→α} (h:Hp lt o 0 hi f):∀ n k,k≤n→k<hi→Le lt (f (o+k)) (f o)
 |0,k,hk,_=>by
  obtain rfl:k=0:=by omega
  exact O.refl _
 |n+1,k,hk,hk'=>by
  by_cases h0:k=0
  ·subst h0;exact O.refl _
  ·exact O.trans (h ((k - 1) / 2) k (by omega) (by unfold Child;omega) hk') (Hp.root O h n ((k - 1) / 2) (by omega) (by omega))
structure HS (lt:α→α→Bool) (a b i:Nat) (g:Nat→α):Prop where
 hp:Hp lt a 0 i g
 so:zBm lt (a+i) b g
 le:∀ k q,a≤k→k<a+i→a+i≤q→q<b→Le lt (g k) (g q)
theorem HS.step (O:SWO lt) {a b i:Nat} {g h:Nat→α} (hs:HS lt a b (i+1) g) (hib:a+i+1≤b) (hseg:Seg a (a+i) (swp g a (a+i)) h) (hp:Hp lt a 0 i h):HS lt a b i h:=by
 have hroot:∀ k,k<i+1→Le lt (g (a+k)) (g a):=fun k hk=>Hp.root O hs.hp k k (Nat.le_refl _) hk
 have out:∀ q,a+i≤q→h q=swp g a (a+i) q:=fun q hq=>hseg.out q (.inr hq)
 have oi:h (a+i)=g a:=by rw [out _ (Nat.le_refl _),swp_j]
 have oq:∀ q,a+i<q→h q=g q:=fun q hq=>by rw [out q (by omega),swp_o g (by omega) (by omega)]
 refine ⟨hp,fun p q h1 h2 h3=>?_,?_⟩
 ·rw [oq q (by omega)]
  by_cases hpi:p=a+i
  ·rw [hpi,oi];exact hs.le a q (Nat.le_refl _) (by omega) (by omega) h3
  ·rw [oq p (by omega)];exact hs.so p q (by omega) h2 h3
 ·intro k q hk hk' hq hq'
  refine Seg.all hseg (Q:=fun z=>∀ q,a+i≤q→q<b→Le lt z (h q)) (fun k hk hk' q hq hq'=>?_) k hk hk' q hq hq'
  have hz:∃ m,m<i+1∧swp g a (a+i) k=g (a+m):=by
   by_cases hka:k=a
   ·exact ⟨i,by omega,by rw [hka,swp_i]⟩
   ·exact ⟨k - a,by omega,by rw [swp_o g hka (by omega)];congr 1;omega⟩
  obtain ⟨m,hm,e⟩:=hz
  rw [e]
  by_cases hqi:q=a+i
  ·rw [hqi,oi];exact hroot m hm
  ·rw [oq q (by omega)];exact hs.le (a+m) q (by omega) (by omega) (by omega) hq'
end
end Go.VB.Srt
set_option linter.unusedVariables false
set_option linter.unusedSimpArgs false
namespace Go.VB
open Go.RowKit
def setB (w:World) (b:Nat) (o:Obj):World:={w with heap:=w.heap.setIfInBounds b o}
theorem zJy {w:World} {b:Nat} {o0 o:Obj} (h:w.heap[b]?=some o0):(setB w b o).heap[b]?=some o:=by
 have hlt:b<w.heap.size:=(Array.getElem?_eq_some_iff.1 h).1
 simp [setB,hlt]
theorem zJM {w:World} {b:Nat} {o:Obj}:w.grownBy (setB w b o) (some b):=
 ⟨rfl,rfl,rfl,by simp [setB],fun k hk hne=>by
  have:b≠k:=fun e=>hne (by rw [e])
  simp [setB,this]⟩
structure KeyOk {κ:Type} (P:Program) (kt:TypeId) (ek:κ→Value):Prop where
 chk:∀ b x w,(Instr.checkKey b 10000 kt (ek x)).run P w=.ok () w
 find:∀ x (es:List MapEntry) w,(∀ e∈es,∃ y,e.key=ek y)→
  ((Instr.findKey kt (ek x) es).run P w=.ok none w∧∀ e∈es,e.key≠ek x)∨(∃ i e,(Instr.findKey kt (ek x) es).run P w=.ok (some (i,e.val)) w∧es[i]?=some e∧e.key=ek x)
 stay:∀ x w,(Instr.keyThatStays (ek x) (ek x)).run P w=.ok (ek x) w
 inj:∀ x y,ek x=ek y→x=y
theorem beqBA (x y:ByteArray):(x==y)=decide (x=y):=by rw [beq_toListBytes,zKP]
theorem run_findKey' {P:Program} {w:World} {kt:TypeId} {d:TypeDesc} (hd:P.underlying kt=some d) {k:Value} {es:List MapEntry} {r:Option (Nat × Value)} (h:Instr.findNow d k es 0=some r):
  (Instr.findKey kt k es).run P w=.ok r w:=by
 simp [Instr.findKey,run_underlying hd,h]
theorem zNb {x:ByteArray}:∀ (es:List MapEntry) (i:Nat),(∀ e∈es,∃ y:ByteArray,e.key=.string y)→
  (Instr.findNow .string (.string x) es i=some none∧∀ e∈es,e.key≠.string x)∨(∃ j e,Instr.findNow .string (.string x) es i=some (some (i+j,e.val))∧es[j]?=some e∧e.key=.string x)
 |[],i,_=>.inl ⟨rfl,by simp⟩
 |e::es,i,h=>by
  obtain ⟨y,hy⟩:=h e (by simp)
  by_cases hxy:x=y
  ·subst hxy
   exact .inr ⟨0,e,by simp [Instr.findNow,hy,Instr.sameNow,beqBA],rfl,hy⟩
  ·have hf:Instr.findNow .string (.string x) (e::es) i=Instr.findNow .string (.string x) es (i+1):=by
    simp [Instr.findNow,hy,Instr.sameNow,beqBA,hxy]
   rcases zNb es (i+1) (fun e' he'=>h e' (by simp [he'])) with ⟨h1,h2⟩|⟨j,e',h1,h2,h3⟩
   ·refine .inl ⟨hf.trans h1,fun e' he'=>?_⟩
    rcases List.mem_cons.1 he' with rfl|he'
    ·rw [hy];simpa using fun h=>hxy h.symm
    ·exact h2 e' he'
   ·exact .inr ⟨j+1,e',by rw [hf,h1];congr 3;omega,by simpa using h2,h3⟩
theorem KeyOk.string {P:Program} {kt:TypeId} (hk:P.underlying kt=some .string):KeyOk P kt Value.string where
 chk b x w:=MapKept.run_checkKey hk (by simp [MapKept.IsKey]) b 9999
 find x es w h:=by
  rcases zNb es 0 h with ⟨h1,h2⟩|⟨j,e,h1,h2,h3⟩
  ·exact .inl ⟨run_findKey' hk h1,h2⟩
  ·exact .inr ⟨j,e,by rw [run_findKey' hk h1];simp,h2,h3⟩
 stay x w:=by simp [Instr.keyThatStays,Instr.sameBits,beqBA]
 inj x y h:=by injection h
theorem zNj {q:IntKind} {x:Int}:∀ (es:List MapEntry) (i:Nat),(∀ e∈es,∃ y:Int,e.key=.int q y)→
  (Instr.findNow (.int q) (.int q x) es i=some none∧∀ e∈es,e.key≠.int q x)∨(∃ j e,Instr.findNow (.int q) (.int q x) es i=some (some (i+j,e.val))∧es[j]?=some e∧e.key=.int q x)
 |[],i,_=>.inl ⟨rfl,by simp⟩
 |e::es,i,h=>by
  obtain ⟨y,hy⟩:=h e (by simp)
  by_cases hxy:x=y
  ·subst hxy
   exact .inr ⟨0,e,by simp [Instr.findNow,hy,Instr.sameNow,beqBA],rfl,hy⟩
  ·have hf:Instr.findNow (.int q) (.int q x) (e::es) i=Instr.findNow (.int q) (.int q x) es (i+1):=by
    have hb:(x==y)=false:=by simpa using hxy
    simp [Instr.findNow,hy,Instr.sameNow,hb]
   rcases zNj es (i+1) (fun e' he'=>h e' (by simp [he'])) with ⟨h1,h2⟩|⟨j,e',h1,h2,h3⟩
   ·refine .inl ⟨hf.trans h1,fun e' he'=>?_⟩
    rcases List.mem_cons.1 he' with rfl|he'
    ·rw [hy];simpa using fun h=>hxy h.symm
    ·exact h2 e' he'
   ·exact .inr ⟨j+1,e',by rw [hf,h1];congr 3;omega,by simpa using h2,h3⟩
theorem KeyOk.int {P:Program} {kt:TypeId} {q:IntKind} (hk:P.underlying kt=some (.int q)):KeyOk P kt (Value.int q) where
 chk b x w:=MapKept.run_checkKey hk (by simp [MapKept.IsKey]) b 9999
 find x es w h:=by
  rcases zNj es 0 h with ⟨h1,h2⟩|⟨j,e,h1,h2,h3⟩
  ·exact .inl ⟨run_findKey' hk h1,h2⟩
  ·exact .inr ⟨j,e,by rw [run_findKey' hk h1];simp,h2,h3⟩
 stay x w:=by simp [Instr.keyThatStays,Instr.sameBits,beqBA]
 inj x y h:=by injection h
theorem zMQ {κ:Type} {P:Program} {kt:TypeId} {ek:κ→Value} (he:∀ x y w,∃ r,(Op.equal kt (ek x) (ek y)).run P w=.ok r w∧(r=true↔x=y)) (hinj:∀ x y,ek x=ek y→x=y) {x:κ} {w:World}:∀ (es:List MapEntry) (i:Nat),(∀ e∈es,∃ y,e.key=ek y)→
  ((Instr.findAsking kt (ek x) es i).run P w=.ok none w∧∀ e∈es,e.key≠ek x)∨(∃ j e,(Instr.findAsking kt (ek x) es i).run P w=.ok (some (i+j,e.val)) w∧es[j]?=some e∧e.key=ek x)
 |[],i,_=>.inl ⟨rfl,by simp⟩
 |e::es,i,h=>by
  obtain ⟨y,hy⟩:=h e (by simp)
  obtain ⟨r,h1,h2⟩:=he x y w
  cases r with
  |true=>
   obtain rfl:=h2.1 rfl
   exact .inr ⟨0,e,by simp [Instr.findAsking,hy,h1],rfl,hy⟩
  |false=>
   have hne:x≠y:=fun e1=>by have:=h2.2 e1;cases this
   have hf:(Instr.findAsking kt (ek x) (e::es) i).run P w=(Instr.findAsking kt (ek x) es (i+1)).run P w:=by
    simp [Instr.findAsking,hy,h1]
   rcases zMQ he hinj es (i+1) (fun e' he'=>h e' (by simp [he'])) with ⟨h3,h4⟩|⟨j,e',h3,h4,h5⟩
   ·refine .inl ⟨hf.trans h3,fun e' he'=>?_⟩
    rcases List.mem_cons.1 he' with rfl|he'
    ·rw [hy];exact fun h=>hne (hinj _ _ h).symm
    ·exact h4 e' he'
   ·exact .inr ⟨j+1,e',by rw [hf,h3];congr 3;omega,by simpa using h4,h5⟩
theorem zO2 {F:Array Field} {k:Value} {e:MapEntry} {es:List MapEntry} {i:Nat}:Instr.findNow (.struct F) k (e::es) i=none:=by
 simp [Instr.findNow,Instr.sameNow]
theorem KeyOk.struct {κ:Type} {P:Program} {kt:TypeId} {ek:κ→Value} {F:Array Field} (hk:P.underlying kt=some (.struct F)) (hc:∀ b x w,(Instr.checkKey b 10000 kt (ek x)).run P w=.ok () w)
  (he:∀ x y w,∃ r,(Op.equal kt (ek x) (ek y)).run P w=.ok r w∧(r=true↔x=y)) (hs:∀ x,Instr.sameBits 10000 (ek x) (ek x)=true) (hinj:∀ x y,ek x=ek y→x=y):KeyOk P kt ek where
 chk:=hc
 find x es w h:=by
  cases es with
  |nil=>exact .inl ⟨run_findKey' hk rfl,by simp⟩
  |cons e es=>
   have h0:(Instr.findKey kt (ek x) (e::es)).run P w=(Instr.findAsking kt (ek x) (e::es) 0).run P w:=by
    simp [Instr.findKey,run_underlying hk,zO2]
   rcases zMQ he hinj (x:=x) (w:=w) (e::es) 0 h with ⟨h1,h2⟩|⟨j,e',h1,h2,h3⟩
   ·exact .inl ⟨h0.trans h1,h2⟩
   ·exact .inr ⟨j,e',by rw [h0,h1];simp,h2,h3⟩
 stay x w:=by simp [Instr.keyThatStays,hs]
 inj:=hinj
structure MapAt {κ ν:Type} (ek:κ→Value) (ev:ν→Value) (w:World) (b:Nat) (f:κ→Option ν) (es:Array MapEntry) (clock:Nat):Prop where
 blk:w.heap[b]?=some (.map es clock)
 sound:∀ (i:Nat) (e:MapEntry),es[i]?=some e→∃ k v,e.key=ek k∧e.val=ev v∧f k=some v∧e.born<clock
 full:∀ k v,f k=some v→∃ (i:Nat) (e:MapEntry),es[i]?=some e∧e.key=ek k∧e.val=ev v
 one:∀ (i j:Nat) (e e':MapEntry),es[i]?=some e→es[j]?=some e'→e.key=e'.key∨e.born=e'.born→i=j
def MapIs {κ ν:Type} (ek:κ→Value) (ev:ν→Value) (w:World) (b:Nat) (f:κ→Option ν):Prop:=∃ es clock,MapAt ek ev w b f es clock
theorem MapIs.bel {κ ν:Type} {ek:κ→Value} {ev:ν→Value} {w w':World} {b:Nat} {f:κ→Option ν} (h:MapIs ek ev w b f) (hb:Bel w w'):MapIs ek ev w' b f:=
 let ⟨es,c,m⟩:=h;⟨es,c,hb.blk m.blk,m.sound,m.full,m.one⟩
theorem MapIs.grown {κ ν:Type} {ek:κ→Value} {ev:ν→Value} {w w':World} {b:Nat} {f:κ→Option ν} {row:Option Nat} (h:MapIs ek ev w b f) (hg:w.grownBy w' row) (hr:row≠some b):MapIs ek ev w' b f:=
 let ⟨es,c,m⟩:=h;⟨es,c,(hg.block b (Array.getElem?_eq_some_iff.1 m.blk).1 (fun e=>hr e.symm)).trans m.blk,m.sound,m.full,m.one⟩
theorem MapIs.lt {κ ν:Type} {ek:κ→Value} {ev:ν→Value} {w:World} {b:Nat} {f:κ→Option ν} (h:MapIs ek ev w b f):b<w.heap.size:=
 let ⟨es,c,m⟩:=h;(Array.getElem?_eq_some_iff.1 m.blk).1
theorem MapIs.new {κ ν:Type} (ek:κ→Value) (ev:ν→Value) (w:World):MapIs ek ev (w.alloc (.map #[] 0)) w.heap.size (fun _=>none):=
 ⟨#[],0,zOq w _,by simp,by simp,by simp⟩
theorem At.grown {w w':World} {a:Addr} {cs:List Value} {row:Option Nat} (h:At w a cs) (hg:w.grownBy w' row) (hr:row≠some a.block):At w' a cs:=fun j v hj=>by
 refine hg.cell (h j v hj) (fun e=>hr ?_)
 rw [← e];unfold Addr.add;split<;>rfl
section
variable {κ ν:Type} {ek:κ→Value} {ev:ν→Value} {P:Program} {kt et mt:TypeId} {w:World} {b:Nat} {f:κ→Option ν}
open Classical in
noncomputable def upd (f:κ→Option ν) (k:κ) (v:ν):κ→Option ν:=fun x=>if x=k then some v else f x
theorem zEE (f:κ→Option ν) (k:κ) (v:ν):upd f k v k=some v:=by simp [upd]
theorem zB9 (f:κ→Option ν) {k x:κ} (v:ν) (h:x≠k):upd f k v x=f x:=by simp [upd,h]
theorem MapIs.run_look (h:MapIs ek ev w b f) (K:KeyOk P kt ek) (hm:P.underlying mt=some (.map kt et)) {z:ν} (hz:∀ w,(zeroValue et).run P w=.ok (ev z) w) (x:κ):
  (Instr.lookup mt (.map (some b)) (ek x) false).run P w=.ok (ev ((f x).getD z)) w:=by
 obtain ⟨es,c,m⟩:=h
 have hks:∀ e∈es.toList,∃ y,e.key=ek y:=fun e he=>by
  obtain ⟨i,hi⟩:=List.getElem?_of_mem he
  obtain ⟨k,v,h1,_⟩:=m.sound i e (by simpa using hi)
  exact ⟨k,h1⟩
 rcases K.find x es.toList w hks with ⟨h1,h2⟩|⟨i,e,h1,h2,h3⟩
 ·have hn:f x=none:=by
   cases hf:f x with
   |none=>rfl
   |some v=>
    obtain ⟨i,e,h3,h4,_⟩:=m.full x v hf
    exact absurd h4 (h2 e (List.mem_of_getElem? (i:=i) (by simpa using h3)))
  simp [Instr.lookup,run_underlying hm,MapKept.run_getObj_map m.blk,K.chk,h1,hz,hn,Result.andThen]
 ·obtain ⟨k,v,h4,h5,h6,_⟩:=m.sound i e (by simpa using h2)
  obtain rfl:k=x:=K.inj _ _ (h4.symm.trans h3)
  simp [Instr.lookup,run_underlying hm,MapKept.run_getObj_map m.blk,K.chk,h1,h5,h6,Result.andThen]
theorem MapIs.run_lookOk (h:MapIs ek ev w b f) (K:KeyOk P kt ek) (hm:P.underlying mt=some (.map kt et)) {z:ν} (hz:∀ w,(zeroValue et).run P w=.ok (ev z) w) (x:κ):
  (Instr.lookup mt (.map (some b)) (ek x) true).run P w=.ok (.tuple #[ev ((f x).getD z),.bool (f x).isSome]) w:=by
 obtain ⟨es,c,m⟩:=h
 have hks:∀ e∈es.toList,∃ y,e.key=ek y:=fun e he=>by
  obtain ⟨i,hi⟩:=List.getElem?_of_mem he
  obtain ⟨k,v,h1,_⟩:=m.sound i e (by simpa using hi)
  exact ⟨k,h1⟩
 rcases K.find x es.toList w hks with ⟨h1,h2⟩|⟨i,e,h1,h2,h3⟩
 ·have hn:f x=none:=by
   cases hf:f x with
   |none=>rfl
   |some v=>
    obtain ⟨i,e,h3,h4,_⟩:=m.full x v hf
    exact absurd h4 (h2 e (List.mem_of_getElem? (i:=i) (by simpa using h3)))
  simp [Instr.lookup,run_underlying hm,MapKept.run_getObj_map m.blk,K.chk,h1,hz,hn,Result.andThen]
 ·obtain ⟨k,v,h4,h5,h6,_⟩:=m.sound i e (by simpa using h2)
  obtain rfl:k=x:=K.inj _ _ (h4.symm.trans h3)
  simp [Instr.lookup,run_underlying hm,MapKept.run_getObj_map m.blk,K.chk,h1,h5,h6,Result.andThen]
theorem MapAt.push {es:Array MapEntry} {c:Nat} (m:MapAt ek ev w b f es c) {x:κ} (hinj:∀ x y,ek x=ek y→x=y) (hno:∀ e∈es.toList,e.key≠ek x) (v:ν) {w':World} (hw:w'.heap[b]?=some (.map (es.push ⟨ek x,ev v,c⟩) (c+1))):
  MapAt ek ev w' b (upd f x v) (es.push ⟨ek x,ev v,c⟩) (c+1):=by
 have hmem:∀ {i e},es[i]?=some e→e∈es.toList:=fun {i e} h=>List.mem_of_getElem? (i:=i) (by simpa using h)
 refine ⟨hw,fun i e he=>?_,fun k u hk=>?_,fun i j e e' he he' hor=>?_⟩
 ·rw [Array.getElem?_push] at he
  split at he
  ·cases he;exact ⟨x,v,rfl,rfl,zEE f x v,by simp⟩
  ·obtain ⟨k,u,h1,h2,h3,h4⟩:=m.sound i e he
   have hkx:k≠x:=fun e1=>hno e (hmem he) (by rw [h1,e1])
   exact ⟨k,u,h1,h2,by rw [zB9 f v hkx];exact h3,by omega⟩
 ·by_cases hkx:k=x
  ·subst hkx
   rw [zEE] at hk;cases hk
   exact ⟨es.size,⟨ek k,ev v,c⟩,by simp,rfl,rfl⟩
  ·rw [zB9 f v hkx] at hk
   obtain ⟨i,e,h1,h2,h3⟩:=m.full k u hk
   have hi:i<es.size:=(Array.getElem?_eq_some_iff.1 h1).1
   exact ⟨i,e,by rw [Array.getElem?_push,if_neg (by omega)];exact h1,h2,h3⟩
 ·rw [Array.getElem?_push] at he he'
  split at he<;>split at he'
  ·omega
  ·cases he
   obtain ⟨k,u,h1,h2,h3,h4⟩:=m.sound j e' he'
   rcases hor with h|h
   ·exact absurd h.symm (hno e' (hmem he'))
   ·simp at h;omega
  ·cases he'
   obtain ⟨k,u,h1,h2,h3,h4⟩:=m.sound i e he
   rcases hor with h|h
   ·exact absurd h (hno e (hmem he))
   ·simp at h;omega
  ·exact m.one i j e e' he he' hor
theorem MapAt.set {es:Array MapEntry} {c:Nat} (m:MapAt ek ev w b f es c) {x:κ} (hinj:∀ x y,ek x=ek y→x=y) {i:Nat} {e:MapEntry} (hi:es[i]?=some e) (hx:e.key=ek x) (v:ν) {g:MapEntry→MapEntry}
  (hg:(g e).key=ek x∧(g e).val=ev v∧(g e).born=e.born) {w':World} (hw:w'.heap[b]?=some (.map (es.modify i g) c)):MapAt ek ev w' b (upd f x v) (es.modify i g) c:=by
 have get:∀ j e',(es.modify i g)[j]?=some e'→(j=i∧e'=g e)∨(j≠i∧es[j]?=some e'):=fun j e' h=>by
  rw [Array.getElem?_modify] at h
  split at h
  ·rename_i hj;subst hj
   rw [hi] at h;simp at h;exact .inl ⟨rfl,h.symm⟩
  ·rename_i hj;exact .inr ⟨fun h=>hj h.symm,h⟩
 have geti:(es.modify i g)[i]?=some (g e):=by rw [Array.getElem?_modify,if_pos rfl,hi];rfl
 have getn:∀ j e',j≠i→es[j]?=some e'→(es.modify i g)[j]?=some e':=fun j e' h h'=>by rw [Array.getElem?_modify,if_neg (fun h''=>h h''.symm)];exact h'
 obtain ⟨k0,v0,h1,h2,h3,h4⟩:=m.sound i e hi
 obtain rfl:k0=x:=hinj _ _ (h1.symm.trans hx)
 refine ⟨hw,fun j e' he=>?_,fun k u hk=>?_,fun j l e1 e2 he he' hor=>?_⟩
 ·rcases get j e' he with ⟨rfl,rfl⟩|⟨hj,he⟩
  ·exact ⟨k0,v,hg.1,hg.2.1,zEE _ _ _,by rw [hg.2.2];exact h4⟩
  ·obtain ⟨k,u,h5,h6,h7,h8⟩:=m.sound j e' he
   have hk:k≠k0:=fun e1=>hj (m.one j i e' e he hi (.inl (by rw [h5,hx,e1])))
   exact ⟨k,u,h5,h6,by rw [zB9 f v hk];exact h7,h8⟩
 ·by_cases hk0:k=k0
  ·subst hk0
   rw [zEE] at hk;cases hk
   exact ⟨i,_,geti,hg.1,hg.2.1⟩
  ·rw [zB9 f v hk0] at hk
   obtain ⟨j,e',h5,h6,h7⟩:=m.full k u hk
   have hj:j≠i:=fun e1=>by subst e1;rw [hi] at h5;cases h5;exact hk0 (hinj _ _ (h6.symm.trans hx))
   exact ⟨j,e',getn j e' hj h5,h6,h7⟩
 ·rcases get j e1 he with ⟨hj,hje⟩|⟨hj,hje⟩
  ·rcases get l e2 he' with ⟨hl,hle⟩|⟨hl,hle⟩
   ·rw [hj,hl]
   ·rw [hj]
    rw [hje] at hor
    exact m.one _ _ e e2 hi hle (by rw [hg.1,hg.2.2] at hor;rw [hx];exact hor)
  ·rcases get l e2 he' with ⟨hl,hle⟩|⟨hl,hle⟩
   ·rw [hl]
    rw [hle] at hor
    exact m.one _ _ e1 e hje hi (by rw [hg.1,hg.2.2] at hor;rw [hx];exact hor)
   ·exact m.one _ _ e1 e2 hje hle hor
theorem MapAt.keys {es:Array MapEntry} {c:Nat} (m:MapAt ek ev w b f es c):∀ e∈es.toList,∃ y,e.key=ek y:=fun e he=>by
 obtain ⟨i,hi⟩:=List.getElem?_of_mem he
 obtain ⟨k,v,h1,_⟩:=m.sound i e (by simpa using hi)
 exact ⟨k,h1⟩
theorem zRI {k:Option Nat→World→Prop} (H:MapIs ek ev (w.alloc (.map #[] 0)) w.heap.size (fun _=>none)→k (some w.heap.size) (w.alloc (.map #[] 0))):opE P Value.map (Instr.makeMap mt none) w k:=⟨_,_,rfl,H (MapIs.new ek ev w)⟩
theorem zUB (h:MapIs ek ev w b f) (K:KeyOk P kt ek) (hm:P.underlying mt=some (.map kt et)) {z:ν} (hz:∀ w,(zeroValue et).run P w=.ok (ev z) w) (x:κ) {k:ν→World→Prop} (H:k ((f x).getD z) w):
  opE P ev (Instr.lookup mt (.map (some b)) (ek x) false) w k:=⟨_,w,h.run_look K hm hz x,H⟩
theorem zUV (h:MapIs ek ev w b f) (K:KeyOk P kt ek) (hm:P.underlying mt=some (.map kt et)) {z:ν} (hz:∀ w,(zeroValue et).run P w=.ok (ev z) w) (x:κ) {k:ν→Prop} (H:k ((f x).getD z)):
  opB P ev (Instr.lookup mt (.map (some b)) (ek x) false) w k:=⟨_,fun w' hb=>(h.bel hb).run_look K hm hz x,H⟩
theorem zTV (h:MapIs ek ev w b f) (K:KeyOk P kt ek) (hm:P.underlying mt=some (.map kt et)) (x:κ) (v:ν) {k:World→Prop} (H:∀ w',MapIs ek ev w' b (upd f x v)→w.grownBy w' (some b)→k w'):
  opU P (Instr.mapUpdate mt (.map (some b)) (ek x) (ev v)) w k:=by
 obtain ⟨es,c,m⟩:=h
 rcases K.find x es.toList w m.keys with ⟨h1,h2⟩|⟨i,e,h1,h2,h3⟩
 ·refine ⟨setB w b (.map (es.push ⟨ek x,ev v,c⟩) (c+1)),?_,H _ ⟨_,_,m.push K.inj h2 v (zJy m.blk)⟩ zJM⟩
  simp [Instr.mapUpdate,run_underlying hm,MapKept.run_getObj_map m.blk,K.chk,h1,MapKept.run_setObj_map _ m.blk,Result.andThen,setB]
 ·have hi:es[i]?=some e:=by simpa using h2
  refine ⟨setB w b (.map (es.modify i fun e=>{e with key:=ek x,val:=ev v}) c),?_,H _ ⟨_,_,m.set K.inj hi h3 v ⟨rfl,rfl,rfl⟩ (zJy m.blk)⟩ zJM⟩
  simp [Instr.mapUpdate,run_underlying hm,MapKept.run_getObj_map m.blk,K.chk,h1,hi,h3,K.stay,MapKept.run_setObj_map _ m.blk,Result.andThen,setB]
theorem zUQ (h:MapIs ek ev w b f) (K:KeyOk P kt ek) (hm:P.underlying mt=some (.map kt et)) {z:ν} (hz:∀ w,(zeroValue et).run P w=.ok (ev z) w) (x:κ) {k:ν × Int→World→Prop}
  (H:∀ (born:Int) w',w.grownBy w' (some b)→MapIs ek ev w' b (upd f x ((f x).getD z))→
   (∀ (v:ν) (K2:World→Prop),(∀ w'',MapIs ek ev w'' b (upd f x v)→w'.grownBy w'' (some b)→K2 w'')→opU P (Instr.entryStore mt (.map (some b)) (.int .i64 born) (ev v)) w' K2)→k ((f x).getD z,born) w'):
  opE P (fun p:ν × Int=>.tuple [ev p.1,.int .i64 p.2].toArray) (Instr.mapEntry mt (.map (some b)) (ek x)) w k:=by
 obtain ⟨es,c,m⟩:=h
 have store:∀ (w':World) (es':Array MapEntry) (c':Nat) (f':κ→Option ν) (i:Nat) (e:MapEntry),MapAt ek ev w' b f' es' c'→es'[i]?=some e→e.key=ek x→
   (∀ v,upd f' x v=upd f x v)→∀ (v:ν) (K2:World→Prop),(∀ w'',MapIs ek ev w'' b (upd f x v)→w'.grownBy w'' (some b)→K2 w'')→opU P (Instr.entryStore mt (.map (some b)) (.int .i64 (e.born:Int)) (ev v)) w' K2:=by
  intro w' es' c' f' i e m' hi hx hf v K2 HK
  have hidx:es'.findIdx? (fun e'=>(e'.born:Int)==(e.born:Int))=some i:=by
   rw [Array.findIdx?_eq_some_iff_getElem]
   have hlt:i<es'.size:=(Array.getElem?_eq_some_iff.1 hi).1
   have he:es'[i]=e:=(Array.getElem?_eq_some_iff.1 hi).2
   refine ⟨hlt,by simp [he],fun j hj=>?_⟩
   have hj':es'[j]?=some es'[j]:=by simp
   simp only [beq_iff_eq]
   intro hb
   have:=m'.one j i es'[j] e hj' hi (.inr (by omega))
   omega
  have m2:=m'.set K.inj hi hx v (g:=fun e'=>{e' with val:=ev v}) ⟨hx,rfl,rfl⟩ (zJy (o:=.map (es'.modify i fun e'=>{e' with val:=ev v}) c') m'.blk)
  rw [hf] at m2
  refine ⟨setB w' b (.map (es'.modify i fun e'=>{e' with val:=ev v}) c'),?_,HK _ ⟨_,_,m2⟩ zJM⟩
  ·simp [Instr.entryStore,MapKept.run_getObj_map m'.blk,asInt,asIntOf,hidx,MapKept.run_setObj_map _ m'.blk,Result.andThen,setB]
 rcases K.find x es.toList w m.keys with ⟨h1,h2⟩|⟨i,e,h1,h2,h3⟩
 ·have hn:f x=none:=by
   cases hf:f x with
   |none=>rfl
   |some v=>
    obtain ⟨i,e,h3,h4,_⟩:=m.full x v hf
    exact absurd h4 (h2 e (List.mem_of_getElem? (i:=i) (by simpa using h3)))
  have m1:=m.push K.inj h2 z (zJy (o:=.map (es.push ⟨ek x,ev z,c⟩) (c+1)) m.blk)
  rw [hn] at H
  refine ⟨(z,(c:Int)),setB w b (.map (es.push ⟨ek x,ev z,c⟩) (c+1)),?_,?_⟩
  ·simp [Instr.mapEntry,run_underlying hm,MapKept.run_getObj_map m.blk,K.chk,h1,hz,MapKept.run_setObj_map _ m.blk,Result.andThen,setB,goInt]
  ·refine H c _ zJM ⟨_,_,m1⟩ ?_
   refine store _ _ _ _ es.size ⟨ek x,ev z,c⟩ m1 (by simp) rfl fun v=>?_
   funext y;simp only [upd];split<;>simp_all
 ·have hi:es[i]?=some e:=by simpa using h2
  obtain ⟨k0,v0,h4,h5,h6,h7⟩:=m.sound i e hi
  obtain rfl:k0=x:=K.inj _ _ (h4.symm.trans h3)
  rw [h6] at H
  have m1:=m.set K.inj hi h3 v0 (g:=fun e=>{e with key:=ek k0}) ⟨rfl,h5,rfl⟩ (zJy (o:=.map (es.modify i fun e=>{e with key:=ek k0}) c) m.blk)
  refine ⟨(v0,(e.born:Int)),setB w b (.map (es.modify i fun e=>{e with key:=ek k0}) c),?_,?_⟩
  ·simp [Instr.mapEntry,run_underlying hm,MapKept.run_getObj_map m.blk,K.chk,h1,hi,h3,h5,K.stay,MapKept.run_setObj_map _ m.blk,Result.andThen,setB,goInt]
  ·refine H e.born _ zJM ⟨_,_,m1⟩ ?_
   refine store _ _ _ _ i {e with key:=ek k0} m1 (by rw [Array.getElem?_modify,if_pos rfl,hi];rfl) rfl fun v=>?_
   funext y;simp only [upd];split<;>simp_all
end
end Go.VB
