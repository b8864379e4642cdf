/- Texts by which the law's calls are walked (part 3): rules, printed conditions, contracts; no condition. -/
import Derived.TacticsIn
import Derived.TacticsInMore
import Derived.Deep.LoopGhost
import Derived.Sort.QuietThIn
import Derived.RangeFuncCalls
import Derived.RangeFuncNested
import Derived.RangeFuncLeaves
import Derived.WalkKit
import Derived.StillTail
import Derived.Test.YtealcoghiaeiiaaGreatProg
import Derived.KernelRfl
import Derived.Deep.WholeRow
import Derived.Laws.StructEq
import Derived.MapFrom
import Derived.Test.YtealcoghiaeiiaaGreatPkTxnSerialB
open Go.Proofs.Tryz renaming prog → zA
open Go.IntKind renaming wrap → zC
open Go.Value renaming pointer → zB, int → zV, string → zZ, bool → xv
open Go.Instr renaming loadAt → zD, storeAt → zK, indexAt → zF, fieldAt → zN, alloc → zf, build → yr, buildSlice → ze
open Nat renaming le_refl → zU, le_trans → zn, lt_of_lt_of_le → yF
open List renaming length_append → zg
set_option linter.unusedVariables false
set_option linter.unusedSimpArgs false
namespace Go.VB
open Go.RowKit
theorem Bel.trans {a b c:World} (h:Bel a b) (k:Bel b c):Bel a c:=Below.trans h ⟨k.os,k.tape,k.output,k.size,λi hi=>k.block i (yF hi h.size)⟩
theorem Bel.alloc (w:World) (o:Obj):Bel w (w.alloc o):=(Below.refl _ _).alloc (zU _) o
theorem Bel.le {a b:World} (h:Bel a b):a.heap.size<=b.heap.size:=h.size
theorem Bel.cell {a b:World} (h:Bel a b) {p:Addr} {v:Value} (hc:a.cell? p=some v):b.cell? p=some v:=
 (Below.cell h (World.block_lt_of_cell? _ _ hc)).trans hc
theorem Bel.blk {a b:World} (h:Bel a b) {k:Nat} {o:Obj} (hc:a.heap[k]?=some o):b.heap[k]?=some o:=
 (h.block k (Array.getElem?_eq_some_iff.1 hc).1).trans hc
theorem size_alloc' (w:World) (o:Obj):(w.alloc o).heap.size=w.heap.size+1:=by show (w.heap.push o).size=_;simp
theorem zKC (w:World) (o:Obj):(w.alloc o).heap[w.heap.size]?=some o:=by show (w.heap.push o)[w.heap.size]?=_;simp
def At (w:World) (a:Addr) (cs:List Value):Prop:=∀ j v,cs[j]?=some v->w.cell? (a.add j)=some v
theorem At.bel {w w':World} {a:Addr} {cs:List Value} (h:At w a cs) (hb:Bel w w'):At w' a cs:=λj v hj=>hb.cell (h j v hj)
theorem add_plain' (g j:Nat):(⟨g,0,none⟩:Addr).add j=⟨g,j,none⟩:=by unfold Addr.add;split<;>simp_all
theorem zGQ (a:Addr) (i j:Nat):(a.add i).add j=a.add (i+j):=by
 unfold Addr.add
 by_cases h1:i=0<;>by_cases h2:j=0<;>simp [h1,h2]
 omega
theorem At.blk {w:World} {b:Nat} {cs:List Value} {t:TypeId} {fr:Nat × Nat} (h:w.heap[b]?=some (.cells cs.toArray t fr)):At w ⟨b,0,none⟩ cs:=by
 intro j v hj
 rw [add_plain']
 simp [World.cell?,h,hj]
theorem At.new (w:World) (cs:List Value) (t:TypeId):At (w.alloc (.cells cs.toArray t)) ⟨w.heap.size,0,none⟩ cs:=At.blk (zKC w _)
structure Agg (P:Program) (t n:Nat):Prop where
 agg:∀ w,(isAgg t).run P w=.ok true w
 size:∀ w,(sizeOf t).run P w=.ok n w
 info:(P.info? t).map (·.size)=some n
structure One (P:Program) (t:Nat):Prop where
 agg:∀ w,(isAgg t).run P w=.ok false w
 size:∀ w,(sizeOf t).run P w=.ok 1 w
theorem zG5 {P:Program} {t n:Nat} (h:Agg P t n) {w:World} {a:Addr} {cs:List Value} (hc:At w a cs) (hn:cs.length=n):
  (zD t (.pointer (some a))).run P w=.ok (.agg cs.toArray) w:=by
 subst hn
 simp [zD,Instr.sureAddr,loadVar,h.agg w,h.size w,run_loadCells_list w a cs hc]
theorem zGN {P:Program} {t:Nat} (h:One P t) {w:World} {a:Addr} {v:Value} (hc:w.cell? a=some v):
  (zD t (.pointer (some a))).run P w=.ok v w:=by
 simp [zD,Instr.sureAddr,loadVar,h.agg w,load,Sem.run,hc]
theorem zJB {P:Program} {t e n:Nat} (hu:P.underlying t=some (.slice e)) (hs:∀ w,(sizeOf e).run P w=.ok n w) {w:World} {s:Sl} {ad:Addr} {k:IntKind} {i:Int}
  (ha:s.a=some ad) (h0:0<=i) (h1:i<s.len):(zF t (Sl.v s) (.int k i)).run P w=.ok (.pointer (some (ad.add (i.toNat*n)))) w:=by
 simp [zF,run_underlying hu,asIntOf,ha,h0,h1,hs w]
structure Rd {α:Type} (c:α->List Value) (n:Nat) (w:World) (s:Sl) (xs:List α):Prop where
 len:xs.length=s.len
 cap:s.len<=s.cap
 capm:s.cap<=9223372036854775807
 big:s.len<=140737488355328
 nilc:s.a=none->s.cap=0
 cells:∀ i x,xs[i]?=some x->∃ ad,s.a=some ad/\At w (ad.add (i*n)) (c x)
theorem Rd.bel {α:Type} {c:α->List Value} {n:Nat} {w w':World} {s:Sl} {xs:List α} (h:Rd c n w s xs) (hb:Bel w w'):Rd c n w' s xs:=
 ⟨h.len,h.cap,h.capm,h.big,h.nilc,λi x hx=>let ⟨ad,e,ha⟩:=h.cells i x hx;⟨ad,e,ha.bel hb⟩⟩
theorem Rd.nil {α:Type} (c:α->List Value) (n:Nat) (w:World):Rd c n w Sl.none []:=⟨rfl,by simp,by simp,by simp,λ_=>rfl,λi x h=>by simp at h⟩
section
variable {P:Program} {w:World}
theorem zDA {α:Type} {c:α->List Value} {n t e:Nat} {s:Sl} {xs:List α} {i:Int} {k:Option Addr->World->Prop} (h:Rd c n w s xs)
  (hu:P.underlying t=some (.slice e)) (hs:∀ w,(sizeOf e).run P w=.ok n w) (h0:0<=i) {x:α} (hx:xs[i.toNat]?=some x) (H:∀ ad,At w ad (c x)->k (some ad) w):
  opE P zB (zF t (Sl.v s) (.int .i64 i)) w k:=by
 obtain ⟨ad,ha,hc⟩:=h.cells _ x hx
 have hlt:i.toNat<xs.length:=(List.getElem?_eq_some_iff.1 hx).1
 exact ⟨_,w,zJB hu hs ha h0 (by have:=h.len;omega),H _ hc⟩
theorem Za {τ:Type} {enc:τ->Value} {t n:Nat} (hA:Agg P t n) {ad:Addr} {cs:List Value} {k:τ->World->Prop} (x:τ) (hx:enc x=.agg cs.toArray) (h:At w ad cs) (hn:cs.length=n) (H:k x w):
  opE P enc (zD t (.pointer (some ad))) w k:=⟨x,w,by rw [zG5 hA h hn,hx],H⟩
theorem zBX {τ:Type} {enc:τ->Value} {t:Nat} (hA:One P t) {ad:Addr} {k:τ->World->Prop} (x:τ) (h:w.cell? ad=some (enc x)) (H:k x w):
  opE P enc (zD t (.pointer (some ad))) w k:=⟨x,w,zGN hA h,H⟩
theorem yA {τ:Type} {enc:τ->Value} {s f off t:Nat} (hf:∀ p w,(zN s (.pointer (some p)) f).run P w=.ok (.pointer (some (p.add off))) w) (hA:One P t)
  {ad:Addr} {cs:List Value} {k:τ->World->Prop} (h:At w ad cs) (x:τ) (hx:cs[off]?=some (enc x)) (H:k x w):
  opE P zB (zN s (.pointer (some ad)) f) w (λp w=>opE P enc (zD t (.pointer p)) w k):=
 ⟨_,w,hf ad w,x,w,zGN hA (h _ _ hx),H⟩
theorem zRy {t n:Nat} {z:List Value} (hz:∀ w,(zf t true (.tuple #[])).run P w=.ok (.pointer (some ⟨w.heap.size,0,none⟩)) (w.alloc (.cells z.toArray t))) (hzn:z.length=n)
  (hA:Agg P t n) {cs:List Value} (hn:cs.length=n) (h1:cs.all (·.oneCell')=true) {v:Value} (hv:v=.agg cs.toArray) {k:Option Addr->World->Prop}
  (H:k (some ⟨w.heap.size,0,none⟩) (w.alloc (.cells cs.toArray t))):
  opE P zB (zf t true (.tuple #[])) w (λp w=>opU P (zK t (.pointer p) v) w (k p)):=by
 subst hv
 refine ⟨_,_,hz w,_,run_storeAt_new w t z.toArray cs.toArray ?_ (by simp [hzn,hn]) (by simpa using h1),H⟩
 rw [hA.info];simp [hn]
end
section
variable {P:Program} {w:World}
theorem zIF {α:Type} {c:α->List Value} {n t e:Nat} {s:Sl} {xs:List α} {i:Int} {k:Option Addr->Prop} (h:Rd c n w s xs)
  (hu:P.underlying t=some (.slice e)) (hs:∀ w,(sizeOf e).run P w=.ok n w) (h0:0<=i) {x:α} (hx:xs[i.toNat]?=some x) (H:∀ ad,At w ad (c x)->k (some ad)):
  opB P zB (zF t (Sl.v s) (.int .i64 i)) w k:=by
 obtain ⟨ad,ha,hc⟩:=h.cells _ x hx
 have hlt:i.toNat<xs.length:=(List.getElem?_eq_some_iff.1 hx).1
 exact ⟨_,λw' _=>zJB hu hs ha h0 (by have:=h.len;omega),H _ hc⟩
theorem zI2 {τ:Type} {enc:τ->Value} {t n:Nat} (hA:Agg P t n) {ad:Addr} {cs:List Value} {k:τ->Prop} (x:τ) (hx:enc x=.agg cs.toArray) (h:At w ad cs) (hn:cs.length=n) (H:k x):
  opB P enc (zD t (.pointer (some ad))) w k:=⟨x,λw' hb=>by rw [zG5 hA (h.bel hb) hn,hx],H⟩
theorem zNr {τ:Type} {enc:τ->Value} {t:Nat} (hA:One P t) {ad:Addr} {k:τ->Prop} (x:τ) (h:w.cell? ad=some (enc x)) (H:k x):
  opB P enc (zD t (.pointer (some ad))) w k:=⟨x,λw' hb=>zGN hA (hb.cell h),H⟩
theorem zGV {τ:Type} {enc:τ->Value} {s f off t:Nat} (hf:∀ p w,(zN s (.pointer (some p)) f).run P w=.ok (.pointer (some (p.add off))) w) (hA:One P t)
  {ad:Addr} {cs:List Value} {k:τ->Prop} (h:At w ad cs) (x:τ) (hx:cs[off]?=some (enc x)) (H:k x):
  opB P zB (zN s (.pointer (some ad)) f) w (λp=>opB P enc (zD t (.pointer p)) w k):=
 ⟨_,λw' _=>hf ad w',x,λw' hb=>zGN hA (hb.cell (h _ _ hx)),H⟩
end
theorem zK1 {α:Type} {c:α->List Value} {n:Nat} (hc:∀ x,(c x).length=n):∀ (xs:List α) (i j:Nat) (x:α),xs[i]?=some x->j<n->(xs.flatMap c)[i*n+j]?=(c x)[j]?
 |[],i,j,x,h,_=>by simp at h
 |y::r,0,j,x,h,hj=>by
  simp at h;subst h
  rw [List.flatMap_cons,List.getElem?_append_left (by rw [hc];omega)]
  simp
 |y::r,i+1,j,x,h,hj=>by
  have h':r[i]?=some x:=by simpa using h
  rw [List.flatMap_cons,List.getElem?_append_right (by rw [hc,Nat.add_mul];omega),hc,← zK1 hc r i j x h' hj]
  congr 1
  rw [Nat.add_mul];omega
theorem zFC {α:Type} {c:α->List Value} {n:Nat} (hc:∀ x,(c x).length=n) (xs:List α):(xs.flatMap c).length=xs.length*n:=by
 induction xs with
 |nil=>simp
 |cons y r ih=>simp [List.flatMap_cons,hc,ih,Nat.add_mul];omega
theorem zS {a b c:World} {row:Option Nat} (h:a.grownBy b row) (k:b.grownBy c row):a.grownBy c row:=
 ⟨k.os.trans h.os,k.tape.trans h.tape,k.output.trans h.output,zn h.size k.size,λi hi hr=>(k.block i (yF hi h.size) hr).trans (h.block i hi hr)⟩
structure OwnS {α:Type} (c:α->List Value) (n e base:Nat) (w:World) (s:Sl) (xs:List α):Prop where
 len:xs.length=s.len
 small:s.len<=140737488355328
 row:w.ownsRow base e n (Sl.v s) s.len (xs.flatMap c)
theorem OwnS.nil {α:Type} (c:α->List Value) (n e base:Nat) (w:World):OwnS c n e base w Sl.none []:=⟨rfl,by simp,World.ownsRow_nil _ _ _ _⟩
theorem OwnS.rd {α:Type} {c:α->List Value} {n e base:Nat} {w:World} {s:Sl} {xs:List α} (h:OwnS c n e base w s xs) (hc:∀ x,(c x).length=n):Rd c n w s xs:=by
 obtain ⟨hl,hs,hr⟩:=h
 obtain ⟨a,len,cap⟩:=s
 rcases hr.2 with ⟨h1,h2⟩|⟨g,cap',cur,h1,hb,hh,hcap,hm,hsz,htk⟩
 ·injection h1 with h3 h4 h5
  subst h3;subst h5
  simp only at h2;subst h2
  exact ⟨hl,by simp,by simp,by simp,λ_=>rfl,λi x hx=>by
   have:i<xs.length:=(List.getElem?_eq_some_iff.1 hx).1
   simp at hl;subst hl;simp at this⟩
 ·injection h1 with h3 h4 h5
  subst h3;subst h5
  refine ⟨hl,hcap,by simpa [maxLen] using hm,hs,λh=>by simp at h,λi x hx=>⟨⟨g,0,none⟩,rfl,λj u hj=>?_⟩⟩
  have hjn:j<n:=by have:=(List.getElem?_eq_some_iff.1 hj).1;rw [hc] at this;exact this
  rw [zGQ]
  refine hr.cells (g:=g) rfl _ _ ?_
  rw [zK1 hc xs i j x hx hjn];exact hj
theorem OwnS.kept {α:Type} {c:α->List Value} {n e base:Nat} {w w':World} {s:Sl} {xs:List α} (h:OwnS c n e base w s xs) {row:Option Nat} (hg:w.grownBy w' row) (hne:(Sl.v s).ownBlock=none∨(Sl.v s).ownBlock≠row):OwnS c n e base w' s xs:=
 ⟨h.len,h.small,h.row.kept hg hne⟩
theorem zo {w w':World} (h:Bel w w') (row:Option Nat):w.grownBy w' row:=⟨h.os,h.tape,h.output,h.size,λk hk _=>h.block k hk⟩
theorem OwnS.bel {α:Type} {c:α->List Value} {n e base:Nat} {w w':World} {s:Sl} {xs:List α} (h:OwnS c n e base w s xs) (hb:Bel w w'):OwnS c n e base w' s xs:=by
 refine h.kept (zo hb none) ?_
 cases (Sl.v s).ownBlock<;>simp
theorem OwnS.lo {α:Type} {c:α->List Value} {n e base:Nat} {w:World} {s:Sl} {xs:List α} (h:OwnS c n e base w s xs) {k:Nat} (hk:(Sl.v s).ownBlock=some k):base<=k:=(h.row.lt k hk).1
theorem Bel.grown {w0 w w':World} {row:Option Nat} (h:Bel w0 w) (hg:w.grownBy w' row) (hr:∀ k,row=some k->w0.heap.size<=k):Bel w0 w':=Below.grown h hg h.size hr
section
variable {P:Program} {w0 w:World} {α:Type} {c:α->List Value} {n e t bytes base:Nat}
theorem zOf {s y:Sl} {xs ys:List α} (hO:OwnS c n e base w s xs) (hy:Rd c n w y ys) (hc:∀ x,(c x).length=n) (h1:∀ x,(c x).all (·.oneCell')=true) (hn:0<n)
  (hu:P.underlying t=some (.slice e)) {z:Value} (hi:(P.info? e).map (λi=>(i.zero,i.size,i.bytes))=some (some z,n,bytes)) (hz:z.cells.size=n) (hby:0<bytes)
  (hB:Bel w0 w) (hb:w0.heap.size<=base) (hbw:base<=w.heap.size) (room:(xs.length+ys.length)*bytes<=140737488355328) {k:Sl->World->Prop} {ty:TypeId}
  (H:∀ s' w',OwnS c n e base w' s' (xs++ys)->Bel w0 w'->w.grownBy w' (Sl.v s).ownBlock->k s' w'):
  opE P Sl.v (Builtin.append_ #[t,t] ty [Sl.v s,Sl.v y].toArray) w k:=by
 obtain ⟨i0,hi0,hi1⟩:=Option.map_eq_some_iff.1 hi
 simp only [Prod.mk.injEq] at hi1
 obtain ⟨hz0,hz1,hz2⟩:=hi1
 have hroom:xs.length+ys.length<=140737488355328:=zn (Nat.le_mul_of_pos_right _ hby) room
 have hsl:=hO.len
 have hyl:=hy.len
 by_cases hya:y.a=none
 ·have hcap:=hy.nilc hya
  have hlen:y.len=0:=by have:=hy.cap;omega
  have hy0:ys=[]:=List.eq_nil_of_length_eq_zero (by omega)
  have hyv:Sl.v y=.slice none 0 0:=by simp [Sl.v,hya,hcap,hlen]
  refine ⟨s,w,?_,H s w (by rw [hy0];simpa using hO) hB (World.grownBy.refl _ _)⟩
  rw [hyv]
  exact run_append_owned_none (w:=w) base t ty e i0 n hu hi0 (Sl.v s) s.len _ hO.row
 ·obtain ⟨ad,had⟩:∃ ad,y.a=some ad:=by
   cases h:y.a with
   |none=>exact absurd h hya
   |some ad=>exact ⟨ad,rfl⟩
  have hnews:∀ j u,(ys.flatMap c)[j]?=some u->w.cell? (ad.add j)=some u:=by
   intro j u hj
   have hjl:j<ys.length*n:=by have:=(List.getElem?_eq_some_iff.1 hj).1;rwa [zFC hc] at this
   have hdiv:j / n<ys.length:=Nat.div_lt_of_lt_mul (by rwa [Nat.mul_comm] at hjl)
   have hmod:j % n<n:=Nat.mod_lt _ hn
   have hx:ys[j / n]?=some ys[j / n]:=by simp [hdiv]
   obtain ⟨ad',h3,h4⟩:=hy.cells _ _ hx
   rw [had] at h3;obtain rfl:=Option.some.inj h3
   have he:j / n*n+j % n=j:=by rw [Nat.mul_comm];exact Nat.div_add_mod j n
   have h5:=zK1 hc ys (j / n) (j % n) _ hx hmod
   rw [he,hj] at h5
   have h6:=h4 (j % n) u h5.symm
   rwa [zGQ,he] at h6
  obtain ⟨v',w',hrun,r1,r2,r3⟩:=run_append_own (P:=P) w base t ty e i0 z n bytes hu hi0 hz0 hz1 hz2 hz hn (Sl.v s) s.len _ hO.row ad y.len y.cap (ys.flatMap c) (by rw [zFC hc,hyl]) hnews
   (λu hu'=>by
    obtain ⟨x,_,hx⟩:=List.mem_flatMap.1 hu'
    have:=h1 x
    rw [List.all_eq_true] at this
    exact this u hx) (by simp only [maxLen];omega) (by rw [← hsl,← hyl];exact room) hbw
  obtain ⟨s',hs'⟩:∃ s':Sl,v'=Sl.v s'/\s'.len=s.len+y.len:=by
   rcases r1.2 with ⟨h1,h2⟩|⟨g,cap,cur,h1,_⟩
   ·exact ⟨Sl.none,h1,by simp;omega⟩
   ·exact ⟨⟨some ⟨g,0,none⟩,s.len+y.len,cap⟩,h1,rfl⟩
  obtain ⟨rfl,hlen'⟩:=hs'
  refine ⟨s',w',?_,H s' w' ⟨by simp;omega,by omega,by rw [hlen',List.flatMap_append];exact r1⟩ (hB.grown r2 (λk hk=>zn hb (hO.lo hk))) r2⟩
  have:Sl.v y=.slice (some ad) y.len y.cap:=by simp [Sl.v,had]
  rw [this];exact hrun
theorem zOK {s:Sl} {xs:List α} {x:α} {vx:Value} (hO:OwnS c n e base w s xs) (hc:∀ x,(c x).length=n) (h1:∀ x,(c x).all (·.oneCell')=true) (hn:0<n)
  (hu:P.underlying t=some (.slice e)) {z:Value} (hi:(P.info? e).map (λi=>(i.zero,i.size,i.bytes))=some (some z,n,bytes)) (hz:z.cells.size=n) (hby:0<bytes)
  (hbs:∀ w,(ze t 1 [(0,vx)].toArray).run P w=.ok (Sl.v ⟨some ⟨w.heap.size,0,none⟩,1,1⟩) (w.alloc (.cells (c x).toArray e)))
  (hB:Bel w0 w) (hb:w0.heap.size<=base) (hbw:base<=w.heap.size) (room:(xs.length+1)*bytes<=140737488355328) {k:Sl->World->Prop} {ty:TypeId}
  (H:∀ s' w',OwnS c n e base w' s' (xs++[x])->Bel w0 w'->w.grownBy w' (Sl.v s).ownBlock->k s' w'):
  opE P Sl.v (ze t 1 [(0,vx)].toArray) w (λy w=>opE P Sl.v (Builtin.append_ #[t,t] ty [Sl.v s,Sl.v y].toArray) w k):=by
 refine ⟨_,_,hbs w,?_⟩
 have hA:At (w.alloc (.cells (c x).toArray e)) ⟨w.heap.size,0,none⟩ (c x):=At.new w (c x) e
 refine zOf (ys:=[x]) (hO.bel (Bel.alloc _ _)) ⟨rfl,by simp,by simp,by simp,λh=>by simp at h,λi y hy=>?_⟩ hc h1 hn hu hi hz hby (hB.trans (Bel.alloc _ _)) hb (by rw [size_alloc'];omega) (by simpa using room) λs' w' h1 h2 h3=>?_
 ·cases i with
  |zero=>
   simp at hy;subst hy
   exact ⟨_,rfl,by rw [Nat.zero_mul];simpa [Addr.add] using hA⟩
  |succ i=>simp at hy
 ·exact H s' w' h1 h2 (zS (World.grownBy_alloc w _ _) h3)
theorem OwnS.lit0 (hbw:base<=w.heap.size):OwnS c n e base (w.alloc (.cells #[] e)) ⟨some ⟨w.heap.size,0,none⟩,0,0⟩ []:=
 ⟨rfl,by simp,by have:=World.ownsRow_lit (base:=base) (e:=e) (size:=n) w #[] 0 hbw (by simp) (by simp);simpa using this⟩
end
def Sl.sub (s:Sl) (l h n:Nat):Sl:=⟨if s.cap=l then s.a else s.a.map (·.add (l*n)),h - l,s.cap - l⟩
theorem zRH {P:Program} {w:World} {t e n:Nat} (hu:P.underlying t=some (.slice e)) (hs:∀ w,(sizeOf e).run P w=.ok n w) {s:Sl} {kl kh:IntKind} {l h:Nat} (h0:l<=h) (h1:h<=s.cap):
  (Instr.sliceAt t (Sl.v s) (some (.int kl l)) (some (.int kh h)) none).run P w=.ok (Sl.v (s.sub l h n)) w:=by
 simp [Instr.sliceAt,run_underlying hu,Instr.slice,Instr.sliceBounds,Instr.sliceBound,asIntOf,hs w,h0,h1,Sl.sub]
theorem zQg {P:Program} {w:World} {t e n:Nat} (hu:P.underlying t=some (.slice e)) (hs:∀ w,(sizeOf e).run P w=.ok n w) {s:Sl} {kl:IntKind} {l:Nat} (h0:l<=s.len):
  (Instr.sliceAt t (Sl.v s) (some (.int kl l)) none none).run P w=.ok (Sl.v (s.sub l s.len n)) w:=by
 simp [Instr.sliceAt,run_underlying hu,Instr.slice,Instr.sliceBounds,Instr.sliceBound,asIntOf,hs w,h0,Sl.sub]
theorem zPn {P:Program} {w:World} {t e n:Nat} (hu:P.underlying t=some (.slice e)) (hs:∀ w,(sizeOf e).run P w=.ok n w) {s:Sl} {kh:IntKind} {h:Nat} (h1:h<=s.cap):
  (Instr.sliceAt t (Sl.v s) none (some (.int kh h)) none).run P w=.ok (Sl.v (s.sub 0 h n)) w:=by
 simp [Instr.sliceAt,run_underlying hu,Instr.slice,Instr.sliceBounds,Instr.sliceBound,asIntOf,hs w,h1,Sl.sub,Addr.add]
theorem Rd.sub {α:Type} {c:α->List Value} {n:Nat} {w:World} {s:Sl} {xs:List α} (hr:Rd c n w s xs) {l h:Nat} (h0:l<=h) (h1:h<=s.len):Rd c n w (s.sub l h n) ((xs.drop l).take (h - l)):=by
 have hcap:=hr.cap;have hlen:=hr.len;have hbig:=hr.big;have hm:=hr.capm
 refine ⟨by simp [Sl.sub];omega,by simp [Sl.sub];omega,by simp [Sl.sub];omega,by simp [Sl.sub];omega,λhn=>?_,λi x hx=>?_⟩
 ·have:s.a=none:=by
   unfold Sl.sub at hn;simp only at hn
   split at hn
   ·exact hn
   ·cases h:s.a with
    |none=>rfl
    |some a=>rw [h] at hn;simp at hn
  have:=hr.nilc this
  simp [Sl.sub];omega
 ·have hi:i<h - l:=by
   have:=(List.getElem?_eq_some_iff.1 hx).1
   simp at this;omega
  have hx':xs[l+i]?=some x:=by
   rw [List.getElem?_take_of_lt hi,List.getElem?_drop] at hx;exact hx
  obtain ⟨ad,ha,hA⟩:=hr.cells _ _ hx'
  have hne:¬ s.cap=l:=by omega
  refine ⟨ad.add (l*n),by simp [Sl.sub,hne,ha],?_⟩
  rw [zGQ,← Nat.add_mul]
  exact hA
section
variable {P:Program} {w:World} {d:Nat} {xs ys:Array Value} {f:Field} {fs:List Field} {a b:Value}
theorem eqI {t:TypeId} {k k':IntKind} (h:P.underlying t=some (.int k')) (m n:Int):∃ r,(Op.equalIn (d+1) t (.int k m) (.int k n)).run P w=.ok r w/\(r=true↔m=n):=⟨_,run_equalIn_int w d t k k' m n h,by simp⟩
theorem eqS {t:TypeId} (h:P.underlying t=some .string) (m n:ByteArray):∃ r,(Op.equalIn (d+1) t (.string m) (.string n)).run P w=.ok r w/\(r=true↔m=n):=⟨_,run_equalIn_string w d t m n h,by rw [zGF];simp⟩
theorem eqB {t:TypeId} (h:P.underlying t=some .bool) (m n:Bool):∃ r,(Op.equalIn (d+1) t (.bool m) (.bool n)).run P w=.ok r w/\(r=true↔m=n):=⟨_,run_equalIn_bool w d t m n h,by simp⟩
theorem zOc:∃ r,(Op.eqFields d xs ys []).run P w=.ok r w/\(r=true↔True):=⟨true,by simp [Op.eqFields],by simp⟩
theorem zIw {p q : Prop} (hn : (f.name == "_") = false) (ha : (part f.type xs f.offset).run P w = .ok a w) (hb : (part f.type ys f.offset).run P w = .ok b w)
  (he:∃ r,(Op.equalIn d f.type a b).run P w=.ok r w/\(r=true↔p)) (hr:∃ r,(Op.eqFields d xs ys fs).run P w=.ok r w/\(r=true↔q)):
  ∃ r,(Op.eqFields d xs ys (f::fs)).run P w=.ok r w/\(r=true↔p/\q):=by
 have hn' : f.name ≠ "_" := by simpa using hn
 obtain ⟨r,h1,h2⟩:=he
 obtain ⟨s,h3,h4⟩:=hr
 rw [Op.eqFields]
 simp only [if_pos hn',Sem.run_bind,ha,hb,h1,Result.andThen_ok]
 cases r
 ·exact ⟨false,by simp,by simp at h2;simp [h2]⟩
 ·refine ⟨s,by simpa using h3,?_⟩
  have hp:p:=h2.1 rfl
  rw [h4];exact ⟨λh=>⟨hp,h⟩,λh=>h.2⟩
theorem eqA {t:TypeId} {F:Array Field} {l:List Field} {p q:Prop} (hu:P.underlying t=some (.struct F)) (hl:F.toList=l) (hp:P.stoodInHeld t=false) (hpq:p↔q) (h:∃ r,(Op.eqFields d xs ys l).run P w=.ok r w/\(r=true↔q)):
  ∃ r,(Op.equalIn (d+1) t (.agg xs) (.agg ys)).run P w=.ok r w/\(r=true↔p):=by
 have hf:P.fieldsOf t=F:=by simp [Program.fieldsOf,hu]
 obtain ⟨r,h1,h2⟩:=h
 exact ⟨r,by rw [run_equalIn_struct (P:=P) w d t xs ys (by rw [hf];exact hu) hp,hf,hl];exact h1,h2.trans hpq.symm⟩
theorem neop {t:TypeId} {o1 o2:Operand} {p:Prop} (hg:P.eqGuardType P.depth t=false) (h:∀ d w,∃ r,(Op.equalIn (d+4) t (.agg xs) (.agg ys)).run P w=.ok r w/\(r=true↔p)):
  ∃ r,(∀ w,(do eqGuard .neq t o1 o2 (.agg xs) (.agg ys);binOp .neq t (.agg xs) (.agg ys):Sem Value).run P w=.ok (.bool r) w)/\(r=true↔¬ p):=by
 obtain ⟨r,h1,h2⟩:=h 9996 default
 refine ⟨!r,λw=>?_,by cases r<;>simp_all⟩
 obtain ⟨r',h1',h2'⟩:=h 9996 w
 have:r'=r:=by
  cases r<;>cases r'<;>simp_all
 subst this
 have hgr:(eqGuard .neq t o1 o2 (.agg xs) (.agg ys)).run P w=.ok () w:=by
  unfold eqGuard
  simp [Sem.run,program,hg]
 simp [hgr,binOp,Op.equal,Op.maxDepth,h1']
end
theorem wr64 {n:Int} (h0 : -9223372036854775808<=n) (h1:n<=9223372036854775807):zC .i64 n=n:=IntWalk.i64_in _ ⟨h0,h1⟩
end Go.VB
set_option linter.unusedVariables false
namespace Go.Proofs.YtealcoghiaeiiaaGreat.VG
open Go.VB Go.Proofs
abbrev Zr:TypeId:=3
theorem zAM:One zA 3:=⟨λw=>by kernel_rfl,λw=>by kernel_rfl⟩
abbrev zFE:List Value:=[.int .i64 0]
theorem zMQ:∀ w,(zf 3 true (.tuple #[])).run zA w=.ok (.pointer (some ⟨w.heap.size,0,none⟩)) (w.alloc (.cells (zFE).toArray 3)):=λw=>by kernel_rfl
abbrev zOg:TypeId:=4
theorem zDR:One zA 4:=⟨λw=>by kernel_rfl,λw=>by kernel_rfl⟩
abbrev zME:TypeId:=9
theorem zh:One zA 9:=⟨λw=>by kernel_rfl,λw=>by kernel_rfl⟩
abbrev YK:TypeId:=22
theorem zEV:One zA 22:=⟨λw=>by kernel_rfl,λw=>by kernel_rfl⟩
abbrev zKt:List Value:=[.slice none 0 0]
theorem zLI:∀ w,(zf 22 true (.tuple #[])).run zA w=.ok (.pointer (some ⟨w.heap.size,0,none⟩)) (w.alloc (.cells (zKt).toArray 22)):=λw=>by kernel_rfl
theorem YR:zA.underlying 22=some (.slice 66):=Tryz.underlying22
theorem Zh:∀ w,(sizeOf 66).run zA w=.ok 2 w:=λw=>by kernel_rfl
theorem zIy:∀ w,(ze 22 0 [].toArray).run zA w=.ok (Sl.v ⟨some ⟨w.heap.size,0,none⟩,0,0⟩) (w.alloc (.cells #[] 66)):=λw=>by kernel_rfl
theorem zLN (x:zM):∀ w,(ze 22 1 [(0,(zM.v x))].toArray).run zA w=.ok (Sl.v ⟨some ⟨w.heap.size,0,none⟩,1,1⟩) (w.alloc (.cells (zM.cells x).toArray 66)):=λw=>by kernel_rfl
theorem zIJ:(zA.info? 66).map (λi=>(i.zero,i.size,i.bytes))=some (some (.agg ([.string ⟨#[]⟩,.string ⟨#[]⟩]).toArray),2,32):=by kernel_rfl
theorem zLv:zA.underlying 24=some (.slice 3):=Tryz.underlying24
theorem zL3:∀ w,(sizeOf 3).run zA w=.ok 1 w:=λw=>by kernel_rfl
abbrev zHn:TypeId:=26
theorem zBk:One zA 27:=⟨λw=>by kernel_rfl,λw=>by kernel_rfl⟩
abbrev zAp:TypeId:=30
theorem zFI:One zA 30:=⟨λw=>by kernel_rfl,λw=>by kernel_rfl⟩
theorem zBW:zA.underlying 30=some (.slice 34):=Tryz.underlying30
theorem zCa:∀ w,(sizeOf 34).run zA w=.ok 3 w:=λw=>by kernel_rfl
theorem zGb (x:zJ):∀ w,(ze 30 1 [(0,(zJ.v x))].toArray).run zA w=.ok (Sl.v ⟨some ⟨w.heap.size,0,none⟩,1,1⟩) (w.alloc (.cells (zJ.cells x).toArray 34)):=λw=>by kernel_rfl
theorem zKe:(zA.info? 34).map (λi=>(i.zero,i.size,i.bytes))=some (some (.agg ([.string ⟨#[]⟩,.string ⟨#[]⟩,.bool false]).toArray),3,40):=by kernel_rfl
abbrev ZB:TypeId:=34
theorem QR:Agg zA 34 3:=⟨λw=>by kernel_rfl,λw=>by kernel_rfl,by kernel_rfl⟩
theorem xm:∀ p w,(zN 34 (.pointer (some p)) 0).run zA w=.ok (.pointer (some (p.add 0))) w:=λ_ _=>by kernel_rfl
theorem zBR:∀ p w,(zN 34 (.pointer (some p)) 1).run zA w=.ok (.pointer (some (p.add 1))) w:=λ_ _=>by kernel_rfl
theorem zCI:∀ p w,(zN 34 (.pointer (some p)) 2).run zA w=.ok (.pointer (some (p.add 2))) w:=λ_ _=>by kernel_rfl
abbrev zIz:List Value:=[.string ⟨#[]⟩,.string ⟨#[]⟩,.bool false]
theorem zBl:∀ w,(zf 34 true (.tuple #[])).run zA w=.ok (.pointer (some ⟨w.heap.size,0,none⟩)) (w.alloc (.cells (zIz).toArray 34)):=λw=>by kernel_rfl
theorem zIA:∀ w,(zeroValue 34).run zA w=.ok (.agg (zIz).toArray) w:=λw=>by kernel_rfl
abbrev zJE:TypeId:=37
theorem yO:One zA 37:=⟨λw=>by kernel_rfl,λw=>by kernel_rfl⟩
theorem zGH:One zA 45:=⟨λw=>by kernel_rfl,λw=>by kernel_rfl⟩
theorem zGI:zA.underlying 45=some (.slice 49):=Tryz.underlying45
theorem zHe:∀ w,(sizeOf 49).run zA w=.ok 5 w:=λw=>by kernel_rfl
theorem zHd (x:za):∀ w,(ze 45 1 [(0,(za.v x))].toArray).run zA w=.ok (Sl.v ⟨some ⟨w.heap.size,0,none⟩,1,1⟩) (w.alloc (.cells (za.cells x).toArray 49)):=λw=>by kernel_rfl
theorem zKM:(zA.info? 49).map (λi=>(i.zero,i.size,i.bytes))=some (some (.agg ([.int .u8 0,.int .i64 0,.string ⟨#[]⟩,.string ⟨#[]⟩,.string ⟨#[]⟩]).toArray),5,64):=by kernel_rfl
theorem Yd:zA.underlying 46=some (.slice 56):=Tryz.underlying46
theorem ZX:∀ w,(sizeOf 56).run zA w=.ok 3 w:=λw=>by kernel_rfl
theorem zFs (x:zm):∀ w,(ze 46 1 [(0,(zm.v x))].toArray).run zA w=.ok (Sl.v ⟨some ⟨w.heap.size,0,none⟩,1,1⟩) (w.alloc (.cells (zm.cells x).toArray 56)):=λw=>by kernel_rfl
theorem zFZ:(zA.info? 56).map (λi=>(i.zero,i.size,i.bytes))=some (some (.agg ([.int .i64 0,.slice none 0 0,.slice none 0 0]).toArray),3,56):=by kernel_rfl
theorem zBN:One zA 47:=⟨λw=>by kernel_rfl,λw=>by kernel_rfl⟩
abbrev Zl:TypeId:=49
theorem zBq:Agg zA 49 5:=⟨λw=>by kernel_rfl,λw=>by kernel_rfl,by kernel_rfl⟩
theorem ZL:∀ p w,(zN 49 (.pointer (some p)) 0).run zA w=.ok (.pointer (some (p.add 0))) w:=λ_ _=>by kernel_rfl
theorem Zu:∀ p w,(zN 49 (.pointer (some p)) 1).run zA w=.ok (.pointer (some (p.add 1))) w:=λ_ _=>by kernel_rfl
theorem Z9:∀ p w,(zN 49 (.pointer (some p)) 2).run zA w=.ok (.pointer (some (p.add 2))) w:=λ_ _=>by kernel_rfl
theorem zHK:∀ p w,(zN 49 (.pointer (some p)) 3).run zA w=.ok (.pointer (some (p.add 3))) w:=λ_ _=>by kernel_rfl
theorem zG8:∀ p w,(zN 49 (.pointer (some p)) 4).run zA w=.ok (.pointer (some (p.add 4))) w:=λ_ _=>by kernel_rfl
abbrev zKw:List Value:=[.int .u8 0,.int .i64 0,.string ⟨#[]⟩,.string ⟨#[]⟩,.string ⟨#[]⟩]
theorem zIj:∀ w,(zf 49 true (.tuple #[])).run zA w=.ok (.pointer (some ⟨w.heap.size,0,none⟩)) (w.alloc (.cells (zKw).toArray 49)):=λw=>by kernel_rfl
abbrev Qo:TypeId:=51
theorem Zk:Agg zA 51 7:=⟨λw=>by kernel_rfl,λw=>by kernel_rfl,by kernel_rfl⟩
theorem ZD:∀ p w,(zN 51 (.pointer (some p)) 0).run zA w=.ok (.pointer (some (p.add 0))) w:=λ_ _=>by kernel_rfl
theorem zJL:∀ p w,(zN 51 (.pointer (some p)) 1).run zA w=.ok (.pointer (some (p.add 1))) w:=λ_ _=>by kernel_rfl
theorem zGY:∀ p w,(zN 51 (.pointer (some p)) 2).run zA w=.ok (.pointer (some (p.add 2))) w:=λ_ _=>by kernel_rfl
theorem zGk:∀ p w,(zN 51 (.pointer (some p)) 3).run zA w=.ok (.pointer (some (p.add 3))) w:=λ_ _=>by kernel_rfl
theorem zFq:∀ p w,(zN 51 (.pointer (some p)) 4).run zA w=.ok (.pointer (some (p.add 4))) w:=λ_ _=>by kernel_rfl
theorem zIS:∀ p w,(zN 51 (.pointer (some p)) 5).run zA w=.ok (.pointer (some (p.add 5))) w:=λ_ _=>by kernel_rfl
theorem zIO:∀ p w,(zN 51 (.pointer (some p)) 6).run zA w=.ok (.pointer (some (p.add 6))) w:=λ_ _=>by kernel_rfl
abbrev zJ2:List Value:=[.int .i64 0,.int .i64 0,.string ⟨#[]⟩,.bool false,.slice none 0 0,.slice none 0 0,.int .u64 0]
theorem zEl:∀ w,(zf 51 true (.tuple #[])).run zA w=.ok (.pointer (some ⟨w.heap.size,0,none⟩)) (w.alloc (.cells (zJ2).toArray 51)):=λw=>by kernel_rfl
theorem zFY:One zA 54:=⟨λw=>by kernel_rfl,λw=>by kernel_rfl⟩
theorem zG4:zA.underlying 54=some (.slice 51):=Tryz.underlying54
theorem zJu:∀ w,(sizeOf 51).run zA w=.ok 7 w:=λw=>by kernel_rfl
theorem zGx (x:zW):∀ w,(ze 54 1 [(0,(zW.v x))].toArray).run zA w=.ok (Sl.v ⟨some ⟨w.heap.size,0,none⟩,1,1⟩) (w.alloc (.cells (zW.cells x).toArray 51)):=λw=>by kernel_rfl
theorem zJN:(zA.info? 51).map (λi=>(i.zero,i.size,i.bytes))=some (some (.agg ([.int .i64 0,.int .i64 0,.string ⟨#[]⟩,.bool false,.slice none 0 0,.slice none 0 0,.int .u64 0]).toArray),7,96):=by kernel_rfl
abbrev zJS:TypeId:=56
theorem zA5:Agg zA 56 3:=⟨λw=>by kernel_rfl,λw=>by kernel_rfl,by kernel_rfl⟩
theorem zFj:∀ p w,(zN 56 (.pointer (some p)) 0).run zA w=.ok (.pointer (some (p.add 0))) w:=λ_ _=>by kernel_rfl
theorem zCE:∀ p w,(zN 56 (.pointer (some p)) 1).run zA w=.ok (.pointer (some (p.add 1))) w:=λ_ _=>by kernel_rfl
theorem zCQ:∀ p w,(zN 56 (.pointer (some p)) 2).run zA w=.ok (.pointer (some (p.add 2))) w:=λ_ _=>by kernel_rfl
abbrev zIW:List Value:=[.int .i64 0,.slice none 0 0,.slice none 0 0]
theorem zGX:∀ w,(zf 56 true (.tuple #[])).run zA w=.ok (.pointer (some ⟨w.heap.size,0,none⟩)) (w.alloc (.cells (zIW).toArray 56)):=λw=>by kernel_rfl
abbrev zAG:TypeId:=66
theorem YA:Agg zA 66 2:=⟨λw=>by kernel_rfl,λw=>by kernel_rfl,by kernel_rfl⟩
theorem Y4:∀ p w,(zN 66 (.pointer (some p)) 0).run zA w=.ok (.pointer (some (p.add 0))) w:=λ_ _=>by kernel_rfl
theorem zGM:∀ p w,(zN 66 (.pointer (some p)) 1).run zA w=.ok (.pointer (some (p.add 1))) w:=λ_ _=>by kernel_rfl
abbrev zJT:List Value:=[.string ⟨#[]⟩,.string ⟨#[]⟩]
theorem zF0:∀ w,(zf 66 true (.tuple #[])).run zA w=.ok (.pointer (some ⟨w.heap.size,0,none⟩)) (w.alloc (.cells (zJT).toArray 66)):=λw=>by kernel_rfl
theorem zNf:∀ w,(zeroValue 66).run zA w=.ok (.agg (zJT).toArray) w:=λw=>by kernel_rfl
abbrev zt:TypeId:=67
theorem yH:One zA 67:=⟨λw=>by kernel_rfl,λw=>by kernel_rfl⟩
theorem yq:zA.underlying 67=some (.slice 72):=Tryz.underlying67
theorem Qc:∀ w,(sizeOf 72).run zA w=.ok 4 w:=λw=>by kernel_rfl
theorem zKB:∀ w,(ze 67 0 [].toArray).run zA w=.ok (Sl.v ⟨some ⟨w.heap.size,0,none⟩,0,0⟩) (w.alloc (.cells #[] 72)):=λw=>by kernel_rfl
theorem zHN (x:zG):∀ w,(ze 67 1 [(0,(zG.v x))].toArray).run zA w=.ok (Sl.v ⟨some ⟨w.heap.size,0,none⟩,1,1⟩) (w.alloc (.cells (zG.cells x).toArray 72)):=λw=>by kernel_rfl
theorem zGy:(zA.info? 72).map (λi=>(i.zero,i.size,i.bytes))=some (some (.agg ([.string ⟨#[]⟩,.int .u64 0,.string ⟨#[]⟩,.bool false]).toArray),4,48):=by kernel_rfl
abbrev yG:TypeId:=69
theorem yC:Agg zA 69 2:=⟨λw=>by kernel_rfl,λw=>by kernel_rfl,by kernel_rfl⟩
theorem yI:∀ p w,(zN 69 (.pointer (some p)) 0).run zA w=.ok (.pointer (some (p.add 0))) w:=λ_ _=>by kernel_rfl
theorem zA3:∀ p w,(zN 69 (.pointer (some p)) 1).run zA w=.ok (.pointer (some (p.add 1))) w:=λ_ _=>by kernel_rfl
abbrev zHJ:List Value:=[.slice none 0 0,.int .u64 0]
theorem zAz:∀ w,(zf 69 true (.tuple #[])).run zA w=.ok (.pointer (some ⟨w.heap.size,0,none⟩)) (w.alloc (.cells (zHJ).toArray 69)):=λw=>by kernel_rfl
abbrev yK:TypeId:=72
theorem yP:Agg zA 72 4:=⟨λw=>by kernel_rfl,λw=>by kernel_rfl,by kernel_rfl⟩
theorem ZN:∀ p w,(zN 72 (.pointer (some p)) 0).run zA w=.ok (.pointer (some (p.add 0))) w:=λ_ _=>by kernel_rfl
theorem zAt:∀ p w,(zN 72 (.pointer (some p)) 1).run zA w=.ok (.pointer (some (p.add 1))) w:=λ_ _=>by kernel_rfl
theorem zB4:∀ p w,(zN 72 (.pointer (some p)) 2).run zA w=.ok (.pointer (some (p.add 2))) w:=λ_ _=>by kernel_rfl
theorem zCm:∀ p w,(zN 72 (.pointer (some p)) 3).run zA w=.ok (.pointer (some (p.add 3))) w:=λ_ _=>by kernel_rfl
abbrev zEf:List Value:=[.string ⟨#[]⟩,.int .u64 0,.string ⟨#[]⟩,.bool false]
theorem zBz:∀ w,(zf 72 true (.tuple #[])).run zA w=.ok (.pointer (some ⟨w.heap.size,0,none⟩)) (w.alloc (.cells (zEf).toArray 72)):=λw=>by kernel_rfl
theorem zBr:One zA 85:=⟨λw=>by kernel_rfl,λw=>by kernel_rfl⟩
theorem zBo:zA.underlying 85=some (.map 3 88):=Tryz.underlying85
abbrev zAC:TypeId:=87
theorem xb:∀ p w,(zN 87 (.pointer (some p)) 0).run zA w=.ok (.pointer (some (p.add 0))) w:=λ_ _=>by kernel_rfl
theorem Zn:∀ p w,(zN 87 (.pointer (some p)) 1).run zA w=.ok (.pointer (some (p.add 2))) w:=λ_ _=>by kernel_rfl
theorem zCJ:∀ p w,(zN 87 (.pointer (some p)) 2).run zA w=.ok (.pointer (some (p.add 3))) w:=λ_ _=>by kernel_rfl
theorem zBt:∀ p w,(zN 87 (.pointer (some p)) 3).run zA w=.ok (.pointer (some (p.add 4))) w:=λ_ _=>by kernel_rfl
abbrev zFk:TypeId:=88
theorem zBm:One zA 88:=⟨λw=>by kernel_rfl,λw=>by kernel_rfl⟩
abbrev zLh:List Value:=[.pointer none]
theorem zJx:∀ w,(zf 88 true (.tuple #[])).run zA w=.ok (.pointer (some ⟨w.heap.size,0,none⟩)) (w.alloc (.cells (zLh).toArray 88)):=λw=>by kernel_rfl
theorem zNE:∀ w,(zeroValue 88).run zA w=.ok (.pointer none) w:=λw=>by kernel_rfl
abbrev zHh:TypeId:=89
theorem Qs:One zA 89:=⟨λw=>by kernel_rfl,λw=>by kernel_rfl⟩
theorem Yf:zA.underlying 89=some (.map 9 34):=Tryz.underlying89
abbrev zE8:TypeId:=90
theorem zCH:One zA 90:=⟨λw=>by kernel_rfl,λw=>by kernel_rfl⟩
theorem zHC:zA.underlying 90=some (.slice 103):=Tryz.underlying90
theorem zLT:∀ w,(sizeOf 103).run zA w=.ok 3 w:=λw=>by kernel_rfl
theorem zIX (x:yD):∀ w,(ze 90 1 [(0,(yD.v x))].toArray).run zA w=.ok (Sl.v ⟨some ⟨w.heap.size,0,none⟩,1,1⟩) (w.alloc (.cells (yD.cells x).toArray 103)):=λw=>by kernel_rfl
theorem zII:(zA.info? 103).map (λi=>(i.zero,i.size,i.bytes))=some (some (.agg ([.string ⟨#[]⟩,.string ⟨#[]⟩,.bool false]).toArray),3,40):=by kernel_rfl
abbrev zBV:TypeId:=92
theorem zEY:∀ p w,(zN 92 (.pointer (some p)) 0).run zA w=.ok (.pointer (some (p.add 0))) w:=λ_ _=>by kernel_rfl
theorem zBh:∀ p w,(zN 92 (.pointer (some p)) 1).run zA w=.ok (.pointer (some (p.add 1))) w:=λ_ _=>by kernel_rfl
theorem zAc:∀ p w,(zN 92 (.pointer (some p)) 2).run zA w=.ok (.pointer (some (p.add 2))) w:=λ_ _=>by kernel_rfl
abbrev zKn:TypeId:=103
theorem zF2:Agg zA 103 3:=⟨λw=>by kernel_rfl,λw=>by kernel_rfl,by kernel_rfl⟩
theorem zHO:∀ p w,(zN 103 (.pointer (some p)) 0).run zA w=.ok (.pointer (some (p.add 0))) w:=λ_ _=>by kernel_rfl
theorem zIG:∀ p w,(zN 103 (.pointer (some p)) 1).run zA w=.ok (.pointer (some (p.add 1))) w:=λ_ _=>by kernel_rfl
theorem zJ1:∀ p w,(zN 103 (.pointer (some p)) 2).run zA w=.ok (.pointer (some (p.add 2))) w:=λ_ _=>by kernel_rfl
abbrev zLq:List Value:=[.string ⟨#[]⟩,.string ⟨#[]⟩,.bool false]
theorem zMi:∀ w,(zf 103 true (.tuple #[])).run zA w=.ok (.pointer (some ⟨w.heap.size,0,none⟩)) (w.alloc (.cells (zLq).toArray 103)):=λw=>by kernel_rfl
theorem zGB:zA.underlying 152=some (.map 9 153):=Tryz.underlying152
abbrev zJA:TypeId:=153
abbrev xC:TypeId:=182
theorem zAb:One zA 182:=⟨λw=>by kernel_rfl,λw=>by kernel_rfl⟩
abbrev Yh:List Value:=[.int .u64 0]
theorem zEz:∀ w,(zf 182 true (.tuple #[])).run zA w=.ok (.pointer (some ⟨w.heap.size,0,none⟩)) (w.alloc (.cells (Yh).toArray 182)):=λw=>by kernel_rfl
theorem zLj (x y:zJ) (d:Nat) (w:World):∃ r,(Op.equalIn (d+4) 34 (zJ.v x) (zJ.v y)).run zA w=.ok r w/\(r=true↔x=y):=by
 refine eqA Tryz.underlying34 rfl (by kernel_rfl) ?_ (zIw (a:=(.string x.Key)) (b:=(.string y.Key)) (by rfl) (by kernel_rfl) (by kernel_rfl) (eqS Tryz.underlying9 _ _) (zIw (a:=(.string x.Val)) (b:=(.string y.Val)) (by rfl) (by kernel_rfl) (by kernel_rfl) (eqS Tryz.underlying9 _ _) (zIw (a:=(.bool x.Gone)) (b:=(.bool y.Gone)) (by rfl) (by kernel_rfl) (by kernel_rfl) (eqB Tryz.underlying4 _ _) (zOc))))
 cases x;cases y;simp
theorem zLe (x y:zJ) (o1 o2:Operand):∃ r,(∀ w,(do eqGuard .neq 34 o1 o2 (zJ.v x) (zJ.v y);binOp .neq 34 (zJ.v x) (zJ.v y):Sem Value).run zA w=.ok (.bool r) w)/\(r=true↔¬ x=y):=neop (by kernel_rfl) (zLj x y)
theorem zMq (x y:zM) (d:Nat) (w:World):∃ r,(Op.equalIn (d+4) 66 (zM.v x) (zM.v y)).run zA w=.ok r w/\(r=true↔x=y):=by
 refine eqA Tryz.underlying66 rfl (by kernel_rfl) ?_ (zIw (a:=(.string x.Key)) (b:=(.string y.Key)) (by rfl) (by kernel_rfl) (by kernel_rfl) (eqS Tryz.underlying9 _ _) (zIw (a:=(.string x.Val)) (b:=(.string y.Val)) (by rfl) (by kernel_rfl) (by kernel_rfl) (eqS Tryz.underlying9 _ _) (zOc)))
 cases x;cases y;simp
theorem zMJ (x y:zM) (o1 o2:Operand):∃ r,(∀ w,(do eqGuard .neq 66 o1 o2 (zM.v x) (zM.v y);binOp .neq 66 (zM.v x) (zM.v y):Sem Value).run zA w=.ok (.bool r) w)/\(r=true↔¬ x=y):=neop (by kernel_rfl) (zMq x y)
end Go.Proofs.YtealcoghiaeiiaaGreat.VG
set_option linter.unusedVariables false
namespace Go.VB.Srt
structure SWO {α:Type} (lt:α->α->Bool):Prop where
 irr:∀ x,lt x x=false
 neg:∀ x y z,lt x z=true->lt x y=true∨lt y z=true
 asy:∀ x y,lt x y=true->lt y x=false
section
variable {α:Type} {lt:α->α->Bool}
def Le (lt:α->α->Bool) (x y:α):Prop:=lt y x=false
theorem SWO.refl (O:SWO lt) (x:α):Le lt x x:=O.irr x
theorem SWO.trans (O:SWO lt) {x y z:α} (h:Le lt x y) (k:Le lt y z):Le lt x z:=by
 unfold Le at*
 cases hz:lt z x with
 |false=>rfl
 |true=>
  rcases O.neg z y x hz with h1|h1
  ·rw [h1] at k;cases k
  ·rw [h1] at h;cases h
theorem SWO.of_lt (O:SWO lt) {x y:α} (h:lt x y=true):Le lt x y:=O.asy x y h
def swp (f:Nat->α) (i j:Nat):Nat->α:=λk=>if k=i then f j else if k=j then f i else f k
theorem zKk (f:Nat->α) (i j:Nat):swp f i j i=f j:=by simp [swp]
theorem zNB (f:Nat->α) (i j:Nat):swp f i j j=f i:=by
 unfold swp;split
 ·rename_i h;rw [h]
 ·simp
theorem zDM (f:Nat->α) {i j k:Nat} (hi:k≠i) (hj:k≠j):swp f i j k=f k:=by simp [swp,hi,hj]
inductive Seg (a b:Nat):(Nat->α)->(Nat->α)->Prop
 |refl (f:Nat->α):Seg a b f f
 |step {f g:Nat->α} (i j:Nat) (hi:a<=i) (hi':i<b) (hj:a<=j) (hj':j<b) (h:Seg a b f g):Seg a b f (swp g i j)
theorem Seg.trans {a b:Nat} {f g h:Nat->α} (p:Seg a b f g) (q:Seg a b g h):Seg a b f h:=by
 induction q with
 |refl=>exact p
 |step i j h1 h2 h3 h4 _ ih=>exact .step i j h1 h2 h3 h4 ih
theorem Seg.mono {a b a' b':Nat} (ha:a'<=a) (hb:b<=b') {f g:Nat->α} (p:Seg a b f g):Seg a' b' f g:=by
 induction p with
 |refl=>exact .refl _
 |step i j h1 h2 h3 h4 _ ih=>exact .step i j (by omega) (by omega) (by omega) (by omega) ih
theorem Seg.one {a b:Nat} (f:Nat->α) {i j:Nat} (h1:a<=i) (h2:i<b) (h3:a<=j) (h4:j<b):Seg a b f (swp f i j):=.step i j h1 h2 h3 h4 (.refl f)
theorem Seg.all {a b:Nat} {f g:Nat->α} (p:Seg a b f g) {Q:α->Prop} (h:∀ k,a<=k->k<b->Q (f k)):∀ k,a<=k->k<b->Q (g k):=by
 induction p with
 |refl=>exact h
 |step i j h1 h2 h3 h4 _ ih=>
  intro k hk hk'
  unfold swp
  split
  ·exact ih j h3 h4
  ·split
   ·exact ih i h1 h2
   ·exact ih k hk hk'
theorem Seg.out {a b:Nat} {f g:Nat->α} (p:Seg a b f g):∀ k,k<a∨b<=k->g k=f k:=by
 induction p with
 |refl=>exact λ_ _=>rfl
 |step i j h1 h2 h3 h4 _ ih=>
  intro k hk
  rw [zDM _ (by omega) (by omega)]
  exact ih k hk
def tab (f:Nat->α) (n:Nat):List α:=(List.range n).map f
theorem xP (f:Nat->α) (n:Nat):(tab f n).length=n:=by simp [tab]
theorem zFK (f:Nat->α) {n k:Nat} (h:k<n):(tab f n)[k]?=some (f k):=by simp [tab,h]
theorem zOE (l:List α) (f:Nat->α) (h:∀ k x,l[k]?=some x->f k=x):tab f l.length=l:=by
 apply List.ext_getElem?
 intro k
 rcases Nat.lt_or_ge k l.length with h1|h1
 ·rw [zFK f h1]
  have:l[k]?=some l[k]:=by simp [h1]
  rw [h k _ this,this]
 ·rw [List.getElem?_eq_none (by rw [xP];exact h1),List.getElem?_eq_none h1]
theorem zOq (f:Nat->α) {n i:Nat} (h:i<n) (x:α):(tab f n).set i x=tab (λk=>if k=i then x else f k) n:=by
 apply List.ext_getElem?
 intro k
 rcases Nat.lt_or_ge k n with h1|h1
 ·rw [zFK (λk=>if k=i then x else f k) h1,List.getElem?_set]
  by_cases hk:i=k
  ·subst hk;simp [xP,h]
  ·rw [if_neg hk,zFK f h1,if_neg (λe=>hk e.symm)]
 ·rw [List.getElem?_eq_none (by rw [List.length_set,xP];exact h1),List.getElem?_eq_none (by rw [xP];exact h1)]
theorem zO2 (f:Nat->α) {n i j:Nat} (hi:i<n) (hj:j<n):((tab f n).set i (f j)).set j (f i)=tab (swp f i j) n:=by
 rw [zOq f hi,zOq _ hj]
 congr 1
 funext k
 unfold swp
 by_cases h1:k=i<;>by_cases h2:k=j
 ·subst h1;subst h2;simp
 ·simp [h1,h2];intro e;exact absurd (h1.trans e) (λe'=>h2 e')
 ·simp [h1,h2];intro e;rw [← e]
 ·simp [h1,h2]
theorem zQn (f:Nat->α) {n i j:Nat} (hi:i<n) (hj:j<n):(tab (swp f i j) n).Perm (tab f n):=by
 rw [← zO2 f hi hj]
 have h1:=@List.set_set_perm _ (tab f n) i j (by rw [xP];exact hi) (by rw [xP];exact hj)
 simpa [tab] using h1
theorem Seg.perm {a b n:Nat} (hb:b<=n) {f g:Nat->α} (p:Seg a b f g):(tab g n).Perm (tab f n):=by
 induction p with
 |refl=>exact .refl _
 |step i j h1 h2 h3 h4 _ ih=>exact (zQn _ (by omega) (by omega)).trans ih
def yL (lt:α->α->Bool) (a b:Nat) (f:Nat->α):Prop:=∀ i j,a<=i->i<j->j<b->Le lt (f i) (f j)
theorem yL.small {a b:Nat} {f:Nat->α} (h:b<=a+1):yL lt a b f:=λi j h1 h2 h3=>by omega
theorem yL.congr {a b:Nat} {f g:Nat->α} (h:yL lt a b f) (hg:∀ k,a<=k->k<b->g k=f k):yL lt a b g:=λi j h1 h2 h3=>by
 rw [hg i h1 (by omega),hg j (by omega) h3];exact h i j h1 h2 h3
def Hole (lt:α->α->Bool) (a i j:Nat) (f:Nat->α):Prop:=(∀ p q,a<=p->p<q->q<=i->p≠j->q≠j->Le lt (f p) (f q))/\∀ q,j<q->q<=i->Le lt (f j) (f q)
theorem Hole.start {a i:Nat} {f:Nat->α} (h:yL lt a i f):Hole lt a i i f:=⟨λp q h1 h2 h3 h4 h5=>h p q h1 h2 (by omega),λq h1 h2=>by omega⟩
theorem Hole.done (O:SWO lt) {a i j:Nat} {f:Nat->α} (h:Hole lt a i j f) (hj:j<=a∨Le lt (f (j - 1)) (f j)):yL lt a (i+1) f:=by
 intro p q h1 h2 h3
 by_cases hp:p=j
 ·subst hp;exact h.2 q h2 (by omega)
 by_cases hq:q=j
 ·subst hq
  rcases hj with hj|hj
  ·omega
  ·by_cases hpj:p=q - 1
   ·rw [hpj];exact hj
   ·exact O.trans (h.1 p (q - 1) h1 (by omega) (by omega) hp (by omega)) hj
 ·exact h.1 p q h1 h2 (by omega) hp hq
theorem Hole.step (O:SWO lt) {a i j:Nat} {f:Nat->α} (h:Hole lt a i j f) (ha:a<j) (hi:j<=i) (hl:lt (f j) (f (j - 1))=true):Hole lt a i (j - 1) (swp f j (j - 1)):=by
 refine ⟨λp q h1 h2 h3 h4 h5=>?_,λq h1 h2=>?_⟩
 ·have e:∀ k,k≠j - 1->swp f j (j - 1) k=f (if k=j then j - 1 else k):=λk hk=>by
   unfold swp
   by_cases h:k=j
   ·simp [h]
   ·simp [h,hk]
  rw [e p h4,e q h5]
  by_cases hp:p=j
  ·rw [if_pos hp,if_neg (by omega)]
   exact h.1 (j - 1) q (by omega) (by omega) h3 (by omega) (by omega)
  ·rw [if_neg hp]
   by_cases hq:q=j
   ·rw [if_pos hq]
    exact h.1 p (j - 1) h1 (by omega) (by omega) hp (by omega)
   ·rw [if_neg hq];exact h.1 p q h1 h2 h3 hp hq
 ·rw [zNB]
  by_cases hq:q=j
  ·rw [hq,zKk];exact O.of_lt hl
  ·rw [zDM f hq (by omega)];exact h.2 q (by omega) h2
def zBS (c i:Nat):Prop:=c=2*i+1∨c=2*i+2
def Hp (lt:α->α->Bool) (o lo hi:Nat) (f:Nat->α):Prop:=∀ i c,lo<=i->zBS c i->c<hi->Le lt (f (o+c)) (f (o+i))
structure HpX (lt:α->α->Bool) (o lo hi r:Nat) (f:Nat->α):Prop where
 up:∀ i c,lo<=i->i≠r->zBS c i->c<hi->Le lt (f (o+c)) (f (o+i))
 over:∀ p c,lo<=p->zBS r p->zBS c r->c<hi->Le lt (f (o+c)) (f (o+p))
theorem HpX.start {o lo hi:Nat} {f:Nat->α} (h:Hp lt o (lo+1) hi f):HpX lt o lo hi lo f:=
 ⟨λi c h1 h2 h3 h4=>h i c (by omega) h3 h4,λp c h1 h2=>by unfold zBS at h2;omega⟩
theorem HpX.done (O:SWO lt) {o lo hi r:Nat} {f:Nat->α} (h:HpX lt o lo hi r f) (hr:∀ c,zBS c r->c<hi->Le lt (f (o+c)) (f (o+r))):Hp lt o lo hi f:=λi c h1 h2 h3=>by
 by_cases hi:i=r
 ·subst hi;exact hr c h2 h3
 ·exact h.up i c h1 hi h2 h3
theorem HpX.step (O:SWO lt) {o lo hi r b:Nat} {f:Nat->α} (h:HpX lt o lo hi r f) (hlo:lo<=r) (hb:zBS b r) (hbh:b<hi) (hmax:∀ c,zBS c r->c<hi->Le lt (f (o+c)) (f (o+b))) (hl:lt (f (o+r)) (f (o+b))=true):
  HpX lt o lo hi b (swp f (o+r) (o+b)):=by
 have hrb:r<b:=by unfold zBS at hb;omega
 have oth:∀ k,k≠r->k≠b->swp f (o+r) (o+b) (o+k)=f (o+k):=λk h1 h2=>zDM f (by omega) (by omega)
 have er:swp f (o+r) (o+b) (o+r)=f (o+b):=zKk f _ _
 have eb:swp f (o+r) (o+b) (o+b)=f (o+r):=zNB f _ _
 refine ⟨λi c h1 h2 h3 h4=>?_,λp c h1 h2 h3 h4=>?_⟩
 ·by_cases hi:i=r
  ·subst hi
   rw [er]
   by_cases hc:c=b
   ·subst hc;rw [eb];exact O.of_lt hl
   ·rw [oth c (by unfold zBS at h3;omega) hc];exact hmax c h3 h4
  ·rw [oth i hi h2]
   by_cases hc:c=r
   ·subst hc;rw [er];exact h.over i b h1 h3 hb hbh
   ·rw [oth c hc (by unfold zBS at h3 hb;omega)];exact h.up i c h1 hi h3 h4
 ·obtain rfl:p=r:=by unfold zBS at h2 hb;omega
  rw [er,oth c (by unfold zBS at h3 h2;omega) (by unfold zBS at h3;omega)]
  exact h.up b c (by omega) (by omega) h3 h4
theorem Hp.root (O:SWO lt) {o hi:Nat} {f:Nat->α} (h:Hp lt o 0 hi f):∀ n k,k<=n->k<hi->Le lt (f (o+k)) (f o)
 |0,k,hk,_=>by
  obtain rfl:k=0:=by omega
  exact O.refl _
 |n+1,k,hk,hk'=>by
  by_cases h0:k=0
  ·subst h0;exact O.refl _
  ·exact O.trans (h ((k - 1) / 2) k (by omega) (by unfold zBS;omega) hk') (Hp.root O h n ((k - 1) / 2) (by omega) (by omega))
structure HS (lt:α->α->Bool) (a b i:Nat) (g:Nat->α):Prop where
 hp:Hp lt a 0 i g
 so:yL lt (a+i) b g
 le:∀ k q,a<=k->k<a+i->a+i<=q->q<b->Le lt (g k) (g q)
theorem HS.step (O:SWO lt) {a b i:Nat} {g h:Nat->α} (hs:HS lt a b (i+1) g) (hib:a+i+1<=b) (hseg:Seg a (a+i) (swp g a (a+i)) h) (hp:Hp lt a 0 i h):HS lt a b i h:=by
 have hroot:∀ k,k<i+1->Le lt (g (a+k)) (g a):=λk hk=>Hp.root O hs.hp k k (zU _) hk
 have out:∀ q,a+i<=q->h q=swp g a (a+i) q:=λq hq=>hseg.out q (.inr hq)
 have oi:h (a+i)=g a:=by rw [out _ (zU _),zNB]
 have oq:∀ q,a+i<q->h q=g q:=λq hq=>by rw [out q (by omega),zDM g (by omega) (by omega)]
 refine ⟨hp,λp q h1 h2 h3=>?_,?_⟩
 ·rw [oq q (by omega)]
  by_cases hpi:p=a+i
  ·rw [hpi,oi];exact hs.le a q (zU _) (by omega) (by omega) h3
  ·rw [oq p (by omega)];exact hs.so p q (by omega) h2 h3
 ·intro k q hk hk' hq hq'
  refine Seg.all hseg (Q:=λz=>∀ q,a+i<=q->q<b->Le lt z (h q)) (λk hk hk' q hq hq'=>?_) k hk hk' q hq hq'
  have hz:∃ m,m<i+1/\swp g a (a+i) k=g (a+m):=by
   by_cases hka:k=a
   ·exact ⟨i,by omega,by rw [hka,zKk]⟩
   ·exact ⟨k - a,by omega,by rw [zDM g hka (by omega)];congr 1;omega⟩
  obtain ⟨m,hm,e⟩:=hz
  rw [e]
  by_cases hqi:q=a+i
  ·rw [hqi,oi];exact hroot m hm
  ·rw [oq q (by omega)];exact hs.le (a+m) q (by omega) (by omega) (by omega) hq'
end
end Go.VB.Srt
set_option linter.unusedVariables false
set_option linter.unusedSimpArgs false
namespace Go.VB
open Go.RowKit
def setB (w:World) (b:Nat) (o:Obj):World:={w with heap:=w.heap.setIfInBounds b o}
theorem zFi {w:World} {b:Nat} {o0 o:Obj} (h:w.heap[b]?=some o0):(setB w b o).heap[b]?=some o:=by
 have hlt:b<w.heap.size:=(Array.getElem?_eq_some_iff.1 h).1
 simp [setB,hlt]
theorem zEK {w:World} {b:Nat} {o:Obj}:w.grownBy (setB w b o) (some b):=
 ⟨rfl,rfl,rfl,by simp [setB],λk hk hne=>by
  have:b≠k:=λe=>hne (by rw [e])
  simp [setB,this]⟩
structure zFd {κ:Type} (P:Program) (kt:TypeId) (ek:κ->Value):Prop where
 chk:∀ b x w,(Instr.checkKey b 10000 kt (ek x)).run P w=.ok () w
 find:∀ x (es:List MapEntry) w,(∀ e∈es,∃ y,e.key=ek y)->
  ((Instr.findKey kt (ek x) es).run P w=.ok none w/\∀ e∈es,e.key≠ek x)∨(∃ i e,(Instr.findKey kt (ek x) es).run P w=.ok (some (i,e.val)) w/\es[i]?=some e/\e.key=ek x)
 stay:∀ x w,(Instr.keyThatStays (ek x) (ek x)).run P w=.ok (ek x) w
 inj:∀ x y,ek x=ek y->x=y
theorem zNp (x y:ByteArray):(x==y)=decide (x=y):=by rw [beq_toListBytes,zGF]
theorem run_findKey' {P:Program} {w:World} {kt:TypeId} {d:TypeDesc} (hd:P.underlying kt=some d) {k:Value} {es:List MapEntry} {r:Option (Nat × Value)} (h:Instr.findNow d k es 0=some r):
  (Instr.findKey kt k es).run P w=.ok r w:=by
 simp [Instr.findKey,run_underlying hd,h]
theorem zKi {x:ByteArray}:∀ (es:List MapEntry) (i:Nat),(∀ e∈es,∃ y:ByteArray,e.key=.string y)->
  (Instr.findNow .string (.string x) es i=some none/\∀ e∈es,e.key≠.string x)∨(∃ j e,Instr.findNow .string (.string x) es i=some (some (i+j,e.val))/\es[j]?=some e/\e.key=.string x)
 |[],i,_=>.inl ⟨rfl,by simp⟩
 |e::es,i,h=>by
  obtain ⟨y,hy⟩:=h e (by simp)
  by_cases hxy:x=y
  ·subst hxy
   exact .inr ⟨0,e,by simp [Instr.findNow,hy,Instr.sameNow,zNp],rfl,hy⟩
  ·have hf:Instr.findNow .string (.string x) (e::es) i=Instr.findNow .string (.string x) es (i+1):=by
    simp [Instr.findNow,hy,Instr.sameNow,zNp,hxy]
   rcases zKi es (i+1) (λe' he'=>h e' (by simp [he'])) with ⟨h1,h2⟩|⟨j,e',h1,h2,h3⟩
   ·refine .inl ⟨hf.trans h1,λe' he'=>?_⟩
    rcases List.mem_cons.1 he' with rfl|he'
    ·rw [hy];simpa using λh=>hxy h.symm
    ·exact h2 e' he'
   ·exact .inr ⟨j+1,e',by rw [hf,h1];congr 3;omega,by simpa using h2,h3⟩
theorem zFd.string {P:Program} {kt:TypeId} (hk:P.underlying kt=some .string):zFd P kt zZ where
 chk b x w:=MapKept.run_checkKey hk (by simp [MapKept.IsKey]) b 9999
 find x es w h:=by
  rcases zKi es 0 h with ⟨h1,h2⟩|⟨j,e,h1,h2,h3⟩
  ·exact .inl ⟨run_findKey' hk h1,h2⟩
  ·exact .inr ⟨j,e,by rw [run_findKey' hk h1];simp,h2,h3⟩
 stay x w:=by simp [Instr.keyThatStays,Instr.sameBits,zNp]
 inj x y h:=by injection h
theorem zKj {q:IntKind} {x:Int}:∀ (es:List MapEntry) (i:Nat),(∀ e∈es,∃ y:Int,e.key=.int q y)->
  (Instr.findNow (.int q) (.int q x) es i=some none/\∀ e∈es,e.key≠.int q x)∨(∃ j e,Instr.findNow (.int q) (.int q x) es i=some (some (i+j,e.val))/\es[j]?=some e/\e.key=.int q x)
 |[],i,_=>.inl ⟨rfl,by simp⟩
 |e::es,i,h=>by
  obtain ⟨y,hy⟩:=h e (by simp)
  by_cases hxy:x=y
  ·subst hxy
   exact .inr ⟨0,e,by simp [Instr.findNow,hy,Instr.sameNow,zNp],rfl,hy⟩
  ·have hf:Instr.findNow (.int q) (.int q x) (e::es) i=Instr.findNow (.int q) (.int q x) es (i+1):=by
    have hb:(x==y)=false:=by simpa using hxy
    simp [Instr.findNow,hy,Instr.sameNow,hb]
   rcases zKj es (i+1) (λe' he'=>h e' (by simp [he'])) with ⟨h1,h2⟩|⟨j,e',h1,h2,h3⟩
   ·refine .inl ⟨hf.trans h1,λe' he'=>?_⟩
    rcases List.mem_cons.1 he' with rfl|he'
    ·rw [hy];simpa using λh=>hxy h.symm
    ·exact h2 e' he'
   ·exact .inr ⟨j+1,e',by rw [hf,h1];congr 3;omega,by simpa using h2,h3⟩
theorem zFd.int {P:Program} {kt:TypeId} {q:IntKind} (hk:P.underlying kt=some (.int q)):zFd P kt (zV q) where
 chk b x w:=MapKept.run_checkKey hk (by simp [MapKept.IsKey]) b 9999
 find x es w h:=by
  rcases zKj es 0 h with ⟨h1,h2⟩|⟨j,e,h1,h2,h3⟩
  ·exact .inl ⟨run_findKey' hk h1,h2⟩
  ·exact .inr ⟨j,e,by rw [run_findKey' hk h1];simp,h2,h3⟩
 stay x w:=by simp [Instr.keyThatStays,Instr.sameBits,zNp]
 inj x y h:=by injection h
theorem zJZ {κ:Type} {P:Program} {kt:TypeId} {ek:κ->Value} (he:∀ x y w,∃ r,(Op.equal kt (ek x) (ek y)).run P w=.ok r w/\(r=true↔x=y)) (hinj:∀ x y,ek x=ek y->x=y) {x:κ} {w:World}:∀ (es:List MapEntry) (i:Nat),(∀ e∈es,∃ y,e.key=ek y)->
  ((Instr.findAsking kt (ek x) es i).run P w=.ok none w/\∀ e∈es,e.key≠ek x)∨(∃ j e,(Instr.findAsking kt (ek x) es i).run P w=.ok (some (i+j,e.val)) w/\es[j]?=some e/\e.key=ek x)
 |[],i,_=>.inl ⟨rfl,by simp⟩
 |e::es,i,h=>by
  obtain ⟨y,hy⟩:=h e (by simp)
  obtain ⟨r,h1,h2⟩:=he x y w
  cases r with
  |true=>
   obtain rfl:=h2.1 rfl
   exact .inr ⟨0,e,by simp [Instr.findAsking,hy,h1],rfl,hy⟩
  |false=>
   have hne:x≠y:=λe1=>by have:=h2.2 e1;cases this
   have hf:(Instr.findAsking kt (ek x) (e::es) i).run P w=(Instr.findAsking kt (ek x) es (i+1)).run P w:=by
    simp [Instr.findAsking,hy,h1]
   rcases zJZ he hinj es (i+1) (λe' he'=>h e' (by simp [he'])) with ⟨h3,h4⟩|⟨j,e',h3,h4,h5⟩
   ·refine .inl ⟨hf.trans h3,λe' he'=>?_⟩
    rcases List.mem_cons.1 he' with rfl|he'
    ·rw [hy];exact λh=>hne (hinj _ _ h).symm
    ·exact h4 e' he'
   ·exact .inr ⟨j+1,e',by rw [hf,h3];congr 3;omega,by simpa using h4,h5⟩
theorem zMr {F:Array Field} {k:Value} {e:MapEntry} {es:List MapEntry} {i:Nat}:Instr.findNow (.struct F) k (e::es) i=none:=by
 simp [Instr.findNow,Instr.sameNow]
theorem zFd.struct {κ:Type} {P:Program} {kt:TypeId} {ek:κ->Value} {F:Array Field} (hk:P.underlying kt=some (.struct F)) (hc:∀ b x w,(Instr.checkKey b 10000 kt (ek x)).run P w=.ok () w)
  (he:∀ x y w,∃ r,(Op.equal kt (ek x) (ek y)).run P w=.ok r w/\(r=true↔x=y)) (hs:∀ x,Instr.sameBits 10000 (ek x) (ek x)=true) (hinj:∀ x y,ek x=ek y->x=y):zFd P kt ek where
 chk:=hc
 find x es w h:=by
  cases es with
  |nil=>exact .inl ⟨run_findKey' hk rfl,by simp⟩
  |cons e es=>
   have h0:(Instr.findKey kt (ek x) (e::es)).run P w=(Instr.findAsking kt (ek x) (e::es) 0).run P w:=by
    simp [Instr.findKey,run_underlying hk,zMr]
   rcases zJZ he hinj (x:=x) (w:=w) (e::es) 0 h with ⟨h1,h2⟩|⟨j,e',h1,h2,h3⟩
   ·exact .inl ⟨h0.trans h1,h2⟩
   ·exact .inr ⟨j,e',by rw [h0,h1];simp,h2,h3⟩
 stay x w:=by simp [Instr.keyThatStays,hs]
 inj:=hinj
structure zGn {κ ν:Type} (ek:κ->Value) (ev:ν->Value) (w:World) (b:Nat) (f:κ->Option ν) (es:Array MapEntry) (clock:Nat):Prop where
 blk:w.heap[b]?=some (.map es clock)
 sound:∀ (i:Nat) (e:MapEntry),es[i]?=some e->∃ k v,e.key=ek k/\e.val=ev v/\f k=some v/\e.born<clock
 full:∀ k v,f k=some v->∃ (i:Nat) (e:MapEntry),es[i]?=some e/\e.key=ek k/\e.val=ev v
 one:∀ (i j:Nat) (e e':MapEntry),es[i]?=some e->es[j]?=some e'->e.key=e'.key∨e.born=e'.born->i=j
def zAD {κ ν:Type} (ek:κ->Value) (ev:ν->Value) (w:World) (b:Nat) (f:κ->Option ν):Prop:=∃ es clock,zGn ek ev w b f es clock
theorem zAD.bel {κ ν:Type} {ek:κ->Value} {ev:ν->Value} {w w':World} {b:Nat} {f:κ->Option ν} (h:zAD ek ev w b f) (hb:Bel w w'):zAD ek ev w' b f:=
 let ⟨es,c,m⟩:=h;⟨es,c,hb.blk m.blk,m.sound,m.full,m.one⟩
theorem zAD.grown {κ ν:Type} {ek:κ->Value} {ev:ν->Value} {w w':World} {b:Nat} {f:κ->Option ν} {row:Option Nat} (h:zAD ek ev w b f) (hg:w.grownBy w' row) (hr:row≠some b):zAD ek ev w' b f:=
 let ⟨es,c,m⟩:=h;⟨es,c,(hg.block b (Array.getElem?_eq_some_iff.1 m.blk).1 (λe=>hr e.symm)).trans m.blk,m.sound,m.full,m.one⟩
theorem zAD.lt {κ ν:Type} {ek:κ->Value} {ev:ν->Value} {w:World} {b:Nat} {f:κ->Option ν} (h:zAD ek ev w b f):b<w.heap.size:=
 let ⟨es,c,m⟩:=h;(Array.getElem?_eq_some_iff.1 m.blk).1
theorem zAD.new {κ ν:Type} (ek:κ->Value) (ev:ν->Value) (w:World):zAD ek ev (w.alloc (.map #[] 0)) w.heap.size (λ_=>none):=
 ⟨#[],0,zKC w _,by simp,by simp,by simp⟩
theorem At.grown {w w':World} {a:Addr} {cs:List Value} {row:Option Nat} (h:At w a cs) (hg:w.grownBy w' row) (hr:row≠some a.block):At w' a cs:=λj v hj=>by
 refine hg.cell (h j v hj) (λe=>hr ?_)
 rw [← e];unfold Addr.add;split<;>rfl
section
variable {κ ν:Type} {ek:κ->Value} {ev:ν->Value} {P:Program} {kt et mt:TypeId} {w:World} {b:Nat} {f:κ->Option ν}
open Classical in
noncomputable def upd (f:κ->Option ν) (k:κ) (v:ν):κ->Option ν:=λx=>if x=k then some v else f x
theorem Ql (f:κ->Option ν) (k:κ) (v:ν):upd f k v k=some v:=by simp [upd]
theorem yU (f:κ->Option ν) {k x:κ} (v:ν) (h:x≠k):upd f k v x=f x:=by simp [upd,h]
theorem zAD.run_look (h:zAD ek ev w b f) (K:zFd P kt ek) (hm:P.underlying mt=some (.map kt et)) {z:ν} (hz:∀ w,(zeroValue et).run P w=.ok (ev z) w) (x:κ):
  (Instr.lookup mt (.map (some b)) (ek x) false).run P w=.ok (ev ((f x).getD z)) w:=by
 obtain ⟨es,c,m⟩:=h
 have hks:∀ e∈es.toList,∃ y,e.key=ek y:=λe he=>by
  obtain ⟨i,hi⟩:=List.getElem?_of_mem he
  obtain ⟨k,v,h1,_⟩:=m.sound i e (by simpa using hi)
  exact ⟨k,h1⟩
 rcases K.find x es.toList w hks with ⟨h1,h2⟩|⟨i,e,h1,h2,h3⟩
 ·have hn:f x=none:=by
   cases hf:f x with
   |none=>rfl
   |some v=>
    obtain ⟨i,e,h3,h4,_⟩:=m.full x v hf
    exact absurd h4 (h2 e (List.mem_of_getElem? (i:=i) (by simpa using h3)))
  simp [Instr.lookup,run_underlying hm,MapKept.run_getObj_map m.blk,K.chk,h1,hz,hn,Result.andThen]
 ·obtain ⟨k,v,h4,h5,h6,_⟩:=m.sound i e (by simpa using h2)
  obtain rfl:k=x:=K.inj _ _ (h4.symm.trans h3)
  simp [Instr.lookup,run_underlying hm,MapKept.run_getObj_map m.blk,K.chk,h1,h5,h6,Result.andThen]
theorem zAD.run_lookOk (h:zAD ek ev w b f) (K:zFd P kt ek) (hm:P.underlying mt=some (.map kt et)) {z:ν} (hz:∀ w,(zeroValue et).run P w=.ok (ev z) w) (x:κ):
  (Instr.lookup mt (.map (some b)) (ek x) true).run P w=.ok (.tuple #[ev ((f x).getD z),.bool (f x).isSome]) w:=by
 obtain ⟨es,c,m⟩:=h
 have hks:∀ e∈es.toList,∃ y,e.key=ek y:=λe he=>by
  obtain ⟨i,hi⟩:=List.getElem?_of_mem he
  obtain ⟨k,v,h1,_⟩:=m.sound i e (by simpa using hi)
  exact ⟨k,h1⟩
 rcases K.find x es.toList w hks with ⟨h1,h2⟩|⟨i,e,h1,h2,h3⟩
 ·have hn:f x=none:=by
   cases hf:f x with
   |none=>rfl
   |some v=>
    obtain ⟨i,e,h3,h4,_⟩:=m.full x v hf
    exact absurd h4 (h2 e (List.mem_of_getElem? (i:=i) (by simpa using h3)))
  simp [Instr.lookup,run_underlying hm,MapKept.run_getObj_map m.blk,K.chk,h1,hz,hn,Result.andThen]
 ·obtain ⟨k,v,h4,h5,h6,_⟩:=m.sound i e (by simpa using h2)
  obtain rfl:k=x:=K.inj _ _ (h4.symm.trans h3)
  simp [Instr.lookup,run_underlying hm,MapKept.run_getObj_map m.blk,K.chk,h1,h5,h6,Result.andThen]
theorem zGn.push {es:Array MapEntry} {c:Nat} (m:zGn ek ev w b f es c) {x:κ} (hinj:∀ x y,ek x=ek y->x=y) (hno:∀ e∈es.toList,e.key≠ek x) (v:ν) {w':World} (hw:w'.heap[b]?=some (.map (es.push ⟨ek x,ev v,c⟩) (c+1))):
  zGn ek ev w' b (upd f x v) (es.push ⟨ek x,ev v,c⟩) (c+1):=by
 have hmem:∀ {i e},es[i]?=some e->e∈es.toList:=λ{i e} h=>List.mem_of_getElem? (i:=i) (by simpa using h)
 refine ⟨hw,λi e he=>?_,λk u hk=>?_,λi j e e' he he' hor=>?_⟩
 ·rw [Array.getElem?_push] at he
  split at he
  ·cases he;exact ⟨x,v,rfl,rfl,Ql f x v,by simp⟩
  ·obtain ⟨k,u,h1,h2,h3,h4⟩:=m.sound i e he
   have hkx:k≠x:=λe1=>hno e (hmem he) (by rw [h1,e1])
   exact ⟨k,u,h1,h2,by rw [yU f v hkx];exact h3,by omega⟩
 ·by_cases hkx:k=x
  ·subst hkx
   rw [Ql] at hk;cases hk
   exact ⟨es.size,⟨ek k,ev v,c⟩,by simp,rfl,rfl⟩
  ·rw [yU f v hkx] at hk
   obtain ⟨i,e,h1,h2,h3⟩:=m.full k u hk
   have hi:i<es.size:=(Array.getElem?_eq_some_iff.1 h1).1
   exact ⟨i,e,by rw [Array.getElem?_push,if_neg (by omega)];exact h1,h2,h3⟩
 ·rw [Array.getElem?_push] at he he'
  split at he<;>split at he'
  ·omega
  ·cases he
   obtain ⟨k,u,h1,h2,h3,h4⟩:=m.sound j e' he'
   rcases hor with h|h
   ·exact absurd h.symm (hno e' (hmem he'))
   ·simp at h;omega
  ·cases he'
   obtain ⟨k,u,h1,h2,h3,h4⟩:=m.sound i e he
   rcases hor with h|h
   ·exact absurd h (hno e (hmem he))
   ·simp at h;omega
  ·exact m.one i j e e' he he' hor
theorem zGn.set {es:Array MapEntry} {c:Nat} (m:zGn ek ev w b f es c) {x:κ} (hinj:∀ x y,ek x=ek y->x=y) {i:Nat} {e:MapEntry} (hi:es[i]?=some e) (hx:e.key=ek x) (v:ν) {g:MapEntry->MapEntry}
  (hg:(g e).key=ek x/\(g e).val=ev v/\(g e).born=e.born) {w':World} (hw:w'.heap[b]?=some (.map (es.modify i g) c)):zGn ek ev w' b (upd f x v) (es.modify i g) c:=by
 have get:∀ j e',(es.modify i g)[j]?=some e'->(j=i/\e'=g e)∨(j≠i/\es[j]?=some e'):=λj e' h=>by
  rw [Array.getElem?_modify] at h
  split at h
  ·rename_i hj;subst hj
   rw [hi] at h;simp at h;exact .inl ⟨rfl,h.symm⟩
  ·rename_i hj;exact .inr ⟨λh=>hj h.symm,h⟩
 have geti:(es.modify i g)[i]?=some (g e):=by rw [Array.getElem?_modify,if_pos rfl,hi];rfl
 have getn:∀ j e',j≠i->es[j]?=some e'->(es.modify i g)[j]?=some e':=λj e' h h'=>by rw [Array.getElem?_modify,if_neg (λh''=>h h''.symm)];exact h'
 obtain ⟨k0,v0,h1,h2,h3,h4⟩:=m.sound i e hi
 obtain rfl:k0=x:=hinj _ _ (h1.symm.trans hx)
 refine ⟨hw,λj e' he=>?_,λk u hk=>?_,λj l e1 e2 he he' hor=>?_⟩
 ·rcases get j e' he with ⟨rfl,rfl⟩|⟨hj,he⟩
  ·exact ⟨k0,v,hg.1,hg.2.1,Ql _ _ _,by rw [hg.2.2];exact h4⟩
  ·obtain ⟨k,u,h5,h6,h7,h8⟩:=m.sound j e' he
   have hk:k≠k0:=λe1=>hj (m.one j i e' e he hi (.inl (by rw [h5,hx,e1])))
   exact ⟨k,u,h5,h6,by rw [yU f v hk];exact h7,h8⟩
 ·by_cases hk0:k=k0
  ·subst hk0
   rw [Ql] at hk;cases hk
   exact ⟨i,_,geti,hg.1,hg.2.1⟩
  ·rw [yU f v hk0] at hk
   obtain ⟨j,e',h5,h6,h7⟩:=m.full k u hk
   have hj:j≠i:=λe1=>by subst e1;rw [hi] at h5;cases h5;exact hk0 (hinj _ _ (h6.symm.trans hx))
   exact ⟨j,e',getn j e' hj h5,h6,h7⟩
 ·rcases get j e1 he with ⟨hj,hje⟩|⟨hj,hje⟩
  ·rcases get l e2 he' with ⟨hl,hle⟩|⟨hl,hle⟩
   ·rw [hj,hl]
   ·rw [hj]
    rw [hje] at hor
    exact m.one _ _ e e2 hi hle (by rw [hg.1,hg.2.2] at hor;rw [hx];exact hor)
  ·rcases get l e2 he' with ⟨hl,hle⟩|⟨hl,hle⟩
   ·rw [hl]
    rw [hle] at hor
    exact m.one _ _ e1 e hje hi (by rw [hg.1,hg.2.2] at hor;rw [hx];exact hor)
   ·exact m.one _ _ e1 e2 hje hle hor
theorem zGn.keys {es:Array MapEntry} {c:Nat} (m:zGn ek ev w b f es c):∀ e∈es.toList,∃ y,e.key=ek y:=λe he=>by
 obtain ⟨i,hi⟩:=List.getElem?_of_mem he
 obtain ⟨k,v,h1,_⟩:=m.sound i e (by simpa using hi)
 exact ⟨k,h1⟩
theorem zOS {k:Option Nat->World->Prop} (H:zAD ek ev (w.alloc (.map #[] 0)) w.heap.size (λ_=>none)->k (some w.heap.size) (w.alloc (.map #[] 0))):opE P Value.map (Instr.makeMap mt none) w k:=⟨_,_,rfl,H (zAD.new ek ev w)⟩
theorem zSd (h:zAD ek ev w b f) (K:zFd P kt ek) (hm:P.underlying mt=some (.map kt et)) {z:ν} (hz:∀ w,(zeroValue et).run P w=.ok (ev z) w) (x:κ) {k:ν->World->Prop} (H:k ((f x).getD z) w):
  opE P ev (Instr.lookup mt (.map (some b)) (ek x) false) w k:=⟨_,w,h.run_look K hm hz x,H⟩
theorem zTt (h:zAD ek ev w b f) (K:zFd P kt ek) (hm:P.underlying mt=some (.map kt et)) {z:ν} (hz:∀ w,(zeroValue et).run P w=.ok (ev z) w) (x:κ) {k:ν->Prop} (H:k ((f x).getD z)):
  opB P ev (Instr.lookup mt (.map (some b)) (ek x) false) w k:=⟨_,λw' hb=>(h.bel hb).run_look K hm hz x,H⟩
theorem zQN (h:zAD ek ev w b f) (K:zFd P kt ek) (hm:P.underlying mt=some (.map kt et)) (x:κ) (v:ν) {k:World->Prop} (H:∀ w',zAD ek ev w' b (upd f x v)->w.grownBy w' (some b)->k w'):
  opU P (Instr.mapUpdate mt (.map (some b)) (ek x) (ev v)) w k:=by
 obtain ⟨es,c,m⟩:=h
 rcases K.find x es.toList w m.keys with ⟨h1,h2⟩|⟨i,e,h1,h2,h3⟩
 ·refine ⟨setB w b (.map (es.push ⟨ek x,ev v,c⟩) (c+1)),?_,H _ ⟨_,_,m.push K.inj h2 v (zFi m.blk)⟩ zEK⟩
  simp [Instr.mapUpdate,run_underlying hm,MapKept.run_getObj_map m.blk,K.chk,h1,MapKept.run_setObj_map _ m.blk,Result.andThen,setB]
 ·have hi:es[i]?=some e:=by simpa using h2
  refine ⟨setB w b (.map (es.modify i λe=>{e with key:=ek x,val:=ev v}) c),?_,H _ ⟨_,_,m.set K.inj hi h3 v ⟨rfl,rfl,rfl⟩ (zFi m.blk)⟩ zEK⟩
  simp [Instr.mapUpdate,run_underlying hm,MapKept.run_getObj_map m.blk,K.chk,h1,hi,h3,K.stay,MapKept.run_setObj_map _ m.blk,Result.andThen,setB]
theorem zTr (h:zAD ek ev w b f) (K:zFd P kt ek) (hm:P.underlying mt=some (.map kt et)) {z:ν} (hz:∀ w,(zeroValue et).run P w=.ok (ev z) w) (x:κ) {k:ν × Int->World->Prop}
  (H:∀ (born:Int) w',w.grownBy w' (some b)->zAD ek ev w' b (upd f x ((f x).getD z))->
   (∀ (v:ν) (K2:World->Prop),(∀ w'',zAD ek ev w'' b (upd f x v)->w'.grownBy w'' (some b)->K2 w'')->opU P (Instr.entryStore mt (.map (some b)) (.int .i64 born) (ev v)) w' K2)->k ((f x).getD z,born) w'):
  opE P (λp:ν × Int=>.tuple [ev p.1,.int .i64 p.2].toArray) (Instr.mapEntry mt (.map (some b)) (ek x)) w k:=by
 obtain ⟨es,c,m⟩:=h
 have store:∀ (w':World) (es':Array MapEntry) (c':Nat) (f':κ->Option ν) (i:Nat) (e:MapEntry),zGn ek ev w' b f' es' c'->es'[i]?=some e->e.key=ek x->
   (∀ v,upd f' x v=upd f x v)->∀ (v:ν) (K2:World->Prop),(∀ w'',zAD ek ev w'' b (upd f x v)->w'.grownBy w'' (some b)->K2 w'')->opU P (Instr.entryStore mt (.map (some b)) (.int .i64 (e.born:Int)) (ev v)) w' K2:=by
  intro w' es' c' f' i e m' hi hx hf v K2 HK
  have hidx:es'.findIdx? (λe'=>(e'.born:Int)==(e.born:Int))=some i:=by
   rw [Array.findIdx?_eq_some_iff_getElem]
   have hlt:i<es'.size:=(Array.getElem?_eq_some_iff.1 hi).1
   have he:es'[i]=e:=(Array.getElem?_eq_some_iff.1 hi).2
   refine ⟨hlt,by simp [he],λj hj=>?_⟩
   have hj':es'[j]?=some es'[j]:=by simp
   simp only [beq_iff_eq]
   intro hb
   have:=m'.one j i es'[j] e hj' hi (.inr (by omega))
   omega
  have m2:=m'.set K.inj hi hx v (g:=λe'=>{e' with val:=ev v}) ⟨hx,rfl,rfl⟩ (zFi (o:=.map (es'.modify i λe'=>{e' with val:=ev v}) c') m'.blk)
  rw [hf] at m2
  refine ⟨setB w' b (.map (es'.modify i λe'=>{e' with val:=ev v}) c'),?_,HK _ ⟨_,_,m2⟩ zEK⟩
  ·simp [Instr.entryStore,MapKept.run_getObj_map m'.blk,asInt,asIntOf,hidx,MapKept.run_setObj_map _ m'.blk,Result.andThen,setB]
 rcases K.find x es.toList w m.keys with ⟨h1,h2⟩|⟨i,e,h1,h2,h3⟩
 ·have hn:f x=none:=by
   cases hf:f x with
   |none=>rfl
   |some v=>
    obtain ⟨i,e,h3,h4,_⟩:=m.full x v hf
    exact absurd h4 (h2 e (List.mem_of_getElem? (i:=i) (by simpa using h3)))
  have m1:=m.push K.inj h2 z (zFi (o:=.map (es.push ⟨ek x,ev z,c⟩) (c+1)) m.blk)
  rw [hn] at H
  refine ⟨(z,(c:Int)),setB w b (.map (es.push ⟨ek x,ev z,c⟩) (c+1)),?_,?_⟩
  ·simp [Instr.mapEntry,run_underlying hm,MapKept.run_getObj_map m.blk,K.chk,h1,hz,MapKept.run_setObj_map _ m.blk,Result.andThen,setB,goInt]
  ·refine H c _ zEK ⟨_,_,m1⟩ ?_
   refine store _ _ _ _ es.size ⟨ek x,ev z,c⟩ m1 (by simp) rfl λv=>?_
   funext y;simp only [upd];split<;>simp_all
 ·have hi:es[i]?=some e:=by simpa using h2
  obtain ⟨k0,v0,h4,h5,h6,h7⟩:=m.sound i e hi
  obtain rfl:k0=x:=K.inj _ _ (h4.symm.trans h3)
  rw [h6] at H
  have m1:=m.set K.inj hi h3 v0 (g:=λe=>{e with key:=ek k0}) ⟨rfl,h5,rfl⟩ (zFi (o:=.map (es.modify i λe=>{e with key:=ek k0}) c) m.blk)
  refine ⟨(v0,(e.born:Int)),setB w b (.map (es.modify i λe=>{e with key:=ek k0}) c),?_,?_⟩
  ·simp [Instr.mapEntry,run_underlying hm,MapKept.run_getObj_map m.blk,K.chk,h1,hi,h3,h5,K.stay,MapKept.run_setObj_map _ m.blk,Result.andThen,setB,goInt]
  ·refine H e.born _ zEK ⟨_,_,m1⟩ ?_
   refine store _ _ _ _ i {e with key:=ek k0} m1 (by rw [Array.getElem?_modify,if_pos rfl,hi];rfl) rfl λv=>?_
   funext y;simp only [upd];split<;>simp_all
end
end Go.VB
