/- Texts by which the law's calls are walked (part 2): rules, printed conditions, contracts; no condition. -/
import Derived.TacticsIn
import Derived.TacticsInMore
import Derived.Deep.LoopGhost
import Derived.Sort.QuietThIn
import Derived.RangeFuncCalls
import Derived.RangeFuncNested
import Derived.RangeFuncLeaves
import Derived.WalkKit
import Derived.StillTail
import Derived.Test.YtjlfegnhomgjhaaDoorProg
import Derived.KernelRfl
import Derived.Deep.WholeRow
import Derived.Laws.StructEq
import Derived.MapFrom
import Derived.Maps.RangeRun
import Derived.Test.YtjlfegnhomgjhaaDoorPkTopCarriedA
open Go.Proofs.Tryd renaming prog → zA
open Go.IntKind renaming wrap → zF
open Go.Value renaming pointer → zC, int → zH, bool → yO
open Go.Instr renaming loadAt → zG, storeAt → zK, indexAt → zN, fieldAt → zJ, alloc → z6, build → yI, buildSlice → zd
open Nat renaming le_refl → zP
set_option linter.unusedVariables false
set_option linter.unusedSimpArgs false
namespace Go.VB
open Go.RowKit
theorem Bel.trans {a b c:World} (h:Bel a b) (k:Bel b c):Bel a c:=Below.trans h ⟨k.os,k.tape,k.output,k.size,λi hi=>k.block i (Nat.lt_of_lt_of_le hi h.size)⟩
theorem Bel.alloc (w:World) (o:Obj):Bel w (w.alloc o):=(Below.refl _ _).alloc (zP _) o
theorem Bel.le {a b:World} (h:Bel a b):a.heap.size<=b.heap.size:=h.size
theorem Bel.cell {a b:World} (h:Bel a b) {p:Addr} {v:Value} (hc:a.cell? p=some v):b.cell? p=some v:=
 (Below.cell h (World.block_lt_of_cell? _ _ hc)).trans hc
theorem Bel.blk {a b:World} (h:Bel a b) {k:Nat} {o:Obj} (hc:a.heap[k]?=some o):b.heap[k]?=some o:=
 (h.block k (Array.getElem?_eq_some_iff.1 hc).1).trans hc
theorem size_alloc' (w:World) (o:Obj):(w.alloc o).heap.size=w.heap.size+1:=by show (w.heap.push o).size=_;simp
theorem Zd (w:World) (o:Obj):(w.alloc o).heap[w.heap.size]?=some o:=by show (w.heap.push o)[w.heap.size]?=_;simp
def At (w:World) (a:Addr) (cs:List Value):Prop:=∀ j v,cs[j]?=some v->w.cell? (a.add j)=some v
theorem At.bel {w w':World} {a:Addr} {cs:List Value} (h:At w a cs) (hb:Bel w w'):At w' a cs:=λj v hj=>hb.cell (h j v hj)
theorem add_plain' (g j:Nat):(⟨g,0,none⟩:Addr).add j=⟨g,j,none⟩:=by unfold Addr.add;split<;>simp_all
theorem Ys (a:Addr) (i j:Nat):(a.add i).add j=a.add (i+j):=by
 unfold Addr.add
 by_cases h1:i=0<;>by_cases h2:j=0<;>simp [h1,h2]
 omega
theorem At.blk {w:World} {b:Nat} {cs:List Value} {t:TypeId} {fr:Nat × Nat} (h:w.heap[b]?=some (.cells cs.toArray t fr)):At w ⟨b,0,none⟩ cs:=by
 intro j v hj
 rw [add_plain']
 simp [World.cell?,h,hj]
theorem At.new (w:World) (cs:List Value) (t:TypeId):At (w.alloc (.cells cs.toArray t)) ⟨w.heap.size,0,none⟩ cs:=At.blk (Zd w _)
structure Agg (P:Program) (t n:Nat):Prop where
 agg:∀ w,(isAgg t).run P w=.ok true w
 size:∀ w,(sizeOf t).run P w=.ok n w
 info:(P.info? t).map (·.size)=some n
structure One (P:Program) (t:Nat):Prop where
 agg:∀ w,(isAgg t).run P w=.ok false w
 size:∀ w,(sizeOf t).run P w=.ok 1 w
theorem QK {P:Program} {t n:Nat} (h:Agg P t n) {w:World} {a:Addr} {cs:List Value} (hc:At w a cs) (hn:cs.length=n):
  (zG t (.pointer (some a))).run P w=.ok (.agg cs.toArray) w:=by
 subst hn
 simp [zG,Instr.sureAddr,loadVar,h.agg w,h.size w,run_loadCells_list w a cs hc]
theorem xx {P:Program} {t:Nat} (h:One P t) {w:World} {a:Addr} {v:Value} (hc:w.cell? a=some v):
  (zG t (.pointer (some a))).run P w=.ok v w:=by
 simp [zG,Instr.sureAddr,loadVar,h.agg w,load,Sem.run,hc]
theorem ZZ {P:Program} {t e n:Nat} (hu:P.underlying t=some (.slice e)) (hs:∀ w,(sizeOf e).run P w=.ok n w) {w:World} {s:Sl} {ad:Addr} {k:IntKind} {i:Int}
  (ha:s.a=some ad) (h0:0<=i) (h1:i<s.len):(zN t (Sl.v s) (.int k i)).run P w=.ok (.pointer (some (ad.add (i.toNat*n)))) w:=by
 simp [zN,run_underlying hu,asIntOf,ha,h0,h1,hs w]
structure Rd {α:Type} (c:α->List Value) (n:Nat) (w:World) (s:Sl) (xs:List α):Prop where
 len:xs.length=s.len
 cap:s.len<=s.cap
 capm:s.cap<=9223372036854775807
 big:s.len<=140737488355328
 nilc:s.a=none->s.cap=0
 cells:∀ i x,xs[i]?=some x->∃ ad,s.a=some ad/\At w (ad.add (i*n)) (c x)
theorem Rd.bel {α:Type} {c:α->List Value} {n:Nat} {w w':World} {s:Sl} {xs:List α} (h:Rd c n w s xs) (hb:Bel w w'):Rd c n w' s xs:=
 ⟨h.len,h.cap,h.capm,h.big,h.nilc,λi x hx=>let ⟨ad,e,ha⟩:=h.cells i x hx;⟨ad,e,ha.bel hb⟩⟩
theorem Rd.nil {α:Type} (c:α->List Value) (n:Nat) (w:World):Rd c n w Sl.none []:=⟨rfl,by simp,by simp,by simp,λ_=>rfl,λi x h=>by simp at h⟩
section
variable {P:Program} {w:World}
theorem Yk {α:Type} {c:α->List Value} {n t e:Nat} {s:Sl} {xs:List α} {i:Int} {k:Option Addr->World->Prop} (h:Rd c n w s xs)
  (hu:P.underlying t=some (.slice e)) (hs:∀ w,(sizeOf e).run P w=.ok n w) (h0:0<=i) {x:α} (hx:xs[i.toNat]?=some x) (H:∀ ad,At w ad (c x)->k (some ad) w):
  opE P zC (zN t (Sl.v s) (.int .i64 i)) w k:=by
 obtain ⟨ad,ha,hc⟩:=h.cells _ x hx
 have hlt:i.toNat<xs.length:=(List.getElem?_eq_some_iff.1 hx).1
 exact ⟨_,w,ZZ hu hs ha h0 (by have:=h.len;omega),H _ hc⟩
theorem Yw {τ:Type} {enc:τ->Value} {t n:Nat} (hA:Agg P t n) {ad:Addr} {cs:List Value} {k:τ->World->Prop} (x:τ) (hx:enc x=.agg cs.toArray) (h:At w ad cs) (hn:cs.length=n) (H:k x w):
  opE P enc (zG t (.pointer (some ad))) w k:=⟨x,w,by rw [QK hA h hn,hx],H⟩
theorem ZM {τ:Type} {enc:τ->Value} {t:Nat} (hA:One P t) {ad:Addr} {k:τ->World->Prop} (x:τ) (h:w.cell? ad=some (enc x)) (H:k x w):
  opE P enc (zG t (.pointer (some ad))) w k:=⟨x,w,xx hA h,H⟩
theorem yZ {τ:Type} {enc:τ->Value} {s f off t:Nat} (hf:∀ p w,(zJ s (.pointer (some p)) f).run P w=.ok (.pointer (some (p.add off))) w) (hA:One P t)
  {ad:Addr} {cs:List Value} {k:τ->World->Prop} (h:At w ad cs) (x:τ) (hx:cs[off]?=some (enc x)) (H:k x w):
  opE P zC (zJ s (.pointer (some ad)) f) w (λp w=>opE P enc (zG t (.pointer p)) w k):=
 ⟨_,w,hf ad w,x,w,xx hA (h _ _ hx),H⟩
theorem zBS {t n:Nat} {z:List Value} (hz:∀ w,(z6 t true (.tuple #[])).run P w=.ok (.pointer (some ⟨w.heap.size,0,none⟩)) (w.alloc (.cells z.toArray t))) (hzn:z.length=n)
  (hA:Agg P t n) {cs:List Value} (hn:cs.length=n) (h1:cs.all (·.oneCell')=true) {v:Value} (hv:v=.agg cs.toArray) {k:Option Addr->World->Prop}
  (H:k (some ⟨w.heap.size,0,none⟩) (w.alloc (.cells cs.toArray t))):
  opE P zC (z6 t true (.tuple #[])) w (λp w=>opU P (zK t (.pointer p) v) w (k p)):=by
 subst hv
 refine ⟨_,_,hz w,_,run_storeAt_new w t z.toArray cs.toArray ?_ (by simp [hzn,hn]) (by simpa using h1),H⟩
 rw [hA.info];simp [hn]
end
section
variable {P:Program} {w:World}
theorem zCC {α:Type} {c:α->List Value} {n t e:Nat} {s:Sl} {xs:List α} {i:Int} {k:Option Addr->Prop} (h:Rd c n w s xs)
  (hu:P.underlying t=some (.slice e)) (hs:∀ w,(sizeOf e).run P w=.ok n w) (h0:0<=i) {x:α} (hx:xs[i.toNat]?=some x) (H:∀ ad,At w ad (c x)->k (some ad)):
  opB P zC (zN t (Sl.v s) (.int .i64 i)) w k:=by
 obtain ⟨ad,ha,hc⟩:=h.cells _ x hx
 have hlt:i.toNat<xs.length:=(List.getElem?_eq_some_iff.1 hx).1
 exact ⟨_,λw' _=>ZZ hu hs ha h0 (by have:=h.len;omega),H _ hc⟩
theorem zCA {τ:Type} {enc:τ->Value} {t n:Nat} (hA:Agg P t n) {ad:Addr} {cs:List Value} {k:τ->Prop} (x:τ) (hx:enc x=.agg cs.toArray) (h:At w ad cs) (hn:cs.length=n) (H:k x):
  opB P enc (zG t (.pointer (some ad))) w k:=⟨x,λw' hb=>by rw [QK hA (h.bel hb) hn,hx],H⟩
theorem zCE {τ:Type} {enc:τ->Value} {t:Nat} (hA:One P t) {ad:Addr} {k:τ->Prop} (x:τ) (h:w.cell? ad=some (enc x)) (H:k x):
  opB P enc (zG t (.pointer (some ad))) w k:=⟨x,λw' hb=>xx hA (hb.cell h),H⟩
theorem zB9 {τ:Type} {enc:τ->Value} {s f off t:Nat} (hf:∀ p w,(zJ s (.pointer (some p)) f).run P w=.ok (.pointer (some (p.add off))) w) (hA:One P t)
  {ad:Addr} {cs:List Value} {k:τ->Prop} (h:At w ad cs) (x:τ) (hx:cs[off]?=some (enc x)) (H:k x):
  opB P zC (zJ s (.pointer (some ad)) f) w (λp=>opB P enc (zG t (.pointer p)) w k):=
 ⟨_,λw' _=>hf ad w',x,λw' hb=>xx hA (hb.cell (h _ _ hx)),H⟩
end
theorem Yr {α:Type} {c:α->List Value} {n:Nat} (hc:∀ x,(c x).length=n):∀ (xs:List α) (i j:Nat) (x:α),xs[i]?=some x->j<n->(xs.flatMap c)[i*n+j]?=(c x)[j]?
 |[],i,j,x,h,_=>by simp at h
 |y::r,0,j,x,h,hj=>by
  simp at h;subst h
  rw [List.flatMap_cons,List.getElem?_append_left (by rw [hc];omega)]
  simp
 |y::r,i+1,j,x,h,hj=>by
  have h':r[i]?=some x:=by simpa using h
  rw [List.flatMap_cons,List.getElem?_append_right (by rw [hc,Nat.add_mul];omega),hc,← Yr hc r i j x h' hj]
  congr 1
  rw [Nat.add_mul];omega
theorem YR {α:Type} {c:α->List Value} {n:Nat} (hc:∀ x,(c x).length=n) (xs:List α):(xs.flatMap c).length=xs.length*n:=by
 induction xs with
 |nil=>simp
 |cons y r ih=>simp [List.flatMap_cons,hc,ih,Nat.add_mul];omega
theorem QO {a b c:World} {row:Option Nat} (h:a.grownBy b row) (k:b.grownBy c row):a.grownBy c row:=
 ⟨k.os.trans h.os,k.tape.trans h.tape,k.output.trans h.output,Nat.le_trans h.size k.size,λi hi hr=>(k.block i (Nat.lt_of_lt_of_le hi h.size) hr).trans (h.block i hi hr)⟩
structure OwnS {α:Type} (c:α->List Value) (n e base:Nat) (w:World) (s:Sl) (xs:List α):Prop where
 len:xs.length=s.len
 small:s.len<=140737488355328
 row:w.ownsRow base e n (Sl.v s) s.len (xs.flatMap c)
theorem OwnS.nil {α:Type} (c:α->List Value) (n e base:Nat) (w:World):OwnS c n e base w Sl.none []:=⟨rfl,by simp,World.ownsRow_nil _ _ _ _⟩
theorem OwnS.rd {α:Type} {c:α->List Value} {n e base:Nat} {w:World} {s:Sl} {xs:List α} (h:OwnS c n e base w s xs) (hc:∀ x,(c x).length=n):Rd c n w s xs:=by
 obtain ⟨hl,hs,hr⟩:=h
 obtain ⟨a,len,cap⟩:=s
 rcases hr.2 with ⟨h1,h2⟩|⟨g,cap',cur,h1,hb,hh,hcap,hm,hsz,htk⟩
 ·injection h1 with h3 h4 h5
  subst h3;subst h5
  simp only at h2;subst h2
  exact ⟨hl,by simp,by simp,by simp,λ_=>rfl,λi x hx=>by
   have:i<xs.length:=(List.getElem?_eq_some_iff.1 hx).1
   simp at hl;subst hl;simp at this⟩
 ·injection h1 with h3 h4 h5
  subst h3;subst h5
  refine ⟨hl,hcap,by simpa [maxLen] using hm,hs,λh=>by simp at h,λi x hx=>⟨⟨g,0,none⟩,rfl,λj u hj=>?_⟩⟩
  have hjn:j<n:=by have:=(List.getElem?_eq_some_iff.1 hj).1;rw [hc] at this;exact this
  rw [Ys]
  refine hr.cells (g:=g) rfl _ _ ?_
  rw [Yr hc xs i j x hx hjn];exact hj
theorem OwnS.kept {α:Type} {c:α->List Value} {n e base:Nat} {w w':World} {s:Sl} {xs:List α} (h:OwnS c n e base w s xs) {row:Option Nat} (hg:w.grownBy w' row) (hne:(Sl.v s).ownBlock=none∨(Sl.v s).ownBlock≠row):OwnS c n e base w' s xs:=
 ⟨h.len,h.small,h.row.kept hg hne⟩
theorem YX {w w':World} (h:Bel w w') (row:Option Nat):w.grownBy w' row:=⟨h.os,h.tape,h.output,h.size,λk hk _=>h.block k hk⟩
theorem OwnS.bel {α:Type} {c:α->List Value} {n e base:Nat} {w w':World} {s:Sl} {xs:List α} (h:OwnS c n e base w s xs) (hb:Bel w w'):OwnS c n e base w' s xs:=by
 refine h.kept (YX hb none) ?_
 cases (Sl.v s).ownBlock<;>simp
theorem OwnS.lo {α:Type} {c:α->List Value} {n e base:Nat} {w:World} {s:Sl} {xs:List α} (h:OwnS c n e base w s xs) {k:Nat} (hk:(Sl.v s).ownBlock=some k):base<=k:=(h.row.lt k hk).1
theorem Bel.grown {w0 w w':World} {row:Option Nat} (h:Bel w0 w) (hg:w.grownBy w' row) (hr:∀ k,row=some k->w0.heap.size<=k):Bel w0 w':=Below.grown h hg h.size hr
section
variable {P:Program} {w0 w:World} {α:Type} {c:α->List Value} {n e t bytes base:Nat}
theorem zAb {s y:Sl} {xs ys:List α} (hO:OwnS c n e base w s xs) (hy:Rd c n w y ys) (hc:∀ x,(c x).length=n) (h1:∀ x,(c x).all (·.oneCell')=true) (hn:0<n)
  (hu:P.underlying t=some (.slice e)) {z:Value} (hi:(P.info? e).map (λi=>(i.zero,i.size,i.bytes))=some (some z,n,bytes)) (hz:z.cells.size=n) (hby:0<bytes)
  (hB:Bel w0 w) (hb:w0.heap.size<=base) (hbw:base<=w.heap.size) (room:(xs.length+ys.length)*bytes<=140737488355328) {k:Sl->World->Prop} {ty:TypeId}
  (H:∀ s' w',OwnS c n e base w' s' (xs++ys)->Bel w0 w'->w.grownBy w' (Sl.v s).ownBlock->k s' w'):
  opE P Sl.v (Builtin.append_ #[t,t] ty [Sl.v s,Sl.v y].toArray) w k:=by
 obtain ⟨i0,hi0,hi1⟩:=Option.map_eq_some_iff.1 hi
 simp only [Prod.mk.injEq] at hi1
 obtain ⟨hz0,hz1,hz2⟩:=hi1
 have hroom:xs.length+ys.length<=140737488355328:=Nat.le_trans (Nat.le_mul_of_pos_right _ hby) room
 have hsl:=hO.len
 have hyl:=hy.len
 by_cases hya:y.a=none
 ·have hcap:=hy.nilc hya
  have hlen:y.len=0:=by have:=hy.cap;omega
  have hy0:ys=[]:=List.eq_nil_of_length_eq_zero (by omega)
  have hyv:Sl.v y=.slice none 0 0:=by simp [Sl.v,hya,hcap,hlen]
  refine ⟨s,w,?_,H s w (by rw [hy0];simpa using hO) hB (World.grownBy.refl _ _)⟩
  rw [hyv]
  exact run_append_owned_none (w:=w) base t ty e i0 n hu hi0 (Sl.v s) s.len _ hO.row
 ·obtain ⟨ad,had⟩:∃ ad,y.a=some ad:=by
   cases h:y.a with
   |none=>exact absurd h hya
   |some ad=>exact ⟨ad,rfl⟩
  have hnews:∀ j u,(ys.flatMap c)[j]?=some u->w.cell? (ad.add j)=some u:=by
   intro j u hj
   have hjl:j<ys.length*n:=by have:=(List.getElem?_eq_some_iff.1 hj).1;rwa [YR hc] at this
   have hdiv:j / n<ys.length:=Nat.div_lt_of_lt_mul (by rwa [Nat.mul_comm] at hjl)
   have hmod:j % n<n:=Nat.mod_lt _ hn
   have hx:ys[j / n]?=some ys[j / n]:=by simp [hdiv]
   obtain ⟨ad',h3,h4⟩:=hy.cells _ _ hx
   rw [had] at h3;obtain rfl:=Option.some.inj h3
   have he:j / n*n+j % n=j:=by rw [Nat.mul_comm];exact Nat.div_add_mod j n
   have h5:=Yr hc ys (j / n) (j % n) _ hx hmod
   rw [he,hj] at h5
   have h6:=h4 (j % n) u h5.symm
   rwa [Ys,he] at h6
  obtain ⟨v',w',hrun,r1,r2,r3⟩:=run_append_own (P:=P) w base t ty e i0 z n bytes hu hi0 hz0 hz1 hz2 hz hn (Sl.v s) s.len _ hO.row ad y.len y.cap (ys.flatMap c) (by rw [YR hc,hyl]) hnews
   (λu hu'=>by
    obtain ⟨x,_,hx⟩:=List.mem_flatMap.1 hu'
    have:=h1 x
    rw [List.all_eq_true] at this
    exact this u hx) (by simp only [maxLen];omega) (by rw [← hsl,← hyl];exact room) hbw
  obtain ⟨s',hs'⟩:∃ s':Sl,v'=Sl.v s'/\s'.len=s.len+y.len:=by
   rcases r1.2 with ⟨h1,h2⟩|⟨g,cap,cur,h1,_⟩
   ·exact ⟨Sl.none,h1,by simp;omega⟩
   ·exact ⟨⟨some ⟨g,0,none⟩,s.len+y.len,cap⟩,h1,rfl⟩
  obtain ⟨rfl,hlen'⟩:=hs'
  refine ⟨s',w',?_,H s' w' ⟨by simp;omega,by omega,by rw [hlen',List.flatMap_append];exact r1⟩ (hB.grown r2 (λk hk=>Nat.le_trans hb (hO.lo hk))) r2⟩
  have:Sl.v y=.slice (some ad) y.len y.cap:=by simp [Sl.v,had]
  rw [this];exact hrun
theorem OwnS.lit0 (hbw:base<=w.heap.size):OwnS c n e base (w.alloc (.cells #[] e)) ⟨some ⟨w.heap.size,0,none⟩,0,0⟩ []:=
 ⟨rfl,by simp,by have:=World.ownsRow_lit (base:=base) (e:=e) (size:=n) w #[] 0 hbw (by simp) (by simp);simpa using this⟩
end
def Sl.sub (s:Sl) (l h n:Nat):Sl:=⟨if s.cap=l then s.a else s.a.map (·.add (l*n)),h - l,s.cap - l⟩
theorem zAl {P:Program} {w:World} {t e n:Nat} (hu:P.underlying t=some (.slice e)) (hs:∀ w,(sizeOf e).run P w=.ok n w) {s:Sl} {kl:IntKind} {l:Nat} (h0:l<=s.len):
  (Instr.sliceAt t (Sl.v s) (some (.int kl l)) none none).run P w=.ok (Sl.v (s.sub l s.len n)) w:=by
 simp [Instr.sliceAt,run_underlying hu,Instr.slice,Instr.sliceBounds,Instr.sliceBound,asIntOf,hs w,h0,Sl.sub]
theorem Rd.sub {α:Type} {c:α->List Value} {n:Nat} {w:World} {s:Sl} {xs:List α} (hr:Rd c n w s xs) {l h:Nat} (h0:l<=h) (h1:h<=s.len):Rd c n w (s.sub l h n) ((xs.drop l).take (h - l)):=by
 have hcap:=hr.cap;have hlen:=hr.len;have hbig:=hr.big;have hm:=hr.capm
 refine ⟨by simp [Sl.sub];omega,by simp [Sl.sub];omega,by simp [Sl.sub];omega,by simp [Sl.sub];omega,λhn=>?_,λi x hx=>?_⟩
 ·have:s.a=none:=by
   unfold Sl.sub at hn;simp only at hn
   split at hn
   ·exact hn
   ·cases h:s.a with
    |none=>rfl
    |some a=>rw [h] at hn;simp at hn
  have:=hr.nilc this
  simp [Sl.sub];omega
 ·have hi:i<h - l:=by
   have:=(List.getElem?_eq_some_iff.1 hx).1
   simp at this;omega
  have hx':xs[l+i]?=some x:=by
   rw [List.getElem?_take_of_lt hi,List.getElem?_drop] at hx;exact hx
  obtain ⟨ad,ha,hA⟩:=hr.cells _ _ hx'
  have hne:¬ s.cap=l:=by omega
  refine ⟨ad.add (l*n),by simp [Sl.sub,hne,ha],?_⟩
  rw [Ys,← Nat.add_mul]
  exact hA
section
variable {P:Program} {w:World} {d:Nat} {xs ys:Array Value} {f:Field} {fs:List Field} {a b:Value}
theorem eqI {t:TypeId} {k k':IntKind} (h:P.underlying t=some (.int k')) (m n:Int):∃ r,(Op.equalIn (d+1) t (.int k m) (.int k n)).run P w=.ok r w/\(r=true↔m=n):=⟨_,run_equalIn_int w d t k k' m n h,by simp⟩
theorem eqS {t:TypeId} (h:P.underlying t=some .string) (m n:ByteArray):∃ r,(Op.equalIn (d+1) t (.string m) (.string n)).run P w=.ok r w/\(r=true↔m=n):=⟨_,run_equalIn_string w d t m n h,by rw [YU];simp⟩
end
theorem wr64 {n:Int} (h0 : -9223372036854775808<=n) (h1:n<=9223372036854775807):zF .i64 n=n:=IntWalk.i64_in _ ⟨h0,h1⟩
end Go.VB
set_option linter.unusedVariables false
set_option linter.unusedSimpArgs false
namespace Go.VB
open Go.RowKit
def setB (w:World) (b:Nat) (o:Obj):World:={w with heap:=w.heap.setIfInBounds b o}
theorem YW {w:World} {b:Nat} {o0 o:Obj} (h:w.heap[b]?=some o0):(setB w b o).heap[b]?=some o:=by
 have hlt:b<w.heap.size:=(Array.getElem?_eq_some_iff.1 h).1
 simp [setB,hlt]
theorem YB {w:World} {b:Nat} {o:Obj}:w.grownBy (setB w b o) (some b):=
 ⟨rfl,rfl,rfl,by simp [setB],λk hk hne=>by
  have:b≠k:=λe=>hne (by rw [e])
  simp [setB,this]⟩
structure QM {κ:Type} (P:Program) (kt:TypeId) (ek:κ->Value):Prop where
 chk:∀ b x w,(Instr.checkKey b 10000 kt (ek x)).run P w=.ok () w
 find:∀ x (es:List MapEntry) w,(∀ e∈es,∃ y,e.key=ek y)->
  ((Instr.findKey kt (ek x) es).run P w=.ok none w/\∀ e∈es,e.key≠ek x)∨(∃ i e,(Instr.findKey kt (ek x) es).run P w=.ok (some (i,e.val)) w/\es[i]?=some e/\e.key=ek x)
 stay:∀ x w,(Instr.keyThatStays (ek x) (ek x)).run P w=.ok (ek x) w
 inj:∀ x y,ek x=ek y->x=y
theorem Zo (x y:ByteArray):(x==y)=decide (x=y):=by rw [beq_toListBytes,YU]
theorem run_findKey' {P:Program} {w:World} {kt:TypeId} {d:TypeDesc} (hd:P.underlying kt=some d) {k:Value} {es:List MapEntry} {r:Option (Nat × Value)} (h:Instr.findNow d k es 0=some r):
  (Instr.findKey kt k es).run P w=.ok r w:=by
 simp [Instr.findKey,run_underlying hd,h]
theorem Yj {x:ByteArray}:∀ (es:List MapEntry) (i:Nat),(∀ e∈es,∃ y:ByteArray,e.key=.string y)->
  (Instr.findNow .string (.string x) es i=some none/\∀ e∈es,e.key≠.string x)∨(∃ j e,Instr.findNow .string (.string x) es i=some (some (i+j,e.val))/\es[j]?=some e/\e.key=.string x)
 |[],i,_=>.inl ⟨rfl,by simp⟩
 |e::es,i,h=>by
  obtain ⟨y,hy⟩:=h e (by simp)
  by_cases hxy:x=y
  ·subst hxy
   exact .inr ⟨0,e,by simp [Instr.findNow,hy,Instr.sameNow,Zo],rfl,hy⟩
  ·have hf:Instr.findNow .string (.string x) (e::es) i=Instr.findNow .string (.string x) es (i+1):=by
    simp [Instr.findNow,hy,Instr.sameNow,Zo,hxy]
   rcases Yj es (i+1) (λe' he'=>h e' (by simp [he'])) with ⟨h1,h2⟩|⟨j,e',h1,h2,h3⟩
   ·refine .inl ⟨hf.trans h1,λe' he'=>?_⟩
    rcases List.mem_cons.1 he' with rfl|he'
    ·rw [hy];simpa using λh=>hxy h.symm
    ·exact h2 e' he'
   ·exact .inr ⟨j+1,e',by rw [hf,h1];congr 3;omega,by simpa using h2,h3⟩
theorem QM.string {P:Program} {kt:TypeId} (hk:P.underlying kt=some .string):QM P kt Value.string where
 chk b x w:=MapKept.run_checkKey hk (by simp [MapKept.IsKey]) b 9999
 find x es w h:=by
  rcases Yj es 0 h with ⟨h1,h2⟩|⟨j,e,h1,h2,h3⟩
  ·exact .inl ⟨run_findKey' hk h1,h2⟩
  ·exact .inr ⟨j,e,by rw [run_findKey' hk h1];simp,h2,h3⟩
 stay x w:=by simp [Instr.keyThatStays,Instr.sameBits,Zo]
 inj x y h:=by injection h
theorem Ym {q:IntKind} {x:Int}:∀ (es:List MapEntry) (i:Nat),(∀ e∈es,∃ y:Int,e.key=.int q y)->
  (Instr.findNow (.int q) (.int q x) es i=some none/\∀ e∈es,e.key≠.int q x)∨(∃ j e,Instr.findNow (.int q) (.int q x) es i=some (some (i+j,e.val))/\es[j]?=some e/\e.key=.int q x)
 |[],i,_=>.inl ⟨rfl,by simp⟩
 |e::es,i,h=>by
  obtain ⟨y,hy⟩:=h e (by simp)
  by_cases hxy:x=y
  ·subst hxy
   exact .inr ⟨0,e,by simp [Instr.findNow,hy,Instr.sameNow,Zo],rfl,hy⟩
  ·have hf:Instr.findNow (.int q) (.int q x) (e::es) i=Instr.findNow (.int q) (.int q x) es (i+1):=by
    have hb:(x==y)=false:=by simpa using hxy
    simp [Instr.findNow,hy,Instr.sameNow,hb]
   rcases Ym es (i+1) (λe' he'=>h e' (by simp [he'])) with ⟨h1,h2⟩|⟨j,e',h1,h2,h3⟩
   ·refine .inl ⟨hf.trans h1,λe' he'=>?_⟩
    rcases List.mem_cons.1 he' with rfl|he'
    ·rw [hy];simpa using λh=>hxy h.symm
    ·exact h2 e' he'
   ·exact .inr ⟨j+1,e',by rw [hf,h1];congr 3;omega,by simpa using h2,h3⟩
theorem QM.int {P:Program} {kt:TypeId} {q:IntKind} (hk:P.underlying kt=some (.int q)):QM P kt (zH q) where
 chk b x w:=MapKept.run_checkKey hk (by simp [MapKept.IsKey]) b 9999
 find x es w h:=by
  rcases Ym es 0 h with ⟨h1,h2⟩|⟨j,e,h1,h2,h3⟩
  ·exact .inl ⟨run_findKey' hk h1,h2⟩
  ·exact .inr ⟨j,e,by rw [run_findKey' hk h1];simp,h2,h3⟩
 stay x w:=by simp [Instr.keyThatStays,Instr.sameBits,Zo]
 inj x y h:=by injection h
theorem Q5 {κ:Type} {P:Program} {kt:TypeId} {ek:κ->Value} (he:∀ x y w,∃ r,(Op.equal kt (ek x) (ek y)).run P w=.ok r w/\(r=true↔x=y)) (hinj:∀ x y,ek x=ek y->x=y) {x:κ} {w:World}:∀ (es:List MapEntry) (i:Nat),(∀ e∈es,∃ y,e.key=ek y)->
  ((Instr.findAsking kt (ek x) es i).run P w=.ok none w/\∀ e∈es,e.key≠ek x)∨(∃ j e,(Instr.findAsking kt (ek x) es i).run P w=.ok (some (i+j,e.val)) w/\es[j]?=some e/\e.key=ek x)
 |[],i,_=>.inl ⟨rfl,by simp⟩
 |e::es,i,h=>by
  obtain ⟨y,hy⟩:=h e (by simp)
  obtain ⟨r,h1,h2⟩:=he x y w
  cases r with
  |true=>
   obtain rfl:=h2.1 rfl
   exact .inr ⟨0,e,by simp [Instr.findAsking,hy,h1],rfl,hy⟩
  |false=>
   have hne:x≠y:=λe1=>by have:=h2.2 e1;cases this
   have hf:(Instr.findAsking kt (ek x) (e::es) i).run P w=(Instr.findAsking kt (ek x) es (i+1)).run P w:=by
    simp [Instr.findAsking,hy,h1]
   rcases Q5 he hinj es (i+1) (λe' he'=>h e' (by simp [he'])) with ⟨h3,h4⟩|⟨j,e',h3,h4,h5⟩
   ·refine .inl ⟨hf.trans h3,λe' he'=>?_⟩
    rcases List.mem_cons.1 he' with rfl|he'
    ·rw [hy];exact λh=>hne (hinj _ _ h).symm
    ·exact h4 e' he'
   ·exact .inr ⟨j+1,e',by rw [hf,h3];congr 3;omega,by simpa using h4,h5⟩
theorem ZR {F:Array Field} {k:Value} {e:MapEntry} {es:List MapEntry} {i:Nat}:Instr.findNow (.struct F) k (e::es) i=none:=by
 simp [Instr.findNow,Instr.sameNow]
theorem QM.struct {κ:Type} {P:Program} {kt:TypeId} {ek:κ->Value} {F:Array Field} (hk:P.underlying kt=some (.struct F)) (hc:∀ b x w,(Instr.checkKey b 10000 kt (ek x)).run P w=.ok () w)
  (he:∀ x y w,∃ r,(Op.equal kt (ek x) (ek y)).run P w=.ok r w/\(r=true↔x=y)) (hs:∀ x,Instr.sameBits 10000 (ek x) (ek x)=true) (hinj:∀ x y,ek x=ek y->x=y):QM P kt ek where
 chk:=hc
 find x es w h:=by
  cases es with
  |nil=>exact .inl ⟨run_findKey' hk rfl,by simp⟩
  |cons e es=>
   have h0:(Instr.findKey kt (ek x) (e::es)).run P w=(Instr.findAsking kt (ek x) (e::es) 0).run P w:=by
    simp [Instr.findKey,run_underlying hk,ZR]
   rcases Q5 he hinj (x:=x) (w:=w) (e::es) 0 h with ⟨h1,h2⟩|⟨j,e',h1,h2,h3⟩
   ·exact .inl ⟨h0.trans h1,h2⟩
   ·exact .inr ⟨j,e',by rw [h0,h1];simp,h2,h3⟩
 stay x w:=by simp [Instr.keyThatStays,hs]
 inj:=hinj
structure Q4 {κ ν:Type} (ek:κ->Value) (ev:ν->Value) (w:World) (b:Nat) (f:κ->Option ν) (es:Array MapEntry) (clock:Nat):Prop where
 blk:w.heap[b]?=some (.map es clock)
 sound:∀ (i:Nat) (e:MapEntry),es[i]?=some e->∃ k v,e.key=ek k/\e.val=ev v/\f k=some v/\e.born<clock
 full:∀ k v,f k=some v->∃ (i:Nat) (e:MapEntry),es[i]?=some e/\e.key=ek k/\e.val=ev v
 one:∀ (i j:Nat) (e e':MapEntry),es[i]?=some e->es[j]?=some e'->e.key=e'.key∨e.born=e'.born->i=j
def xP {κ ν:Type} (ek:κ->Value) (ev:ν->Value) (w:World) (b:Nat) (f:κ->Option ν):Prop:=∃ es clock,Q4 ek ev w b f es clock
theorem xP.bel {κ ν:Type} {ek:κ->Value} {ev:ν->Value} {w w':World} {b:Nat} {f:κ->Option ν} (h:xP ek ev w b f) (hb:Bel w w'):xP ek ev w' b f:=
 let ⟨es,c,m⟩:=h;⟨es,c,hb.blk m.blk,m.sound,m.full,m.one⟩
theorem xP.grown {κ ν:Type} {ek:κ->Value} {ev:ν->Value} {w w':World} {b:Nat} {f:κ->Option ν} {row:Option Nat} (h:xP ek ev w b f) (hg:w.grownBy w' row) (hr:row≠some b):xP ek ev w' b f:=
 let ⟨es,c,m⟩:=h;⟨es,c,(hg.block b (Array.getElem?_eq_some_iff.1 m.blk).1 (λe=>hr e.symm)).trans m.blk,m.sound,m.full,m.one⟩
theorem xP.lt {κ ν:Type} {ek:κ->Value} {ev:ν->Value} {w:World} {b:Nat} {f:κ->Option ν} (h:xP ek ev w b f):b<w.heap.size:=
 let ⟨es,c,m⟩:=h;(Array.getElem?_eq_some_iff.1 m.blk).1
theorem xP.new {κ ν:Type} (ek:κ->Value) (ev:ν->Value) (w:World):xP ek ev (w.alloc (.map #[] 0)) w.heap.size (λ_=>none):=
 ⟨#[],0,Zd w _,by simp,by simp,by simp⟩
theorem At.grown {w w':World} {a:Addr} {cs:List Value} {row:Option Nat} (h:At w a cs) (hg:w.grownBy w' row) (hr:row≠some a.block):At w' a cs:=λj v hj=>by
 refine hg.cell (h j v hj) (λe=>hr ?_)
 rw [← e];unfold Addr.add;split<;>rfl
section
variable {κ ν:Type} {ek:κ->Value} {ev:ν->Value} {P:Program} {kt et mt:TypeId} {w:World} {b:Nat} {f:κ->Option ν}
open Classical in
noncomputable def upd (f:κ->Option ν) (k:κ) (v:ν):κ->Option ν:=λx=>if x=k then some v else f x
theorem YP (f:κ->Option ν) (k:κ) (v:ν):upd f k v k=some v:=by simp [upd]
theorem yq (f:κ->Option ν) {k x:κ} (v:ν) (h:x≠k):upd f k v x=f x:=by simp [upd,h]
theorem xP.run_look (h:xP ek ev w b f) (K:QM P kt ek) (hm:P.underlying mt=some (.map kt et)) {z:ν} (hz:∀ w,(zeroValue et).run P w=.ok (ev z) w) (x:κ):
  (Instr.lookup mt (.map (some b)) (ek x) false).run P w=.ok (ev ((f x).getD z)) w:=by
 obtain ⟨es,c,m⟩:=h
 have hks:∀ e∈es.toList,∃ y,e.key=ek y:=λe he=>by
  obtain ⟨i,hi⟩:=List.getElem?_of_mem he
  obtain ⟨k,v,h1,_⟩:=m.sound i e (by simpa using hi)
  exact ⟨k,h1⟩
 rcases K.find x es.toList w hks with ⟨h1,h2⟩|⟨i,e,h1,h2,h3⟩
 ·have hn:f x=none:=by
   cases hf:f x with
   |none=>rfl
   |some v=>
    obtain ⟨i,e,h3,h4,_⟩:=m.full x v hf
    exact absurd h4 (h2 e (List.mem_of_getElem? (i:=i) (by simpa using h3)))
  simp [Instr.lookup,run_underlying hm,MapKept.run_getObj_map m.blk,K.chk,h1,hz,hn,Result.andThen]
 ·obtain ⟨k,v,h4,h5,h6,_⟩:=m.sound i e (by simpa using h2)
  obtain rfl:k=x:=K.inj _ _ (h4.symm.trans h3)
  simp [Instr.lookup,run_underlying hm,MapKept.run_getObj_map m.blk,K.chk,h1,h5,h6,Result.andThen]
theorem xP.run_lookOk (h:xP ek ev w b f) (K:QM P kt ek) (hm:P.underlying mt=some (.map kt et)) {z:ν} (hz:∀ w,(zeroValue et).run P w=.ok (ev z) w) (x:κ):
  (Instr.lookup mt (.map (some b)) (ek x) true).run P w=.ok (.tuple #[ev ((f x).getD z),.bool (f x).isSome]) w:=by
 obtain ⟨es,c,m⟩:=h
 have hks:∀ e∈es.toList,∃ y,e.key=ek y:=λe he=>by
  obtain ⟨i,hi⟩:=List.getElem?_of_mem he
  obtain ⟨k,v,h1,_⟩:=m.sound i e (by simpa using hi)
  exact ⟨k,h1⟩
 rcases K.find x es.toList w hks with ⟨h1,h2⟩|⟨i,e,h1,h2,h3⟩
 ·have hn:f x=none:=by
   cases hf:f x with
   |none=>rfl
   |some v=>
    obtain ⟨i,e,h3,h4,_⟩:=m.full x v hf
    exact absurd h4 (h2 e (List.mem_of_getElem? (i:=i) (by simpa using h3)))
  simp [Instr.lookup,run_underlying hm,MapKept.run_getObj_map m.blk,K.chk,h1,hz,hn,Result.andThen]
 ·obtain ⟨k,v,h4,h5,h6,_⟩:=m.sound i e (by simpa using h2)
  obtain rfl:k=x:=K.inj _ _ (h4.symm.trans h3)
  simp [Instr.lookup,run_underlying hm,MapKept.run_getObj_map m.blk,K.chk,h1,h5,h6,Result.andThen]
theorem Q4.push {es:Array MapEntry} {c:Nat} (m:Q4 ek ev w b f es c) {x:κ} (hinj:∀ x y,ek x=ek y->x=y) (hno:∀ e∈es.toList,e.key≠ek x) (v:ν) {w':World} (hw:w'.heap[b]?=some (.map (es.push ⟨ek x,ev v,c⟩) (c+1))):
  Q4 ek ev w' b (upd f x v) (es.push ⟨ek x,ev v,c⟩) (c+1):=by
 have hmem:∀ {i e},es[i]?=some e->e∈es.toList:=λ{i e} h=>List.mem_of_getElem? (i:=i) (by simpa using h)
 refine ⟨hw,λi e he=>?_,λk u hk=>?_,λi j e e' he he' hor=>?_⟩
 ·rw [Array.getElem?_push] at he
  split at he
  ·cases he;exact ⟨x,v,rfl,rfl,YP f x v,by simp⟩
  ·obtain ⟨k,u,h1,h2,h3,h4⟩:=m.sound i e he
   have hkx:k≠x:=λe1=>hno e (hmem he) (by rw [h1,e1])
   exact ⟨k,u,h1,h2,by rw [yq f v hkx];exact h3,by omega⟩
 ·by_cases hkx:k=x
  ·subst hkx
   rw [YP] at hk;cases hk
   exact ⟨es.size,⟨ek k,ev v,c⟩,by simp,rfl,rfl⟩
  ·rw [yq f v hkx] at hk
   obtain ⟨i,e,h1,h2,h3⟩:=m.full k u hk
   have hi:i<es.size:=(Array.getElem?_eq_some_iff.1 h1).1
   exact ⟨i,e,by rw [Array.getElem?_push,if_neg (by omega)];exact h1,h2,h3⟩
 ·rw [Array.getElem?_push] at he he'
  split at he<;>split at he'
  ·omega
  ·cases he
   obtain ⟨k,u,h1,h2,h3,h4⟩:=m.sound j e' he'
   rcases hor with h|h
   ·exact absurd h.symm (hno e' (hmem he'))
   ·simp at h;omega
  ·cases he'
   obtain ⟨k,u,h1,h2,h3,h4⟩:=m.sound i e he
   rcases hor with h|h
   ·exact absurd h (hno e (hmem he))
   ·simp at h;omega
  ·exact m.one i j e e' he he' hor
theorem Q4.set {es:Array MapEntry} {c:Nat} (m:Q4 ek ev w b f es c) {x:κ} (hinj:∀ x y,ek x=ek y->x=y) {i:Nat} {e:MapEntry} (hi:es[i]?=some e) (hx:e.key=ek x) (v:ν) {g:MapEntry->MapEntry}
  (hg:(g e).key=ek x/\(g e).val=ev v/\(g e).born=e.born) {w':World} (hw:w'.heap[b]?=some (.map (es.modify i g) c)):Q4 ek ev w' b (upd f x v) (es.modify i g) c:=by
 have get:∀ j e',(es.modify i g)[j]?=some e'->(j=i/\e'=g e)∨(j≠i/\es[j]?=some e'):=λj e' h=>by
  rw [Array.getElem?_modify] at h
  split at h
  ·rename_i hj;subst hj
   rw [hi] at h;simp at h;exact .inl ⟨rfl,h.symm⟩
  ·rename_i hj;exact .inr ⟨λh=>hj h.symm,h⟩
 have geti:(es.modify i g)[i]?=some (g e):=by rw [Array.getElem?_modify,if_pos rfl,hi];rfl
 have getn:∀ j e',j≠i->es[j]?=some e'->(es.modify i g)[j]?=some e':=λj e' h h'=>by rw [Array.getElem?_modify,if_neg (λh''=>h h''.symm)];exact h'
 obtain ⟨k0,v0,h1,h2,h3,h4⟩:=m.sound i e hi
 obtain rfl:k0=x:=hinj _ _ (h1.symm.trans hx)
 refine ⟨hw,λj e' he=>?_,λk u hk=>?_,λj l e1 e2 he he' hor=>?_⟩
 ·rcases get j e' he with ⟨rfl,rfl⟩|⟨hj,he⟩
  ·exact ⟨k0,v,hg.1,hg.2.1,YP _ _ _,by rw [hg.2.2];exact h4⟩
  ·obtain ⟨k,u,h5,h6,h7,h8⟩:=m.sound j e' he
   have hk:k≠k0:=λe1=>hj (m.one j i e' e he hi (.inl (by rw [h5,hx,e1])))
   exact ⟨k,u,h5,h6,by rw [yq f v hk];exact h7,h8⟩
 ·by_cases hk0:k=k0
  ·subst hk0
   rw [YP] at hk;cases hk
   exact ⟨i,_,geti,hg.1,hg.2.1⟩
  ·rw [yq f v hk0] at hk
   obtain ⟨j,e',h5,h6,h7⟩:=m.full k u hk
   have hj:j≠i:=λe1=>by subst e1;rw [hi] at h5;cases h5;exact hk0 (hinj _ _ (h6.symm.trans hx))
   exact ⟨j,e',getn j e' hj h5,h6,h7⟩
 ·rcases get j e1 he with ⟨hj,hje⟩|⟨hj,hje⟩
  ·rcases get l e2 he' with ⟨hl,hle⟩|⟨hl,hle⟩
   ·rw [hj,hl]
   ·rw [hj]
    rw [hje] at hor
    exact m.one _ _ e e2 hi hle (by rw [hg.1,hg.2.2] at hor;rw [hx];exact hor)
  ·rcases get l e2 he' with ⟨hl,hle⟩|⟨hl,hle⟩
   ·rw [hl]
    rw [hle] at hor
    exact m.one _ _ e1 e hje hi (by rw [hg.1,hg.2.2] at hor;rw [hx];exact hor)
   ·exact m.one _ _ e1 e2 hje hle hor
theorem Q4.keys {es:Array MapEntry} {c:Nat} (m:Q4 ek ev w b f es c):∀ e∈es.toList,∃ y,e.key=ek y:=λe he=>by
 obtain ⟨i,hi⟩:=List.getElem?_of_mem he
 obtain ⟨k,v,h1,_⟩:=m.sound i e (by simpa using hi)
 exact ⟨k,h1⟩
theorem zAr {k:Option Nat->World->Prop} (H:xP ek ev (w.alloc (.map #[] 0)) w.heap.size (λ_=>none)->k (some w.heap.size) (w.alloc (.map #[] 0))):opE P Value.map (Instr.makeMap mt none) w k:=⟨_,_,rfl,H (xP.new ek ev w)⟩
theorem zBO (h:xP ek ev w b f) (K:QM P kt ek) (hm:P.underlying mt=some (.map kt et)) {z:ν} (hz:∀ w,(zeroValue et).run P w=.ok (ev z) w) (x:κ) {k:ν->World->Prop} (H:k ((f x).getD z) w):
  opE P ev (Instr.lookup mt (.map (some b)) (ek x) false) w k:=⟨_,w,h.run_look K hm hz x,H⟩
theorem zB5 (h:xP ek ev w b f) (K:QM P kt ek) (hm:P.underlying mt=some (.map kt et)) {z:ν} (hz:∀ w,(zeroValue et).run P w=.ok (ev z) w) (x:κ) {k:ν->Prop} (H:k ((f x).getD z)):
  opB P ev (Instr.lookup mt (.map (some b)) (ek x) false) w k:=⟨_,λw' hb=>(h.bel hb).run_look K hm hz x,H⟩
theorem Yy (h:xP ek ev w b f) (K:QM P kt ek) (hm:P.underlying mt=some (.map kt et)) (x:κ) (v:ν) {k:World->Prop} (H:∀ w',xP ek ev w' b (upd f x v)->w.grownBy w' (some b)->k w'):
  opU P (Instr.mapUpdate mt (.map (some b)) (ek x) (ev v)) w k:=by
 obtain ⟨es,c,m⟩:=h
 rcases K.find x es.toList w m.keys with ⟨h1,h2⟩|⟨i,e,h1,h2,h3⟩
 ·refine ⟨setB w b (.map (es.push ⟨ek x,ev v,c⟩) (c+1)),?_,H _ ⟨_,_,m.push K.inj h2 v (YW m.blk)⟩ YB⟩
  simp [Instr.mapUpdate,run_underlying hm,MapKept.run_getObj_map m.blk,K.chk,h1,MapKept.run_setObj_map _ m.blk,Result.andThen,setB]
 ·have hi:es[i]?=some e:=by simpa using h2
  refine ⟨setB w b (.map (es.modify i λe=>{e with key:=ek x,val:=ev v}) c),?_,H _ ⟨_,_,m.set K.inj hi h3 v ⟨rfl,rfl,rfl⟩ (YW m.blk)⟩ YB⟩
  simp [Instr.mapUpdate,run_underlying hm,MapKept.run_getObj_map m.blk,K.chk,h1,hi,h3,K.stay,MapKept.run_setObj_map _ m.blk,Result.andThen,setB]
end
end Go.VB
set_option linter.unusedVariables false
set_option linter.unusedSimpArgs false
namespace Go.VB
open Go.RowKit
structure zBN {κ ν:Type} (ek:κ->Value) (ev:ν->Value) (w:World) (b r:Nat) (f:κ->Option ν) (ks:List κ) (es:Array MapEntry) (c:Nat) (sb:Array Nat):Prop where
 map:Q4 ek ev w b f es c
 blk:w.heap[r]?=some (.mapIter (some b) c sb c)
 seen:∀ (i:Nat) (e:MapEntry) (k:κ),es[i]?=some e->e.key=ek k->(sb.contains e.born=true↔k∈ks)
 nd:ks.Nodup
 dom:∀ k∈ks,∃ v,f k=some v
 len:sb.size=ks.length
 last:∀ k,ks.getLast?=some k->∃ (i:Nat) (e:MapEntry),es[i]?=some e/\e.key=ek k/\sb.back?=some e.born
def y0 {κ ν:Type} (ek:κ->Value) (ev:ν->Value) (w:World) (b r:Nat) (f:κ->Option ν) (ks:List κ):Prop:=∃ es c sb,zBN ek ev w b r f ks es c sb
def zAD (w:World) (r:Nat):Nat:=match w.heap[r]? with
 |some (.mapIter _ _ sb _)=>sb.size
 |_=>0
section
variable {κ ν:Type} {ek:κ->Value} {ev:ν->Value} {P:Program} {kt et mt:TypeId} {w:World} {b r:Nat} {f:κ->Option ν} {ks:List κ}
theorem y0.grown {w':World} {row:Option Nat} (h:y0 ek ev w b r f ks) (hg:w.grownBy w' row) (hb:row≠some b) (hr:row≠some r):y0 ek ev w' b r f ks:=
 let ⟨es,c,sb,m⟩:=h
 ⟨es,c,sb,⟨(hg.block b (Array.getElem?_eq_some_iff.1 m.map.blk).1 (λe=>hb e.symm)).trans m.map.blk,m.map.sound,m.map.full,m.map.one⟩,(hg.block r (Array.getElem?_eq_some_iff.1 m.blk).1 (λe=>hr e.symm)).trans m.blk,m.seen,m.nd,m.dom,m.len,m.last⟩
theorem y0.bel {w':World} (h:y0 ek ev w b r f ks) (hb:Bel w w'):y0 ek ev w' b r f ks:=
 let ⟨es,c,sb,m⟩:=h
 ⟨es,c,sb,⟨hb.blk m.map.blk,m.map.sound,m.map.full,m.map.one⟩,hb.blk m.blk,m.seen,m.nd,m.dom,m.len,m.last⟩
theorem y0.size (h:y0 ek ev w b r f ks):zAD w r=ks.length:=by
 obtain ⟨es,c,sb,m⟩:=h
 unfold zAD;rw [m.blk];exact m.len
theorem y0.nd (h:y0 ek ev w b r f ks):ks.Nodup:=let ⟨_,_,_,m⟩:=h;m.nd
theorem y0.dom (h:y0 ek ev w b r f ks):∀ k∈ks,∃ v,f k=some v:=let ⟨_,_,_,m⟩:=h;m.dom
theorem y0.blk (h:y0 ek ev w b r f ks):∃ c sb,w.heap[r]?=some (.mapIter (some b) c sb c):=let ⟨_,c,sb,m⟩:=h;⟨c,sb,m.blk⟩
theorem y0.keep {w':World} (h:y0 ek ev w b r f ks) (hb:w'.heap[b]?=w.heap[b]?) (hr:w'.heap[r]?=w.heap[r]?):y0 ek ev w' b r f ks:=
 let ⟨es,c,sb,m⟩:=h
 ⟨es,c,sb,⟨hb.trans m.map.blk,m.map.sound,m.map.full,m.map.one⟩,hr.trans m.blk,m.seen,m.nd,m.dom,m.len,m.last⟩
theorem zB3 (h:y0 ek ev w b r f ks) (hne:b≠r) (hinj:∀ x y,ek x=ek y->x=y) {ty:TypeId} {k:Option (Value × Value)->World->Prop}
  (h0:(∀ x v,f x=some v->x∈ks)->k none w)
  (h1:∀ x v w',f x=some v->x∉ks->y0 ek ev w' b r f (ks++[x])->w.grownBy w' (some r)->k (some (ek x,ev v)) w'):
  opE P (zA2 id id) (Instr.next (.pointer (some ⟨r,0,none⟩)) false ty) w k:=by
 obtain ⟨es,c,sb,m⟩:=h
 have hold:∀ x∈es.toList,x.born<c:=λe he=>by
  obtain ⟨i,hi⟩:=List.getElem?_of_mem he
  obtain ⟨_,_,_,_,_,h4⟩:=m.map.sound i e (by simpa using hi)
  exact h4
 rcases run_next_at (P:=P) w ty r b c c sb es c m.blk m.map.blk hold (zP _) with ⟨hl,hr⟩|⟨e,he,w1,hw1,hr⟩
 ·refine ⟨none,w,hr,h0 λx v hx=>?_⟩
  obtain ⟨i,e,h2,h3,h4⟩:=m.map.full x v hx
  refine (m.seen i e x h2 h3).1 ?_
  have hem:e∈es:=Array.mem_of_getElem? h2
  have hE:leftOf es sb=#[]:=Array.size_eq_zero_iff.1 hl
  unfold leftOf at hE
  rw [Array.filter_eq_empty_iff] at hE
  simpa using hE e hem
 ·have hmem:e∈es/\sb.contains e.born=false:=by
   unfold leftOf at he
   simpa using he
  obtain ⟨i,hi⟩:=Array.getElem?_of_mem hmem.1
  obtain ⟨x,v,h2,h3,h4,h5⟩:=m.map.sound i e hi
  have hw:w.grownBy w1 none:=by
   rcases hw1 with rfl|rfl
   ·exact World.grownBy.refl _ _
   ·exact ⟨rfl,rfl,rfl,zP _,λ_ _ _=>rfl⟩
  have hr1:w1.heap[r]?=some (.mapIter (some b) c sb c):=(hw.block r (Array.getElem?_eq_some_iff.1 m.blk).1 (by simp)).trans m.blk
  have hg:w.grownBy (setB w1 r (.mapIter (some b) c (sb.push e.born) c)) (some r):=by
   have:=YB (w:=w1) (b:=r) (o:=.mapIter (some b) c (sb.push e.born) c)
   rcases hw1 with rfl|rfl<;>exact ⟨this.1,this.2,this.3,this.4,this.5⟩
  have hx:x∉ks:=λhk=>by
   have:=(m.seen i e x hi h2).2 hk
   rw [hmem.2] at this;cases this
  refine ⟨some (ek x,ev v),_,?_,h1 x v _ h4 hx ⟨es,c,sb.push e.born,?_⟩ hg⟩
  ·rw [hr,h2,h3];rfl
  ·refine ⟨⟨(hg.block b (Array.getElem?_eq_some_iff.1 m.map.blk).1 (by simpa using hne)).trans m.map.blk,m.map.sound,m.map.full,m.map.one⟩,YW hr1,λj e' y hj hy=>?_,?_,?_,by simp [m.len],?_⟩
   ·rw [Array.contains_push,Bool.or_eq_true,List.mem_append,m.seen j e' y hj hy]
    refine or_congr Iff.rfl ?_
    simp only [beq_iff_eq,List.mem_singleton]
    constructor
    ·intro hb
     have:=m.map.one i j e e' hi hj (.inr hb.symm)
     subst this
     rw [hi] at hj;cases hj
     exact hinj _ _ (hy.symm.trans h2)
    ·rintro rfl
     have:=m.map.one i j e e' hi hj (.inl (h2.trans hy.symm))
     subst this
     rw [hi] at hj;cases hj;rfl
   ·rw [List.nodup_append]
    exact ⟨m.nd,by simp,λa ha y hy=>by rw [List.mem_singleton] at hy;subst hy;exact λe=>hx (e ▸ ha)⟩
   ·intro y hy
    rcases List.mem_append.1 hy with hy|hy
    ·exact m.dom y hy
    ·rw [List.mem_singleton] at hy;subst hy;exact ⟨v,h4⟩
   ·intro y hy
    rw [List.getLast?_append] at hy
    simp at hy;subst hy
    exact ⟨i,e,hi,h2,by simp⟩
end
end Go.VB
set_option linter.unusedVariables false
namespace Go.Proofs.YtjlfegnhomgjhaaDoor.VG
open Go.VB Go.Proofs
theorem xN:One zA 3:=⟨λw=>by kernel_rfl,λw=>by kernel_rfl⟩
theorem xR:One zA 4:=⟨λw=>by kernel_rfl,λw=>by kernel_rfl⟩
abbrev zAv:TypeId:=5
theorem Yd:One zA 5:=⟨λw=>by kernel_rfl,λw=>by kernel_rfl⟩
abbrev zAS:TypeId:=9
theorem YK:zA.underlying 22=some (.slice 35):=Tryd.underlying22
theorem YQ:∀ w,(sizeOf 35).run zA w=.ok 1 w:=λw=>by kernel_rfl
abbrev YS:TypeId:=24
theorem yJ:zA.underlying 24=some (.slice 55):=Tryd.underlying24
theorem y2:∀ w,(sizeOf 55).run zA w=.ok 2 w:=λw=>by kernel_rfl
theorem Q8:∀ w,(zd 24 0 [].toArray).run zA w=.ok (Sl.v ⟨some ⟨w.heap.size,0,none⟩,0,0⟩) (w.alloc (.cells #[] 55)):=λw=>by kernel_rfl
theorem YC (x:zL):∀ w,(zd 24 1 [(0,(zL.v x))].toArray).run zA w=.ok (Sl.v ⟨some ⟨w.heap.size,0,none⟩,1,1⟩) (w.alloc (.cells (zL.cells x).toArray 55)):=λw=>by kernel_rfl
theorem QF:(zA.info? 55).map (λi=>(i.zero,i.size,i.bytes))=some (some (.agg ([.int .i64 0,.int .u8 0]).toArray),2,16):=by kernel_rfl
theorem yQ:One zA 25:=⟨λw=>by kernel_rfl,λw=>by kernel_rfl⟩
abbrev xj:TypeId:=27
theorem yR:Agg zA 27 4:=⟨λw=>by kernel_rfl,λw=>by kernel_rfl,by kernel_rfl⟩
theorem yM:∀ p w,(zJ 27 (.pointer (some p)) 1).run zA w=.ok (.pointer (some (p.add 1))) w:=λ_ _=>by kernel_rfl
theorem yD:∀ p w,(zJ 27 (.pointer (some p)) 2).run zA w=.ok (.pointer (some (p.add 2))) w:=λ_ _=>by kernel_rfl
theorem zX:∀ p w,(zJ 27 (.pointer (some p)) 3).run zA w=.ok (.pointer (some (p.add 3))) w:=λ_ _=>by kernel_rfl
abbrev Y6:List Value:=[.int .i64 0,.int .u8 0,.int .i64 0,.bool false]
theorem YH:∀ w,(z6 27 true (.tuple #[])).run zA w=.ok (.pointer (some ⟨w.heap.size,0,none⟩)) (w.alloc (.cells (Y6).toArray 27)):=λw=>by kernel_rfl
abbrev zR:TypeId:=28
theorem xv:One zA 28:=⟨λw=>by kernel_rfl,λw=>by kernel_rfl⟩
theorem xt:One zA 32:=⟨λw=>by kernel_rfl,λw=>by kernel_rfl⟩
theorem Yo:One zA 35:=⟨λw=>by kernel_rfl,λw=>by kernel_rfl⟩
abbrev QA:TypeId:=37
theorem YZ:One zA 37:=⟨λw=>by kernel_rfl,λw=>by kernel_rfl⟩
theorem yz:zA.underlying 47=some (.slice 28):=Tryd.underlying47
theorem xg:∀ w,(sizeOf 28).run zA w=.ok 1 w:=λw=>by kernel_rfl
theorem YA (x:Int):∀ w,(zd 47 1 [(0,(.int .u8 x))].toArray).run zA w=.ok (Sl.v ⟨some ⟨w.heap.size,0,none⟩,1,1⟩) (w.alloc (.cells [(.int .u8 x)].toArray 28)):=λw=>by kernel_rfl
theorem Q0:(zA.info? 28).map (λi=>(i.zero,i.size,i.bytes))=some (some (.int .u8 0),1,1):=by kernel_rfl
abbrev ye:TypeId:=55
theorem xW:Agg zA 55 2:=⟨λw=>by kernel_rfl,λw=>by kernel_rfl,by kernel_rfl⟩
theorem yX:∀ p w,(zJ 55 (.pointer (some p)) 0).run zA w=.ok (.pointer (some (p.add 0))) w:=λ_ _=>by kernel_rfl
theorem y1:∀ p w,(zJ 55 (.pointer (some p)) 1).run zA w=.ok (.pointer (some (p.add 1))) w:=λ_ _=>by kernel_rfl
abbrev YI:List Value:=[.int .i64 0,.int .u8 0]
theorem Yf:∀ w,(z6 55 true (.tuple #[])).run zA w=.ok (.pointer (some ⟨w.heap.size,0,none⟩)) (w.alloc (.cells (YI).toArray 55)):=λw=>by kernel_rfl
theorem YE:zA.underlying 61=some (.slice 37):=Tryd.underlying61
theorem Q7:∀ w,(sizeOf 37).run zA w=.ok 1 w:=λw=>by kernel_rfl
theorem Z2:One zA 62:=⟨λw=>by kernel_rfl,λw=>by kernel_rfl⟩
theorem xf:zA.underlying 65=some (.map 25 47):=Tryd.underlying65
theorem xn:zA.underlying 66=some (.map 28 28):=Tryd.underlying66
theorem xu:Agg zA 72 49:=⟨λw=>by kernel_rfl,λw=>by kernel_rfl,by kernel_rfl⟩
abbrev Qd:List Value:=[.int .u8 0,.int .u8 0,.int .u8 0,.int .u8 0,.int .u8 0,.int .u8 0,.int .u8 0,.int .u8 0,.int .u8 0,.int .u8 0,.int .u8 0,.int .u8 0,.int .u8 0,.int .u8 0,.int .u8 0,.int .u8 0,.int .u8 0,.int .u8 0,.int .u8 0,.int .u8 0,.int .u8 0,.int .u8 0,.int .u8 0,.int .u8 0,.int .u8 0,.int .u8 0,.int .u8 0,.int .u8 0,.int .u8 0,.int .u8 0,.int .u8 0,.int .u8 0,.int .u8 0,.int .u8 0,.int .u8 0,.int .u8 0,.int .u8 0,.int .u8 0,.int .u8 0,.int .u8 0,.int .u8 0,.int .u8 0,.int .u8 0,.int .u8 0,.int .u8 0,.int .u8 0,.int .u8 0,.int .u8 0,.int .u8 0]
theorem Ql:∀ w,(z6 72 true (.tuple #[])).run zA w=.ok (.pointer (some ⟨w.heap.size,0,none⟩)) (w.alloc (.cells (Qd).toArray 72)):=λw=>by kernel_rfl
abbrev QQ:TypeId:=80
abbrev Zz:TypeId:=83
end Go.Proofs.YtjlfegnhomgjhaaDoor.VG
