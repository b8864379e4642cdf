/- Texts by which the law's calls are walked (part 3): rules, printed conditions, contracts; no condition. -/
import Derived.TacticsIn
import Derived.TacticsInMore
import Derived.Deep.LoopGhost
import Derived.Sort.QuietThIn
import Derived.RangeFuncCalls
import Derived.RangeFuncNested
import Derived.RangeFuncLeaves
import Derived.WalkKit
import Derived.StillTail
import Derived.Test.YtjlfegnhomgjhaaDoorProg
import Derived.KernelRfl
import Derived.Deep.WholeRow
import Derived.Laws.StructEq
import Derived.MapFrom
import Derived.Maps.RangeRun
import Derived.Laws.CopyRow
import Derived.Sort.Walk0
import Derived.Laws.BytesArg
import Derived.Test.YtjlfegnhomgjhaaDoorPkTopCarriedB
open Go.Proofs.Tryd renaming prog → zA
open Go.IntKind renaming wrap → zF
open Go.Value renaming pointer → zC, int → zH, bool → yO
open Go.Instr renaming loadAt → zG, storeAt → zK, indexAt → zN, fieldAt → zJ, alloc → z6, build → yI, buildSlice → zd
open Nat renaming le_refl → zP
set_option linter.unusedVariables false
set_option linter.unusedSimpArgs false
namespace Go.VB
open Go.RowKit
def Row (w:World) (b:Nat) (cs:List Value) (t:TypeId):Prop:=w.heap[b]?=some (.cells cs.toArray t (0,0))
theorem Row.at {w:World} {b:Nat} {cs:List Value} {t:TypeId} (h:Row w b cs t):At w ⟨b,0,none⟩ cs:=At.blk h
theorem Row.bel {w w':World} {b:Nat} {cs:List Value} {t:TypeId} (h:Row w b cs t) (hb:Bel w w'):Row w' b cs t:=hb.blk h
theorem Row.grown {w w':World} {b:Nat} {cs:List Value} {t:TypeId} {row:Option Nat} (h:Row w b cs t) (hg:w.grownBy w' row) (hr:row≠some b):Row w' b cs t:=
 (hg.block b (Array.getElem?_eq_some_iff.1 h).1 (λe=>hr e.symm)).trans h
theorem Row.lt {w:World} {b:Nat} {cs:List Value} {t:TypeId} (h:Row w b cs t):b<w.heap.size:=(Array.getElem?_eq_some_iff.1 h).1
theorem Row.new (w:World) (cs:List Value) (t:TypeId):Row (w.alloc (.cells cs.toArray t)) w.heap.size cs t:=Zd w _
theorem Row.cell {w:World} {b:Nat} {v:Value} {t:TypeId} (h:Row w b [v] t):w.cell? ⟨b,0,none⟩=some v:=by
 have:=h.at 0 v rfl;simpa [Addr.add] using this
theorem QY (w:World) (g:Nat) (c:Array Value):w.grownBy (w.setRow g c) (some g):=
 ⟨rfl,rfl,rfl,by simp [World.setRow],λk hk hne=>by
  have:g≠k:=λe=>hne (by rw [e])
  simp [World.setRow,Array.getElem?_modify,this]⟩
theorem Qu {w:World} {g:Nat} {c c':Array Value} {t:TypeId} (h:w.heap[g]?=some (.cells c t (0,0))):(w.setRow g c').heap[g]?=some (.cells c' t (0,0)):=by
 simp [World.setRow,Array.getElem?_modify,h]
section
variable {P:Program} {w:World}
theorem xz {t n:Nat} (hs:∀ w,(sizeOf t).run P w=.ok n w) {b off:Nat} {cs vs:List Value} {e:TypeId} {v:Value} (h:Row w b cs e) (hv:v.cells.toList=vs) (hn:vs.length=n) (hl:off+vs.length<=cs.length) (h1:vs.all (·.oneCell')=true):
  (storeVar t ⟨b,off,none⟩ v).run P w=.ok () (w.setRow b (cs.take off++vs++cs.drop (off+vs.length)).toArray):=by
 have h2:=run_storeCells_at (P:=P) b off e vs 0 cs.toArray w h (by simpa using hl) (λx hx=>by rw [List.all_eq_true] at h1;exact h1 x hx)
 have hsz:v.cells.size=n:=by rw [← hn,← hv];simp
 simp only [storeVar,Sem.run_bind,hs w,Result.andThen_ok]
 rw [if_neg (by rw [hsz];simp)]
 simp only [hv]
 simpa using h2
theorem ZL {t:Nat} (hA:One P t) {b off:Nat} {cs:List Value} {e:TypeId} {v:Value} (h:Row w b cs e) (hv:v.cells.toList=[v]) (hl:off<cs.length) (h1:v.oneCell'=true) {k:World->Prop}
  (H:∀ w',Row w' b (cs.take off++[v]++cs.drop (off+1)) e->w.grownBy w' (some b)->k w'):opU P (zK t (.pointer (some ((⟨b,0,none⟩:Addr).add off))) v) w k:=by
 refine ⟨w.setRow b (cs.take off++[v]++cs.drop (off+1)).toArray,?_,H _ (Qu h) (QY w b _)⟩
 have:=xz hA.size (off:=off) h hv rfl (by simp;omega) (by simpa using h1)
 rw [add_plain']
 simpa [zK,Instr.sureAddr] using this
theorem zAA {t n:Nat} (hA:Agg P t n) {b:Nat} {cs cs':List Value} {e:TypeId} (h:Row w b cs e) (hn:cs.length=n) (hn':cs'.length=n) (h1:cs'.all (·.oneCell')=true) {k:World->Prop}
  (H:∀ w',Row w' b cs' e->w.grownBy w' (some b)->k w'):opU P (zK t (.pointer (some ⟨b,0,none⟩)) (.agg cs'.toArray)) w k:=by
 refine ⟨w.setRow b cs'.toArray,?_,H _ (Qu h) (QY w b _)⟩
 have:=xz hA.size (off:=0) (v:=.agg cs'.toArray) (vs:=cs') h (by simp [Value.cells]) hn' (by omega) h1
 have h2:cs.drop (0+cs'.length)=[]:=List.drop_of_length_le (by omega)
 rw [h2] at this
 simpa [zK,Instr.sureAddr] using this
theorem zCG {t:Nat} {v:Value} (hv:v.cells=#[v]) {k:Option Addr->World->Prop} (H:k (some ⟨w.heap.size,0,none⟩) (w.alloc (.cells [v].toArray t))):opE P zC (Instr.box t v) w k:=by
 refine ⟨_,w.alloc (.cells v.cells t),rfl,?_⟩
 rw [hv];exact H
theorem zBP {t:Nat} {z:List Value} (hz:∀ w,(z6 t true (.tuple #[])).run P w=.ok (.pointer (some ⟨w.heap.size,0,none⟩)) (w.alloc (.cells z.toArray t))) {k:Option Addr->World->Prop} (H:k (some ⟨w.heap.size,0,none⟩) (w.alloc (.cells z.toArray t))):opE P zC (z6 t true (.tuple #[])) w k:=⟨_,_,hz w,H⟩
theorem R.cell {τ:Type} {enc:τ->Value} {t:Nat} (hA:One P t) {b:Nat} {e:TypeId} {k:τ->Prop} (x:τ) (h:Row w b [enc x] e) (H:k x):opR P enc t (some ⟨b,0,none⟩) w k:=by
 refine ⟨x,_,rfl,?_,H⟩
 have:=xx hA h.cell
 simpa [zG,Instr.sureAddr] using this
end
theorem KeepsFrom.row {B:Nat} {w w':World} {row:Option Nat} (hg:w.grownBy w' row) (hr:∀ r,row=some r->∃ cs t fr,w.heap[r]?=some (.cells cs t fr)):KeepsFrom B w w':=
 ⟨hg.size,λk o hB hk ho=>(hg.block k (Array.getElem?_eq_some_iff.1 hk).1 (λe=>by
  obtain ⟨cs,t,fr,h⟩:=hr k e.symm
  rw [hk] at h;cases h;simp [Obj.isCells] at ho)).trans hk⟩
theorem KeepsFrom.bel {B:Nat} {w w':World} (h:Bel w w'):KeepsFrom B w w':=KeepsFrom.row (YX h none) (λr e=>by cases e)
theorem Bel.in {n0:Nat} {w w':World} (h:Bel w w') (hn:n0<=w.heap.size):Below n0 w w':=h.mono hn
theorem Bw.row {n0:Nat} {w w':World} {row:Option Nat} (hg:w.grownBy w' row) (hn:n0<=w.heap.size) (hr:∀ r,row=some r->n0<=r):Below n0 w w':=(Below.refl n0 w).grown hg hn hr
theorem Zv.later {α:Type} {P:Program} {v:Value} {encs:α->List Value} {Kp:World->World->Prop} {S Sp:List α->Prop} {Num:Nat} {w w':World} (h:Zv P v encs Kp S Sp Num w) (hb:Bel w w'):Zv P v encs Kp S Sp Num w':=by
 obtain ⟨gf,lb,rfl,he,hs⟩:=h
 exact ⟨gf,lb,rfl,he,λl J Jx W hW hJ hJx hY h0=>hs l J Jx W (hb.trans hW) hJ hJx hY h0⟩
theorem zAF.of {α:Type} {P:Program} {v:Value} {encs:α->List Value} {n0:Nat} {S Sp:List α->Prop} {Num:Nat} {I Ir:List α->World->Prop} {w:World} (hs:Zv P v encs (Below n0) S Sp Num w) (hn:n0<=w.heap.size)
  (own:OwnFrom w.heap.size I) (ownr:OwnFrom w.heap.size Ir) (lo:∀ pre W,I pre W->w.heap.size<=W.heap.size) (start:I [] w):zAF P v encs (Below n0) S Sp Num I Ir w:=
 ⟨hs,λA B C h k=>h.trans k,λW l o o' h1 h2 h3 h4=>belowK_b hn W l o o' h1 h2 h3 h4,λpre W o hI=>(Below.refl n0 W).alloc (Nat.le_trans hn (lo pre W hI)) o,own,ownr,lo,start⟩
end Go.VB
set_option linter.unusedVariables false
namespace Go.VB
open Go.RowKit Go.Proofs
theorem Rd.lit {α:Type} {c:α->List Value} {n:Nat} (hc:∀ x,(c x).length=n) (xs:List α) (hl:xs.length<=140737488355328) (w:World) (t:TypeId):
  Rd c n (w.alloc (.cells (xs.flatMap c).toArray t)) ⟨some ⟨w.heap.size,0,none⟩,xs.length,xs.length⟩ xs:=by
 refine ⟨rfl,zP _,by show xs.length<=_;omega,hl,λh=>by simp at h,λi x hx=>⟨_,rfl,λj v hj=>?_⟩⟩
 have hA:At (w.alloc (.cells (xs.flatMap c).toArray t)) ⟨w.heap.size,0,none⟩ (xs.flatMap c):=At.new w _ _
 rw [Ys]
 refine hA _ _ ?_
 rw [Yr hc xs i j x hx (by have:=(List.getElem?_eq_some_iff.1 hj).1;rw [hc] at this;exact this),hj]
section
variable {P:Program} {w:World} {C:World->Prop}
theorem zBK {t:Nat} {v:Value} {cs:List Value} (hv:v.cells=cs.toArray) {k:Option Addr->World->Prop} (H:k (some ⟨w.heap.size,0,none⟩) (w.alloc (.cells cs.toArray t))):opE P zC (Instr.box t v) w k:=by
 refine ⟨_,w.alloc (.cells v.cells t),rfl,?_⟩
 rw [hv];exact H
theorem ZP {t:Nat} {v:Value} {cs:List Value} (hv:v.cells=cs.toArray) {k:Option Addr->World->Prop} (H:∀ b w',Bel w w'->Row w' b cs t->w.heap.size<=b->k (some ⟨b,0,none⟩) w'):opE P zC (Instr.box t v) w k:=
 zBK hv (H _ _ (Bel.alloc _ _) (Row.new _ _ _) (zP _))
theorem zAt {t n:Nat} {z:List Value} (hz:∀ w,(z6 t true (.tuple #[])).run P w=.ok (.pointer (some ⟨w.heap.size,0,none⟩)) (w.alloc (.cells z.toArray t))) (hzn:z.length=n)
  (hA:Agg P t n) {cs:List Value} (hn:cs.length=n) (h1:cs.all (·.oneCell')=true) {v:Value} (hv:v=.agg cs.toArray) {k:Option Addr->World->Prop}
  (H:∀ b w',Bel w w'->Row w' b cs t->w.heap.size<=b->k (some ⟨b,0,none⟩) w'):
  opE P zC (z6 t true (.tuple #[])) w (λp w=>opU P (zK t (.pointer p) v) w (k p)):=
 zBS hz hzn hA hn h1 hv (H _ _ (Bel.alloc _ _) (Row.new _ _ _) (zP _))
theorem zAG {t:Nat} {z:List Value} (hz:∀ w,(z6 t true (.tuple #[])).run P w=.ok (.pointer (some ⟨w.heap.size,0,none⟩)) (w.alloc (.cells z.toArray t))) {k:Option Addr->World->Prop}
  (H:∀ b w',Bel w w'->Row w' b z t->w.heap.size<=b->k (some ⟨b,0,none⟩) w'):opE P zC (z6 t true (.tuple #[])) w k:=
 zBP hz (H _ _ (Bel.alloc _ _) (Row.new _ _ _) (zP _))
theorem zCD {τ:Type} {enc:τ->Value} {t:Nat} (hA:One P t) {ad:Addr} {k:τ->Prop} (x:τ) (h:∀ w,C w->w.cell? ad=some (enc x)) (H:k x):opC C P enc (zG t (.pointer (some ad))) k:=
 ⟨x,λw hw=>xx hA (h w hw),H⟩
theorem zB8 {τ:Type} {enc:τ->Value} {t n:Nat} (hA:Agg P t n) {ad:Addr} {cs:List Value} {k:τ->Prop} (x:τ) (hx:enc x=.agg cs.toArray) (h:∀ w,C w->At w ad cs) (hn:cs.length=n) (H:k x):opC C P enc (zG t (.pointer (some ad))) k:=
 ⟨x,λw hw=>by rw [hx];exact QK hA (h w hw) hn,H⟩
theorem At.fld {w:World} {p:Addr} {cs:List Value} (h:At w p cs) {j:Nat} {v:Value} (hj:cs[j]?=some v):w.cell? (p.add j)=some v:=h j v hj
theorem R.agg {τ:Type} {enc:τ->Value} {t n:Nat} (hA:Agg P t n) {ad:Addr} {cs:List Value} {k:τ->Prop} (x:τ) (hx:enc x=.agg cs.toArray) (h:At w ad cs) (hn:cs.length=n) (H:k x):opR P enc t (some ad) w k:=by
 refine ⟨x,_,rfl,?_,H⟩
 have:=QK hA h hn
 rw [hx]
 simpa [zG,Instr.sureAddr] using this
end
end Go.VB
set_option linter.unusedVariables false
set_option linter.unusedSimpArgs false
namespace Go.VB
open Go.RowKit
structure Out (S:Nat->Prop) (w w':World):Prop where
 os:w'.os=w.os
 tape:w'.tape=w.tape
 output:w'.output=w.output
 size:w.heap.size<=w'.heap.size
 block:∀ k,k<w.heap.size->¬ S k->w'.heap[k]?=w.heap[k]?
section
variable {S T:Nat->Prop} {w w' w'':World}
theorem Out.refl (S:Nat->Prop) (w:World):Out S w w:=⟨rfl,rfl,rfl,zP _,λ_ _ _=>rfl⟩
theorem Bel.out (h:Bel w w'):Out S w w':=⟨h.os,h.tape,h.output,h.size,λk hk _=>h.block k hk⟩
theorem Out.row {row:Option Nat} (h:w.grownBy w' row) (hr:∀ k,row=some k->S k∨w.heap.size<=k):Out S w w':=
 ⟨h.os,h.tape,h.output,h.size,λk hk hs=>h.block k hk λe=>by
  rcases hr k e.symm with h1|h1
  ·exact hs h1
  ·omega⟩
theorem Out.trans (h:Out S w w') (k:Out T w' w'') (hT:∀ i,i<w.heap.size->T i->S i):Out S w w'':=
 ⟨k.os.trans h.os,k.tape.trans h.tape,k.output.trans h.output,Nat.le_trans h.size k.size,λi hi hs=>(k.block i (Nat.lt_of_lt_of_le hi h.size) λht=>hs (hT i hi ht)).trans (h.block i hi hs)⟩
theorem Out.mono (h:Out S w w') (hT:∀ i,i<w.heap.size->S i->T i):Out T w w':=⟨h.os,h.tape,h.output,h.size,λi hi hs=>h.block i hi λh1=>hs (hT i hi h1)⟩
theorem Out.bel {w0:World} (hb:Bel w0 w) (h:Out S w w') (hS:∀ i,i<w0.heap.size->¬ S i):Bel w0 w':=
 ⟨h.os.trans hb.os,h.tape.trans hb.tape,h.output.trans hb.output,Nat.le_trans hb.size h.size,λi hi=>(h.block i (Nat.lt_of_lt_of_le hi hb.size) (hS i hi)).trans (hb.block i hi)⟩
end
theorem Row.keep {w w':World} {b:Nat} {cs:List Value} {t:TypeId} (h:Row w b cs t) (hk:w'.heap[b]?=w.heap[b]?):Row w' b cs t:=hk.trans h
theorem xP.keep {κ ν:Type} {ek:κ->Value} {ev:ν->Value} {w w':World} {b:Nat} {f:κ->Option ν} (h:xP ek ev w b f) (hk:w'.heap[b]?=w.heap[b]?):xP ek ev w' b f:=
 let ⟨es,c,m⟩:=h;⟨es,c,hk.trans m.blk,m.sound,m.full,m.one⟩
theorem Rd.keep {α:Type} {c:α->List Value} {n:Nat} {w w':World} {s:Sl} {xs:List α} (h:Rd c n w s xs) (hk:∀ k,(Sl.v s).ownBlock=some k->w'.heap[k]?=w.heap[k]?):Rd c n w' s xs:=
 ⟨h.len,h.cap,h.capm,h.big,h.nilc,λi x hx=>by
  obtain ⟨ad,e,ha⟩:=h.cells i x hx
  refine ⟨ad,e,λj v hj=>?_⟩
  have h1:=ha j v hj
  rw [← h1]
  refine World.cell?_of_block ?_
  have hb:((ad.add (i*n)).add j).block=ad.block:=by unfold Addr.add;(repeat' split)<;>rfl
  rw [hb]
  exact hk ad.block (by simp [Sl.v,e,Value.ownBlock])⟩
theorem OwnS.keep {α:Type} {c:α->List Value} {n e base:Nat} {w w':World} {s:Sl} {xs:List α} (h:OwnS c n e base w s xs) (hk:∀ k,(Sl.v s).ownBlock=some k->w'.heap[k]?=w.heap[k]?):OwnS c n e base w' s xs:=by
 refine ⟨h.len,h.small,h.row.1,?_⟩
 rcases h.row.2 with h1|⟨g,cap,cur,h1,h2,h3,h4⟩
 ·exact .inl h1
 ·exact .inr ⟨g,cap,cur,h1,h2,(hk g (by rw [h1];rfl)).trans h3,h4⟩
theorem OwnS.lt {α:Type} {c:α->List Value} {n e base:Nat} {w:World} {s:Sl} {xs:List α} (h:OwnS c n e base w s xs) {k:Nat} (hk:(Sl.v s).ownBlock=some k):k<w.heap.size:=(h.row.lt k hk).2
section
variable {P:Program} {w0 w:World} {α:Type} {c:α->List Value} {n e t bytes base:Nat}
theorem zAT {s:Sl} {xs:List α} {x:α} (hO:OwnS c n e base w s xs) (hc:∀ x,(c x).length=n) (h1:∀ x,(c x).all (·.oneCell')=true) (hn:0<n)
  (hu:P.underlying t=some (.slice e)) {z:Value} (hi:(P.info? e).map (λi=>(i.zero,i.size,i.bytes))=some (some z,n,bytes))
  (room:(xs.length+1)*bytes<=140737488355328) (hby:0<bytes) {ad:Addr} (hA:At w ad (c x)) {ty:TypeId} {v':Value} {w':World}
  (hr:(Builtin.append_ #[t,t] ty [Sl.v s,.slice (some ad) 1 1].toArray).run P w=.ok v' w'):v'.ownBlock=(Sl.v s).ownBlock∨v'.ownBlock=some w.heap.size:=by
 obtain ⟨i0,hi0,hi1⟩:=Option.map_eq_some_iff.1 hi
 simp only [Prod.mk.injEq] at hi1
 obtain ⟨hz0,hz1,hz2⟩:=hi1
 have hroom:xs.length+1<=140737488355328:=Nat.le_trans (Nat.le_mul_of_pos_right _ hby) room
 have hsl:=hO.len
 have hl:(c x).length=1*i0.size:=by rw [hc,hz1];omega
 have hall:∀ u∈c x,u.oneCell'=true:=λu hu=>by have:=h1 x;rw [List.all_eq_true] at this;exact this u hu
 rcases hO.row.2 with ⟨h2,h3⟩|⟨g,cap,cur,h2,h3,h4,h5,h6,h7,h8⟩
 ·have h9:=run_append_nil (P:=P) w t ty e i0 z hu hi0 hz0 ad 1 1 (c x) hl hA (by omega) (by omega) (by rw [hz2];have:1*bytes<=(xs.length+1)*bytes:=Nat.mul_le_mul_right _ (by omega);omega)
  rw [h2] at hr
  have:=h9.symm.trans hr
  injection this with h10 h11
  rw [← h10];exact .inr rfl
 ·rw [h2] at hr
  have hxs:(xs.flatMap c).length=s.len*i0.size:=by rw [YR hc,hsl,hz1]
  by_cases hroom2:s.len+1<=cap
  ·have h9:=run_append_room (P:=P) w t ty e i0 hu hi0 g s.len cap cur h4 ad 1 1 (c x) hl hA hall hroom2 (by rw [hl,← Nat.add_mul,h7,hz1];exact Nat.mul_le_mul_right _ hroom2)
   have:=h9.symm.trans hr
   injection this with h10 h11
   rw [← h10,h2];exact .inl rfl
  ·have holds:∀ j u,(xs.flatMap c)[j]?=some u->w.cell? ((⟨g,0,none⟩:Addr).add j)=some u:=hO.row.cells (g:=g) (by rw [h2];rfl)
   have h9:=run_append_grow (P:=P) w t ty e i0 z hu hi0 hz0 ⟨g,0,none⟩ s.len cap (xs.flatMap c) hxs holds ad 1 1 (c x) hl hA (by omega) (by omega) (growslice_fits (by omega) (by rw [hz2,← hsl];exact room))
   have:=h9.symm.trans hr
   injection this with h10 h11
   rw [← h10];exact .inr rfl
theorem zA5 {s:Sl} {xs:List α} {x:α} {vx:Value} (hO:OwnS c n e base w s xs) (hc:∀ x,(c x).length=n) (h1:∀ x,(c x).all (·.oneCell')=true) (hn:0<n)
  (hu:P.underlying t=some (.slice e)) {z:Value} (hi:(P.info? e).map (λi=>(i.zero,i.size,i.bytes))=some (some z,n,bytes)) (hz:z.cells.size=n) (hby:0<bytes)
  (hbs:∀ w,(zd t 1 [(0,vx)].toArray).run P w=.ok (Sl.v ⟨some ⟨w.heap.size,0,none⟩,1,1⟩) (w.alloc (.cells (c x).toArray e)))
  (hbw:base<=w.heap.size) (room:(xs.length+1)*bytes<=140737488355328) {k:Sl->World->Prop} {ty:TypeId}
  (H:∀ s' w',OwnS c n e base w' s' (xs++[x])->w.grownBy w' (Sl.v s).ownBlock->(∀ q,(Sl.v s').ownBlock=some q->(Sl.v s).ownBlock=some q∨w.heap.size<=q)->k s' w'):
  opE P Sl.v (zd t 1 [(0,vx)].toArray) w (λy w=>opE P Sl.v (Builtin.append_ #[t,t] ty [Sl.v s,Sl.v y].toArray) w k):=by
 refine ⟨_,_,hbs w,?_⟩
 have hA:At (w.alloc (.cells (c x).toArray e)) ⟨w.heap.size,0,none⟩ (c x):=At.new w (c x) e
 have key:opE P Sl.v (Builtin.append_ #[t,t] ty [Sl.v s,Sl.v ⟨some ⟨w.heap.size,0,none⟩,1,1⟩].toArray) (w.alloc (.cells (c x).toArray e)) (λs' w'=>OwnS c n e base w' s' (xs++[x])/\(w.alloc (.cells (c x).toArray e)).grownBy w' (Sl.v s).ownBlock):=
  zAb (w0:={w with heap:=#[]}) (ys:=[x]) (hO.bel (Bel.alloc _ _)) ⟨rfl,by simp,by simp,by simp,λh=>by simp at h,λi y hy=>by
   cases i with
   |zero=>
    simp at hy;subst hy
    exact ⟨_,rfl,by rw [Nat.zero_mul];simpa [Addr.add] using hA⟩
   |succ i=>simp at hy⟩ hc h1 hn hu hi hz hby ⟨rfl,rfl,rfl,Nat.zero_le _,λk hk=>absurd hk (by simp)⟩ (by simp) (by rw [size_alloc'];omega) (by simpa using room) λs' w' h1 h2 h3=>⟨h1,h3⟩
 obtain ⟨s',w',hrun,h2,h3⟩:=key
 refine ⟨s',w',hrun,H s' w' h2 (QO (World.grownBy_alloc w _ _) h3) λq hq=>?_⟩
 rcases zAT (x:=x) (hO.bel (Bel.alloc w (.cells (c x).toArray e))) hc h1 hn hu hi room hby hA hrun with h4|h4
 ·exact .inl (h4.symm.trans hq)
 ·rw [hq] at h4
  injection h4 with h4
  rw [size_alloc'] at h4
  exact .inr (by omega)
end
section
variable {P:Program} {w:World}
end
section
variable {κ ν:Type} {ek:κ->Value} {ev:ν->Value} {P:Program} {kt et mt:TypeId} {w:World} {b:Nat} {f:κ->Option ν}
end
end Go.VB
set_option linter.unusedVariables false
set_option linter.unusedSimpArgs false
namespace Go.Proofs.YtjlfegnhomgjhaaDoor.VG
open Go.VB Go.Proofs Go.RowKit
abbrev c8 (i:Int):List Value:=[zH .u8 i]
abbrev Rd8 (w:World) (s:Sl) (l:List Int):Prop:=Rd c8 1 w s l
theorem getT {α:Type} {l:List α} {n:Nat} (h:n<l.length):∃ x,l[n]?=some x:=⟨l[n]'h,by simp⟩
theorem zBG {α:Type} {l:List α} {n:Nat} {x:α} (h:l[n]?=some x):l.take (n+1)=l.take n++[x]:=by
 rw [List.take_add_one,h];rfl
theorem zAa {w:World} {s:Sl} {l:List Int} (h:Rd8 w s l) (x:Int) {k:Int->World->Prop} (H:∀ r:Int,(0<=r↔x∈l)->k r w):
  Cl zA xJ [Sl.v s,.int .u8 x].toArray w (λe w'=>∃ r0:Int,e=.returned (.int .i64 r0)/\k r0 w'):=by
 refine y8 s x w k ?_
 have hbig:=h.big;have hcap:=h.cap;have hlen:=h.len
 unfold z8
 refine ⟨λi W=>∃ n:Nat,i=(n:Int)/\n<=l.length/\w=W/\x∉l.take n,λi _=>(s.len - i).toNat,⟨0,rfl,by omega,rfl,by simp⟩,?_⟩
 rintro i W ⟨n,rfl,hn,rfl,hno⟩
 unfold za
 refine ⟨λhc=>?_,λhc=>H _ ⟨λh=>by omega,λh=>?_⟩⟩
 ·obtain ⟨y,hy⟩:=getT (l:=l) (n:=n) (by omega)
  refine Yk h yz xg (by omega) (x:=y) (by simpa using hy) λad hA=>?_
  refine ZM xv y (by have:=hA 0 (.int .u8 y) rfl;simpa [Addr.add] using this) ?_
  refine ⟨λhe=>H _ ⟨λ_=>he ▸ List.mem_of_getElem? hy,λ_=>by omega⟩,λhne=>?_⟩
  rw [wr64 (by omega) (by omega)]
  refine ⟨⟨n+1,by omega,by omega,rfl,?_⟩,by dsimp only;omega⟩
  rw [zBG hy];simp [hno,hne]
 ·obtain rfl:n=l.length:=by omega
  rw [List.take_length] at hno;exact absurd h hno
theorem zAX {w:World} {s:Sl} {l:List Int} (h:Rd8 w s l) (x:Int) {k:Int->World->Prop} (H:∀ r:Int,(0<=r↔x∈l)->k r w):
  Cl zA xE [Sl.v s,.int .u8 x].toArray w (λe w'=>∃ r0:Int,e=.returned (.int .i64 r0)/\k r0 w'):=by
 refine xM s x w k ?_
 have hbig:=h.big;have hcap:=h.cap;have hlen:=h.len
 unfold z7
 refine ⟨λi W=>∃ n:Nat,i=(n:Int)/\n<=l.length/\w=W/\x∉l.take n,λi _=>(s.len - i).toNat,⟨0,rfl,by omega,rfl,by simp⟩,?_⟩
 rintro i W ⟨n,rfl,hn,rfl,hno⟩
 unfold zZ
 refine ⟨λhc=>?_,λhc=>H _ ⟨λh=>by omega,λh=>?_⟩⟩
 ·obtain ⟨y,hy⟩:=getT (l:=l) (n:=n) (by omega)
  refine Yk h YE Q7 (by omega) (x:=y) (by simpa using hy) λad hA=>?_
  refine ZM YZ y (by have:=hA 0 (.int .u8 y) rfl;simpa [Addr.add] using this) ?_
  refine ⟨λhe=>H _ ⟨λ_=>he ▸ List.mem_of_getElem? hy,λ_=>by omega⟩,λhne=>?_⟩
  rw [wr64 (by omega) (by omega)]
  refine ⟨⟨n+1,by omega,by omega,rfl,?_⟩,by dsimp only;omega⟩
  rw [zBG hy];simp [hno,hne]
 ·obtain rfl:n=l.length:=by omega
  rw [List.take_length] at hno;exact absurd h hno
theorem YL {w:World} {s:Sl} {l:List Int} (h:Rd8 w s l) (x:Int) {k:Bool->World->Prop} (H:k (decide (x∈l)) w):
  Cl zA yo [Sl.v s,.int .u8 x].toArray w (λe w'=>∃ r0:Bool,e=.returned (.bool r0)/\k r0 w'):=by
 refine ym s x w k ?_
 unfold zt
 refine zAa h x λr hr=>?_
 rw [decide_eq_decide.2 hr];exact H
theorem ZT {w:World} {s:Sl} {l:List Int} (h:Rd8 w s l) (x:Int) {k:Bool->World->Prop} (H:k (decide (x∈l)) w):
  Cl zA yv [Sl.v s,.int .u8 x].toArray w (λe w'=>∃ r0:Bool,e=.returned (.bool r0)/\k r0 w'):=by
 refine yk s x w k ?_
 unfold zu
 refine zAX h x λr hr=>?_
 rw [decide_eq_decide.2 hr];exact H
theorem _root_.Go.VB.OwnS.low {α:Type} {c:α->List Value} {n e base base':Nat} {w:World} {s:Sl} {xs:List α} (h:OwnS c n e base w s xs) (hb:base'<=base):OwnS c n e base' w s xs:=by
 refine ⟨h.len,h.small,h.row.1,?_⟩
 rcases h.row.2 with h1|⟨g,cap,cur,h1,h2,h3⟩
 ·exact .inl h1
 ·exact .inr ⟨g,cap,cur,h1,Nat.le_trans hb h2,h3⟩
theorem OwnS.lit8 {e base:Nat} {w:World} (hbw:base<=w.heap.size) (l:List Int) (hl:l.length<=1000):OwnS c8 1 e base (w.alloc (.cells (l.flatMap c8).toArray e)) ⟨some ⟨w.heap.size,0,none⟩,l.length,l.length⟩ l:=by
 have hf:(l.flatMap c8).length=l.length*1:=by induction l with
  |nil=>rfl
  |cons x l ih=>rw [List.flatMap_cons,List.length_append,ih (by simp at hl;omega)];simp;omega
 refine ⟨rfl,by show l.length<=_;omega,?_⟩
 have:=World.ownsRow_lit (base:=base) (e:=e) (size:=1) w (l.flatMap c8).toArray l.length hbw (by unfold maxLen;omega) (by simpa using hf)
 simpa using this
def yt (k:Int):List Int:=if k=1 then [1,2,3,4,5] else if k=2 then [1,2,3,4,5] else if k=3 then [10,11,9] else []
theorem Yz (w:World) (x:Int) {k:Sl->World->Prop} (H:∀ s w',OwnS c8 1 zR w.heap.size w' s (yt x)->Bel w w'->k s w'):
  Cl zA ZF [.int .u8 x].toArray w (λe w'=>∃ r0:Sl,e=.returned (Sl.v r0)/\k r0 w'):=by
 refine ZB x w k ?_
 unfold Qj
 have K:QM zA 25 (zH .u8):=QM.int (by kernel_rfl)
 have hm:zA.underlying 65=some (.map 25 47):=xf
 have b1:=Bel.alloc w (.cells ([1,2,3,4,5].flatMap c8).toArray zR)
 have hO1:=OwnS.lit8 (e:=zR) (zP w.heap.size) [1,2,3,4,5] (by decide)
 refine ⟨_,w.alloc (.cells ([1,2,3,4,5].flatMap c8).toArray zR),(by kernel_rfl:_=Result.ok (Sl.v ⟨some ⟨w.heap.size,0,none⟩,5,5⟩) _),?_⟩
 generalize hs1:(⟨some ⟨w.heap.size,0,none⟩,5,5⟩:Sl)=s1
 replace hO1:OwnS c8 1 zR w.heap.size (w.alloc (.cells ([1,2,3,4,5].flatMap c8).toArray zR)) s1 [1,2,3,4,5]:=by rw [← hs1];exact hO1
 have hz1:∀ k,(Sl.v s1).ownBlock=some k->k=w.heap.size:=λk hk=>by rw [← hs1] at hk;exact (Option.some.inj hk).symm
 have sz1:=size_alloc' w (.cells ([1,2,3,4,5].flatMap c8).toArray zR)
 generalize (w.alloc (.cells ([1,2,3,4,5].flatMap c8).toArray zR))=w1 at hO1 b1 sz1
 refine zAr (ek:=zH .u8) (ev:=Sl.v) λhM=>?_
 have b2:=Bel.alloc w1 (.map #[] 0)
 have sz2:=size_alloc' w1 (.map #[] 0)
 generalize hB:w1.heap.size=B at hM
 generalize (w1.alloc (.map #[] 0))=w2 at hM b2 sz2
 replace hO1:=hO1.bel b2
 have hne:(Sl.v s1).ownBlock=none∨(Sl.v s1).ownBlock≠some B:=.inr λe=>by have:=hz1 B e;omega
 have b02:=b1.trans b2
 refine Yy hM K hm (1:Int) s1 λw3 hM g3=>?_
 refine Yy hM K hm (2:Int) s1 λw4 hM g4=>?_
 have hO4:=(hO1.kept g3 hne).kept g4 hne
 have b04:=(b02.grown g3 λk hk=>by cases hk;omega).grown g4 λk hk=>by cases hk;omega
 have hB4:=hM.lt
 have b5:=Bel.alloc w4 (.cells ([10,11,9].flatMap c8).toArray zR)
 have hO5:=OwnS.lit8 (e:=zR) (zP w4.heap.size) [10,11,9] (by decide)
 refine ⟨_,w4.alloc (.cells ([10,11,9].flatMap c8).toArray zR),(by kernel_rfl:_=Result.ok (Sl.v ⟨some ⟨w4.heap.size,0,none⟩,3,3⟩) _),?_⟩
 generalize hs2:(⟨some ⟨w4.heap.size,0,none⟩,3,3⟩:Sl)=s2
 replace hO5:OwnS c8 1 zR w4.heap.size (w4.alloc (.cells ([10,11,9].flatMap c8).toArray zR)) s2 [10,11,9]:=by rw [← hs2];exact hO5
 have hz2:∀ k,(Sl.v s2).ownBlock=some k->k=w4.heap.size:=λk hk=>by rw [← hs2] at hk;exact (Option.some.inj hk).symm
 generalize (w4.alloc (.cells ([10,11,9].flatMap c8).toArray zR))=w5 at hO5 b5
 refine Yy (hM.bel b5) K hm (3:Int) s2 λw6 hM g6=>?_
 have b06:=(b04.trans b5).grown g6 λk hk=>by cases hk;omega
 have hO6:=(hO4.bel b5).kept g6 hne
 have hO6':=hO5.kept g6 (.inr λe=>by have:=hz2 B e;omega)
 have s4:=b04.le
 refine zBO hM K hm (z:=Sl.none) (λw=>by kernel_rfl) x ?_
 have h6:OwnS c8 1 zR w.heap.size w6 ((upd (upd (upd (λ_=>none) 1 s1) 2 s1) 3 s2 x).getD Sl.none) (yt x):=by
  unfold yt
  by_cases h1:x=1
  ·subst h1;simpa [upd] using hO6
  by_cases h2:x=2
  ·subst h2;simpa [upd] using hO6
  by_cases h3:x=3
  ·subst h3;simpa [upd] using hO6'.low s4
  rw [if_neg h1,if_neg h2,if_neg h3,yq _ _ h3,yq _ _ h2,yq _ _ h1]
  exact OwnS.nil _ _ _ _ _
 exact H _ w6 h6 b06
def zAN (s:Int):Int:=if s=1 then 6 else if s=2 then 7 else if s=3 then 8 else if s=4 then 9 else 0
def zAJ (s:Int):Bool:=decide (s=1∨s=2∨s=3∨s=4)
theorem zA8 (w:World) (x:Int) {k:Int->Bool->World->Prop} (H:∀ w',Bel w w'->k (zAN x) (zAJ x) w'):
  Cl zA ZO [.int .u8 x].toArray w (λe w'=>∃ (r0:Int) (r1:Bool),e=.returned (.tuple [.int .u8 r0,.bool r1].toArray)/\k r0 r1 w'):=by
 refine Zj x w k ?_
 unfold Qp
 have K:QM zA 28 (zH .u8):=QM.int (by kernel_rfl)
 have hm:zA.underlying 66=some (.map 28 28):=xn
 refine zAr (ek:=zH .u8) (ev:=zH .u8) λhM=>?_
 have b2:=Bel.alloc w (.map #[] 0)
 generalize (w.alloc (.map #[] 0))=w2 at hM b2
 refine Yy hM K hm (1:Int) (6:Int) λw3 hM g3=>?_
 refine Yy hM K hm (2:Int) (7:Int) λw4 hM g4=>?_
 refine Yy hM K hm (3:Int) (8:Int) λw5 hM g5=>?_
 refine Yy hM K hm (4:Int) (9:Int) λw6 hM g6=>?_
 have b06:=(((b2.grown g3 λk hk=>by cases hk;exact zP _).grown g4 λk hk=>by cases hk;exact zP _).grown g5 λk hk=>by cases hk;exact zP _).grown g6 λk hk=>by cases hk;exact zP _
 have hr:=hM.run_lookOk K hm (z:=(0:Int)) (λw=>by kernel_rfl) x
 refine ⟨(zAN x,zAJ x),w6,?_,H w6 b06⟩
 refine hr.trans ?_
 unfold zAN zAJ
 by_cases h1:x=1
 ·subst h1;simp [upd]
 by_cases h2:x=2
 ·subst h2;simp [upd]
 by_cases h3:x=3
 ·subst h3;simp [upd]
 by_cases h4:x=4
 ·subst h4;simp [upd]
 rw [yq _ _ h4,yq _ _ h3,yq _ _ h2,yq _ _ h1]
 simp [h1,h2,h3,h4]
def Z4 (s:Int):Bool:=decide (s∈([1,2,3,4,5,10]:List Int))
theorem zAh (w:World) (x:Int) {k:Bool->World->Prop} (H:∀ w',Bel w w'->k (Z4 x) w'):
  Cl zA Y7 [.int .u8 x].toArray w (λe w'=>∃ r0:Bool,e=.returned (.bool r0)/\k r0 w'):=by
 refine Y1 x w k ?_
 unfold Qh
 refine Yz w 1 λs w1 hO b1=>?_
 refine zA5 hO (λ_=>rfl) (λ_=>rfl) (by decide) yz Q0 rfl (by decide) (YA 10) b1.le (by decide) λz w2 hz g2 hzb=>?_
 refine YL (hz.rd λ_=>rfl) x ?_
 exact H w2 (b1.grown g2 λk hk=>hO.lo hk)
def Zt (s:Int):Bool:=decide (0<s/\s<12/\s∉([1,6,11]:List Int))
theorem zA6 (w:World) (x:Int) {k:Bool->World->Prop} (H:∀ w',Bel w w'->k (Zt x) w'):
  Cl zA ZW [.int .u8 x].toArray w (λe w'=>∃ r0:Bool,e=.returned (.bool r0)/\k r0 w'):=by
 refine Zf x w k ?_
 unfold Qv
 have b1:=Bel.alloc w (.cells ([1,6,11].flatMap c8).toArray zR)
 have hO1:=OwnS.lit8 (e:=zR) (zP w.heap.size) [1,6,11] (by decide)
 refine ⟨_,w.alloc (.cells ([1,6,11].flatMap c8).toArray zR),(by kernel_rfl:_=Result.ok (Sl.v ⟨some ⟨w.heap.size,0,none⟩,3,3⟩) _),?_⟩
 have hR:Rd8 _ (⟨some ⟨w.heap.size,0,none⟩,3,3⟩:Sl) [1,6,11]:=hO1.rd λ_=>rfl
 generalize (w.alloc (.cells ([1,6,11].flatMap c8).toArray zR))=w1 at hR b1
 have H1:=H w1 b1
 unfold Zt at H1
 refine ⟨λh0=>?_,λh0=>?_⟩
 ·unfold yu
  refine ⟨λh2=>?_,λh2=>?_⟩
  ·refine YL hR x ?_
   unfold yc
   have h3:x<12:=of_decide_eq_true h2
   have:(!decide (x∈([1,6,11]:List Int)))=decide (0<x/\x<12/\x∉([1,6,11]:List Int)):=by
    rw [← decide_not];exact decide_eq_decide.2 ⟨λh=>⟨h0,h3,h⟩,λh=>h.2.2⟩
   rw [this];exact H1
  ·unfold yc
   have h3:¬ x<12:=of_decide_eq_false h2
   rw [decide_eq_false (λh=>h3 h.2.1)] at H1;exact H1
 ·unfold yu
  refine ⟨λh=>(nomatch h),λ_=>?_⟩
  unfold yc
  rw [decide_eq_false (λh=>h0 h.1)] at H1;exact H1
def xy (s:Int):Int:=if s=3 then 1 else if s=8 then 4 else if s=5 then 2 else if s=10 then 5 else if s=11 then 6 else 0
theorem zA3 (w:World) (x:Int) {k:Int->World->Prop} (H:k (xy x) w):
  Cl zA YG [.int .u8 x].toArray w (λe w'=>∃ r0:Int,e=.returned (.int .u8 r0)/\k r0 w'):=by
 refine YN x w k ?_
 unfold xw
 unfold xy at H
 refine ⟨λh=>?_,λh3=>⟨λh=>?_,λh8=>⟨λh=>?_,λh5=>⟨λh=>?_,λh10=>⟨λh=>?_,λh11=>?_⟩⟩⟩⟩⟩<;>simp_all
end Go.Proofs.YtjlfegnhomgjhaaDoor.VG
set_option linter.unusedVariables false
set_option linter.unusedSimpArgs false
namespace Go.Proofs.YtjlfegnhomgjhaaDoor.VG
open Go.VB Go.Proofs Go.RowKit
abbrev Sg:=zI
abbrev ptT (b:Nat):Option Addr:=some ⟨b,0,none⟩
def YT (s:Sg):Int:=if s.Undoing=true then (if s.Kind=3 then 0 else 4) else if s.Kind=3 then 3 else 5
structure OkS (s:Sg):Prop where
 kind:s.Kind=1∨s.Kind=3
 lo:0<=s.At
 hi:s.At<=YT s
theorem OkS.len {s:Sg} (h:OkS s):s.Kind=1/\(yt s.Kind).length=5∨s.Kind=3/\(yt s.Kind).length=3:=by
 rcases h.kind with h|h<;>rw [h]<;>simp [yt]
theorem zAk {w:World} {s:Sg} (h:OkS s) {k:Int->World->Prop} (H:∀ w',Bel w w'->k 0 w'):
  Cl zA Y4 [zI.v s].toArray w (λe w'=>∃ r0:Int,e=.returned (.int .i64 r0)/\k r0 w'):=by
 refine ZI s w k ?_
 unfold QX
 refine ZP (cs:=s.cells) rfl λX w1 b1 hX _=>?_
 refine yZ yM yQ hX.at s.Kind rfl ?_
 refine Yz w1 s.Kind λr w2 hO b2=>?_
 have hX2:=hX.bel b2
 have hl:=hO.len
 have hlen:=h.len;have h0:=h.lo;have h1:=h.hi
 have J:∀ m:Int,m=YT s->yW k (ptT X) r m w2:=by
  intro m hm
  unfold yW
  refine ⟨λe=>by omega,λ_=>?_⟩
  refine yZ yD xN hX2.at s.At rfl ?_
  unfold xA
  refine ⟨λe=>by have:=of_decide_eq_true e;omega,λ_=>?_⟩
  refine yZ yD xN hX2.at s.At rfl ?_
  unfold xC
  refine ⟨λe=>by have:=of_decide_eq_true e;omega,λ_=>?_⟩
  refine yZ yM yQ hX2.at s.Kind rfl ⟨λe=>by omega,λ_=>?_⟩
  unfold xK xD
  exact ⟨λe=>(nomatch e),λ_=>H w2 (b1.trans b2)⟩
 refine yZ zX xR hX2.at s.Undoing rfl ⟨λhu=>?_,λhu=>?_⟩
 ·refine yZ yM yQ hX2.at s.Kind rfl ?_
  unfold yd
  refine ⟨λe=>J 0 ?_,λe=>?_⟩
  ·unfold YT;rw [if_pos hu,if_pos (of_decide_eq_true e)]
  ·refine yZ zX xR hX2.at s.Undoing rfl ⟨λ_=>?_,λh2=>by rw [hu] at h2;cases h2⟩
   have e3:=of_decide_eq_false e
   rw [wr64 (by omega) (by omega)]
   refine J _ ?_
   unfold YT;rw [if_pos hu,if_neg e3];omega
 ·unfold yd
  refine ⟨λe=>(nomatch e),λ_=>?_⟩
  refine yZ zX xR hX2.at s.Undoing rfl ⟨λh2=>(by rw [hu] at h2;cases h2),λ_=>J _ ?_⟩
  unfold YT;rw [if_neg (by rw [hu];simp)]
  split<;>omega
def xk (s:Sg):Int × Bool:=
 if s.Undoing=true/\0<s.At then (zAN ((yt s.Kind).getD (s.At - 1).toNat 0),zAJ ((yt s.Kind).getD (s.At - 1).toNat 0))
 else if s.Undoing=false/\s.At<(yt s.Kind).length then ((yt s.Kind).getD s.At.toNat 0,true) else (0,false)
theorem zAC {w:World} {s:Sg} (h:OkS s) {k:Int->Bool->Int->World->Prop} (H:∀ w',Bel w w'->k (xk s).1 (xk s).2 0 w'):
  Cl zA Za [zI.v s].toArray w (λe w'=>∃ (r0:Int) (r1:Bool) (r2:Int),e=.returned (.tuple [.int .u8 r0,.bool r1,.int .i64 r2].toArray)/\k r0 r1 r2 w'):=by
 refine Ze s w k ?_
 unfold Qr
 refine ZP (cs:=s.cells) rfl λX w1 b1 hX _=>?_
 refine Yw yR s rfl hX.at rfl ?_
 refine zAk h λw2 b2=>⟨λe=>absurd rfl e,λ_=>?_⟩
 have hX2:=hX.bel b2
 refine yZ yM yQ hX2.at s.Kind rfl ?_
 refine Yz w2 s.Kind λr w3 hO b3=>?_
 have hX3:=hX2.bel b3
 have hl:=hO.len
 have hR:Rd8 w3 r (yt s.Kind):=hO.rd λ_=>rfl
 have hlen:=h.len;have h0:=h.lo;have h1:=h.hi
 have b03:=(b1.trans b2).trans b3
 have hm:s.Undoing=true->s.At<=4:=λhu=>by unfold YT at h1;rw [if_pos hu] at h1;split at h1<;>omega
 have hm3:s.Undoing=true->s.Kind=3->s.At<=0:=λhu h3=>by unfold YT at h1;rw [if_pos hu,if_pos h3] at h1;exact h1
 have hget:∀ n:Nat,n<(yt s.Kind).length->(yt s.Kind)[n]?=some ((yt s.Kind).getD n 0):=λn hn=>by
  rw [List.getD_eq_getElem?_getD];obtain ⟨y,hy⟩:=getT hn;rw [hy];rfl
 have J:∀ c:Bool,(c=true↔s.Undoing=true/\0<s.At)->yr k (ptT X) r c w3:=by
  intro c hc
  unfold yr
  refine ⟨λe=>?_,λe=>?_⟩
  ·obtain ⟨hu,hp⟩:=hc.1 e
   have hb:=hm hu
   have hb3:=hm3 hu
   refine yZ yD xN hX3.at s.At rfl ?_
   rw [wr64 (by omega) (by omega)]
   have hy:=hget (s.At - 1).toNat (by omega)
   refine Yk hR yz xg (by omega) (x:=(yt s.Kind).getD (s.At - 1).toNat 0) hy λad hA=>?_
   refine ZM xv ((yt s.Kind).getD (s.At - 1).toNat 0) (by have:=hA 0 (.int .u8 ((yt s.Kind).getD (s.At - 1).toNat 0)) rfl;simpa [Addr.add] using this) ?_
   refine zA8 w3 _ λw4 b4=>?_
   have:=H w4 (b03.trans b4)
   unfold xk at this
   rw [if_pos ⟨hu,hp⟩] at this
   exact this
  ·have hne:¬ (s.Undoing=true/\0<s.At):=λh2=>by rw [hc.2 h2] at e;cases e
   have hH:=H w3 b03
   unfold xk at hH
   rw [if_neg hne] at hH
   refine yZ zX xR hX3.at s.Undoing rfl ⟨λhu=>?_,λhu=>?_⟩
   ·have hu:s.Undoing=false:=by cases hq:s.Undoing with|false=>rfl|true=>rw [hq] at hu;cases hu
    refine yZ yD xN hX3.at s.At rfl ?_
    unfold yp
    refine ⟨λe2=>?_,λe2=>?_⟩
    ·have hlt:=of_decide_eq_true e2
     rw [if_pos ⟨hu,by omega⟩] at hH
     refine yZ yD xN hX3.at s.At rfl ?_
     have hy:=hget s.At.toNat (by omega)
     refine Yk hR yz xg (by omega) (x:=(yt s.Kind).getD s.At.toNat 0) hy λad hA=>?_
     refine ZM xv ((yt s.Kind).getD s.At.toNat 0) (by have:=hA 0 (.int .u8 ((yt s.Kind).getD s.At.toNat 0)) rfl;simpa [Addr.add] using this) ?_
     exact hH
    ·have hlt:=of_decide_eq_false e2
     rw [if_neg λh2=>hlt (by omega)] at hH
     exact hH
   ·have hu:s.Undoing=true:=by cases hq:s.Undoing with|true=>rfl|false=>rw [hq] at hu;cases hu
    unfold yp
    rw [if_neg λh2=>by rw [hu] at h2;cases h2.1] at hH
    exact ⟨λe2=>(nomatch e2),λ_=>hH⟩
 refine yZ zX xR hX3.at s.Undoing rfl ⟨λhu=>?_,λhu=>?_⟩
 ·refine yZ yD xN hX3.at s.At rfl (J _ ⟨λe=>⟨hu,of_decide_eq_true e⟩,λe=>decide_eq_true e.2⟩)
 ·exact J false ⟨λe=>(nomatch e),λe=>by rw [hu] at e;cases e.1⟩
def advV (s:Sg) (d:Bool):Sg:=if d=true then (if s.Undoing=true then {s with At:=s.At - 1} else {s with At:=s.At+1}) else {s with Undoing:=s.Undoing||Z4 (xk s).1}
theorem Zy {w:World} {s:Sg} (h:OkS s) (hn:(xk s).2=true) (d:Bool) {k:Sg->Int->World->Prop} (H:∀ w',Bel w w'->k (advV s d) 0 w'):
  Cl zA Yn [zI.v s,.bool d].toArray w (λe w'=>∃ (r0:Sg) (r1:Int),e=.returned (.tuple [zI.v r0,.int .i64 r1].toArray)/\k r0 r1 w'):=by
 refine Yp s d w k ?_
 unfold QL
 have h0:=h.lo;have h1:=h.hi
 have hm:s.At<=5:=by unfold YT at h1;split at h1<;>split at h1<;>omega
 refine ZP (cs:=s.cells) rfl λX w1 b1 hX hX0=>?_
 refine zAG YH λA w2 b2 hA hA0=>?_
 have hX2:=hX.bel b2
 have hXA:X≠A:=by have:=hX.lt;omega
 refine Yw yR s rfl hX2.at rfl ?_
 refine zAC h λw3 b3=>⟨λe=>absurd rfl e,λ_=>⟨λe=>(by rw [hn] at e;cases e),λ_=>?_⟩⟩
 have hX3:=hX2.bel b3
 have hA3:=hA.bel b3
 have b03:=(b1.trans b2).trans b3
 have s1:=b1.le;have s2:=b2.le;have s3:=b3.le
 have hAl:=hA3.lt
 have J:∀ (W:World) (q:Sg),Bel w W->q=advV s d->Row W X q.cells xj->(∃ z:List Value,z.length=4/\Row W A z xj)->yN k (ptT X) (ptT A) W:=by
  rintro W q hb hq hXW ⟨z,hz,hAW⟩
  unfold yN
  refine Yw yR q rfl hXW.at rfl ?_
  refine zAA yR hAW hz rfl rfl λW2 hA2 g2=>?_
  refine R.agg yR q rfl hA2.at rfl ?_
  rw [hq]
  exact H W2 (hb.grown g2 λr hr=>by cases hr;omega)
 have keepA:∀ {W:World},w3.grownBy W (some X)->∃ z:List Value,z.length=4/\Row W A z xj:=λ{W} g=>⟨_,rfl,hA3.keep (g.block A hAl λe=>hXA (Option.some.inj e).symm)⟩
 have hX0':∀ {W:World},w3.grownBy W (some X)->Bel w W:=λ{W} g=>b03.grown g λr hr=>by cases hr;exact hX0
 refine ⟨λhd=>?_,λhd=>?_⟩
 ·have hd:d=false:=by cases hq:d with|false=>rfl|true=>rw [hq] at hd;cases hd
  have R2:∀ (c:Bool) W,Bel w W->Row W X s.cells xj->(∃ z:List Value,z.length=4/\Row W A z xj)->c=(s.Undoing||Z4 (xk s).1)->yT k (ptT X) (ptT A) c W:=by
   rintro c W hb hXW ⟨z,hz,hAW⟩ hc
   unfold yT
   refine ⟨_,W,zX _ _,?_⟩
   refine ZL xR hXW rfl (by show 3<4;decide) rfl λW2 hX2 g2=>?_
   refine J W2 {s with Undoing:=c} (hb.grown g2 λr hr=>by cases hr;exact hX0) ?_ hX2 ⟨z,hz,hAW.keep (g2.block A hAW.lt λe=>hXA (Option.some.inj e).symm)⟩
   unfold advV;rw [if_neg (by rw [hd];simp),hc]
  refine yZ zX xR hX3.at s.Undoing rfl ⟨λhu=>?_,λhu=>?_⟩
  ·exact R2 true w3 b03 hX3 ⟨_,rfl,hA3⟩ (by rw [hu];rfl)
  ·refine zAh w3 _ λw4 b4=>?_
   exact R2 _ w4 (b03.trans b4) (hX3.bel b4) ⟨_,rfl,hA3.bel b4⟩ (by rw [hu];rfl)
 ·have hd:d=true:=by cases hq:d with|true=>rfl|false=>rw [hq] at hd;cases hd
  refine yZ zX xR hX3.at s.Undoing rfl ⟨λhu=>?_,λhu=>?_⟩
  ·refine yZ yD xN hX3.at s.At rfl ?_
   refine ⟨_,w3,yD _ _,?_⟩
   rw [wr64 (by omega) (by omega)]
   refine ZL xN hX3 rfl (by show 2<4;decide) rfl λW2 hX2 g2=>?_
   refine J W2 {s with At:=s.At - 1} (hX0' g2) ?_ hX2 (keepA g2)
   unfold advV;rw [if_pos hd,if_pos hu]
  ·refine yZ yD xN hX3.at s.At rfl ?_
   refine ⟨_,w3,yD _ _,?_⟩
   rw [wr64 (by omega) (by omega)]
   refine ZL xN hX3 rfl (by show 2<4;decide) rfl λW2 hX2 g2=>?_
   refine J W2 {s with At:=s.At+1} (hX0' g2) ?_ hX2 (keepA g2)
   unfold advV;rw [if_pos hd,if_neg (by rw [hu];simp)]
end Go.Proofs.YtjlfegnhomgjhaaDoor.VG
set_option linter.unusedVariables false
namespace Go.VB.Srt
structure SWO {α:Type} (lt:α->α->Bool):Prop where
 irr:∀ x,lt x x=false
 neg:∀ x y z,lt x z=true->lt x y=true∨lt y z=true
 asy:∀ x y,lt x y=true->lt y x=false
section
variable {α:Type} {lt:α->α->Bool}
def Le (lt:α->α->Bool) (x y:α):Prop:=lt y x=false
theorem SWO.refl (O:SWO lt) (x:α):Le lt x x:=O.irr x
theorem SWO.trans (O:SWO lt) {x y z:α} (h:Le lt x y) (k:Le lt y z):Le lt x z:=by
 unfold Le at*
 cases hz:lt z x with
 |false=>rfl
 |true=>
  rcases O.neg z y x hz with h1|h1
  ·rw [h1] at k;cases k
  ·rw [h1] at h;cases h
theorem SWO.of_lt (O:SWO lt) {x y:α} (h:lt x y=true):Le lt x y:=O.asy x y h
def swp (f:Nat->α) (i j:Nat):Nat->α:=λk=>if k=i then f j else if k=j then f i else f k
theorem zAH (f:Nat->α) (i j:Nat):swp f i j i=f j:=by simp [swp]
theorem zAB (f:Nat->α) (i j:Nat):swp f i j j=f i:=by
 unfold swp;split
 ·rename_i h;rw [h]
 ·simp
theorem Yv (f:Nat->α) {i j k:Nat} (hi:k≠i) (hj:k≠j):swp f i j k=f k:=by simp [swp,hi,hj]
inductive Seg (a b:Nat):(Nat->α)->(Nat->α)->Prop
 |refl (f:Nat->α):Seg a b f f
 |step {f g:Nat->α} (i j:Nat) (hi:a<=i) (hi':i<b) (hj:a<=j) (hj':j<b) (h:Seg a b f g):Seg a b f (swp g i j)
theorem Seg.trans {a b:Nat} {f g h:Nat->α} (p:Seg a b f g) (q:Seg a b g h):Seg a b f h:=by
 induction q with
 |refl=>exact p
 |step i j h1 h2 h3 h4 _ ih=>exact .step i j h1 h2 h3 h4 ih
theorem Seg.mono {a b a' b':Nat} (ha:a'<=a) (hb:b<=b') {f g:Nat->α} (p:Seg a b f g):Seg a' b' f g:=by
 induction p with
 |refl=>exact .refl _
 |step i j h1 h2 h3 h4 _ ih=>exact .step i j (by omega) (by omega) (by omega) (by omega) ih
theorem Seg.one {a b:Nat} (f:Nat->α) {i j:Nat} (h1:a<=i) (h2:i<b) (h3:a<=j) (h4:j<b):Seg a b f (swp f i j):=.step i j h1 h2 h3 h4 (.refl f)
theorem Seg.all {a b:Nat} {f g:Nat->α} (p:Seg a b f g) {Q:α->Prop} (h:∀ k,a<=k->k<b->Q (f k)):∀ k,a<=k->k<b->Q (g k):=by
 induction p with
 |refl=>exact h
 |step i j h1 h2 h3 h4 _ ih=>
  intro k hk hk'
  unfold swp
  split
  ·exact ih j h3 h4
  ·split
   ·exact ih i h1 h2
   ·exact ih k hk hk'
theorem Seg.out {a b:Nat} {f g:Nat->α} (p:Seg a b f g):∀ k,k<a∨b<=k->g k=f k:=by
 induction p with
 |refl=>exact λ_ _=>rfl
 |step i j h1 h2 h3 h4 _ ih=>
  intro k hk
  rw [Yv _ (by omega) (by omega)]
  exact ih k hk
def QC (lt:α->α->Bool) (a b:Nat) (f:Nat->α):Prop:=∀ i j,a<=i->i<j->j<b->Le lt (f i) (f j)
theorem QC.small {a b:Nat} {f:Nat->α} (h:b<=a+1):QC lt a b f:=λi j h1 h2 h3=>by omega
theorem QC.congr {a b:Nat} {f g:Nat->α} (h:QC lt a b f) (hg:∀ k,a<=k->k<b->g k=f k):QC lt a b g:=λi j h1 h2 h3=>by
 rw [hg i h1 (by omega),hg j (by omega) h3];exact h i j h1 h2 h3
def Hole (lt:α->α->Bool) (a i j:Nat) (f:Nat->α):Prop:=(∀ p q,a<=p->p<q->q<=i->p≠j->q≠j->Le lt (f p) (f q))/\∀ q,j<q->q<=i->Le lt (f j) (f q)
theorem Hole.start {a i:Nat} {f:Nat->α} (h:QC lt a i f):Hole lt a i i f:=⟨λp q h1 h2 h3 h4 h5=>h p q h1 h2 (by omega),λq h1 h2=>by omega⟩
theorem Hole.done (O:SWO lt) {a i j:Nat} {f:Nat->α} (h:Hole lt a i j f) (hj:j<=a∨Le lt (f (j - 1)) (f j)):QC lt a (i+1) f:=by
 intro p q h1 h2 h3
 by_cases hp:p=j
 ·subst hp;exact h.2 q h2 (by omega)
 by_cases hq:q=j
 ·subst hq
  rcases hj with hj|hj
  ·omega
  ·by_cases hpj:p=q - 1
   ·rw [hpj];exact hj
   ·exact O.trans (h.1 p (q - 1) h1 (by omega) (by omega) hp (by omega)) hj
 ·exact h.1 p q h1 h2 (by omega) hp hq
theorem Hole.step (O:SWO lt) {a i j:Nat} {f:Nat->α} (h:Hole lt a i j f) (ha:a<j) (hi:j<=i) (hl:lt (f j) (f (j - 1))=true):Hole lt a i (j - 1) (swp f j (j - 1)):=by
 refine ⟨λp q h1 h2 h3 h4 h5=>?_,λq h1 h2=>?_⟩
 ·have e:∀ k,k≠j - 1->swp f j (j - 1) k=f (if k=j then j - 1 else k):=λk hk=>by
   unfold swp
   by_cases h:k=j
   ·simp [h]
   ·simp [h,hk]
  rw [e p h4,e q h5]
  by_cases hp:p=j
  ·rw [if_pos hp,if_neg (by omega)]
   exact h.1 (j - 1) q (by omega) (by omega) h3 (by omega) (by omega)
  ·rw [if_neg hp]
   by_cases hq:q=j
   ·rw [if_pos hq]
    exact h.1 p (j - 1) h1 (by omega) (by omega) hp (by omega)
   ·rw [if_neg hq];exact h.1 p q h1 h2 h3 hp hq
 ·rw [zAB]
  by_cases hq:q=j
  ·rw [hq,zAH];exact O.of_lt hl
  ·rw [Yv f hq (by omega)];exact h.2 q (by omega) h2
def QI (c i:Nat):Prop:=c=2*i+1∨c=2*i+2
def Hp (lt:α->α->Bool) (o lo hi:Nat) (f:Nat->α):Prop:=∀ i c,lo<=i->QI c i->c<hi->Le lt (f (o+c)) (f (o+i))
structure HpX (lt:α->α->Bool) (o lo hi r:Nat) (f:Nat->α):Prop where
 up:∀ i c,lo<=i->i≠r->QI c i->c<hi->Le lt (f (o+c)) (f (o+i))
 over:∀ p c,lo<=p->QI r p->QI c r->c<hi->Le lt (f (o+c)) (f (o+p))
theorem HpX.start {o lo hi:Nat} {f:Nat->α} (h:Hp lt o (lo+1) hi f):HpX lt o lo hi lo f:=
 ⟨λi c h1 h2 h3 h4=>h i c (by omega) h3 h4,λp c h1 h2=>by unfold QI at h2;omega⟩
theorem HpX.done (O:SWO lt) {o lo hi r:Nat} {f:Nat->α} (h:HpX lt o lo hi r f) (hr:∀ c,QI c r->c<hi->Le lt (f (o+c)) (f (o+r))):Hp lt o lo hi f:=λi c h1 h2 h3=>by
 by_cases hi:i=r
 ·subst hi;exact hr c h2 h3
 ·exact h.up i c h1 hi h2 h3
theorem HpX.step (O:SWO lt) {o lo hi r b:Nat} {f:Nat->α} (h:HpX lt o lo hi r f) (hlo:lo<=r) (hb:QI b r) (hbh:b<hi) (hmax:∀ c,QI c r->c<hi->Le lt (f (o+c)) (f (o+b))) (hl:lt (f (o+r)) (f (o+b))=true):
  HpX lt o lo hi b (swp f (o+r) (o+b)):=by
 have hrb:r<b:=by unfold QI at hb;omega
 have oth:∀ k,k≠r->k≠b->swp f (o+r) (o+b) (o+k)=f (o+k):=λk h1 h2=>Yv f (by omega) (by omega)
 have er:swp f (o+r) (o+b) (o+r)=f (o+b):=zAH f _ _
 have eb:swp f (o+r) (o+b) (o+b)=f (o+r):=zAB f _ _
 refine ⟨λi c h1 h2 h3 h4=>?_,λp c h1 h2 h3 h4=>?_⟩
 ·by_cases hi:i=r
  ·subst hi
   rw [er]
   by_cases hc:c=b
   ·subst hc;rw [eb];exact O.of_lt hl
   ·rw [oth c (by unfold QI at h3;omega) hc];exact hmax c h3 h4
  ·rw [oth i hi h2]
   by_cases hc:c=r
   ·subst hc;rw [er];exact h.over i b h1 h3 hb hbh
   ·rw [oth c hc (by unfold QI at h3 hb;omega)];exact h.up i c h1 hi h3 h4
 ·obtain rfl:p=r:=by unfold QI at h2 hb;omega
  rw [er,oth c (by unfold QI at h3 h2;omega) (by unfold QI at h3;omega)]
  exact h.up b c (by omega) (by omega) h3 h4
theorem Hp.root (O:SWO lt) {o hi:Nat} {f:Nat->α} (h:Hp lt o 0 hi f):∀ n k,k<=n->k<hi->Le lt (f (o+k)) (f o)
 |0,k,hk,_=>by
  obtain rfl:k=0:=by omega
  exact O.refl _
 |n+1,k,hk,hk'=>by
  by_cases h0:k=0
  ·subst h0;exact O.refl _
  ·exact O.trans (h ((k - 1) / 2) k (by omega) (by unfold QI;omega) hk') (Hp.root O h n ((k - 1) / 2) (by omega) (by omega))
structure HS (lt:α->α->Bool) (a b i:Nat) (g:Nat->α):Prop where
 hp:Hp lt a 0 i g
 so:QC lt (a+i) b g
 le:∀ k q,a<=k->k<a+i->a+i<=q->q<b->Le lt (g k) (g q)
theorem HS.step (O:SWO lt) {a b i:Nat} {g h:Nat->α} (hs:HS lt a b (i+1) g) (hib:a+i+1<=b) (hseg:Seg a (a+i) (swp g a (a+i)) h) (hp:Hp lt a 0 i h):HS lt a b i h:=by
 have hroot:∀ k,k<i+1->Le lt (g (a+k)) (g a):=λk hk=>Hp.root O hs.hp k k (zP _) hk
 have out:∀ q,a+i<=q->h q=swp g a (a+i) q:=λq hq=>hseg.out q (.inr hq)
 have oi:h (a+i)=g a:=by rw [out _ (zP _),zAB]
 have oq:∀ q,a+i<q->h q=g q:=λq hq=>by rw [out q (by omega),Yv g (by omega) (by omega)]
 refine ⟨hp,λp q h1 h2 h3=>?_,?_⟩
 ·rw [oq q (by omega)]
  by_cases hpi:p=a+i
  ·rw [hpi,oi];exact hs.le a q (zP _) (by omega) (by omega) h3
  ·rw [oq p (by omega)];exact hs.so p q (by omega) h2 h3
 ·intro k q hk hk' hq hq'
  refine Seg.all hseg (Q:=λz=>∀ q,a+i<=q->q<b->Le lt z (h q)) (λk hk hk' q hq hq'=>?_) k hk hk' q hq hq'
  have hz:∃ m,m<i+1/\swp g a (a+i) k=g (a+m):=by
   by_cases hka:k=a
   ·exact ⟨i,by omega,by rw [hka,zAH]⟩
   ·exact ⟨k - a,by omega,by rw [Yv g hka (by omega)];congr 1;omega⟩
  obtain ⟨m,hm,e⟩:=hz
  rw [e]
  by_cases hqi:q=a+i
  ·rw [hqi,oi];exact hroot m hm
  ·rw [oq q (by omega)];exact hs.le (a+m) q (by omega) (by omega) (by omega) hq'
end
end Go.VB.Srt
set_option linter.unusedVariables false
set_option linter.unusedSimpArgs false
namespace Go.VB
open Go.RowKit Go.VB.Srt
structure Yb {α:Type} (P:Program) (t e n:Nat) (c:α->List Value) (enc:α->Value):Prop where
 und:P.underlying t=some (.slice e)
 esz:∀ w,(sizeOf e).run P w=.ok n w
 load:∀ w a x,At w a (c x)->(zG e (.pointer (some a))).run P w=.ok (enc x) w
 cells:∀ x,(enc x).cells.toList=c x
 len:∀ x,(c x).length=n
 one:∀ x,(c x).all (·.oneCell')=true
 pos:0<n
theorem Zr {α:Type} {c:α->List Value} {n:Nat} (hc:∀ x,(c x).length=n) (x:α):∀ (xs:List α) (i:Nat),i<xs.length->(xs.set i x).flatMap c=(xs.flatMap c).take (i*n)++c x++(xs.flatMap c).drop (i*n+n)
 |[],i,h=>by simp at h
 |y::r,0,_=>by
  rw [List.set_cons_zero,List.flatMap_cons,List.flatMap_cons,Nat.zero_mul,List.take_zero,List.nil_append,Nat.zero_add,List.drop_append_of_le_length (by rw [hc];exact zP _),List.drop_of_length_le (by rw [hc];exact zP _),List.nil_append]
 |y::r,i+1,h=>by
  have ih:=Zr hc x r i (by simpa using h)
  rw [List.set_cons_succ,List.flatMap_cons,List.flatMap_cons,ih,List.take_append,List.drop_append,hc,List.take_of_length_le (l:=c y) (by rw [hc,Nat.add_mul];omega),List.drop_of_length_le (l:=c y) (by rw [hc,Nat.add_mul];omega),List.nil_append,
   show (i+1)*n - n=i*n by rw [Nat.add_mul];omega,show (i+1)*n+n - n=i*n+n by rw [Nat.add_mul];omega]
  simp [List.append_assoc]
section
variable {P:Program} {w:World} {α:Type} {c:α->List Value} {enc:α->Value} {n e t base:Nat} {s:Sl}
theorem OwnS.at {xs:List α} (hO:OwnS c n e base w s xs) (hpos:0<xs.length):∃ g cap cur,s=⟨some ⟨g,0,none⟩,xs.length,cap⟩/\w.heap[g]?=some (.cells cur e (0,0))/\xs.length<=cap/\cap<=maxLen/\cur.size=cap*n/\cur.toList.take (xs.length*n)=xs.flatMap c/\base<=g:=by
 obtain ⟨hl,hs,hr⟩:=hO
 obtain ⟨a,len,cap⟩:=s
 simp only at hl
 rcases hr.2 with ⟨h1,h2⟩|⟨g,cap',cur,h1,hb,hh,hcap,hm,hsz,htk⟩
 ·simp only at h2;omega
 ·injection h1 with h3 h4 h5
  subst h3;subst h5
  exact ⟨g,cap,cur,by rw [hl],hh,by simpa [hl] using hcap,hm,hsz,by rw [hl];exact htk,hb⟩
theorem zAP (E:Yb P t e n c enc) {xs:List α} (hO:OwnS c n e base w s xs) {i:Nat} (hi:i<xs.length) (x:α) {ad:Addr} (had:s.a=some ad):
  ∃ w',(zK e (.pointer (some (ad.add (i*n)))) (enc x)).run P w=.ok () w'/\OwnS c n e base w' s (xs.set i x)/\w.grownBy w' (Sl.v s).ownBlock:=by
 obtain ⟨g,cap,cur,rfl,hh,hcap,hm,hsz,htk,hb⟩:=hO.at (by omega)
 obtain rfl:(⟨g,0,none⟩:Addr)=ad:=Option.some.inj had
 have hrow:Row w g cur.toList e:=by unfold Row;simpa using hh
 have hin:i*n+n<=xs.length*n:=by
  have:(i+1)*n<=xs.length*n:=Nat.mul_le_mul_right _ (by omega)
  rw [Nat.add_mul] at this;omega
 have hC:xs.length*n<=cur.toList.length:=by
  have h0:cur.toList.length=cap*n:=by simpa using hsz
  rw [h0];exact Nat.mul_le_mul_right _ hcap
 have hst:=xz E.esz (off:=i*n) (v:=enc x) hrow (E.cells x) (E.len x) (by rw [E.len];omega) (E.one x)
 refine ⟨w.setRow g (cur.toList.take (i*n)++c x++cur.toList.drop (i*n+(c x).length)).toArray,?_,⟨by simp,hO.small,?_⟩,QY w g _⟩
 ·rw [add_plain']
  simpa [zK,Instr.sureAddr] using hst
 ·refine ⟨by rw [YR E.len,List.length_set],.inr ⟨g,cap,_,rfl,hb,Qu hh,hcap,hm,?_,?_⟩⟩
  ·simp only [List.size_toArray,List.length_append,List.length_take,List.length_drop,E.len]
   have h0:cur.toList.length=cap*n:=by simpa using hsz
   omega
  ·show ((cur.toList.take (i*n)++c x++cur.toList.drop (i*n+(c x).length))).take (xs.length*n)=_
   have hA:(cur.toList.take (i*n)++c x).length=i*n+n:=by rw [List.length_append,List.length_take,E.len];omega
   rw [Zr E.len x xs i hi,← htk,List.take_append,List.take_of_length_le (by rw [hA];omega),hA,E.len,List.take_take,Nat.min_eq_left (by omega),List.drop_take]
theorem Yb.agg {n:Nat} {α:Type} {c:α->List Value} (hA:Agg P e n) (hu:P.underlying t=some (.slice e)) (hc:∀ x,(c x).length=n) (h1:∀ x,(c x).all (·.oneCell')=true) (hn:0<n):Yb P t e n c (λx=>.agg (c x).toArray):=
 ⟨hu,hA.size,λw a x h=>QK hA h (hc x),λx=>by simp [Value.cells],hc,h1,hn⟩
theorem zCF {t:TypeId} {a b:Int} (hb:b≠0) (h0 : -9223372036854775808<=a.tdiv b) (h1:a.tdiv b<=9223372036854775807) {k:Int->World->Prop} (H:k (a.tdiv b) w):opE P (zH .i64) (binOp .quo t (.int .i64 a) (.int .i64 b)) w k:=by
 refine ⟨a.tdiv b,w,?_,H⟩
 rw [binOp_quo]
 simp [Op.intDiv,hb]
 exact wr64 h0 h1
end
end Go.VB
set_option linter.unusedVariables false
set_option linter.unusedSimpArgs false
namespace Go.Proofs.YtjlfegnhomgjhaaDoor.VG
open Go.VB Go.Proofs Go.RowKit
abbrev Sh:=zL
abbrev ShRd (w:World) (s:Sl) (l:List Sh):Prop:=Rd zL.cells 2 w s l
abbrev Yh (base:Nat) (w:World) (s:Sl) (l:List Sh):Prop:=OwnS zL.cells 2 ye base w s l
def shL (o st:Int):List Sh:=if st=0 then [] else [⟨o,st⟩]
structure OkH (o st:Int):Prop where
 lo:1<=o
 hi:o<=1024
 slo:0<=st
 shi:st<7
theorem ZN (o st:Int):(shL o st).length<=1:=by unfold shL;split<;>simp
theorem zAV {w:World} {x:Sl} {o st:Int} (h:ShRd w x (shL o st)) (hk:OkH o st) {k:Int->World->Prop} (H:∀ w',Bel w w'->k 0 w'):
  Cl zA ZD [Sl.v x].toArray w (λe w'=>∃ r0:Int,e=.returned (.int .i64 r0)/\k r0 w'):=by
 refine Y2 x w k ?_
 unfold Qc
 obtain ⟨k1,k2,k3,k4⟩:=hk
 have hlen:=h.len;have hl1:=ZN o st
 refine ⟨λp i W=>∃ n:Nat,i=(n:Int)/\n<=(shL o st).length/\(n=0->p=0)/\Bel w W,λ_ i _=>(x.len - i).toNat,⟨0,rfl,by omega,λ_=>rfl,Bel.refl _⟩,?_⟩
 rintro p i W ⟨n,rfl,hn,hp,hb⟩
 unfold xU
 refine ⟨λhc=>?_,λhc=>H W hb⟩
 obtain rfl:n=0:=by omega
 obtain rfl:=hp rfl
 have hst:st≠0:=λe=>by rw [e] at hlen;simp [shL] at hlen;omega
 have hL:shL o st=[⟨o,st⟩]:=by unfold shL;rw [if_neg hst]
 refine Yk (h.bel hb) yJ y2 (by omega) (x:=⟨o,st⟩) (by rw [hL];rfl) λad hA=>?_
 refine Yw xW ⟨o,st⟩ rfl hA rfl ?_
 refine zAt Yf rfl xW (cs:=(⟨o,st⟩:Sh).cells) rfl rfl rfl λC W1 b1 hC hC0=>?_
 refine yZ yX xN hC.at o rfl ⟨λe=>by omega,λ_=>?_⟩
 refine yZ yX xN hC.at o rfl ?_
 unfold xF
 refine ⟨λe=>by have:=of_decide_eq_true e;omega,λ_=>?_⟩
 refine yZ y1 xt hC.at st rfl ?_
 unfold xB
 refine ⟨λe=>absurd (of_decide_eq_true e) hst,λ_=>?_⟩
 refine yZ y1 xt hC.at st rfl ?_
 unfold xG
 refine ⟨λe=>by have:=of_decide_eq_true e;omega,λ_=>?_⟩
 refine yZ yX xN hC.at o rfl ?_
 rw [wr64 (by omega) (by omega)]
 exact ⟨⟨1,rfl,by rw [hL];simp,λe=>by omega,hb.trans b1⟩,by dsimp only;omega⟩
theorem zBI (w:World) (a:Int) {k:Int->World->Prop} (H:k 0 w):
  Cl zA YF [.int .i64 a,.int .i64 a].toArray w (λe w'=>∃ r0:Int,e=.returned (.int .i64 r0)/\k r0 w'):=by
 refine Q6 a a w k ?_
 unfold xq
 have nan:∀ {k:Bool->World->Prop},k false w->Cl zA Ya [.int .i64 a].toArray w (λe w'=>∃ r0:Bool,e=.returned (.bool r0)/\k r0 w'):=λ{k} h=>by
  refine YV a w k ?_
  unfold QD
  rw [decide_eq_false (λh=>h rfl)];exact h
 refine nan (nan ?_)
 exact ⟨λh=>(nomatch h),λ_=>⟨λh=>(nomatch h),λ_=>⟨λh=>by omega,λ_=>⟨λh=>by omega,λ_=>H⟩⟩⟩⟩
theorem zAO (w:World) (o st:Int) {k:Int->World->Prop} (H:∀ w',Bel w w'->k 0 w'):
  Cl zA QE [zL.v ⟨o,st⟩,.int .i64 o].toArray w (λe w'=>∃ r0:Int,e=.returned (.int .i64 r0)/\k r0 w'):=by
 refine Yq ⟨o,st⟩ o w k ?_
 unfold QH
 refine ZP (cs:=(⟨o,st⟩:Sh).cells) rfl λX w1 b1 hX _=>?_
 refine yZ yX xN hX.at o rfl ?_
 exact zBI w1 o (H w1 b1)
theorem Zp {w:World} {x:Sl} {o st:Int} (h:ShRd w x (shL o st)) {k:Int->Bool->World->Prop} (H:∀ w',Bel w w'->k 0 (decide (st≠0)) w'):
  Cl zA ZA [Sl.v x,.int .i64 o].toArray w (λe w'=>∃ (r0:Int) (r1:Bool),e=.returned (.tuple [.int .i64 r0,.bool r1].toArray)/\k r0 r1 w'):=by
 refine Y3 x o w k ?_
 unfold Qa
 refine yS x o _ w k ?_
 unfold zY
 have hlen:=h.len;have hl1:=ZN o st
 have hst:(shL o st).length=1->st≠0:=λe h0=>by rw [h0] at e;simp [shL] at e
 have hst0:(shL o st).length=0->st=0:=λe=>by
  by_cases h0:st=0
  ·exact h0
  ·unfold shL at e;rw [if_neg h0] at e;simp at e
 have call:∀ (W:World) (k:Int->World->Prop),(∀ w',Bel W w'->k 0 w')->zAE zA (.func (.func QE) #[] #[]) [zL.v ⟨o,st⟩,.int .i64 o] W (λe w'=>∃ r:Int,e=.returned (.int .i64 r)/\k r w'):=λW k hk=>
  .inl ⟨QE,[],[],rfl,zBj,zAO W o st hk⟩
 have idx:∀ {W:World} {kk:Sh->World->Prop},Bel w W->(shL o st).length=1->kk ⟨o,st⟩ W->opE zA zC (zN 24 (Sl.v x) (.int .i64 0)) W (λp w=>opE zA zL.v (zG 55 (.pointer p)) w kk):=λ{W kk} hb hl hk=>by
  have hL:shL o st=[⟨o,st⟩]:=by unfold shL;rw [if_neg (hst hl)]
  refine Yk (h.bel hb) yJ y2 (by omega) (x:=⟨o,st⟩) (by rw [hL];rfl) λad hA=>?_
  exact Yw xW ⟨o,st⟩ rfl hA rfl hk
 refine ⟨λa b W=>a=0/\(b=0∨b=1/\(shL o st).length=1)/\Bel w W,λ_ b _=>b.toNat,⟨rfl,by omega,Bel.refl _⟩,?_⟩
 rintro a b W ⟨rfl,hbb,hb⟩
 unfold zQ
 rcases hbb with rfl|⟨rfl,hl⟩
 ·refine ⟨λe=>by omega,λ_=>⟨λe=>?_,λe=>?_⟩⟩
  ·have hl:(shL o st).length=1:=by omega
   refine idx hb hl ?_
   refine call W _ λW2 b2=>?_
   unfold zM
   have:=H W2 (hb.trans b2)
   rw [decide_eq_true (hst hl)] at this
   rw [decide_eq_true rfl];exact this
  ·unfold zM
   have:=H W hb
   rw [decide_eq_false (λh=>h (hst0 (by omega)))] at this
   exact this
 ·refine ⟨λ_=>?_,λe=>by omega⟩
  refine ⟨(1:Int),W,by kernel_rfl,?_⟩
  refine ⟨(0:Int),W,by kernel_rfl,?_⟩
  refine ⟨(0:Int),W,by kernel_rfl,?_⟩
  refine idx hb hl ?_
  refine call W _ λW2 b2=>⟨λe=>by omega,λ_=>⟨⟨rfl,.inl rfl,hb.trans b2⟩,by show (0:Int).toNat<(1:Int).toNat;decide⟩⟩
theorem zBA {w:World} {x:Sl} {o st:Int} (h:ShRd w x (shL o st)) (hk:OkH o st) {k:Int->Int->World->Prop} (H:∀ w',Bel w w'->k st 0 w'):
  Cl zA Zw [Sl.v x,.int .i64 o].toArray w (λe w'=>∃ (r0 r1:Int),e=.returned (.tuple [.int .u8 r0,.int .i64 r1].toArray)/\k r0 r1 w'):=by
 refine Z0 x o w k ?_
 unfold Ye
 obtain ⟨k1,k2,k3,k4⟩:=hk
 refine zAV h ⟨k1,k2,k3,k4⟩ λw1 b1=>⟨λe=>absurd rfl e,λ_=>?_⟩
 unfold xr
 refine ⟨λe=>by have:=of_decide_eq_true e;omega,λ_=>?_⟩
 unfold xo
 refine ⟨λe=>by have:=of_decide_eq_true e;omega,λ_=>?_⟩
 refine Zp (h.bel b1) λw2 b2=>⟨λe=>?_,λe=>?_⟩
 ·have hst:=of_decide_eq_true e
  have hL:shL o st=[⟨o,st⟩]:=by unfold shL;rw [if_neg hst]
  refine Yk (h.bel (b1.trans b2)) yJ y2 (by omega) (x:=⟨o,st⟩) (by rw [hL];rfl) λad hA=>?_
  refine yZ y1 xt hA st rfl ?_
  exact H w2 (b1.trans b2)
 ·have hst:st=0:=Classical.not_not.1 (of_decide_eq_false e)
  have:=H w2 (b1.trans b2)
  rw [hst] at this;exact this
def tabL:List Int:=[0,0,0,0,0,0,0,1,0,0,0,0,0,0,0,2,0,0,0,0,0,0,0,3,0,0,0,0,0,4,0,0,0,0,0,0,0,5,5,0,0,0,0,0,0,0,0,6,0]
abbrev rowA (l:List Int):Array Value:=(l.map (zH .u8)).toArray
abbrev tabA:Array Value:=rowA [0,0,0,0,0,0,0,1,0,0,0,0,0,0,0,2,0,0,0,0,0,0,0,3,0,0,0,0,0,4,0,0,0,0,0,0,0,5,5,0,0,0,0,0,0,0,0,6,0]
def tabV (m st:Int):Int:=tabL.getD (m*7+st).toNat 0
theorem zAp (w:World) {k:Array Value->World->Prop} (H:∀ w',Bel w w'->k tabA w'):
  Cl zA Y8 [].toArray w (λe w'=>∃ r0:Array Value,e=.returned (.agg r0)/\k r0 w'):=by
 refine Y9 w k ?_
 unfold Qf
 refine zAG Ql λX w1 b1 hX hX0=>?_
 refine ⟨rowA [1,0,0,0,0,0,0],w1,by kernel_rfl,?_⟩
 refine ⟨rowA [0,2,0,0,0,0,0],w1,by kernel_rfl,?_⟩
 refine ⟨rowA [0,0,3,0,0,0,0],w1,by kernel_rfl,?_⟩
 refine ⟨rowA [0,4,0,0,0,0,0],w1,by kernel_rfl,?_⟩
 refine ⟨rowA [0,0,5,5,0,0,0],w1,by kernel_rfl,?_⟩
 refine ⟨rowA [0,0,0,0,0,6,0],w1,by kernel_rfl,?_⟩
 refine ⟨tabA,w1,by kernel_rfl,?_⟩
 refine zAA xu hX rfl rfl rfl λw2 hX2 g2=>?_
 exact R.agg xu tabA rfl hX2.at rfl (H w2 (b1.grown g2 λr hr=>by cases hr;exact hX0))
theorem zAz {m st:Int} (h1:1<=m) (h2:m<=6) (h3:0<=st) (h4:st<7):∃ row:Array Value,(∀ w,(Instr.index 72 (.agg tabA) (.int .u8 m)).run zA w=.ok (.agg row) w)/\∀ w,(Instr.index 71 (.agg row) (.int .u8 st)).run zA w=.ok (.int .u8 (tabV m st)) w:=by
 have hs:st=0∨st=1∨st=2∨st=3∨st=4∨st=5∨st=6:=by omega
 have hm:m=1∨m=2∨m=3∨m=4∨m=5∨m=6:=by omega
 rcases hm with rfl|rfl|rfl|rfl|rfl|rfl
 ·exact ⟨rowA [1,0,0,0,0,0,0],λw=>by kernel_rfl,by rcases hs with rfl|rfl|rfl|rfl|rfl|rfl|rfl<;>exact λw=>by kernel_rfl⟩
 ·exact ⟨rowA [0,2,0,0,0,0,0],λw=>by kernel_rfl,by rcases hs with rfl|rfl|rfl|rfl|rfl|rfl|rfl<;>exact λw=>by kernel_rfl⟩
 ·exact ⟨rowA [0,0,3,0,0,0,0],λw=>by kernel_rfl,by rcases hs with rfl|rfl|rfl|rfl|rfl|rfl|rfl<;>exact λw=>by kernel_rfl⟩
 ·exact ⟨rowA [0,4,0,0,0,0,0],λw=>by kernel_rfl,by rcases hs with rfl|rfl|rfl|rfl|rfl|rfl|rfl<;>exact λw=>by kernel_rfl⟩
 ·exact ⟨rowA [0,0,5,5,0,0,0],λw=>by kernel_rfl,by rcases hs with rfl|rfl|rfl|rfl|rfl|rfl|rfl<;>exact λw=>by kernel_rfl⟩
 ·exact ⟨rowA [0,0,0,0,0,6,0],λw=>by kernel_rfl,by rcases hs with rfl|rfl|rfl|rfl|rfl|rfl|rfl<;>exact λw=>by kernel_rfl⟩
theorem zAu (w:World) {m st:Int} (h1:1<=m) (h2:m<=6) (h3:0<=st) (h4:st<7) {k:Int->Int->World->Prop} (H:∀ w',Bel w w'->k (tabV m st) (if tabV m st=0 then 9 else 0) w'):
  Cl zA ZX [.int .u8 st,.int .u8 m].toArray w (λe w'=>∃ (r0 r1:Int),e=.returned (.tuple [.int .u8 r0,.int .i64 r1].toArray)/\k r0 r1 w'):=by
 refine Zb st m w k ?_
 unfold Qn
 refine ⟨λe=>by omega,λ_=>?_⟩
 refine Y5 m w _ ?_
 unfold Qb
 refine ⟨λ_=>?_,λe=>by omega⟩
 unfold xL
 rw [decide_eq_true (p:=m<7) (by omega)]
 unfold xO
 refine ⟨λe=>(nomatch e),λ_=>?_⟩
 refine zAp w λw1 b1=>?_
 obtain ⟨row,q1,q2⟩:=zAz h1 h2 h3 h4
 refine ⟨row,w1,q1 w1,tabV m st,w1,q2 w1,λe=>?_,λe=>?_⟩
 ·have:=H w1 b1
  rw [if_pos e,e] at this;exact this
 ·have:=H w1 b1
  rw [if_neg e] at this;exact this
def zAn (m:Int):Bool:=decide (m∈([1,2,5]:List Int))
theorem Zm (w:World) (m:Int) {k:Bool->World->Prop} (H:∀ w',Bel w w'->k (zAn m) w'):
  Cl zA ZQ [.int .u8 m].toArray w (λe w'=>∃ r0:Bool,e=.returned (.bool r0)/\k r0 w'):=by
 refine ZS m w k ?_
 unfold Qm
 have b1:=Bel.alloc w (.cells ([1,2,5].flatMap c8).toArray QA)
 have hO1:=OwnS.lit8 (e:=QA) (zP w.heap.size) [1,2,5] (by decide)
 refine ⟨_,w.alloc (.cells ([1,2,5].flatMap c8).toArray QA),(by kernel_rfl:_=Result.ok (Sl.v ⟨some ⟨w.heap.size,0,none⟩,3,3⟩) _),?_⟩
 have hR:Rd8 _ (⟨some ⟨w.heap.size,0,none⟩,3,3⟩:Sl) [1,2,5]:=hO1.rd λ_=>rfl
 exact ZT hR m (H _ b1)
end Go.Proofs.YtjlfegnhomgjhaaDoor.VG
set_option linter.unusedVariables false
set_option linter.unusedSimpArgs false
namespace Go.VB
open Go.RowKit
section
variable {P:Program} {w:World} {α:Type} {c:α->List Value} {enc:α->Value} {n e t base:Nat} {s:Sl}
theorem zAi (E:Yb P t e n c enc) {xs:List α} (hO:OwnS c n e base w s xs) {i:Nat} (hi:i<xs.length) (x:α) {k:World->Prop}
  (H:∀ w',OwnS c n e base w' s (xs.set i x)->w.grownBy w' (Sl.v s).ownBlock->k w'):
  opE P zC (zN t (Sl.v s) (.int .i64 (i:Int))) w (λp w=>opU P (zK e (.pointer p) (enc x)) w k):=by
 obtain ⟨y,hy⟩:∃ y,xs[i]?=some y:=⟨xs[i],by simp [hi]⟩
 obtain ⟨ad,had,-⟩:=(hO.rd E.len).cells i y hy
 have hl:=hO.len
 obtain ⟨w',hs,hO',hg⟩:=zAP E hO hi x had
 exact ⟨_,w,ZZ E.und E.esz had (by omega) (by omega),w',by simpa using hs,H w' hO' hg⟩
end
end Go.VB
namespace Go.Proofs.YtjlfegnhomgjhaaDoor.VG
open Go.VB Go.Proofs Go.RowKit
abbrev zBM:Yb zA YS ye 2 zL.cells zL.v:=Yb.agg xW yJ (λ_=>rfl) (λ_=>rfl) (by decide)
theorem zAR {w:World} {x0:Sl} {l:List Sh} (h:ShRd w x0 l) (hl:l.length<=1) {k:Sl->World->Prop} (H:∀ r w',Yh w.heap.size w' r l->Bel w w'->k r w'):
  Cl zA y6 [Sl.v x0].toArray w (λe w'=>∃ r0:Sl,e=.returned (Sl.v r0)/\k r0 w'):=by
 refine xI x0 w k ?_
 unfold z9
 obtain ⟨a,len,cap⟩:=x0
 cases a with
 |none=>
  have hcap:=h.nilc rfl;have h1:=h.cap;have h2:=h.len
  have hl0:l=[]:=List.eq_nil_of_length_eq_zero (by simp at hcap h1 h2;omega)
  refine ⟨true,w,by kernel_rfl,λ_=>?_,λh=>(nomatch h)⟩
  subst hl0
  exact H _ _ (OwnS.nil _ _ _ _ _) (Bel.refl _)
 |some a=>
  refine ⟨false,w,by kernel_rfl,λh=>(nomatch h),λ_=>?_⟩
  refine ⟨_,_,Q8 w,?_⟩
  exact zAb (w0:=w) (OwnS.lit0 (zP _)) (h.bel (Bel.alloc _ _)) (λ_=>rfl) (λ_=>rfl) (by decide) yJ QF rfl (by decide) (Bel.alloc _ _) (zP _) (by rw [size_alloc'];omega) (by simp;omega) λs' w' h1 h2 _=>H s' w' (by simpa using h1) h2
theorem Z7 {base:Nat} {w0 w:World} {x0 x2:Sl} {z:Sh} (h:Yh base w x0 []) (h2:ShRd w x2 [z]) (hB:Bel w0 w) (hb:w0.heap.size<=base) (hbw:base<=w.heap.size) {k:Sl->World->Prop} (H:∀ r w',Yh base w' r [z]->Bel w0 w'->k r w'):
  Cl zA y3 [Sl.v x0,.int .i64 0,Sl.v x2].toArray w (λe w'=>∃ r0:Sl,e=.returned (Sl.v r0)/\k r0 w'):=by
 refine yy x0 0 x2 w k ?_
 unfold z5
 have hl0:=h.len;have hl2:=h2.len
 simp only [List.length_nil,List.length_singleton] at hl0 hl2
 have hcut:=zAl (kl:=.i64) yJ y2 (w:=w) (s:=x0) (l:=0) (by omega)
 refine ⟨_,w,hcut,λe=>by omega,λ_=>⟨λ_=>?_,λe=>by omega⟩⟩
 exact zAb (w0:=w0) (ys:=[z]) h h2 (λ_=>rfl) (λ_=>rfl) (by decide) yJ QF rfl (by decide) hB hb hbw (by simp) λs' w' h3 h4 _=>H s' w' h3 h4
def errV (m st v:Int):Int:=if tabV m st=0 then 9 else if zAn m=true/\v=1 then 10 else 0
theorem zAm {w:World} {x:Sl} {o st m v:Int} (h:ShRd w x (shL o st)) (hk:OkH o st) (hm1:1<=m) (hm2:m<=6) (hv:v<2) {k:Sl->Int->World->Prop} (H:∀ r w',(errV m st v=0->Yh w.heap.size w' r [⟨o,tabV m st⟩])->Bel w w'->k r (errV m st v) w'):
  Cl zA ZV [Sl.v x,.int .i64 o,.int .u8 m,.int .u8 v].toArray w (λe w'=>∃ (r0:Sl) (r1:Int),e=.returned (.tuple [Sl.v r0,.int .i64 r1].toArray)/\k r0 r1 w'):=by
 refine ZY x o m v w k ?_
 unfold Qs
 refine zBA h hk λw1 b1=>⟨λ_=>?_,λe=>absurd rfl e⟩
 unfold xQ
 refine ⟨λe=>by have:=of_decide_eq_true e;omega,λ_=>?_⟩
 unfold xT
 refine ⟨λ_=>?_,λe=>absurd rfl e⟩
 refine zAu w1 hm1 hm2 hk.slo hk.shi λw2 b2=>?_
 have b02:=b1.trans b2
 have J4:∀ (base:Nat) (r:Sl) (z:Sh) (W:World),Yh base W r [z]->w.heap.size<=base->Bel w W->errV m st v=0->yj o k (tabV m st) 0 r W:=by
  intro base r z W hO hb hbW he
  unfold yj
  refine ⟨⟨o,tabV m st⟩,W,by kernel_rfl,?_⟩
  refine zAi (i:=0) zBM hO (by simp) (⟨o,tabV m st⟩:Sh) λW' hO' g=>?_
  have:=H r W' (λ_=>hO'.low hb) (hbW.grown g λq hq=>Nat.le_trans hb (hO.lo hq))
  rw [he] at this;exact this
 have J3:∀ (e:Int) (W:World),Bel w W->e=errV m st v->yw x o k (tabV m st) e W:=by
  intro e W hbW he
  subst he
  unfold yw
  refine ⟨λhne=>H Sl.none W (λh0=>absurd h0 hne) hbW,λh0=>?_⟩
  have h0:errV m st v=0:=Classical.not_not.1 h0
  refine zAR (h.bel hbW) (ZN o st) λr W3 hO3 b3=>?_
  have b03:=hbW.trans b3
  have sW:=hbW.le;have s3:=b3.le
  refine Zp (hO3.rd λ_=>rfl) λW4 b4=>⟨λe=>?_,λe=>?_⟩
  ·have hst:st=0:=by
    by_cases hs:st=0
    ·exact hs
    ·rw [decide_eq_true hs] at e;cases e
   have hL:shL o st=[]:=by unfold shL;rw [if_pos hst]
   rw [hL] at hO3
   refine ⟨⟨0,0⟩,W4,by kernel_rfl,?_⟩
   have b5:=Bel.alloc W4 (.cells (⟨0,0⟩:Sh).cells.toArray ye)
   have sz5:=size_alloc' W4 (.cells (⟨0,0⟩:Sh).cells.toArray ye)
   refine ⟨_,_,YC ⟨0,0⟩ W4,?_⟩
   have s4:=b4.le
   have hO5:Yh W4.heap.size (W4.alloc (.cells (⟨0,0⟩:Sh).cells.toArray ye)) ⟨some ⟨W4.heap.size,0,none⟩,1,1⟩ [⟨0,0⟩]:=
    ⟨rfl,by simp,by have:=World.ownsRow_lit (base:=W4.heap.size) (e:=ye) (size:=2) W4 (⟨0,0⟩:Sh).cells.toArray 1 (zP _) (by simp [maxLen]) (by simp);simpa using this⟩
   refine Z7 ((hO3.bel b4).bel b5) (hO5.rd λ_=>rfl) (b03.trans (b4.trans b5)) sW (by omega) λr2 W6 hO6 b6=>?_
   exact J4 _ r2 _ W6 hO6 sW b6 h0
  ·have hst:st≠0:=λhs=>by rw [decide_eq_false (λh=>h hs)] at e;cases e
   have hL:shL o st=[⟨o,st⟩]:=by unfold shL;rw [if_neg hst]
   rw [hL] at hO3
   exact J4 _ r _ W4 (hO3.bel b4) sW (b03.trans b4) h0
 unfold xS
 by_cases h0:tabV m st=0
 ·rw [if_pos h0]
  refine ⟨λe=>by omega,λ_=>?_⟩
  unfold yl
  refine ⟨λe=>(nomatch e),λ_=>?_⟩
  unfold yb
  exact ⟨λe=>(nomatch e),λ_=>J3 9 w2 b02 (by unfold errV;rw [if_pos h0])⟩
 ·rw [if_neg h0]
  refine ⟨λ_=>?_,λe=>absurd rfl e⟩
  refine Zm w2 m λw3 b3=>?_
  unfold yl
  refine ⟨λe=>?_,λe=>?_⟩
  ·unfold yb
   refine ⟨λe1=>J3 10 w3 (b02.trans b3) ?_,λe1=>J3 0 w3 (b02.trans b3) ?_⟩
   ·unfold errV;rw [if_neg h0,if_pos ⟨e,of_decide_eq_true e1⟩]
   ·unfold errV;rw [if_neg h0,if_neg λh=>of_decide_eq_false e1 h.2]
  ·unfold yb
   refine ⟨λe1=>(nomatch e1),λ_=>J3 0 w3 (b02.trans b3) ?_⟩
   unfold errV;rw [if_neg h0,if_neg λh=>by rw [e] at h;cases h.1]
end Go.Proofs.YtjlfegnhomgjhaaDoor.VG
set_option linter.unusedVariables false
set_option linter.unusedSimpArgs false
namespace Go.Proofs.YtjlfegnhomgjhaaDoor.VG
open Go.VB Go.Proofs Go.RowKit
abbrev Gs:=Int × Int × Bool × Int
def sg (o:Int) (g:Gs):Sg:=⟨o,g.1,g.2.1,g.2.2.1⟩
def Yl:List Gs:=[(1,0,false,0),(1,1,false,0),(1,2,false,0),(1,3,false,1),(1,4,false,1),(1,5,false,2),
 (1,4,true,1),(1,3,true,1),(1,2,true,0),(1,2,true,4),(1,1,true,0),(1,1,true,4),(1,0,true,0),(1,0,true,4),
 (3,0,false,2),(3,1,false,5),(3,2,false,6),(3,3,false,6),(3,0,true,2)]
def ZJ (g:Gs):Nat:=if g.1=3 then (if g.2.2.1=true then 1 else 4 - g.2.1.toNat) else if g.2.2.1=true then g.2.1.toNat+1 else 10 - g.2.1.toNat
def yg (g:Gs):Int:=(xk (sg 0 g)).1
def QP (g:Gs) (v:Int):Gs:=
 ((advV (sg 0 g) (decide (v=0))).Kind,(advV (sg 0 g) (decide (v=0))).At,(advV (sg 0 g) (decide (v=0))).Undoing,if v=0/\xy (yg g)≠0 then tabV (xy (yg g)) g.2.2.2 else g.2.2.2)
abbrev endG (g:Gs):Prop:=(g.1=3/\(g.2.2.2=6∨g.2.2.1=true/\g.2.2.2=2))∨(g.1=1/\g.2.2.1=true/\(g.2.2.2=0∨g.2.2.2=4))
abbrev zAM (g:Gs):Prop:=g.1=1/\g.2.2.1=false/\g.2.2.2=2
theorem zBz:∀ g∈Yl,(g.1=1∨g.1=3)/\0<=g.2.1/\g.2.1<=YT (sg 0 g)/\0<=g.2.2.2/\g.2.2.2<7/\ZJ g<=10:=by decide +kernel
theorem zBl:∀ g∈Yl,(xk (sg 0 g)).2=false->zAM g/\5<=ZJ g∨¬ zAM g/\endG g:=by decide +kernel
theorem zBt:∀ g∈Yl,(xk (sg 0 g)).2=true->QP g 0∈Yl/\ZJ (QP g 0)+1<=ZJ g:=by decide +kernel
theorem zBQ:∀ g∈Yl,(xk (sg 0 g)).2=true->xy (yg g)≠0->1<=xy (yg g)/\xy (yg g)<=6/\errV (xy (yg g)) g.2.2.2 0=0:=by decide +kernel
theorem zBg:∀ g∈Yl,(xk (sg 0 g)).2=true->Zt (yg g)=true->QP g 1∈Yl/\(xy (yg g)≠0->errV (xy (yg g)) g.2.2.2 1=0->zAn (xy (yg g))=false):=by decide +kernel
end Go.Proofs.YtjlfegnhomgjhaaDoor.VG
set_option linter.unusedVariables false
set_option linter.unusedSimpArgs false
namespace Go.Proofs.YtjlfegnhomgjhaaDoor.VG
open Go.VB Go.Proofs Go.RowKit
theorem zBJ (a b:Bool) {w:World} {o1 o2:Operand} {k:Bool->World->Prop} (H:k (decide (a≠b)) w):opE zA yO (do eqGuard .neq 4 o1 o2 (.bool a) (.bool b);binOp .neq 4 (.bool a) (.bool b)) w k:=
 ⟨decide (a≠b),w,by cases a<;>cases b<;>kernel_rfl,H⟩
structure CarI (w w0:World) (X:Nat) (o:Int) (n:Nat) (g:Gs) (x5:Sl) (W:World):Prop where
 good:g∈Yl
 room:n<=20∨n+ZJ g<=30
 row:Row W X (sg o g).cells xj
 own:Yh w0.heap.size W x5 (shL o g.2.2.2)
 bel:Bel w W
 sz:w0.heap.size<=W.heap.size
theorem Z3 {w:World} {o:Int} {x1:Sl} {vs:List Int} (h1:Rd8 w x1 vs)
  (hbeg:∀ (k:Bool->World->Prop),(∀ w',Bel w w'->k true w')->Cl zA QG [].toArray w (λe w'=>∃ r0:Bool,e=.returned (.bool r0)/\k r0 w')):
  Cl zA QS [.int .i64 o,Sl.v x1].toArray w (λe w'=>∃ r0:Bool,e=.returned (.bool r0)/\(r0=true/\Bel w w')):=by
 refine QT o x1 w (λb w'=>b=true/\Bel w w') ?_
 have hbig:=h1.big;have hcap:=h1.cap;have hlen:=h1.len
 unfold y4
 refine hbeg _ λw1 b1=>⟨λh=>(nomatch h),λ_=>?_⟩
 have triv:zk o x1 (λb w'=>b=true/\Bel w w') true w1:=by
  unfold zk
  exact ⟨λ_=>⟨rfl,b1⟩,λh=>(nomatch h)⟩
 refine ⟨λ_=>triv,λhlo=>?_⟩
 by_cases hhi:1024<o
 ·rw [decide_eq_true hhi];exact triv
 rw [decide_eq_false hhi]
 unfold zk
 refine ⟨λh=>(nomatch h),λ_=>?_⟩
 refine ⟨⟨o,1,0,false⟩,w1,by kernel_rfl,?_⟩
 refine zAt YH rfl yR (cs:=(sg o (1,0,false,0)).cells) rfl rfl rfl λX w0 b2 hX hX0=>?_
 have b02:=b1.trans b2
 have hXl:=hX.lt
 have s1:=b1.le;have s2:=b2.le
 refine ⟨λx5 i W=>∃ (n:Nat) (g:Gs),i=(n:Int)/\CarI w w0 X o n g x5 W,λ_ i _=>(60 - i).toNat,
  ⟨0,(1,0,false,0),rfl,by decide,.inl (by decide),hX,OwnS.nil _ _ _ _ _,b02,zP _⟩,?_⟩
 rintro x5 i W ⟨n,g,rfl,hg,hroom,hXW,hO,hbW,hsW⟩
 obtain ⟨f1,f2,f3,f4,f5,f6⟩:=zBz g hg
 have f7:=zBl g hg
 have f8:=zBt g hg
 have f9:=zBQ g hg
 have f10:=zBg g hg
 have hn30:n<=30:=by omega
 have hok:OkS (sg o g):=⟨f1,f2,f3⟩
 have hkh:OkH o g.2.2.2:=⟨by omega,by omega,f4,f5⟩
 unfold yL
 refine ⟨λ_=>?_,λh=>by omega⟩
 refine Yw yR (sg o g) rfl hXW.at rfl ?_
 refine zAC hok λW1 bW1=>⟨λe=>absurd rfl e,λ_=>?_⟩
 have hXW1:=hXW.bel bW1
 have hO1:=hO.bel bW1
 have hb1:=hbW.trans bW1
 have sW1:=bW1.le
 have J3:∀ (x5':Sl) (W':World) (g':Gs),CarI w w0 X o (n+1) g' x5' W'->z1 (n:Int) (λa b w'=>(∃ (n:Nat) (g:Gs),b=(n:Int)/\CarI w w0 X o n g a w')/\(60 - b).toNat<(60 - (n:Int)).toNat) x5' W':=by
  intro x5' W' g' hc
  unfold z1
  rw [wr64 (by omega) (by omega)]
  exact ⟨⟨n+1,g',by omega,hc⟩,by omega⟩
 refine ⟨λhf=>?_,λht=>?_⟩
 ·-- there is no next step
  have hf:(xk (sg 0 g)).2=false:=by
   have:(xk (sg o g)).2=(xk (sg 0 g)).2:=rfl
   rw [← this];simpa using hf
  have hend:=f7 hf
  refine zBA (OwnS.rd hO1 λ_=>rfl) hkh λW2 b2'=>⟨λe=>absurd rfl e,λ_=>?_⟩
  have hX2:=hXW1.bel b2'
  have hO2:=hO1.bel b2'
  have hb2:=hb1.trans b2'
  have R7:∀ c:Bool,c=true->zx (λb w'=>b=true/\Bel w w') c W2:=λc hc=>by
   unfold zx;exact ⟨hc,hb2⟩
  have R8:∀ c:Bool,c=true->(g.2.2.2=0∨g.2.2.2=4)->zw (λb w'=>b=true/\Bel w w') g.2.2.2 c W2:=λc hc hs=>by
   subst hc
   unfold zw
   refine ⟨λ_=>⟨λ_=>?_,λh0=>?_⟩,λh=>(nomatch h)⟩
   ·unfold zs zv;exact R7 true rfl
   ·unfold zs zv;exact R7 _ (decide_eq_true (hs.resolve_left h0))
  have R6:∀ c:Bool,(c=false->g.1=1/\g.2.2.1=true/\(g.2.2.2=0∨g.2.2.2=4))->zz (λb w'=>b=true/\Bel w w') (ptT X) g.2.2.2 c W2:=λc hc=>by
   unfold zz
   refine ⟨λ_=>R7 true rfl,λh0=>?_⟩
   obtain ⟨q1,q2,q3⟩:=hc h0
   refine yZ yM yQ hX2.at g.1 rfl ⟨λ_=>?_,λh=>absurd q1 h⟩
   refine yZ zX xR hX2.at g.2.2.1 rfl ?_
   exact R8 _ q2 q3
  have R5:∀ c:Bool,(c=true↔zAM g)->z0 o (λb w'=>b=true/\Bel w w') (ptT X) x5 (n:Int) (λa b w'=>(∃ (n:Nat) (g:Gs),b=(n:Int)/\CarI w w0 X o n g a w')/\(60 - b).toNat<(60 - (n:Int)).toNat) g.2.2.2 c W2:=by
   intro c hc
   unfold z0
   refine ⟨λe=>?_,λe=>?_⟩
   ·have htg:=hc.1 e
    have h5:=(hend.resolve_right λh=>h.1 htg).2
    refine ⟨⟨o,3,0,false⟩,W2,by kernel_rfl,?_⟩
    refine zAA yR hX2 rfl (cs':=(sg o (3,0,false,2)).cells) rfl rfl λW3 hX3 g3=>?_
    have hz:=g3.size
    have:=b2'.le
    refine J3 x5 W3 (3,0,false,2) ⟨by decide,?_,hX3,?_,hb2.grown g3 λr hr=>by cases hr;omega,by omega⟩
    ·have:ZJ (3,0,false,2)=4:=rfl
     omega
    ·have:=hO2.kept g3 (by
      cases hq:(Sl.v x5).ownBlock with
      |none=>exact .inl rfl
      |some q=>refine .inr λe=>?_;cases e;have:=hO2.lo hq;omega)
     rw [htg.2.2] at this;exact this
   ·have hnt:¬ zAM g:=λh=>by rw [hc.2 h] at e;cases e
    have he:=(hend.resolve_left λh=>hnt h.1).2
    refine yZ yM yQ hX2.at g.1 rfl ⟨λk3=>?_,λk3=>?_⟩
    ·have he3:=he.resolve_right λh=>by have:=h.1;omega
     refine ⟨λ_=>?_,λh6=>?_⟩
     ·unfold zr;exact R6 true λh=>nomatch h
     ·have hu:=he3.2.resolve_left h6
      refine yZ zX xR hX2.at g.2.2.1 rfl ⟨λ_=>?_,λh=>by rw [hu.1] at h;cases h⟩
      unfold yC zr
      rw [decide_eq_true hu.2];exact R6 true λh=>nomatch h
    ·exact R6 false λ_=>he.resolve_left λh=>k3 h.1
  refine yZ yM yQ hX2.at g.1 rfl ⟨λk1=>?_,λk1=>?_⟩
  ·refine yZ zX xR hX2.at g.2.2.1 rfl ?_
   unfold zy
   refine ⟨λe=>R5 _ ⟨λh=>⟨k1,by simpa using e,of_decide_eq_true h⟩,λh=>decide_eq_true h.2.2⟩,λe=>R5 false ⟨λh=>(nomatch h),λh=>by rw [h.2.1] at e;cases e⟩⟩
  ·unfold zy
   exact ⟨λe=>(nomatch e),λ_=>R5 false ⟨λh=>(nomatch h),λh=>absurd h.1 k1⟩⟩
 ·-- the next step
  have ht:(xk (sg 0 g)).2=true:=by
   have:(xk (sg o g)).2=(xk (sg 0 g)).2:=rfl
   rw [← this];simpa using ht
  have hto:(xk (sg o g)).2=true:=ht
  replace f8:=f8 ht;replace f9:=f9 ht;replace f10:=f10 ht
  have hstep:(xk (sg o g)).1=yg g:=rfl
  rw [hstep]
  have J14:∀ (v:Int) (x5':Sl) (W2:World),(v=0∨v=1/\Zt (yg g)=true/\n<20)->Bel W1 W2->Yh w0.heap.size W2 x5' (shL o (QP g v).2.2.2)->zf (λb w'=>b=true/\Bel w w') (ptT X) (n:Int) (λa b w'=>(∃ (n:Nat) (g:Gs),b=(n:Int)/\CarI w w0 X o n g a w')/\(60 - b).toNat<(60 - (n:Int)).toNat) v x5' W2:=by
   intro v x5' W2 hv hb2 hO2
   unfold zf
   refine Yw yR (sg o g) rfl (hXW1.bel hb2).at rfl ?_
   refine Zy hok hto _ λW3 b3=>?_
   have hX3:=(hXW1.bel hb2).bel b3
   have hs2:=hb2.le;have hs3:=b3.le
   refine zAA yR hX3 rfl (cs':=(advV (sg o g) (decide (v=0))).cells) rfl rfl λW4 hX4 g4=>?_
   refine ⟨λe=>absurd rfl e,λ_=>?_⟩
   have hz:=g4.size
   have hsg:advV (sg o g) (decide (v=0))=sg o (QP g v):=by
    unfold QP sg advV
    split
    ·split<;>rfl
    ·rfl
   rw [hsg] at hX4
   refine J3 x5' W4 (QP g v) ⟨?_,?_,hX4,?_,((hb1.trans hb2).trans b3).grown g4 λr hr=>by cases hr;omega,by omega⟩
   ·rcases hv with rfl|⟨rfl,h,_⟩
    ·exact f8.1
    ·exact (f10 h).1
   ·rcases hv with rfl|⟨rfl,h,h20⟩
    ·have:=f8.2;omega
    ·omega
   ·exact (hO2.bel b3).kept g4 (by
     cases hq:(Sl.v x5').ownBlock with
     |none=>exact .inl rfl
     |some q=>refine .inr λe=>?_;cases e;have:=hO2.lo hq;omega)
  have J13:∀ (v:Int) (W2:World),(v=0∨v=1/\Zt (yg g)=true/\n<20)->Bel W1 W2->zm o (λb w'=>b=true/\Bel w w') (ptT X) x5 (n:Int) (λa b w'=>(∃ (n:Nat) (g:Gs),b=(n:Int)/\CarI w w0 X o n g a w')/\(60 - b).toNat<(60 - (n:Int)).toNat) (yg g) v W2:=by
   intro v W2 hv hb2
   unfold zm
   have hO2:=hO1.bel hb2
   refine zA3 W2 _ ⟨λhm=>?_,λhm=>?_⟩
   ·obtain ⟨m1,m2,m3⟩:=f9 hm
    refine zAm (OwnS.rd hO2 λ_=>rfl) hkh m1 m2 (by omega) λr W3 hr b3=>?_
    have hb3:=hb2.trans b3
    refine zBJ _ _ ?_
    have R15:∀ W4,Bel W3 W4->zq (λb w'=>b=true/\Bel w w') (ptT X) x5 (n:Int) (λa b w'=>(∃ (n:Nat) (g:Gs),b=(n:Int)/\CarI w w0 X o n g a w')/\(60 - b).toNat<(60 - (n:Int)).toNat) v r false W4:=by
     intro W4 b4
     unfold zq
     refine ⟨λe=>(nomatch e),λ_=>⟨λh0=>?_,λh0=>?_⟩⟩
     ·subst h0
      refine J14 0 r W4 hv (hb3.trans b4) ?_
      have h5:=((hr m3).bel b4).low (by have:=hb2.le;omega:w0.heap.size<=W2.heap.size)
      have hne:tabV (xy (yg g)) g.2.2.2≠0:=λe=>by unfold errV at m3;rw [if_pos e] at m3;exact absurd m3 (by decide)
      have hL:shL o (QP g 0).2.2.2=[⟨o,tabV (xy (yg g)) g.2.2.2⟩]:=by
       have:(QP g 0).2.2.2=tabV (xy (yg g)) g.2.2.2:=by unfold QP;dsimp only;rw [if_pos ⟨rfl,hm⟩]
       rw [this];unfold shL;rw [if_neg hne]
      rw [hL];exact h5
     ·refine J14 v x5 W4 hv (hb3.trans b4) ?_
      have:(QP g v).2.2.2=g.2.2.2:=by unfold QP;dsimp only;rw [if_neg λh=>h0 h.1]
      rw [this];exact (hO2.bel b3).bel b4
    refine ⟨λhne=>?_,λ_=>R15 W3 (Bel.refl _)⟩
    have hne:=of_decide_eq_true hne
    rcases hv with rfl|⟨rfl,hask,h20⟩
    ·rw [m3] at hne;exact absurd rfl hne
    ·have he:errV (xy (yg g)) g.2.2.2 1=0:=by
      by_cases h0:errV (xy (yg g)) g.2.2.2 1=0
      ·exact h0
      ·rw [decide_eq_false h0] at hne;exact absurd rfl hne
     have hmk:=(f10 hask).2 hm he
     refine Zm W3 _ λW4 b4=>?_
     rw [hmk]
     refine ⟨λe=>(nomatch e),λ_=>?_⟩
     unfold yA
     rw [he,decide_eq_false (λh=>h rfl)]
     exact R15 W4 b4
   ·have hm:xy (yg g)=0:=Classical.not_not.1 hm
    refine J14 v x5 W2 hv hb2 ?_
    have:(QP g v).2.2.2=g.2.2.2:=by unfold QP;dsimp only;rw [if_neg λh=>h.2 hm]
    rw [this];exact hO2
  have R18:∀ c:Bool,(c=true->n<20)->zo o (λb w'=>b=true/\Bel w w') (ptT X) x5 (n:Int) (λa b w'=>(∃ (n:Nat) (g:Gs),b=(n:Int)/\CarI w w0 X o n g a w')/\(60 - b).toNat<(60 - (n:Int)).toNat) (yg g) c W1:=by
   intro c hc
   unfold zo
   refine ⟨λe=>?_,λe=>?_⟩
   ·refine zA6 W1 _ λW2 b2'=>?_
    unfold zp
    exact ⟨λe1=>J13 1 W2 (.inr ⟨rfl,e1,hc e⟩) b2',λ_=>J13 0 W2 (.inl rfl) b2'⟩
   ·unfold zp
    exact ⟨λe1=>(nomatch e1),λ_=>J13 0 W1 (.inl rfl) (Bel.refl _)⟩
  refine ⟨λhlt=>?_,λ_=>?_⟩
  ·unfold zn
   refine ⟨λe=>?_,λ_=>R18 false λh=>(nomatch h)⟩
   have h20:=of_decide_eq_true e
   obtain ⟨v,hv⟩:=getT (l:=vs) (n:=n) (by omega)
   refine Yk (h1.bel hb1) YK YQ (by omega) (x:=v) (by simpa using hv) λad hA=>?_
   refine ZM Yo v (by have:=hA 0 (.int .u8 v) rfl;simpa [Addr.add] using this) ?_
   exact R18 _ λ_=>by omega
  ·unfold zn
   exact ⟨λe=>(nomatch e),λ_=>R18 false λh=>(nomatch h)⟩
end Go.Proofs.YtjlfegnhomgjhaaDoor.VG
set_option linter.unusedVariables false
namespace Go.VB.Srt
section
variable {α:Type} {lt:α->α->Bool}
structure Pt (Q:α->α->Bool) (a b i j:Nat) (g:Nat->α):Prop where
 lo:∀ k,a<k->k<i->Q (g a) (g k)=true
 hi:∀ k,j<k->k<b->Q (g a) (g k)=false
theorem Pt.start (Q:α->α->Bool) (a b:Nat) (g:Nat->α):Pt Q a b (a+1) (b - 1) g:=⟨λk h1 h2=>by omega,λk h1 h2=>by omega⟩
structure Q9 (lt:α->α->Bool) (a b m:Nat) (h:Nat->α):Prop where
 lo:∀ k,a<=k->k<m->Le lt (h k) (h m)
 hi:∀ k,m<k->k<b->Le lt (h m) (h k)
theorem Pt.done (O:SWO lt) {a b i j:Nat} {g:Nat->α} (h:Pt (λp z=>lt z p) a b i j g) (haj:a<=j) (hji:j<i):Q9 lt a b j (swp g j a):=by
 have em:swp g j a j=g a:=zAH g j a
 refine ⟨λk h1 h2=>?_,λk h1 h2=>?_⟩
 ·rw [em]
  by_cases hk:k=a
  ·rw [hk,zAB];exact O.of_lt (h.lo j (by omega) hji)
  ·rw [Yv g (by omega) hk];exact O.of_lt (h.lo k (by omega) (by omega))
 ·rw [em,Yv g (by omega) (by omega)];exact h.hi k h1 h2
theorem Q9.left {a b m:Nat} {g h:Nat->α} (p:Q9 lt a b m g) (s:Seg a m g h):Q9 lt a b m h:=by
 have e:h m=g m:=s.out m (.inr (zP _))
 refine ⟨λk h1 h2=>?_,λk h1 h2=>?_⟩
 ·rw [e];exact s.all (Q:=λz=>Le lt z (g m)) p.lo k h1 h2
 ·rw [e,s.out k (.inr (by omega))];exact p.hi k h1 h2
theorem Q9.right {a b m:Nat} {g h:Nat->α} (p:Q9 lt a b m g) (s:Seg (m+1) b g h):Q9 lt a b m h:=by
 have e:h m=g m:=s.out m (.inl (Nat.lt_succ_self _))
 refine ⟨λk h1 h2=>?_,λk h1 h2=>?_⟩
 ·rw [e,s.out k (.inl (by omega))];exact p.lo k h1 h2
 ·rw [e];exact s.all (Q:=λz=>Le lt (g m) z) (λk h1 h2=>p.hi k (by omega) h2) k (by omega) h2
structure Inv (lt:α->α->Bool) (a b a1 b1:Nat) (f g:Nat->α):Prop where
 ha:a<=a1
 hb:b1<=b
 seg:Seg a b f g
 s1:QC lt a a1 g
 s2:QC lt b1 b g
 l1:∀ k q,a<=k->k<a1->a1<=q->q<b->Le lt (g k) (g q)
 l2:∀ k q,a<=k->k<b1->b1<=q->q<b->Le lt (g k) (g q)
def Pre (lt:α->α->Bool) (a b:Nat) (f:Nat->α):Prop:=a=0∨∀ k,a<=k->k<b->Le lt (f (a - 1)) (f k)
theorem Pre.seg {a b:Nat} {f g:Nat->α} (h:Pre lt a b f) (s:Seg a b f g):Pre lt a b g:=by
 rcases h with h|h
 ·exact .inl h
 ·by_cases h0:a=0
  ·exact .inl h0
  ·refine .inr ?_
   rw [s.out (a - 1) (.inl (by omega))]
   exact s.all (Q:=λz=>Le lt (f (a - 1)) z) h
theorem Inv.start (a b:Nat) (f:Nat->α):Inv lt a b a b f f:=⟨zP _,zP _,.refl f,λi j h1 h2 h3=>by omega,λi j h1 h2 h3=>by omega,λk q h1 h2=>by omega,λk q h1 h2 h3 h4=>by omega⟩
theorem Inv.turn {a b a1 b1:Nat} {f g h:Nat->α} (p:Inv lt a b a1 b1 f g) (s:Seg a1 b1 g h):Inv lt a b a1 b1 f h:=by
 have hA:=p.ha;have hB:=p.hb
 refine ⟨hA,hB,p.seg.trans (s.mono hA hB),p.s1.congr λk h1 h2=>s.out k (.inl h2),p.s2.congr λk h1 h2=>s.out k (.inr h1),λk q h1 h2 h3 h4=>?_,λk q h1 h2 h3 h4=>?_⟩
 ·rw [s.out k (.inl h2)]
  rcases Nat.lt_or_ge q b1 with h5|h5
  ·exact s.all (Q:=λz=>Le lt (g k) z) (λq h6 h7=>p.l1 k q h1 h2 h6 (by omega)) q h3 h5
  ·rw [s.out q (.inr h5)];exact p.l1 k q h1 h2 h3 h4
 ·rw [s.out q (.inr h3)]
  rcases Nat.lt_or_ge k a1 with h5|h5
  ·rw [s.out k (.inl h5)];exact p.l2 k q h1 h2 h3 h4
  ·exact s.all (Q:=λz=>Le lt z (g q)) (λk h6 h7=>p.l2 k q (by omega) h7 h3 h4) k h5 h2
theorem Inv.fin {a b a1 b1:Nat} {f g:Nat->α} (p:Inv lt a b a1 b1 f g) (s:QC lt a1 b1 g):QC lt a b g:=λi j h1 h2 h3=>by
 rcases Nat.lt_or_ge i a1 with h4|h4
 ·rcases Nat.lt_or_ge j a1 with h5|h5
  ·exact p.s1 i j h1 h2 h5
  ·exact p.l1 i j h1 h4 h5 h3
 ·rcases Nat.lt_or_ge j b1 with h5|h5
  ·exact s i j h4 h2 h5
  ·rcases Nat.lt_or_ge i b1 with h6|h6
   ·exact p.l2 i j h1 h6 h5 h3
   ·exact p.s2 i j h6 h2 h3
theorem Inv.pre {a b a1 b1:Nat} {f g:Nat->α} (p:Inv lt a b a1 b1 f g) (h:Pre lt a b f):Pre lt a1 b1 g:=by
 have hA:=p.ha;have hB:=p.hb
 by_cases h0:a1=a
 ·subst h0
  rcases h.seg p.seg with h1|h1
  ·exact .inl h1
  ·exact .inr λk h2 h3=>h1 k h2 (by omega)
 ·exact .inr λk h2 h3=>p.l1 (a1 - 1) k (by omega) (by omega) h2 (by omega)
end
end Go.VB.Srt
set_option linter.unusedVariables false
set_option linter.unusedSimpArgs false
namespace Go.Proofs.YtjlfegnhomgjhaaDoor.VG
open Go.VB Go.Proofs
def y9 (Ret:Int->World->Prop) (x0_3:Int) (x2_2:Int) (w:World):Prop:=
 opE zA (zH .u8) (Go.convert 62 5 (.int .u64 x0_3)) w (λx21 w=>opE zA (zH .u8) (Instr.index 9 (.string (ByteArray.mk #[0,1,2,2,3,3,3,3,4,4,4,4,4,4,4,4,5,5,5,5,5,5,5,5,5,5,5,5,5,5,5,5,6,6,6,6,6,6,6,6,6,6,6,6,6,6,6,6,6,6,6,6,6,6,6,6,6,6,6,6,6,6,6,6,7,7,7,7,7,7,7,7,7,7,7,7,7,7,7,7,7,7,7,7,7,7,7,7,7,7,7,7,7,7,7,7,7,7,7,7,7,7,7,7,7,7,7,7,7,7,7,7,7,7,7,7,7,7,7,7,7,7,7,7,7,7,7,7,8,8,8,8,8,8,8,8,8,8,8,8,8,8,8,8,8,8,8,8,8,8,8,8,8,8,8,8,8,8,8,8,8,8,8,8,8,8,8,8,8,8,8,8,8,8,8,8,8,8,8,8,8,8,8,8,8,8,8,8,8,8,8,8,8,8,8,8,8,8,8,8,8,8,8,8,8,8,8,8,8,8,8,8,8,8,8,8,8,8,8,8,8,8,8,8,8,8,8,8,8,8,8,8,8,8,8,8,8,8,8,8,8,8,8,8,8,8,8,8,8,8,8,8,8,8,8,8])) (.int .u8 x21)) w (λx22 w=>opE zA (zH .i64) (Go.convert 5 3 (.int .u8 x22)) w (λx23 w=>Ret (zF .i64 (x2_2+x23)) w)))
def y7 (Ret:Int->World->Prop) (x0_2:Int) (x2_1:Int) (w:World):Prop:=
 ((256<=x0_2)->(opE zA (zH .u64) (binOp .shr 62 (.int .u64 x0_2) (.int .u64 8)) w (λx16 w=>y9 Ret x16 (zF .i64 (x2_1+8)) w)))/\(¬ (256<=x0_2)->(y9 Ret x0_2 x2_1 w))
def xH (Ret:Int->World->Prop) (x0_1:Int) (x2:Int) (w:World):Prop:=
 ((65536<=x0_1)->(opE zA (zH .u64) (binOp .shr 62 (.int .u64 x0_1) (.int .u64 16)) w (λx10 w=>y7 Ret x10 (zF .i64 (x2+16)) w)))/\(¬ (65536<=x0_1)->(y7 Ret x0_1 x2 w))
def QZ (x0:Int) (w:World) (Ret:Int->World->Prop):Prop:=
 ((4294967296<=x0)->(opE zA (zH .u64) (binOp .shr 62 (.int .u64 x0) (.int .u64 32)) w (λx6 w=>xH Ret x6 32 w)))/\(¬ (4294967296<=x0)->(xH Ret x0 0 w))
set_option maxRecDepth 100000 in
theorem ZE (x0:Int) (w:World) (Ret:Int->World->Prop) (H:QZ x0 w Ret):Cl zA 44 [(.int .u64 x0)].toArray w (λe w'=>∃ (r0:Int),e=.returned (.int .i64 r0)/\Ret r0 w'):=by
 unfold QZ at H
 refine ze 25 (zipE 0 [(.int .u64 x0)]) Tryd.func44 rfl rfl (by rfl) rfl ?_
 intro a g
 have g:Sat [] 25 [(0,(.int .u64 x0))] a:=g
 refine zD (zB (g.s rfl λ_ g=>zE (tn (xp (ds:=[]) (N:=25) (σ:=Int × Int) (λs=>[(0,(.int .u64 s.1)),(2,(.int .i64 s.2))]) (λs w=>xH Ret s.1 s.2 w) ?_ (λhj1=>?_)))))
 ·rintro ⟨x0_1,x2⟩ w a H g
  try dsimp only at H g
  unfold xH at H
  refine xp (ds:=[]) (N:=25) (σ:=Int × Int) (λs=>[(0,(.int .u64 s.1)),(2,(.int .i64 s.2))]) (λs w=>y7 Ret s.1 s.2 w) ?_ (λhj2=>?_)
  ·rintro ⟨x0_2,x2_1⟩ w a H g
   try dsimp only at H g
   unfold y7 at H
   refine xp (ds:=[]) (N:=25) (σ:=Int × Int) (λs=>[(0,(.int .u64 s.1)),(2,(.int .i64 s.2))]) (λs w=>y9 Ret s.1 s.2 w) ?_ (λhj3=>?_)
   ·rintro ⟨x0_3,x2_2⟩ w a H g
    try dsimp only at H g
    unfold y9 at H
    exact zD (zB (g.m rfl λ_ g=>g.m rfl λ_ g=>g.o (yn g rfl) H λx21 w a H g=>g.o (yf g rfl rfl) H λx22 w a H g=>g.o (yn g rfl) H λx23 w a H g=>g.p (xY g rfl rfl) λ_ g=>g.s rfl λ_ g=>zE (tn (zV (zU g rfl rfl ⟨_,rfl,H⟩)))))
   ·refine zD (zB (g.m rfl λ_ g=>g.p (Qk g rfl rfl) λ_ g=>zE (tn (zc g rfl (λhc=>?_) (λhc=>?_)))))
    ·have H:=H.1 hc
     exact zD (zB (g.m rfl λ_ g=>g.o (yY g rfl rfl) H λx16 w a H g=>g.s rfl λ_ g=>zE (tn (zB (g.m rfl λ_ g=>g.p (xY g rfl rfl) λ_ g=>g.s rfl λ_ g=>zE (tn (hj3 (x16,(zF .i64 (x2_1+8))) _ _ H (g.k))))))))
    ·have H:=H.2 hc
     exact zW (tn (hj3 (x0_2,x2_1) _ _ H (g.k)))
  ·refine zD (zB (g.m rfl λ_ g=>g.p (Qk g rfl rfl) λ_ g=>zE (tn (zc g rfl (λhc=>?_) (λhc=>?_)))))
   ·have H:=H.1 hc
    exact zD (zB (g.m rfl λ_ g=>g.o (yY g rfl rfl) H λx10 w a H g=>g.s rfl λ_ g=>zE (tn (zB (g.m rfl λ_ g=>g.p (xY g rfl rfl) λ_ g=>g.s rfl λ_ g=>zE (tn (hj2 (x10,(zF .i64 (x2+16))) _ _ H (g.k))))))))
   ·have H:=H.2 hc
    exact zW (tn (hj2 (x0_1,x2) _ _ H (g.k)))
 ·refine zD (zB (g.m rfl λ_ g=>g.p (Qk g rfl rfl) λ_ g=>zE (tn (zc g rfl (λhc=>?_) (λhc=>?_)))))
  ·have H:=H.1 hc
   exact zD (zB (g.m rfl λ_ g=>g.o (yY g rfl rfl) H λx6 w a H g=>g.s rfl λ_ g=>zE (tn (zB (g.s rfl λ_ g=>zE (tn (hj1 (x6,32) _ _ H (g.k))))))))
  ·have H:=H.2 hc
   exact zW (tn (hj1 (x0,0) _ _ H (g.k)))
end Go.Proofs.YtjlfegnhomgjhaaDoor.VG
set_option linter.unusedVariables false
set_option linter.unusedSimpArgs false
namespace Go.Proofs.YtjlfegnhomgjhaaDoor.VG
open Go.VB Go.Proofs
def xh (w:World) (Ret:Bool->World->Prop):Prop:=
 Cl zA 12 [(.int .i64 (-5))].toArray w (λe w=>∃ (r:ByteArray),e=.returned (.string r)/\(Ret (decide (r=(ByteArray.mk #[45,48,46,48,53]))) w))
set_option maxRecDepth 100000 in
theorem Qz (w:World) (Ret:Bool->World->Prop) (H:xh w Ret):Cl zA 4 [].toArray w (λe w'=>∃ (r0:Bool),e=.returned (.bool r0)/\Ret r0 w'):=by
 unfold xh at H
 refine ze 3 (zipE 0 []) Tryd.func4 rfl rfl (by rfl) rfl ?_
 intro a g
 have g:Sat [] 3 [] a:=g
 refine zD (zB (g.s rfl λ_ g=>(zE (tn (zD (zB (g.c (zT g zB0 rfl rfl) H λe w H=>?_)))))))
 obtain ⟨r,rfl,H⟩:=H
 exact ⟨_,rfl,λ_ g=>(g.p (zBk g rfl rfl) λ_ g=>(g.s rfl λ_ g=>(zE (tn (zV (zU g rfl rfl ⟨_,rfl,H⟩))))))⟩
def Qg (x0:Int) (w:World) (Ret:ByteArray->World->Prop):Prop:=
 Cl zA 24 [(.int .i64 x0)].toArray w (λe w=>∃ (r:Int),e=.returned (.int .u64 r)/\(opE zA (zH .u64) (binOp .rem 62 (.int .u64 r) (.int .u64 100)) w (λx9 w=>Cl zA 25 [(.int .u64 (zF .u64 (x9+100))),(.int .i64 10)].toArray w (λe w=>∃ (r_1:ByteArray),e=.returned (.string r_1)/\(opE zA Value.string (Instr.sliceAt 9 (.string r_1) (some (.int .i64 1)) none none) w (λx12 w=>opE zA (zH .u64) (binOp .quo 62 (.int .u64 r) (.int .u64 100)) w (λx14 w=>Cl zA 25 [(.int .u64 x14),(.int .i64 10)].toArray w (λe w=>∃ (r_2:ByteArray),e=.returned (.string r_2)/\(opE zA Value.string (binOp .add 9 (.string r_2) (.string (ByteArray.mk #[46]))) w (λx16 w=>opE zA Value.string (binOp .add 9 (.string x16) (.string x12)) w (λx18 w=>((x0<0)->(opE zA Value.string (binOp .add 9 (.string (ByteArray.mk #[45])) (.string x18)) w (λx22 w=>Ret x22 w)))/\(¬ (x0<0)->(Ret x18 w)))))))))))))
set_option maxRecDepth 100000 in
theorem ZG (x0:Int) (w:World) (Ret:ByteArray->World->Prop) (H:Qg x0 w Ret):Cl zA 12 [(.int .i64 x0)].toArray w (λe w'=>∃ (r0:ByteArray),e=.returned (.string r0)/\Ret r0 w'):=by
 unfold Qg at H
 refine ze 24 (zipE 0 [(.int .i64 x0)]) Tryd.func12 rfl rfl (by rfl) rfl ?_
 intro a g
 have g:Sat [] 24 [(0,(.int .i64 x0))] a:=g
 refine zD (zB (g.s rfl λ_ g=>zE (tn (zD (zB (g.m rfl λ_ g=>g.c (zT g zBn rfl rfl) H λe w H=>?_))))))
 obtain ⟨r,rfl,H⟩:=H
 refine ⟨_,rfl,λ_ g=>(g.s rfl λ_ g=>zE (tn (zD (zB (g.m rfl λ_ g=>g.o (yY g rfl rfl) H λx9 w a H g=>g.p (xY g rfl rfl) λ_ g=>g.c (zT g zBC rfl rfl) H λe w H=>?_)))))⟩
 obtain ⟨r_1,rfl,H⟩:=H
 refine ⟨_,rfl,λ_ g=>(g.o (Qy g rfl rfl rfl rfl) H λx12 w a H g=>g.s rfl λ_ g=>zE (tn (zD (zB (g.m rfl λ_ g=>g.o (yY g rfl rfl) H λx14 w a H g=>g.c (zT g zBC rfl rfl) H λe w H=>?_)))))⟩
 obtain ⟨r_2,rfl,H⟩:=H
 refine ⟨_,rfl,λ_ g=>(g.o (yY g rfl rfl) H λx16 w a H g=>g.m rfl λ_ g=>g.o (yY g rfl rfl) H λx18 w a H g=>g.s rfl λ_ g=>zE (tn (zD (zD (zB (g.m rfl λ_ g=>g.p (xm g rfl rfl) λ_ g=>zE (tn (zc g rfl (λhc=>?_) (λhc=>?_)))))))))⟩
 ·have H:=H.1 hc
  exact zD (zB (g.m rfl λ_ g=>g.o (yY g rfl rfl) H λx22 w a H g=>g.s rfl λ_ g=>zE (tn (zV (tr (zU g rfl rfl ⟨_,rfl,H⟩))))))
 ·have H:=H.2 hc
  exact zW (tn (zD (zB (g.m rfl λ_ g=>g.s rfl λ_ g=>zE (tn (zV (zU g rfl rfl ⟨_,rfl,H⟩)))))))
def Qe (x0:Int) (w:World) (Ret:Int->World->Prop):Prop:=
 ((x0<0)->(opE zA (zH .u64) (Go.convert 2 62 (.int .i64 x0)) w (λx6 w=>opE zA (zH .u64) (Op.unary .neg (.int .u64 x6)) w (λx7 w=>Ret x7 w))))/\(¬ (x0<0)->(opE zA (zH .u64) (Go.convert 2 62 (.int .i64 x0)) w (λx9 w=>Ret x9 w)))
set_option maxRecDepth 100000 in
theorem ZH (x0:Int) (w:World) (Ret:Int->World->Prop) (H:Qe x0 w Ret):Cl zA 24 [(.int .i64 x0)].toArray w (λe w'=>∃ (r0:Int),e=.returned (.int .u64 r0)/\Ret r0 w'):=by
 unfold Qe at H
 refine ze 10 (zipE 0 [(.int .i64 x0)]) Tryd.func24 rfl rfl (by rfl) rfl ?_
 intro a g
 have g:Sat [] 10 [(0,(.int .i64 x0))] a:=g
 refine zD (zB (g.s rfl λ_ g=>zE (tn (zD (zD (zB (g.m rfl λ_ g=>g.p (xm g rfl rfl) λ_ g=>zE (tn (zc g rfl (λhc=>?_) (λhc=>?_))))))))))
 ·have H:=H.1 hc
  exact zD (zB (g.m rfl λ_ g=>g.o (yn g rfl) H λx6 w a H g=>g.o (zB6 g rfl) H λx7 w a H g=>g.s rfl λ_ g=>zE (tn (zV (tr (zU g rfl rfl ⟨_,rfl,H⟩))))))
 ·have H:=H.2 hc
  exact zW (tn (zD (zB (g.m rfl λ_ g=>g.o (yn g rfl) H λx9 w a H g=>g.s rfl λ_ g=>zE (tn (zV (zU g rfl rfl ⟨_,rfl,H⟩)))))))
def yU (x0:Int) (x1:Int) (w:World) (Ret:ByteArray->World->Prop):Prop:=
 Cl zA 35 [(.int .u64 x0),(.int .i64 x1)].toArray w (λe w=>∃ (r:ByteArray),e=.returned (.string r)/\(Ret r w))
set_option maxRecDepth 100000 in
theorem xe (x0:Int) (x1:Int) (w:World) (Ret:ByteArray->World->Prop) (H:yU x0 x1 w Ret):Cl zA 25 [(.int .u64 x0),(.int .i64 x1)].toArray w (λe w'=>∃ (r0:ByteArray),e=.returned (.string r0)/\Ret r0 w'):=by
 unfold yU at H
 refine ze 8 (zipE 0 [(.int .u64 x0),(.int .i64 x1)]) Tryd.func25 rfl rfl (by rfl) rfl ?_
 intro a g
 have g:Sat [] 8 [(0,(.int .u64 x0)),(1,(.int .i64 x1))] a:=g
 refine zD (zB (g.s rfl λ_ g=>(zE (tn (zD (zB (g.m rfl λ_ g=>(g.m rfl λ_ g=>(g.c (zT g zBi rfl rfl) H λe w H=>?_)))))))))
 obtain ⟨r,rfl,H⟩:=H
 exact ⟨_,rfl,λ_ g=>(g.s rfl λ_ g=>(zE (tn (zV (zU g rfl rfl ⟨_,rfl,H⟩)))))⟩
def yV (x0:Int) (x1:Int) (w:World) (Ret:ByteArray->World->Prop):Prop:=
 ((x1=10)->(((x0<100)->(opE zA (zH .i64) (Go.convert 62 3 (.int .u64 x0)) w (λx14 w=>Cl zA 38 [(.int .i64 x14)].toArray w (λe w=>∃ (r:ByteArray),e=.returned (.string r)/\(Ret r w)))))/\(¬ (x0<100)->(opE zA zC (z6 80 true (.tuple #[])) w (λx5 w=>Cl zA 39 [(.int .u64 x0)].toArray w (λe w=>∃ (r_1:Int),e=.returned (.int .i64 r_1)/\(opE zA Sl.v (Instr.sliceAt 80 (.pointer x5) none (some (.int .i64 r_1)) none) w (λx19 w=>Cl zA 40 [(Sl.v x19),(.int .u64 x0)].toArray w (λe w=>e=.returned (.tuple [].toArray)/\(opE zA Sl.v (Instr.sliceAt 80 (.pointer x5) none (some (.int .i64 r_1)) none) w (λx23 w=>opE zA Value.string (Go.convert 83 9 (Sl.v x23)) w (λx24 w=>Ret x24 w))))))))))))/\(¬ (x1=10)->(Cl zA 41 [(Sl.v Sl.none),(.int .u64 x0),(.int .i64 x1),(.bool false),(.bool false)].toArray w (λe w=>∃ (r_2:Sl) (r_3:ByteArray),e=.returned (.tuple [(Sl.v r_2),(.string r_3)].toArray)/\(Ret r_3 w))))
set_option maxRecDepth 100000 in
theorem xc (x0:Int) (x1:Int) (w:World) (Ret:ByteArray->World->Prop) (H:yV x0 x1 w Ret):Cl zA 35 [(.int .u64 x0),(.int .i64 x1)].toArray w (λe w'=>∃ (r0:ByteArray),e=.returned (.string r0)/\Ret r0 w'):=by
 unfold yV at H
 refine ze 32 (zipE 0 [(.int .u64 x0),(.int .i64 x1)]) Tryd.func35 rfl rfl (by rfl) rfl ?_
 intro a g
 have g:Sat [] 32 [(0,(.int .u64 x0)),(1,(.int .i64 x1))] a:=g
 refine zD (zB (g.s rfl λ_ g=>zE (tn (zD (zD (zB (g.m rfl λ_ g=>g.p (ya g rfl rfl) λ_ g=>zE (tn (zc g rfl (λhc=>?_) (λhc=>?_))))))))))
 ·have H:=H.1 hc
  refine zD (zD (zB (g.m rfl λ_ g=>g.p (xm g rfl rfl) λ_ g=>zE (tn (zc g rfl (λhc=>?_) (λhc=>?_))))))
  ·have H:=H.1 hc
   refine zD (zB (g.m rfl λ_ g=>g.o (yn g rfl) H λx14 w a H g=>g.c (zT g zBy rfl rfl) H λe w H=>?_))
   obtain ⟨r,rfl,H⟩:=H
   exact ⟨_,rfl,λ_ g=>(g.s rfl λ_ g=>zE (tn (zV (tr (tr (zU g rfl rfl ⟨_,rfl,H⟩))))))⟩
  ·have H:=H.2 hc
   refine zW (tn (zD (zB (g.o (YM) H λx5 w a H g=>zE (tn (zD (zB (g.m rfl λ_ g=>g.c (zT g zBq rfl rfl) H λe w H=>?_))))))))
   obtain ⟨r_1,rfl,H⟩:=H
   refine ⟨_,rfl,λ_ g=>(g.s rfl λ_ g=>zE (tn (zD (zB (g.m rfl λ_ g=>g.o (Qy g rfl rfl rfl rfl) H λx19 w a H g=>g.m rfl λ_ g=>g.c (zT g zBX rfl rfl) H λe w H=>?_)))))⟩
   obtain ⟨rfl,H⟩:=H
   exact ⟨_,rfl,λ_ g=>(zE (tn (zD (zB (g.m rfl λ_ g=>g.o (Qy g rfl rfl rfl rfl) H λx23 w a H g=>g.o (yn g rfl) H λx24 w a H g=>g.s rfl λ_ g=>zE (tn (zV (tr (zU g rfl rfl ⟨_,rfl,H⟩)))))))))⟩
 ·have H:=H.2 hc
  refine zW (tn (zD (zB (g.m rfl λ_ g=>g.m rfl λ_ g=>g.c (zT g zBT rfl rfl) H λe w H=>?_))))
  obtain ⟨r_2,r_3,rfl,H⟩:=H
  exact ⟨_,rfl,λ_ g=>(g.m rfl λ_ g=>g.p (zb g rfl rfl) λ_ g=>g.p (zb g rfl rfl) λ_ g=>g.s rfl λ_ g=>g.s rfl λ_ g=>zE (tn (zD (zB (g.m rfl λ_ g=>g.s rfl λ_ g=>zE (tn (zV (zU g rfl rfl ⟨_,rfl,H⟩))))))))⟩
def QB (x0:Int) (w:World) (Ret:ByteArray->World->Prop):Prop:=
 ((x0<10)->(opE zA Value.string (Instr.sliceAt 9 (.string (ByteArray.mk #[48,49,50,51,52,53,54,55,56,57,97,98,99,100,101,102,103,104,105,106,107,108,109,110,111,112,113,114,115,116,117,118,119,120,121,122])) (some (.int .i64 x0)) (some (.int .i64 (zF .i64 (x0+1)))) none) w (λx8 w=>Ret x8 w)))/\(¬ (x0<10)->(opE zA Value.string (Instr.sliceAt 9 (.string (ByteArray.mk #[48,48,48,49,48,50,48,51,48,52,48,53,48,54,48,55,48,56,48,57,49,48,49,49,49,50,49,51,49,52,49,53,49,54,49,55,49,56,49,57,50,48,50,49,50,50,50,51,50,52,50,53,50,54,50,55,50,56,50,57,51,48,51,49,51,50,51,51,51,52,51,53,51,54,51,55,51,56,51,57,52,48,52,49,52,50,52,51,52,52,52,53,52,54,52,55,52,56,52,57,53,48,53,49,53,50,53,51,53,52,53,53,53,54,53,55,53,56,53,57,54,48,54,49,54,50,54,51,54,52,54,53,54,54,54,55,54,56,54,57,55,48,55,49,55,50,55,51,55,52,55,53,55,54,55,55,55,56,55,57,56,48,56,49,56,50,56,51,56,52,56,53,56,54,56,55,56,56,56,57,57,48,57,49,57,50,57,51,57,52,57,53,57,54,57,55,57,56,57,57])) (some (.int .i64 (zF .i64 (x0*2)))) (some (.int .i64 (zF .i64 ((zF .i64 (x0*2))+2)))) none) w (λx14 w=>Ret x14 w)))
set_option maxRecDepth 100000 in
theorem Yg (x0:Int) (w:World) (Ret:ByteArray->World->Prop) (H:QB x0 w Ret):Cl zA 38 [(.int .i64 x0)].toArray w (λe w'=>∃ (r0:ByteArray),e=.returned (.string r0)/\Ret r0 w'):=by
 unfold QB at H
 refine ze 15 (zipE 0 [(.int .i64 x0)]) Tryd.func38 rfl rfl (by rfl) rfl ?_
 intro a g
 have g:Sat [] 15 [(0,(.int .i64 x0))] a:=g
 refine zD (zB (g.s rfl λ_ g=>zE (tn (zD (zD (zB (g.m rfl λ_ g=>g.p (xm g rfl rfl) λ_ g=>zE (tn (zc g rfl (λhc=>?_) (λhc=>?_))))))))))
 ·have H:=H.1 hc
  exact zD (zB (g.m rfl λ_ g=>g.m rfl λ_ g=>g.p (xY g rfl rfl) λ_ g=>g.o (Qy g rfl rfl rfl rfl) H λx8 w a H g=>g.s rfl λ_ g=>zE (tn (zV (tr (zU g rfl rfl ⟨_,rfl,H⟩))))))
 ·have H:=H.2 hc
  exact zW (tn (zD (zB (g.m rfl λ_ g=>g.p (Q1 g rfl rfl) λ_ g=>g.m rfl λ_ g=>g.p (Q1 g rfl rfl) λ_ g=>g.p (xY g rfl rfl) λ_ g=>g.o (Qy g rfl rfl rfl rfl) H λx14 w a H g=>g.s rfl λ_ g=>zE (tn (zV (zU g rfl rfl ⟨_,rfl,H⟩)))))))
def xa (x0:Int) (w:World) (Ret:Int->World->Prop):Prop:=
 Cl zA 44 [(.int .u64 x0)].toArray w (λe w=>∃ (r:Int),e=.returned (.int .i64 r)/\(Cl zA 43 [(.int .i64 r)].toArray w (λe w=>∃ (r_1:Int),e=.returned (.int .i64 r_1)/\(opE zA zC (zN 89 (.pointer (some ⟨0,0,none⟩)) (.int .i64 r_1)) w (λx10 w=>opE zA (zH .u64) (zG 62 (.pointer x10)) w (λx11 w=>Cl zA 45 [(.bool (decide (x11<=x0)))].toArray w (λe w=>∃ (r_2:Int),e=.returned (.int .i64 r_2)/\(Ret (zF .i64 (r_1+r_2)) w))))))))
set_option maxRecDepth 100000 in
theorem Qt (x0:Int) (w:World) (Ret:Int->World->Prop) (H:xa x0 w Ret):Cl zA 39 [(.int .u64 x0)].toArray w (λe w'=>∃ (r0:Int),e=.returned (.int .i64 r0)/\Ret r0 w'):=by
 unfold xa at H
 refine ze 15 (zipE 0 [(.int .u64 x0)]) Tryd.func39 rfl rfl (by rfl) rfl ?_
 intro a g
 have g:Sat [] 15 [(0,(.int .u64 x0))] a:=g
 refine zD (zB (g.s rfl λ_ g=>zE (tn (zD (zB (g.m rfl λ_ g=>g.c (zT g zBw rfl rfl) H λe w H=>?_))))))
 obtain ⟨r,rfl,H⟩:=H
 refine ⟨_,rfl,λ_ g=>(g.c (zT g zBr rfl rfl) H λe w H=>?_)⟩
 obtain ⟨r_1,rfl,H⟩:=H
 refine ⟨_,rfl,λ_ g=>(g.s rfl λ_ g=>zE (tn (zD (zB (g.m rfl λ_ g=>g.m rfl λ_ g=>g.m rfl λ_ g=>g.o (zS g rfl rfl) H λx10 w a H g=>g.o (zg g rfl) H λx11 w a H g=>g.p (Qk g rfl rfl) λ_ g=>g.c (zT g zBs rfl rfl) H λe w H=>?_)))))⟩
 obtain ⟨r_2,rfl,H⟩:=H
 exact ⟨_,rfl,λ_ g=>(g.p (xY g rfl rfl) λ_ g=>g.s rfl λ_ g=>zE (tn (zV (zU g rfl rfl ⟨_,rfl,H⟩))))⟩
def yF (x0:Sl) (Ret:World->Prop) (x4_2:Int) (x12_1:Int) (w:World):Prop:=
 ((0<x4_2)->(opE zA (zH .u8) (Go.convert 90 5 (.int .u32 (zF .u32 (48+x12_1)))) w (λx165 w=>opE zA zC (zN 83 (Sl.v x0) (.int .i64 0)) w (λx166 w=>opU zA (zK 5 (.pointer x166) (.int .u8 x165)) w (λw=>Ret w)))))/\(¬ (0<x4_2)->(Ret w))
def yG (x0:Sl) (Ret:World->Prop) (x4_1:Int) (x12:Int) (w:World):Prop:=
 ((2<=x4_1)->(opE zA (zH .u32) (binOp .rem 90 (.int .u32 x12) (.int .u32 100)) w (λx141 w=>opE zA (zH .u32) (binOp .quo 90 (.int .u32 x12) (.int .u32 100)) w (λx144 w=>Y0 w (λw=>opP zA (zH .u8) (Instr.index 9 (.string (ByteArray.mk #[48,48,48,49,48,50,48,51,48,52,48,53,48,54,48,55,48,56,48,57,49,48,49,49,49,50,49,51,49,52,49,53,49,54,49,55,49,56,49,57,50,48,50,49,50,50,50,51,50,52,50,53,50,54,50,55,50,56,50,57,51,48,51,49,51,50,51,51,51,52,51,53,51,54,51,55,51,56,51,57,52,48,52,49,52,50,52,51,52,52,52,53,52,54,52,55,52,56,52,57,53,48,53,49,53,50,53,51,53,52,53,53,53,54,53,55,53,56,53,57,54,48,54,49,54,50,54,51,54,52,54,53,54,54,54,55,54,56,54,57,55,48,55,49,55,50,55,51,55,52,55,53,55,54,55,55,55,56,55,57,56,48,56,49,56,50,56,51,56,52,56,53,56,54,56,55,56,56,56,57,57,48,57,49,57,50,57,51,57,52,57,53,57,54,57,55,57,56,57,57])) (.int .u32 (zF .u32 ((zF .u32 (x141*2))+1)))) (λx153=>opP zA (zH .u8) (Instr.index 9 (.string (ByteArray.mk #[48,48,48,49,48,50,48,51,48,52,48,53,48,54,48,55,48,56,48,57,49,48,49,49,49,50,49,51,49,52,49,53,49,54,49,55,49,56,49,57,50,48,50,49,50,50,50,51,50,52,50,53,50,54,50,55,50,56,50,57,51,48,51,49,51,50,51,51,51,52,51,53,51,54,51,55,51,56,51,57,52,48,52,49,52,50,52,51,52,52,52,53,52,54,52,55,52,56,52,57,53,48,53,49,53,50,53,51,53,52,53,53,53,54,53,55,53,56,53,57,54,48,54,49,54,50,54,51,54,52,54,53,54,54,54,55,54,56,54,57,55,48,55,49,55,50,55,51,55,52,55,53,55,54,55,55,55,56,55,57,56,48,56,49,56,50,56,51,56,52,56,53,56,54,56,55,56,56,56,57,57,48,57,49,57,50,57,51,57,52,57,53,57,54,57,55,57,56,57,57])) (.int .u32 (zF .u32 (x141*2)))) (λx155=>opP zA zC (zN 83 (Sl.v x0) (.int .i64 (zF .i64 (x4_1 - 1)))) (λx156=>opU zA (zK 5 (.pointer x156) (.int .u8 x153)) w (λw=>opP zA zC (zN 83 (Sl.v x0) (.int .i64 (zF .i64 (x4_1 - 2)))) (λx157=>opU zA (zK 5 (.pointer x157) (.int .u8 x155)) w (λw=>yF x0 Ret (zF .i64 (x4_1 - 2)) x144 w)))))))))))/\(¬ (2<=x4_1)->(yF x0 Ret x4_1 x12 w))
def yK (x0:Sl) (Ret:World->Prop) (x1_1:Int) (x4:Int) (w:World) (Kl1:Int->Int->World->Prop):Prop:=
 ((8<=x4)->(opE zA (zH .u64) (binOp .rem 62 (.int .u64 x1_1) (.int .u64 100000000)) w (λx22 w=>opE zA (zH .u32) (Go.convert 62 90 (.int .u64 x22)) w (λx23 w=>opE zA (zH .u64) (binOp .quo 62 (.int .u64 x1_1) (.int .u64 100000000)) w (λx25 w=>opE zA (zH .u32) (binOp .quo 90 (.int .u32 x23) (.int .u32 10000)) w (λx27 w=>opE zA (zH .u32) (binOp .rem 90 (.int .u32 x23) (.int .u32 10000)) w (λx29 w=>opE zA (zH .u32) (binOp .quo 90 (.int .u32 x29) (.int .u32 100)) w (λx31 w=>opE zA (zH .u32) (binOp .rem 90 (.int .u32 x29) (.int .u32 100)) w (λx34 w=>opE zA (zH .u32) (binOp .quo 90 (.int .u32 x27) (.int .u32 100)) w (λx37 w=>opE zA (zH .u32) (binOp .rem 90 (.int .u32 x27) (.int .u32 100)) w (λx40 w=>Y0 w (λw=>opP zA (zH .u8) (Instr.index 9 (.string (ByteArray.mk #[48,48,48,49,48,50,48,51,48,52,48,53,48,54,48,55,48,56,48,57,49,48,49,49,49,50,49,51,49,52,49,53,49,54,49,55,49,56,49,57,50,48,50,49,50,50,50,51,50,52,50,53,50,54,50,55,50,56,50,57,51,48,51,49,51,50,51,51,51,52,51,53,51,54,51,55,51,56,51,57,52,48,52,49,52,50,52,51,52,52,52,53,52,54,52,55,52,56,52,57,53,48,53,49,53,50,53,51,53,52,53,53,53,54,53,55,53,56,53,57,54,48,54,49,54,50,54,51,54,52,54,53,54,54,54,55,54,56,54,57,55,48,55,49,55,50,55,51,55,52,55,53,55,54,55,55,55,56,55,57,56,48,56,49,56,50,56,51,56,52,56,53,56,54,56,55,56,56,56,57,57,48,57,49,57,50,57,51,57,52,57,53,57,54,57,55,57,56,57,57])) (.int .u32 (zF .u32 ((zF .u32 (x34*2))+1)))) (λx50=>opP zA (zH .u8) (Instr.index 9 (.string (ByteArray.mk #[48,48,48,49,48,50,48,51,48,52,48,53,48,54,48,55,48,56,48,57,49,48,49,49,49,50,49,51,49,52,49,53,49,54,49,55,49,56,49,57,50,48,50,49,50,50,50,51,50,52,50,53,50,54,50,55,50,56,50,57,51,48,51,49,51,50,51,51,51,52,51,53,51,54,51,55,51,56,51,57,52,48,52,49,52,50,52,51,52,52,52,53,52,54,52,55,52,56,52,57,53,48,53,49,53,50,53,51,53,52,53,53,53,54,53,55,53,56,53,57,54,48,54,49,54,50,54,51,54,52,54,53,54,54,54,55,54,56,54,57,55,48,55,49,55,50,55,51,55,52,55,53,55,54,55,55,55,56,55,57,56,48,56,49,56,50,56,51,56,52,56,53,56,54,56,55,56,56,56,57,57,48,57,49,57,50,57,51,57,52,57,53,57,54,57,55,57,56,57,57])) (.int .u32 (zF .u32 (x34*2)))) (λx52=>opP zA zC (zN 83 (Sl.v x0) (.int .i64 (zF .i64 (x4 - 1)))) (λx53=>opU zA (zK 5 (.pointer x53) (.int .u8 x50)) w (λw=>opP zA zC (zN 83 (Sl.v x0) (.int .i64 (zF .i64 (x4 - 2)))) (λx54=>opU zA (zK 5 (.pointer x54) (.int .u8 x52)) w (λw=>Y0 w (λw=>opP zA (zH .u8) (Instr.index 9 (.string (ByteArray.mk #[48,48,48,49,48,50,48,51,48,52,48,53,48,54,48,55,48,56,48,57,49,48,49,49,49,50,49,51,49,52,49,53,49,54,49,55,49,56,49,57,50,48,50,49,50,50,50,51,50,52,50,53,50,54,50,55,50,56,50,57,51,48,51,49,51,50,51,51,51,52,51,53,51,54,51,55,51,56,51,57,52,48,52,49,52,50,52,51,52,52,52,53,52,54,52,55,52,56,52,57,53,48,53,49,53,50,53,51,53,52,53,53,53,54,53,55,53,56,53,57,54,48,54,49,54,50,54,51,54,52,54,53,54,54,54,55,54,56,54,57,55,48,55,49,55,50,55,51,55,52,55,53,55,54,55,55,55,56,55,57,56,48,56,49,56,50,56,51,56,52,56,53,56,54,56,55,56,56,56,57,57,48,57,49,57,50,57,51,57,52,57,53,57,54,57,55,57,56,57,57])) (.int .u32 (zF .u32 ((zF .u32 (x31*2))+1)))) (λx63=>opP zA (zH .u8) (Instr.index 9 (.string (ByteArray.mk #[48,48,48,49,48,50,48,51,48,52,48,53,48,54,48,55,48,56,48,57,49,48,49,49,49,50,49,51,49,52,49,53,49,54,49,55,49,56,49,57,50,48,50,49,50,50,50,51,50,52,50,53,50,54,50,55,50,56,50,57,51,48,51,49,51,50,51,51,51,52,51,53,51,54,51,55,51,56,51,57,52,48,52,49,52,50,52,51,52,52,52,53,52,54,52,55,52,56,52,57,53,48,53,49,53,50,53,51,53,52,53,53,53,54,53,55,53,56,53,57,54,48,54,49,54,50,54,51,54,52,54,53,54,54,54,55,54,56,54,57,55,48,55,49,55,50,55,51,55,52,55,53,55,54,55,55,55,56,55,57,56,48,56,49,56,50,56,51,56,52,56,53,56,54,56,55,56,56,56,57,57,48,57,49,57,50,57,51,57,52,57,53,57,54,57,55,57,56,57,57])) (.int .u32 (zF .u32 (x31*2)))) (λx65=>opP zA zC (zN 83 (Sl.v x0) (.int .i64 (zF .i64 (x4 - 3)))) (λx66=>opU zA (zK 5 (.pointer x66) (.int .u8 x63)) w (λw=>opP zA zC (zN 83 (Sl.v x0) (.int .i64 (zF .i64 (x4 - 4)))) (λx67=>opU zA (zK 5 (.pointer x67) (.int .u8 x65)) w (λw=>Y0 w (λw=>opP zA (zH .u8) (Instr.index 9 (.string (ByteArray.mk #[48,48,48,49,48,50,48,51,48,52,48,53,48,54,48,55,48,56,48,57,49,48,49,49,49,50,49,51,49,52,49,53,49,54,49,55,49,56,49,57,50,48,50,49,50,50,50,51,50,52,50,53,50,54,50,55,50,56,50,57,51,48,51,49,51,50,51,51,51,52,51,53,51,54,51,55,51,56,51,57,52,48,52,49,52,50,52,51,52,52,52,53,52,54,52,55,52,56,52,57,53,48,53,49,53,50,53,51,53,52,53,53,53,54,53,55,53,56,53,57,54,48,54,49,54,50,54,51,54,52,54,53,54,54,54,55,54,56,54,57,55,48,55,49,55,50,55,51,55,52,55,53,55,54,55,55,55,56,55,57,56,48,56,49,56,50,56,51,56,52,56,53,56,54,56,55,56,56,56,57,57,48,57,49,57,50,57,51,57,52,57,53,57,54,57,55,57,56,57,57])) (.int .u32 (zF .u32 ((zF .u32 (x40*2))+1)))) (λx76=>opP zA (zH .u8) (Instr.index 9 (.string (ByteArray.mk #[48,48,48,49,48,50,48,51,48,52,48,53,48,54,48,55,48,56,48,57,49,48,49,49,49,50,49,51,49,52,49,53,49,54,49,55,49,56,49,57,50,48,50,49,50,50,50,51,50,52,50,53,50,54,50,55,50,56,50,57,51,48,51,49,51,50,51,51,51,52,51,53,51,54,51,55,51,56,51,57,52,48,52,49,52,50,52,51,52,52,52,53,52,54,52,55,52,56,52,57,53,48,53,49,53,50,53,51,53,52,53,53,53,54,53,55,53,56,53,57,54,48,54,49,54,50,54,51,54,52,54,53,54,54,54,55,54,56,54,57,55,48,55,49,55,50,55,51,55,52,55,53,55,54,55,55,55,56,55,57,56,48,56,49,56,50,56,51,56,52,56,53,56,54,56,55,56,56,56,57,57,48,57,49,57,50,57,51,57,52,57,53,57,54,57,55,57,56,57,57])) (.int .u32 (zF .u32 (x40*2)))) (λx78=>opP zA zC (zN 83 (Sl.v x0) (.int .i64 (zF .i64 (x4 - 5)))) (λx79=>opU zA (zK 5 (.pointer x79) (.int .u8 x76)) w (λw=>opP zA zC (zN 83 (Sl.v x0) (.int .i64 (zF .i64 (x4 - 6)))) (λx80=>opU zA (zK 5 (.pointer x80) (.int .u8 x78)) w (λw=>Y0 w (λw=>opP zA (zH .u8) (Instr.index 9 (.string (ByteArray.mk #[48,48,48,49,48,50,48,51,48,52,48,53,48,54,48,55,48,56,48,57,49,48,49,49,49,50,49,51,49,52,49,53,49,54,49,55,49,56,49,57,50,48,50,49,50,50,50,51,50,52,50,53,50,54,50,55,50,56,50,57,51,48,51,49,51,50,51,51,51,52,51,53,51,54,51,55,51,56,51,57,52,48,52,49,52,50,52,51,52,52,52,53,52,54,52,55,52,56,52,57,53,48,53,49,53,50,53,51,53,52,53,53,53,54,53,55,53,56,53,57,54,48,54,49,54,50,54,51,54,52,54,53,54,54,54,55,54,56,54,57,55,48,55,49,55,50,55,51,55,52,55,53,55,54,55,55,55,56,55,57,56,48,56,49,56,50,56,51,56,52,56,53,56,54,56,55,56,56,56,57,57,48,57,49,57,50,57,51,57,52,57,53,57,54,57,55,57,56,57,57])) (.int .u32 (zF .u32 ((zF .u32 (x37*2))+1)))) (λx89=>opP zA (zH .u8) (Instr.index 9 (.string (ByteArray.mk #[48,48,48,49,48,50,48,51,48,52,48,53,48,54,48,55,48,56,48,57,49,48,49,49,49,50,49,51,49,52,49,53,49,54,49,55,49,56,49,57,50,48,50,49,50,50,50,51,50,52,50,53,50,54,50,55,50,56,50,57,51,48,51,49,51,50,51,51,51,52,51,53,51,54,51,55,51,56,51,57,52,48,52,49,52,50,52,51,52,52,52,53,52,54,52,55,52,56,52,57,53,48,53,49,53,50,53,51,53,52,53,53,53,54,53,55,53,56,53,57,54,48,54,49,54,50,54,51,54,52,54,53,54,54,54,55,54,56,54,57,55,48,55,49,55,50,55,51,55,52,55,53,55,54,55,55,55,56,55,57,56,48,56,49,56,50,56,51,56,52,56,53,56,54,56,55,56,56,56,57,57,48,57,49,57,50,57,51,57,52,57,53,57,54,57,55,57,56,57,57])) (.int .u32 (zF .u32 (x37*2)))) (λx91=>opP zA zC (zN 83 (Sl.v x0) (.int .i64 (zF .i64 (x4 - 7)))) (λx92=>opU zA (zK 5 (.pointer x92) (.int .u8 x89)) w (λw=>opP zA zC (zN 83 (Sl.v x0) (.int .i64 (zF .i64 (x4 - 8)))) (λx93=>opU zA (zK 5 (.pointer x93) (.int .u8 x91)) w (λw=>Kl1 x25 (zF .i64 (x4 - 8)) w)))))))))))))))))))))))))))))))))))))))/\(¬ (8<=x4)->(opE zA (zH .u32) (Go.convert 62 90 (.int .u64 x1_1)) w (λx97 w=>((4<=x4)->(opE zA (zH .u32) (binOp .rem 90 (.int .u32 x97) (.int .u32 10000)) w (λx101 w=>opE zA (zH .u32) (binOp .quo 90 (.int .u32 x97) (.int .u32 10000)) w (λx103 w=>opE zA (zH .u32) (binOp .quo 90 (.int .u32 x101) (.int .u32 100)) w (λx105 w=>opE zA (zH .u32) (binOp .rem 90 (.int .u32 x101) (.int .u32 100)) w (λx108 w=>Y0 w (λw=>opP zA (zH .u8) (Instr.index 9 (.string (ByteArray.mk #[48,48,48,49,48,50,48,51,48,52,48,53,48,54,48,55,48,56,48,57,49,48,49,49,49,50,49,51,49,52,49,53,49,54,49,55,49,56,49,57,50,48,50,49,50,50,50,51,50,52,50,53,50,54,50,55,50,56,50,57,51,48,51,49,51,50,51,51,51,52,51,53,51,54,51,55,51,56,51,57,52,48,52,49,52,50,52,51,52,52,52,53,52,54,52,55,52,56,52,57,53,48,53,49,53,50,53,51,53,52,53,53,53,54,53,55,53,56,53,57,54,48,54,49,54,50,54,51,54,52,54,53,54,54,54,55,54,56,54,57,55,48,55,49,55,50,55,51,55,52,55,53,55,54,55,55,55,56,55,57,56,48,56,49,56,50,56,51,56,52,56,53,56,54,56,55,56,56,56,57,57,48,57,49,57,50,57,51,57,52,57,53,57,54,57,55,57,56,57,57])) (.int .u32 (zF .u32 ((zF .u32 (x108*2))+1)))) (λx118=>opP zA (zH .u8) (Instr.index 9 (.string (ByteArray.mk #[48,48,48,49,48,50,48,51,48,52,48,53,48,54,48,55,48,56,48,57,49,48,49,49,49,50,49,51,49,52,49,53,49,54,49,55,49,56,49,57,50,48,50,49,50,50,50,51,50,52,50,53,50,54,50,55,50,56,50,57,51,48,51,49,51,50,51,51,51,52,51,53,51,54,51,55,51,56,51,57,52,48,52,49,52,50,52,51,52,52,52,53,52,54,52,55,52,56,52,57,53,48,53,49,53,50,53,51,53,52,53,53,53,54,53,55,53,56,53,57,54,48,54,49,54,50,54,51,54,52,54,53,54,54,54,55,54,56,54,57,55,48,55,49,55,50,55,51,55,52,55,53,55,54,55,55,55,56,55,57,56,48,56,49,56,50,56,51,56,52,56,53,56,54,56,55,56,56,56,57,57,48,57,49,57,50,57,51,57,52,57,53,57,54,57,55,57,56,57,57])) (.int .u32 (zF .u32 (x108*2)))) (λx120=>opP zA zC (zN 83 (Sl.v x0) (.int .i64 (zF .i64 (x4 - 1)))) (λx121=>opU zA (zK 5 (.pointer x121) (.int .u8 x118)) w (λw=>opP zA zC (zN 83 (Sl.v x0) (.int .i64 (zF .i64 (x4 - 2)))) (λx122=>opU zA (zK 5 (.pointer x122) (.int .u8 x120)) w (λw=>Y0 w (λw=>opP zA (zH .u8) (Instr.index 9 (.string (ByteArray.mk #[48,48,48,49,48,50,48,51,48,52,48,53,48,54,48,55,48,56,48,57,49,48,49,49,49,50,49,51,49,52,49,53,49,54,49,55,49,56,49,57,50,48,50,49,50,50,50,51,50,52,50,53,50,54,50,55,50,56,50,57,51,48,51,49,51,50,51,51,51,52,51,53,51,54,51,55,51,56,51,57,52,48,52,49,52,50,52,51,52,52,52,53,52,54,52,55,52,56,52,57,53,48,53,49,53,50,53,51,53,52,53,53,53,54,53,55,53,56,53,57,54,48,54,49,54,50,54,51,54,52,54,53,54,54,54,55,54,56,54,57,55,48,55,49,55,50,55,51,55,52,55,53,55,54,55,55,55,56,55,57,56,48,56,49,56,50,56,51,56,52,56,53,56,54,56,55,56,56,56,57,57,48,57,49,57,50,57,51,57,52,57,53,57,54,57,55,57,56,57,57])) (.int .u32 (zF .u32 ((zF .u32 (x105*2))+1)))) (λx131=>opP zA (zH .u8) (Instr.index 9 (.string (ByteArray.mk #[48,48,48,49,48,50,48,51,48,52,48,53,48,54,48,55,48,56,48,57,49,48,49,49,49,50,49,51,49,52,49,53,49,54,49,55,49,56,49,57,50,48,50,49,50,50,50,51,50,52,50,53,50,54,50,55,50,56,50,57,51,48,51,49,51,50,51,51,51,52,51,53,51,54,51,55,51,56,51,57,52,48,52,49,52,50,52,51,52,52,52,53,52,54,52,55,52,56,52,57,53,48,53,49,53,50,53,51,53,52,53,53,53,54,53,55,53,56,53,57,54,48,54,49,54,50,54,51,54,52,54,53,54,54,54,55,54,56,54,57,55,48,55,49,55,50,55,51,55,52,55,53,55,54,55,55,55,56,55,57,56,48,56,49,56,50,56,51,56,52,56,53,56,54,56,55,56,56,56,57,57,48,57,49,57,50,57,51,57,52,57,53,57,54,57,55,57,56,57,57])) (.int .u32 (zF .u32 (x105*2)))) (λx133=>opP zA zC (zN 83 (Sl.v x0) (.int .i64 (zF .i64 (x4 - 3)))) (λx134=>opU zA (zK 5 (.pointer x134) (.int .u8 x131)) w (λw=>opP zA zC (zN 83 (Sl.v x0) (.int .i64 (zF .i64 (x4 - 4)))) (λx135=>opU zA (zK 5 (.pointer x135) (.int .u8 x133)) w (λw=>yG x0 Ret (zF .i64 (x4 - 4)) x103 w))))))))))))))))))))/\(¬ (4<=x4)->(yG x0 Ret x4 x97 w)))))
def yx (x0:Sl) (x1:Int) (w:World) (Ret:World->Prop):Prop:=
 ∃ (I:Int->Int->World->Prop) (μ:Int->Int->World->Nat),I x1 (x0.len:Int) w/\∀ (x1_1:Int) (x4:Int) w,I x1_1 x4 w->yK x0 Ret x1_1 x4 w (λx1_1' x4' w'=>I x1_1' x4' w'/\μ x1_1' x4' w'<μ x1_1 x4 w)
set_option maxRecDepth 100000 in
theorem QW (x0:Sl) (x1:Int) (w:World) (Ret:World->Prop) (H:yx x0 x1 w Ret):Cl zA 40 [(Sl.v x0),(.int .u64 x1)].toArray w (λe w'=>e=.returned (.tuple [].toArray)/\Ret w'):=by
 unfold yx at H
 refine ze 167 (zipE 0 [(Sl.v x0),(.int .u64 x1)]) Tryd.func40 rfl rfl (by rfl) rfl ?_
 intro a g
 have g:Sat [] 167 [(0,(Sl.v x0)),(1,(.int .u64 x1))] a:=g
 refine zD (zB (g.m rfl λ_ g=>g.purR (λw=>QR g Tryd.underlying83 rfl) λ_ g=>g.s rfl λ_ g=>zE (tn (zD (yh ?_)))))
 obtain ⟨I_l1,μ_l1,h0,hb⟩:=H
 refine Yc (ds:=[]) (N:=167) (σ:=Int × Int) (λs=>[(1,(.int .u64 s.1)),(4,(.int .i64 s.2)),(0,(Sl.v x0))]) (λs w=>I_l1 s.1 s.2 w) (λs w=>μ_l1 s.1 s.2 w) (x1,(x0.len:Int)) h0 (g.k) ?_
 rintro ⟨x1_1,x4⟩ w a hI g
 try dsimp only at hI g
 obtain ⟨Kl1,hK_l1⟩:∃ K:Int->Int->World->Prop,K=(λx1_1' x4' w'=>I_l1 x1_1' x4' w'/\μ_l1 x1_1' x4' w'<μ_l1 x1_1 x4 w):=⟨_,rfl⟩
 have H:yK x0 Ret x1_1 x4 w Kl1:=by rw [hK_l1];exact hb x1_1 x4 w hI
 clear hb h0 hI
 unfold yK at H
 refine zD (zD (zB (g.m rfl λ_ g=>g.p (Qk g rfl rfl) λ_ g=>zE (tn (zc g rfl (λhc=>?_) (λhc=>?_))))))
 ·have H:=H.1 hc
  refine zW (tn (yh (zD (zB (g.m rfl λ_ g=>g.o (yY g rfl rfl) H λx22 w a H g=>g.o (yn g rfl) H λx23 w a H g=>g.s rfl λ_ g=>zE (tn (zD (zB (g.m rfl λ_ g=>g.o (yY g rfl rfl) H λx25 w a H g=>g.s rfl λ_ g=>zE (tn (zD (zB (g.m rfl λ_ g=>g.o (yY g rfl rfl) H λx27 w a H g=>g.m rfl λ_ g=>g.o (yY g rfl rfl) H λx29 w a H g=>g.s rfl λ_ g=>g.s rfl λ_ g=>zE (tn (zD (zB (g.m rfl λ_ g=>g.o (yY g rfl rfl) H λx31 w a H g=>g.p (Q1 g rfl rfl) λ_ g=>g.m rfl λ_ g=>g.o (yY g rfl rfl) H λx34 w a H g=>g.p (Q1 g rfl rfl) λ_ g=>g.s rfl λ_ g=>g.s rfl λ_ g=>zE (tn (zD (zB (g.m rfl λ_ g=>g.o (yY g rfl rfl) H λx37 w a H g=>g.p (Q1 g rfl rfl) λ_ g=>g.m rfl λ_ g=>g.o (yY g rfl rfl) H λx40 w a H g=>g.p (Q1 g rfl rfl) λ_ g=>g.s rfl λ_ g=>g.s rfl λ_ g=>zE (tn (zD (Z5 15 λw hB=>?_))))))))))))))))))))))))
  replace H:=H w hB
  refine g.x 0 rfl (zl g rfl) λ_ g=>g.x 1 rfl (zl g rfl) λ_ g=>g.x 2 rfl (xl g rfl rfl) λ_ g=>g.x 3 rfl (zl g rfl) λ_ g=>g.x 4 rfl (zl g rfl) λ_ g=>g.x 5 rfl (xl g rfl rfl) λ_ g=>g.x 6 rfl (zl g rfl) λ_ g=>g.x 7 rfl (xY g rfl rfl) λ_ g=>g.y 8 rfl (yf g rfl rfl) H λx50 a H g=>g.x 9 rfl (zl g rfl) λ_ g=>g.y 10 rfl (yf g rfl rfl) H λx52 a H g=>g.y 11 rfl (zS g rfl rfl) H λx53 a H g=>g.l 12 rfl (yE g rfl rfl) H λw a H g=>g.y 13 rfl (zS g rfl rfl) H λx54 a H g=>g.l 14 rfl (yE g rfl rfl) H λw a H g=>WA.ni ((tn (zD (Z5 15 λw hB=>?_))))
  replace H:=H w hB
  refine g.x 0 rfl (zl g rfl) λ_ g=>g.x 1 rfl (zl g rfl) λ_ g=>g.x 2 rfl (xl g rfl rfl) λ_ g=>g.x 3 rfl (zl g rfl) λ_ g=>g.x 4 rfl (zl g rfl) λ_ g=>g.x 5 rfl (xl g rfl rfl) λ_ g=>g.x 6 rfl (zl g rfl) λ_ g=>g.x 7 rfl (xY g rfl rfl) λ_ g=>g.y 8 rfl (yf g rfl rfl) H λx63 a H g=>g.x 9 rfl (zl g rfl) λ_ g=>g.y 10 rfl (yf g rfl rfl) H λx65 a H g=>g.y 11 rfl (zS g rfl rfl) H λx66 a H g=>g.l 12 rfl (yE g rfl rfl) H λw a H g=>g.y 13 rfl (zS g rfl rfl) H λx67 a H g=>g.l 14 rfl (yE g rfl rfl) H λw a H g=>WA.ni ((tn (zD (Z5 15 λw hB=>?_))))
  replace H:=H w hB
  refine g.x 0 rfl (zl g rfl) λ_ g=>g.x 1 rfl (zl g rfl) λ_ g=>g.x 2 rfl (xl g rfl rfl) λ_ g=>g.x 3 rfl (zl g rfl) λ_ g=>g.x 4 rfl (zl g rfl) λ_ g=>g.x 5 rfl (xl g rfl rfl) λ_ g=>g.x 6 rfl (zl g rfl) λ_ g=>g.x 7 rfl (xY g rfl rfl) λ_ g=>g.y 8 rfl (yf g rfl rfl) H λx76 a H g=>g.x 9 rfl (zl g rfl) λ_ g=>g.y 10 rfl (yf g rfl rfl) H λx78 a H g=>g.y 11 rfl (zS g rfl rfl) H λx79 a H g=>g.l 12 rfl (yE g rfl rfl) H λw a H g=>g.y 13 rfl (zS g rfl rfl) H λx80 a H g=>g.l 14 rfl (yE g rfl rfl) H λw a H g=>WA.ni ((tn (zD (Z5 15 λw hB=>?_))))
  replace H:=H w hB
  refine g.x 0 rfl (zl g rfl) λ_ g=>g.x 1 rfl (zl g rfl) λ_ g=>g.x 2 rfl (xl g rfl rfl) λ_ g=>g.x 3 rfl (zl g rfl) λ_ g=>g.x 4 rfl (zl g rfl) λ_ g=>g.x 5 rfl (xl g rfl rfl) λ_ g=>g.x 6 rfl (zl g rfl) λ_ g=>g.x 7 rfl (xY g rfl rfl) λ_ g=>g.y 8 rfl (yf g rfl rfl) H λx89 a H g=>g.x 9 rfl (zl g rfl) λ_ g=>g.y 10 rfl (yf g rfl rfl) H λx91 a H g=>g.y 11 rfl (zS g rfl rfl) H λx92 a H g=>g.l 12 rfl (yE g rfl rfl) H λw a H g=>g.y 13 rfl (zS g rfl rfl) H λx93 a H g=>g.l 14 rfl (yE g rfl rfl) H λw a H g=>WA.ni ((tn (zB (g.m rfl λ_ g=>g.p (xl g rfl rfl) λ_ g=>g.s rfl λ_ g=>?_))))
  rw [hK_l1] at H
  exact zE (bn (tn ⟨(x25,(zF .i64 (x4 - 8))),g.k,H⟩))
 ·have H:=H.2 hc
  refine YD (te (te (be (tn (zD (zB (g.m rfl λ_ g=>g.o (yn g rfl) H λx97 w a H g=>g.s rfl λ_ g=>zE (tn (xp (ds:=[]) (N:=167) (σ:=Int × Int) (λs=>[(4,(.int .i64 s.1)),(12,(.int .u32 s.2)),(0,(Sl.v x0))]) (λs w=>yG x0 Ret s.1 s.2 w) ?_ (λhj2=>?_))))))))))
  ·rintro ⟨x4_1,x12⟩ w a H g
   try dsimp only at H g
   unfold yG at H
   refine xp (ds:=[]) (N:=167) (σ:=Int × Int) (λs=>[(4,(.int .i64 s.1)),(12,(.int .u32 s.2)),(0,(Sl.v x0))]) (λs w=>yF x0 Ret s.1 s.2 w) ?_ (λhj3=>?_)
   ·rintro ⟨x4_2,x12_1⟩ w a H g
    try dsimp only at H g
    unfold yF at H
    refine zD (zB (g.m rfl λ_ g=>g.p (YO g rfl rfl) λ_ g=>zE (tn (zc g rfl (λhc=>?_) (λhc=>?_)))))
    ·have H:=H.1 hc
     exact zB (g.m rfl λ_ g=>g.m rfl λ_ g=>g.p (xY g rfl rfl) λ_ g=>g.o (yn g rfl) H λx165 w a H g=>g.o (zS g rfl rfl) H λx166 w a H g=>g.h (yE g rfl rfl) H λw a H g=>zE (zAf g rfl ⟨rfl,H⟩))
    ·have H:=H.2 hc
     exact zW (zAf g rfl ⟨rfl,H⟩)
   ·refine zD (zB (g.m rfl λ_ g=>g.p (Qk g rfl rfl) λ_ g=>zE (tn (zc g rfl (λhc=>?_) (λhc=>?_)))))
    ·have H:=H.1 hc
     refine zD (zB (g.m rfl λ_ g=>g.o (yY g rfl rfl) H λx141 w a H g=>g.p (Q1 g rfl rfl) λ_ g=>g.s rfl λ_ g=>zE (tn (zD (zB (g.m rfl λ_ g=>g.o (yY g rfl rfl) H λx144 w a H g=>g.s rfl λ_ g=>zE (tn (zD (Z5 15 λw hB=>?_)))))))))
     replace H:=H w hB
     exact g.x 0 rfl (zl g rfl) λ_ g=>g.x 1 rfl (zl g rfl) λ_ g=>g.x 2 rfl (xl g rfl rfl) λ_ g=>g.x 3 rfl (zl g rfl) λ_ g=>g.x 4 rfl (zl g rfl) λ_ g=>g.x 5 rfl (xl g rfl rfl) λ_ g=>g.x 6 rfl (zl g rfl) λ_ g=>g.x 7 rfl (xY g rfl rfl) λ_ g=>g.y 8 rfl (yf g rfl rfl) H λx153 a H g=>g.x 9 rfl (zl g rfl) λ_ g=>g.y 10 rfl (yf g rfl rfl) H λx155 a H g=>g.y 11 rfl (zS g rfl rfl) H λx156 a H g=>g.l 12 rfl (yE g rfl rfl) H λw a H g=>g.y 13 rfl (zS g rfl rfl) H λx157 a H g=>g.l 14 rfl (yE g rfl rfl) H λw a H g=>WA.ni ((tn (zB (g.m rfl λ_ g=>g.p (xl g rfl rfl) λ_ g=>g.s rfl λ_ g=>zE (tn (hj3 ((zF .i64 (x4_1 - 2)),x144) _ _ H (g.k)))))))
    ·have H:=H.2 hc
     exact zW (tn (hj3 (x4_1,x12) _ _ H (g.k)))
  ·refine zD (zB (g.m rfl λ_ g=>g.p (Qk g rfl rfl) λ_ g=>zE (tn (zc g rfl (λhc=>?_) (λhc=>?_)))))
   ·have H:=H.1 hc
    refine zD (zB (g.m rfl λ_ g=>g.o (yY g rfl rfl) H λx101 w a H g=>g.s rfl λ_ g=>zE (tn (zD (zB (g.m rfl λ_ g=>g.o (yY g rfl rfl) H λx103 w a H g=>g.s rfl λ_ g=>zE (tn (zD (zB (g.m rfl λ_ g=>g.o (yY g rfl rfl) H λx105 w a H g=>g.p (Q1 g rfl rfl) λ_ g=>g.m rfl λ_ g=>g.o (yY g rfl rfl) H λx108 w a H g=>g.p (Q1 g rfl rfl) λ_ g=>g.s rfl λ_ g=>g.s rfl λ_ g=>zE (tn (zD (Z5 15 λw hB=>?_)))))))))))))
    replace H:=H w hB
    refine g.x 0 rfl (zl g rfl) λ_ g=>g.x 1 rfl (zl g rfl) λ_ g=>g.x 2 rfl (xl g rfl rfl) λ_ g=>g.x 3 rfl (zl g rfl) λ_ g=>g.x 4 rfl (zl g rfl) λ_ g=>g.x 5 rfl (xl g rfl rfl) λ_ g=>g.x 6 rfl (zl g rfl) λ_ g=>g.x 7 rfl (xY g rfl rfl) λ_ g=>g.y 8 rfl (yf g rfl rfl) H λx118 a H g=>g.x 9 rfl (zl g rfl) λ_ g=>g.y 10 rfl (yf g rfl rfl) H λx120 a H g=>g.y 11 rfl (zS g rfl rfl) H λx121 a H g=>g.l 12 rfl (yE g rfl rfl) H λw a H g=>g.y 13 rfl (zS g rfl rfl) H λx122 a H g=>g.l 14 rfl (yE g rfl rfl) H λw a H g=>WA.ni ((tn (zD (Z5 15 λw hB=>?_))))
    replace H:=H w hB
    exact g.x 0 rfl (zl g rfl) λ_ g=>g.x 1 rfl (zl g rfl) λ_ g=>g.x 2 rfl (xl g rfl rfl) λ_ g=>g.x 3 rfl (zl g rfl) λ_ g=>g.x 4 rfl (zl g rfl) λ_ g=>g.x 5 rfl (xl g rfl rfl) λ_ g=>g.x 6 rfl (zl g rfl) λ_ g=>g.x 7 rfl (xY g rfl rfl) λ_ g=>g.y 8 rfl (yf g rfl rfl) H λx131 a H g=>g.x 9 rfl (zl g rfl) λ_ g=>g.y 10 rfl (yf g rfl rfl) H λx133 a H g=>g.y 11 rfl (zS g rfl rfl) H λx134 a H g=>g.l 12 rfl (yE g rfl rfl) H λw a H g=>g.y 13 rfl (zS g rfl rfl) H λx135 a H g=>g.l 14 rfl (yE g rfl rfl) H λw a H g=>WA.ni ((tn (zB (g.m rfl λ_ g=>g.p (xl g rfl rfl) λ_ g=>g.s rfl λ_ g=>zE (tn (hj2 ((zF .i64 (x4 - 4)),x103) _ _ H (g.k)))))))
   ·have H:=H.2 hc
    exact zW (tn (hj2 (x4,x97) _ _ H (g.k)))
def xb (x0:Int) (w:World) (Ret:Int->World->Prop):Prop:=
 opE zA (zH .i64) (binOp .shr 3 (.int .i64 (zF .i64 (x0*78913))) (.int .u64 18)) w (λx5 w=>Ret x5 w)
set_option maxRecDepth 100000 in
theorem Qo (x0:Int) (w:World) (Ret:Int->World->Prop) (H:xb x0 w Ret):Cl zA 43 [(.int .i64 x0)].toArray w (λe w'=>∃ (r0:Int),e=.returned (.int .i64 r0)/\Ret r0 w'):=by
 unfold xb at H
 refine ze 6 (zipE 0 [(.int .i64 x0)]) Tryd.func43 rfl rfl (by rfl) rfl ?_
 intro a g
 have g:Sat [] 6 [(0,(.int .i64 x0))] a:=g
 exact zD (zB (g.s rfl λ_ g=>(zE (tn (zD (zB (g.m rfl λ_ g=>(g.p (Q1 g rfl rfl) λ_ g=>(g.o (yY g rfl rfl) H λx5 w a H g=>(g.s rfl λ_ g=>(zE (tn (zV (zU g rfl rfl ⟨_,rfl,H⟩))))))))))))))
def xZ (x0:Bool) (w:World) (Ret:Int->World->Prop):Prop:=
 (x0=true->(Ret 1 w))/\(x0=false->(Ret 0 w))
set_option maxRecDepth 100000 in
theorem Qw (x0:Bool) (w:World) (Ret:Int->World->Prop) (H:xZ x0 w Ret):Cl zA 45 [(.bool x0)].toArray w (λe w'=>∃ (r0:Int),e=.returned (.int .i64 r0)/\Ret r0 w'):=by
 unfold xZ at H
 refine ze 4 (zipE 0 [(.bool x0)]) Tryd.func45 rfl rfl (by rfl) rfl ?_
 intro a g
 have g:Sat [] 4 [(0,(.bool x0))] a:=g
 refine zD (zB (g.s rfl λ_ g=>(zE (tn (zD (zD (zB (g.m rfl λ_ g=>(zE (tn (yH g rfl (λhc=>?_) (λhc=>?_))))))))))))
 ·have H:=H.1 hc
  exact zD (zB (g.s rfl λ_ g=>(zE (tn (zV (tr (zU g rfl rfl ⟨_,rfl,H⟩)))))))
 ·have H:=H.2 hc
  exact zW (tn (zD (zB (g.s rfl λ_ g=>(zE (tn (zV (zU g rfl rfl ⟨_,rfl,H⟩))))))))
end Go.Proofs.YtjlfegnhomgjhaaDoor.VG
set_option linter.unusedVariables false
set_option linter.unusedSimpArgs false
namespace Go.Proofs.YtjlfegnhomgjhaaDoor.VG
open Go.VB Go.Proofs Go.RowKit
theorem zAZ (w:World) {k:Int->World->Prop} (H:k 7 w):Cl zA ZC [.int .u64 105].toArray w (λe w'=>∃ r:Int,e=.returned (.int .i64 r)/\k r w'):=by
 refine ZE 105 w k ?_
 unfold QZ
 refine ⟨λh=>absurd h (by decide),λ_=>?_⟩
 unfold xH
 refine ⟨λh=>absurd h (by decide),λ_=>?_⟩
 unfold y7
 refine ⟨λh=>absurd h (by decide),λ_=>?_⟩
 unfold y9
 refine ⟨105,w,by kernel_rfl,7,w,by kernel_rfl,7,w,by kernel_rfl,?_⟩
 exact H
def Zn (w:World):Prop:=w.cell? ⟨0,2,none⟩=some (.int .u64 100)
theorem zAQ {w:World} (hp:Zn w) {k:Int->World->Prop} (H:k 3 w):Cl zA Qq [.int .u64 105].toArray w (λe w'=>∃ r:Int,e=.returned (.int .i64 r)/\k r w'):=by
 refine Qt 105 w k ?_
 unfold xa
 refine zAZ w ?_
 refine Qo 7 w _ ?_
 unfold xb
 refine ⟨2,w,by kernel_rfl,?_⟩
 refine ⟨some ⟨0,2,none⟩,w,by kernel_rfl,?_⟩
 refine ZM Z2 100 hp ?_
 refine Qw _ w _ ?_
 unfold xZ
 exact ⟨λ_=>H,λh=>absurd h (by decide)⟩
theorem zAW {w:World} {B:Nat} {e:TypeId} (hB:Row w B (List.replicate 24 (.int .u8 0)) e) {k:World->Prop}
  (H:∀ w',Row w' B ([.int .u8 49,.int .u8 48,.int .u8 53]++List.replicate (24 - 3) (.int .u8 0)) e->w.grownBy w' (some B)->k w'):
  Cl zA QU [Sl.v ⟨some ⟨B,0,none⟩,3,24⟩,.int .u64 105].toArray w (λe w'=>e=.returned (.tuple [].toArray)/\k w'):=by
 refine QW ⟨some ⟨B,0,none⟩,3,24⟩ 105 w k ?_
 unfold yx
 refine ⟨λx n W=>x=105/\n=3/\W=w,λ_ _ _=>0,⟨rfl,rfl,rfl⟩,?_⟩
 rintro x n W ⟨rfl,rfl,rfl⟩
 unfold yK
 refine ⟨λh=>absurd h (by decide),λ_=>?_⟩
 refine ⟨105,W,by kernel_rfl,λh=>absurd h (by decide),λ_=>?_⟩
 unfold yG
 refine ⟨λ_=>?_,λh=>absurd (by decide) h⟩
 refine ⟨5,W,by kernel_rfl,1,W,by kernel_rfl,?_⟩
 intro W1 b1
 refine ⟨53,λw=>by kernel_rfl,48,λw=>by kernel_rfl,?_⟩
 refine ⟨some ((⟨B,0,none⟩:Addr).add 2),λw=>by kernel_rfl,?_⟩
 refine ZL Yd (hB.bel b1) rfl (by simp) rfl λW2 h2 g2=>?_
 refine ⟨some ((⟨B,0,none⟩:Addr).add 1),λw=>by kernel_rfl,?_⟩
 refine ZL Yd h2 rfl (by simp) rfl λW3 h3 g3=>?_
 unfold yF
 refine ⟨λ_=>?_,λh=>absurd (by decide) h⟩
 refine ⟨49,W3,by kernel_rfl,?_⟩
 refine ⟨some ((⟨B,0,none⟩:Addr).add 0),W3,by kernel_rfl,?_⟩
 refine ZL (off:=0) Yd h3 rfl (by simp) rfl λW4 h4 g4=>?_
 exact H W4 h4 (QO (QO (QO (YX b1 _) g2) g3) g4)
theorem ZU {w:World} (hp:Zn w) {k:ByteArray->World->Prop} (H:∀ w',Bel w w'->k (ByteArray.mk #[49,48,53]) w'):Cl zA xd [.int .u64 105,.int .i64 10].toArray w (λe w'=>∃ r:ByteArray,e=.returned (.string r)/\k r w'):=by
 refine xe 105 10 w k ?_
 unfold yU
 refine xc 105 10 w _ ?_
 unfold yV
 refine ⟨λ_=>⟨λh=>absurd h (by decide),λ_=>?_⟩,λh=>absurd rfl h⟩
 refine ⟨some ⟨w.heap.size,0,none⟩,w.alloc (.cells (List.replicate 24 (.int .u8 0)).toArray QQ),by kernel_rfl,?_⟩
 have hB:=Row.new w (List.replicate 24 (.int .u8 0)) QQ
 have b1:=Bel.alloc w (.cells (List.replicate 24 (.int .u8 0)).toArray QQ)
 have hlt:w.heap.size<=w.heap.size:=zP _
 generalize hBe:w.heap.size=B at hB hlt ⊢
 generalize w.alloc (.cells (List.replicate 24 (.int .u8 0)).toArray QQ)=w1 at hB b1 ⊢
 have hp1:Zn w1:=b1.cell hp
 refine zAQ hp1 ?_
 refine ⟨⟨some ⟨B,0,none⟩,3,24⟩,w1,by kernel_rfl,?_⟩
 refine zAW hB λw2 h2 g2=>?_
 refine ⟨⟨some ⟨B,0,none⟩,3,24⟩,w2,by kernel_rfl,?_⟩
 have hc:=run_convert_bytes_arg (P:=zA) w2 Zz zAv Tryd.underlying83 Tryd.underlying5 B 0 3 24 [49,48,53] rfl (λi hi=>by
  have h3:=h2.at
  match i,hi with
  |0,_=>have:=h3 0 (.int .u8 49) rfl;simpa [Addr.add] using this
  |1,_=>have:=h3 1 (.int .u8 48) rfl;simpa [Addr.add] using this
  |2,_=>have:=h3 2 (.int .u8 53) rfl;simpa [Addr.add] using this) zAS Tryd.underlying9
 exact ⟨_,w2,hc,H w2 (b1.grown g2 λq hq=>by cases hq;omega)⟩
theorem Zx (w:World) {k:ByteArray->World->Prop} (H:k (ByteArray.mk #[48]) w):Cl zA xd [.int .u64 0,.int .i64 10].toArray w (λe w'=>∃ r:ByteArray,e=.returned (.string r)/\k r w'):=by
 refine xe 0 10 w k ?_
 unfold yU
 refine xc 0 10 w _ ?_
 unfold yV
 refine ⟨λ_=>⟨λ_=>?_,λh=>absurd (by decide) h⟩,λh=>absurd rfl h⟩
 refine ⟨0,w,by kernel_rfl,?_⟩
 refine Yg 0 w _ ?_
 unfold QB
 refine ⟨λ_=>?_,λh=>absurd (by decide) h⟩
 exact ⟨ByteArray.mk #[48],w,by kernel_rfl,H⟩
theorem zAU {w:World} (hp:Zn w) (k:Bool->World->Prop) (H:∀ w',Bel w w'->k true w'):Cl zA QG [].toArray w (λe w'=>∃ r0:Bool,e=.returned (.bool r0)/\k r0 w'):=by
 refine Qz w k ?_
 unfold xh
 refine ZG (-5) w _ ?_
 unfold Qg
 refine ZH (-5) w _ ?_
 unfold Qe
 refine ⟨λ_=>?_,λh=>absurd (by decide) h⟩
 refine ⟨18446744073709551611,w,by kernel_rfl,5,w,by kernel_rfl,?_⟩
 refine ⟨5,w,by kernel_rfl,?_⟩
 refine ZU hp λw1 b1=>?_
 refine ⟨ByteArray.mk #[48,53],w1,by kernel_rfl,0,w1,by kernel_rfl,?_⟩
 refine Zx w1 ?_
 refine ⟨ByteArray.mk #[48,46],w1,by kernel_rfl,ByteArray.mk #[48,46,48,53],w1,by kernel_rfl,?_⟩
 refine ⟨λ_=>?_,λh=>absurd (by decide) h⟩
 refine ⟨ByteArray.mk #[45,48,46,48,53],w1,by kernel_rfl,?_⟩
 exact H w1 b1
end Go.Proofs.YtjlfegnhomgjhaaDoor.VG
