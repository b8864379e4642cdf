/- Texts by which the law's calls are walked (part 4): rules, printed conditions, contracts; no condition. -/
import Derived.TacticsIn
import Derived.TacticsInMore
import Derived.Deep.LoopGhost
import Derived.Sort.QuietThIn
import Derived.RangeFuncCalls
import Derived.RangeFuncNested
import Derived.RangeFuncLeaves
import Derived.WalkKit
import Derived.StillTail
import Derived.Test.YtealcoghiaeiiaaGreatProg
import Derived.KernelRfl
import Derived.Deep.WholeRow
import Derived.Laws.StructEq
import Derived.MapFrom
import Derived.Laws.CopyRow
import Derived.Test.YtealcoghiaeiiaaGreatPkTxnSerialC
open Go.Proofs.Tryz renaming prog → zA
open Go.IntKind renaming wrap → zC
open Go.Value renaming pointer → zB, int → zV, string → zZ, bool → xv
open Go.Instr renaming loadAt → zD, storeAt → zK, indexAt → zF, fieldAt → zN, alloc → zf, build → yr, buildSlice → ze
open Nat renaming le_refl → zU, le_trans → zn, lt_of_lt_of_le → yF
open List renaming length_append → zg
set_option linter.unusedVariables false
set_option linter.unusedSimpArgs false
namespace Go.VB
open Go.RowKit
def Row (w:World) (b:Nat) (cs:List Value) (t:TypeId):Prop:=w.heap[b]?=some (.cells cs.toArray t (0,0))
theorem Row.at {w:World} {b:Nat} {cs:List Value} {t:TypeId} (h:Row w b cs t):At w ⟨b,0,none⟩ cs:=At.blk h
theorem Row.bel {w w':World} {b:Nat} {cs:List Value} {t:TypeId} (h:Row w b cs t) (hb:Bel w w'):Row w' b cs t:=hb.blk h
theorem Row.grown {w w':World} {b:Nat} {cs:List Value} {t:TypeId} {row:Option Nat} (h:Row w b cs t) (hg:w.grownBy w' row) (hr:row≠some b):Row w' b cs t:=
 (hg.block b (Array.getElem?_eq_some_iff.1 h).1 (λe=>hr e.symm)).trans h
theorem Row.lt {w:World} {b:Nat} {cs:List Value} {t:TypeId} (h:Row w b cs t):b<w.heap.size:=(Array.getElem?_eq_some_iff.1 h).1
theorem Row.new (w:World) (cs:List Value) (t:TypeId):Row (w.alloc (.cells cs.toArray t)) w.heap.size cs t:=zKC w _
theorem Row.cell {w:World} {b:Nat} {v:Value} {t:TypeId} (h:Row w b [v] t):w.cell? ⟨b,0,none⟩=some v:=by
 have:=h.at 0 v rfl;simpa [Addr.add] using this
theorem zEX (w:World) (g:Nat) (c:Array Value):w.grownBy (w.setRow g c) (some g):=
 ⟨rfl,rfl,rfl,by simp [World.setRow],λk hk hne=>by
  have:g≠k:=λe=>hne (by rw [e])
  simp [World.setRow,Array.getElem?_modify,this]⟩
theorem zFb {w:World} {g:Nat} {c c':Array Value} {t:TypeId} (h:w.heap[g]?=some (.cells c t (0,0))):(w.setRow g c').heap[g]?=some (.cells c' t (0,0)):=by
 simp [World.setRow,Array.getElem?_modify,h]
section
variable {P:Program} {w:World}
theorem zDS {t n:Nat} (hs:∀ w,(sizeOf t).run P w=.ok n w) {b off:Nat} {cs vs:List Value} {e:TypeId} {v:Value} (h:Row w b cs e) (hv:v.cells.toList=vs) (hn:vs.length=n) (hl:off+vs.length<=cs.length) (h1:vs.all (·.oneCell')=true):
  (storeVar t ⟨b,off,none⟩ v).run P w=.ok () (w.setRow b (cs.take off++vs++cs.drop (off+vs.length)).toArray):=by
 have h2:=run_storeCells_at (P:=P) b off e vs 0 cs.toArray w h (by simpa using hl) (λx hx=>by rw [List.all_eq_true] at h1;exact h1 x hx)
 have hsz:v.cells.size=n:=by rw [← hn,← hv];simp
 simp only [storeVar,Sem.run_bind,hs w,Result.andThen_ok]
 rw [if_neg (by rw [hsz];simp)]
 simp only [hv]
 simpa using h2
theorem zIu {t:Nat} (hA:One P t) {b off:Nat} {cs:List Value} {e:TypeId} {v:Value} (h:Row w b cs e) (hv:v.cells.toList=[v]) (hl:off<cs.length) (h1:v.oneCell'=true) {k:World->Prop}
  (H:∀ w',Row w' b (cs.take off++[v]++cs.drop (off+1)) e->w.grownBy w' (some b)->k w'):opU P (zK t (.pointer (some ((⟨b,0,none⟩:Addr).add off))) v) w k:=by
 refine ⟨w.setRow b (cs.take off++[v]++cs.drop (off+1)).toArray,?_,H _ (zFb h) (zEX w b _)⟩
 have:=zDS hA.size (off:=off) h hv rfl (by simp;omega) (by simpa using h1)
 rw [add_plain']
 simpa [zK,Instr.sureAddr] using this
theorem zIZ {t:Nat} (hA:One P t) {b:Nat} {u:Value} {e:TypeId} {v:Value} (h:Row w b [u] e) (hv:v.cells.toList=[v]) (h1:v.oneCell'=true) {k:World->Prop}
  (H:∀ w',Row w' b [v] e->w.grownBy w' (some b)->k w'):opU P (zK t (.pointer (some ⟨b,0,none⟩)) v) w k:=by
 have:=zIu hA (off:=0) h hv (by simp) h1 H
 simpa [Addr.add] using this
theorem zI1 {t n:Nat} (hA:Agg P t n) {b:Nat} {cs cs':List Value} {e:TypeId} (h:Row w b cs e) (hn:cs.length=n) (hn':cs'.length=n) (h1:cs'.all (·.oneCell')=true) {k:World->Prop}
  (H:∀ w',Row w' b cs' e->w.grownBy w' (some b)->k w'):opU P (zK t (.pointer (some ⟨b,0,none⟩)) (.agg cs'.toArray)) w k:=by
 refine ⟨w.setRow b cs'.toArray,?_,H _ (zFb h) (zEX w b _)⟩
 have:=zDS hA.size (off:=0) (v:=.agg cs'.toArray) (vs:=cs') h (by simp [Value.cells]) hn' (by omega) h1
 have h2:cs.drop (0+cs'.length)=[]:=List.drop_of_length_le (by omega)
 rw [h2] at this
 simpa [zK,Instr.sureAddr] using this
theorem zSo {t:Nat} {v:Value} (hv:v.cells=#[v]) {k:Option Addr->World->Prop} (H:k (some ⟨w.heap.size,0,none⟩) (w.alloc (.cells [v].toArray t))):opE P zB (Instr.box t v) w k:=by
 refine ⟨_,w.alloc (.cells v.cells t),rfl,?_⟩
 rw [hv];exact H
theorem zIo {t:Nat} {z:List Value} (hz:∀ w,(zf t true (.tuple #[])).run P w=.ok (.pointer (some ⟨w.heap.size,0,none⟩)) (w.alloc (.cells z.toArray t))) {k:Option Addr->World->Prop} (H:k (some ⟨w.heap.size,0,none⟩) (w.alloc (.cells z.toArray t))):opE P zB (zf t true (.tuple #[])) w k:=⟨_,_,hz w,H⟩
theorem R.cell {τ:Type} {enc:τ->Value} {t:Nat} (hA:One P t) {b:Nat} {e:TypeId} {k:τ->Prop} (x:τ) (h:Row w b [enc x] e) (H:k x):opR P enc t (some ⟨b,0,none⟩) w k:=by
 refine ⟨x,_,rfl,?_,H⟩
 have:=zGN hA h.cell
 simpa [zD,Instr.sureAddr] using this
end
theorem OwnS.isRow {α:Type} {c:α->List Value} {n e base:Nat} {w:World} {s:Sl} {xs:List α} (h:OwnS c n e base w s xs) {k:Nat} (hk:(Sl.v s).ownBlock=some k):∃ cs t fr,w.heap[k]?=some (.cells cs t fr):=by
 rcases h.row.2 with ⟨h1,_⟩|⟨g,cap,cur,h1,_,hh,_⟩
 ·rw [h1] at hk;cases hk
 ·rw [h1] at hk
  simp [Value.ownBlock] at hk
  subst hk
  exact ⟨_,_,_,hh⟩
theorem KeepsFrom.row {B:Nat} {w w':World} {row:Option Nat} (hg:w.grownBy w' row) (hr:∀ r,row=some r->∃ cs t fr,w.heap[r]?=some (.cells cs t fr)):KeepsFrom B w w':=
 ⟨hg.size,λk o hB hk ho=>(hg.block k (Array.getElem?_eq_some_iff.1 hk).1 (λe=>by
  obtain ⟨cs,t,fr,h⟩:=hr k e.symm
  rw [hk] at h;cases h;simp [Obj.isCells] at ho)).trans hk⟩
theorem KeepsFrom.bel {B:Nat} {w w':World} (h:Bel w w'):KeepsFrom B w w':=KeepsFrom.row (zo h none) (λr e=>by cases e)
theorem Bel.in {n0:Nat} {w w':World} (h:Bel w w') (hn:n0<=w.heap.size):Below n0 w w':=h.mono hn
theorem Bw.row {n0:Nat} {w w':World} {row:Option Nat} (hg:w.grownBy w' row) (hn:n0<=w.heap.size) (hr:∀ r,row=some r->n0<=r):Below n0 w w':=(Below.refl n0 w).grown hg hn hr
theorem zKQ.later {α:Type} {P:Program} {v:Value} {encs:α->List Value} {Kp:World->World->Prop} {S Sp:List α->Prop} {Num:Nat} {w w':World} (h:zKQ P v encs Kp S Sp Num w) (hb:Bel w w'):zKQ P v encs Kp S Sp Num w':=by
 obtain ⟨gf,lb,rfl,he,hs⟩:=h
 exact ⟨gf,lb,rfl,he,λl J Jx W hW hJ hJx hY h0=>hs l J Jx W (hb.trans hW) hJ hJx hY h0⟩
theorem zGR.of {α:Type} {P:Program} {v:Value} {encs:α->List Value} {n0:Nat} {S Sp:List α->Prop} {Num:Nat} {I Ir:List α->World->Prop} {w:World} (hs:zKQ P v encs (Below n0) S Sp Num w) (hn:n0<=w.heap.size)
  (own:OwnFrom w.heap.size I) (ownr:OwnFrom w.heap.size Ir) (lo:∀ pre W,I pre W->w.heap.size<=W.heap.size) (start:I [] w):zGR P v encs (Below n0) S Sp Num I Ir w:=
 ⟨hs,λA B C h k=>h.trans k,λW l o o' h1 h2 h3 h4=>belowK_b hn W l o o' h1 h2 h3 h4,λpre W o hI=>(Below.refl n0 W).alloc (zn hn (lo pre W hI)) o,own,ownr,lo,start⟩
theorem Row.notwalk {w w':World} {b:Nat} {cs:List Value} {t:TypeId} {row:Option Nat} {B:Nat} (h:Row w b cs t) (hg:w.grownBy w' row) (hr:∀ r,row=some r->B<=r/\∃ o:Obj,w.heap[r]?=some o/\o.isCells=false):Row w' b cs t:=
 h.grown hg (λe=>by
  obtain ⟨_,o,ho,hc⟩:=hr b e
  unfold Row at h;rw [h] at ho;cases ho;simp [Obj.isCells] at hc)
theorem OwnS.notwalk {α:Type} {c:α->List Value} {n e base:Nat} {w w':World} {s:Sl} {xs:List α} {row:Option Nat} {B:Nat} (h:OwnS c n e base w s xs) (hg:w.grownBy w' row) (hr:∀ r,row=some r->B<=r/\∃ o:Obj,w.heap[r]?=some o/\o.isCells=false):OwnS c n e base w' s xs:=by
 refine h.kept hg ?_
 cases hk:(Sl.v s).ownBlock with
 |none=>exact .inl rfl
 |some k=>
  refine .inr λe=>?_
  obtain ⟨cs,t,fr,h1⟩:=h.isRow hk
  obtain ⟨_,o,ho,hc⟩:=hr k e.symm
  rw [h1] at ho;cases ho;simp [Obj.isCells] at hc
theorem Bel.notwalk {w0 w w':World} {row:Option Nat} {B:Nat} (h:Bel w0 w) (hB:w0.heap.size<=B) (hg:w.grownBy w' row) (hr:∀ r,row=some r->B<=r/\∃ o:Obj,w.heap[r]?=some o/\o.isCells=false):Bel w0 w':=
 h.grown hg (λk e=>zn hB (hr k e).1)
theorem zJb (w:World) (D:Nat):w.grownBy (w.putObj D (.deferred none)) (some D):=grownBy_putObj' w D _
end Go.VB
set_option linter.unusedVariables false
set_option linter.unusedSimpArgs false
namespace Go.VB
open Go.RowKit Go.VB.Srt
structure zGE {α:Type} (P:Program) (t e n:Nat) (c:α->List Value) (enc:α->Value):Prop where
 und:P.underlying t=some (.slice e)
 esz:∀ w,(sizeOf e).run P w=.ok n w
 load:∀ w a x,At w a (c x)->(zD e (.pointer (some a))).run P w=.ok (enc x) w
 cells:∀ x,(enc x).cells.toList=c x
 len:∀ x,(c x).length=n
 one:∀ x,(c x).all (·.oneCell')=true
 pos:0<n
theorem zNT {α:Type} {c:α->List Value} {n:Nat} (hc:∀ x,(c x).length=n) (x:α):∀ (xs:List α) (i:Nat),i<xs.length->(xs.set i x).flatMap c=(xs.flatMap c).take (i*n)++c x++(xs.flatMap c).drop (i*n+n)
 |[],i,h=>by simp at h
 |y::r,0,_=>by
  rw [List.set_cons_zero,List.flatMap_cons,List.flatMap_cons,Nat.zero_mul,List.take_zero,List.nil_append,Nat.zero_add,List.drop_append_of_le_length (by rw [hc];exact zU _),List.drop_of_length_le (by rw [hc];exact zU _),List.nil_append]
 |y::r,i+1,h=>by
  have ih:=zNT hc x r i (by simpa using h)
  rw [List.set_cons_succ,List.flatMap_cons,List.flatMap_cons,ih,List.take_append,List.drop_append,hc,List.take_of_length_le (l:=c y) (by rw [hc,Nat.add_mul];omega),List.drop_of_length_le (l:=c y) (by rw [hc,Nat.add_mul];omega),List.nil_append,
   show (i+1)*n - n=i*n by rw [Nat.add_mul];omega,show (i+1)*n+n - n=i*n+n by rw [Nat.add_mul];omega]
  simp [List.append_assoc]
section
variable {P:Program} {w:World} {α:Type} {c:α->List Value} {enc:α->Value} {n e t base:Nat} {s:Sl}
theorem OwnS.at {xs:List α} (hO:OwnS c n e base w s xs) (hpos:0<xs.length):∃ g cap cur,s=⟨some ⟨g,0,none⟩,xs.length,cap⟩/\w.heap[g]?=some (.cells cur e (0,0))/\xs.length<=cap/\cap<=maxLen/\cur.size=cap*n/\cur.toList.take (xs.length*n)=xs.flatMap c/\base<=g:=by
 obtain ⟨hl,hs,hr⟩:=hO
 obtain ⟨a,len,cap⟩:=s
 simp only at hl
 rcases hr.2 with ⟨h1,h2⟩|⟨g,cap',cur,h1,hb,hh,hcap,hm,hsz,htk⟩
 ·simp only at h2;omega
 ·injection h1 with h3 h4 h5
  subst h3;subst h5
  exact ⟨g,cap,cur,by rw [hl],hh,by simpa [hl] using hcap,hm,hsz,by rw [hl];exact htk,hb⟩
theorem zKg (E:zGE P t e n c enc) {xs:List α} (hO:OwnS c n e base w s xs) {i:Nat} (hi:i<xs.length) (x:α) {ad:Addr} (had:s.a=some ad):
  ∃ w',(zK e (.pointer (some (ad.add (i*n)))) (enc x)).run P w=.ok () w'/\OwnS c n e base w' s (xs.set i x)/\w.grownBy w' (Sl.v s).ownBlock:=by
 obtain ⟨g,cap,cur,rfl,hh,hcap,hm,hsz,htk,hb⟩:=hO.at (by omega)
 obtain rfl:(⟨g,0,none⟩:Addr)=ad:=Option.some.inj had
 have hrow:Row w g cur.toList e:=by unfold Row;simpa using hh
 have hin:i*n+n<=xs.length*n:=by
  have:(i+1)*n<=xs.length*n:=Nat.mul_le_mul_right _ (by omega)
  rw [Nat.add_mul] at this;omega
 have hC:xs.length*n<=cur.toList.length:=by
  have h0:cur.toList.length=cap*n:=by simpa using hsz
  rw [h0];exact Nat.mul_le_mul_right _ hcap
 have hst:=zDS E.esz (off:=i*n) (v:=enc x) hrow (E.cells x) (E.len x) (by rw [E.len];omega) (E.one x)
 refine ⟨w.setRow g (cur.toList.take (i*n)++c x++cur.toList.drop (i*n+(c x).length)).toArray,?_,⟨by simp,hO.small,?_⟩,zEX w g _⟩
 ·rw [add_plain']
  simpa [zK,Instr.sureAddr] using hst
 ·refine ⟨by rw [zFC E.len,List.length_set],.inr ⟨g,cap,_,rfl,hb,zFb hh,hcap,hm,?_,?_⟩⟩
  ·simp only [List.size_toArray,zg,List.length_take,List.length_drop,E.len]
   have h0:cur.toList.length=cap*n:=by simpa using hsz
   omega
  ·show ((cur.toList.take (i*n)++c x++cur.toList.drop (i*n+(c x).length))).take (xs.length*n)=_
   have hA:(cur.toList.take (i*n)++c x).length=i*n+n:=by rw [zg,List.length_take,E.len];omega
   rw [zNT E.len x xs i hi,← htk,List.take_append,List.take_of_length_le (by rw [hA];omega),hA,E.len,List.take_take,Nat.min_eq_left (by omega),List.drop_take]
theorem Y2 (E:zGE P t e n c enc) {f:Nat->α} {L:Nat} (hO:OwnS c n e base w s (tab f L)) {i j:Int} {i' j':Nat} (hi:i=(i':Int)) (hj:j=(j':Int)) (hi':i'<L) (hj':j'<L) {K:World->Prop}
  (H:∀ w',OwnS c n e base w' s (tab (swp f i' j') L)->w.grownBy w' (Sl.v s).ownBlock->K w'):
  yM w (λw=>opP P zB (zF t (Sl.v s) (.int .i64 j)) (λp=>opP P zB (zF t (Sl.v s) (.int .i64 i)) (λq=>
   (opE P enc (zD e (.pointer p)) w (λx w=>opE P enc (zD e (.pointer q)) w (λy w=>opP P zB (zF t (Sl.v s) (.int .i64 i)) (λa=>opU P (zK e (.pointer a) (enc x)) w (λw=>opP P zB (zF t (Sl.v s) (.int .i64 j)) (λb=>opU P (zK e (.pointer b) (enc y)) w (λw=>K w)))))))/\
   (opE P enc (zD e (.pointer q)) w (λy w=>opE P enc (zD e (.pointer p)) w (λx w=>opP P zB (zF t (Sl.v s) (.int .i64 i)) (λa=>opU P (zK e (.pointer a) (enc x)) w (λw=>opP P zB (zF t (Sl.v s) (.int .i64 j)) (λb=>opU P (zK e (.pointer b) (enc y)) w (λw=>K w)))))))))):=by
 subst hi;subst hj
 intro w1 hb1
 have hO1:=hO.bel hb1
 have hL:(tab f L).length=L:=xP f L
 have hR:=hO1.rd E.len
 obtain ⟨adj,ha,hAj⟩:=hR.cells j' (f j') (zFK f hj')
 obtain ⟨adi,ha',hAi⟩:=hR.cells i' (f i') (zFK f hi')
 obtain rfl:adj=adi:=Option.some.inj (ha.symm.trans ha')
 have hlen:=hR.len
 have idx:∀ (k:Nat),k<L->∀ w,(zF t (Sl.v s) (.int .i64 (k:Int))).run P w=.ok (.pointer (some (adj.add (k*n)))) w:=λk hk w=>by
  have:=zJB (k:=.i64) E.und E.esz (w:=w) (s:=s) (i:=(k:Int)) ha (by omega) (by omega)
  simpa using this
 have tail:opP P zB (zF t (Sl.v s) (.int .i64 (i':Int))) (λa=>opU P (zK e (.pointer a) (enc (f j'))) w1 (λw=>opP P zB (zF t (Sl.v s) (.int .i64 (j':Int))) (λb=>opU P (zK e (.pointer b) (enc (f i'))) w (λw=>K w)))):=by
  obtain ⟨w2,hs2,hO2,hg2⟩:=zKg E hO1 (i:=i') (by omega) (f j') ha
  obtain ⟨w3,hs3,hO3,hg3⟩:=zKg E hO2 (i:=j') (by rw [List.length_set];omega) (f i') ha
  refine ⟨_,idx i' hi',w2,hs2,_,idx j' hj',w3,hs3,H w3 ?_ (zS (zS (zo hb1 _) hg2) hg3)⟩
  rw [zO2 f hi' hj'] at hO3;exact hO3
 refine ⟨_,idx j' hj',_,idx i' hi',⟨_,w1,E.load _ _ _ hAj,_,w1,E.load _ _ _ hAi,tail⟩,⟨_,w1,E.load _ _ _ hAi,_,w1,E.load _ _ _ hAj,tail⟩⟩
theorem yJ (E:zGE P t e n c enc) {f:Nat->α} {L:Nat} (hO:OwnS c n e base w s (tab f L)) {i:Int} {i':Nat} (hi:i=(i':Int)) (hi':i'<L) {k:α->Prop} (H:k (f i')):
  opB P zB (zF t (Sl.v s) (.int .i64 i)) w (λp=>opB P enc (zD e (.pointer p)) w k):=by
 subst hi
 refine zIF (hO.rd E.len) E.und E.esz (by omega) (x:=f i') (by simpa using zFK f hi') λad hA=>?_
 exact ⟨_,λw' hb=>E.load _ _ _ (hA.bel hb),H⟩
theorem zGE.agg {n:Nat} {α:Type} {c:α->List Value} (hA:Agg P e n) (hu:P.underlying t=some (.slice e)) (hc:∀ x,(c x).length=n) (h1:∀ x,(c x).all (·.oneCell')=true) (hn:0<n):zGE P t e n c (λx=>.agg (c x).toArray):=
 ⟨hu,hA.size,λw a x h=>zG5 hA h (hc x),λx=>by simp [Value.cells],hc,h1,hn⟩
theorem zE9 {t:TypeId} {a b:Int} (hb:b≠0) (h0 : -9223372036854775808<=a.tdiv b) (h1:a.tdiv b<=9223372036854775807) {k:Int->World->Prop} (H:k (a.tdiv b) w):opE P (zV .i64) (binOp .quo t (.int .i64 a) (.int .i64 b)) w k:=by
 refine ⟨a.tdiv b,w,?_,H⟩
 rw [binOp_quo]
 simp [Op.intDiv,hb]
 exact wr64 h0 h1
end
end Go.VB
set_option linter.unusedVariables false
namespace Go.Proofs.YtealcoghiaeiiaaGreat.VG
open Go.VB Go.VB.Srt Go.Proofs
namespace SoCmpFunc_api_Pair
theorem zq:zGE zA YK zAG 2 zM.cells zM.v:=zGE.agg YA YR (λ_=>rfl) (λ_=>rfl) (by decide)
abbrev Ow (base:Nat) (w:World) (s:Sl) (l:List zM):Prop:=OwnS zM.cells 2 zAG base w s l
def Cmps (cmp:Value) (lt:zM->zM->Bool):Prop:=∀ w x y,∃ r:Int,Zs zA cmp [zM.v x,zM.v y] w (.int .i64 r)/\(lt x y=true↔r<0)
theorem ZR {lt:zM->zM->Bool} {x y:zM} {r:Int} (h:lt x y=true↔r<0):decide (r<0)=lt x y:=by
 cases hl:lt x y with
 |true=>rw [decide_eq_true (h.1 hl)]
 |false=>rw [decide_eq_false (λe=>by rw [h.2 e] at hl;cases hl)]
section
variable {cmp:Value} {lt:zM->zM->Bool} (O:SWO lt) (hcmp:Cmps cmp lt) {base:Nat} {w:World} {s:Sl} {L:Nat} {f:Nat->zM}
include O hcmp
theorem zCl (hO:Ow base w s (tab f L)) {a b:Nat} (hA:a<=b) (hb:b<=L) {k:World->Prop}
  (H:∀ g w',Seg a b f g->yL lt a b g->Ow base w' s (tab g L)->w.grownBy w' (Sl.v s).ownBlock->k w'):
  Cl zA zD4 [Sl.v s,.int .i64 (a:Int),.int .i64 (b:Int),cmp].toArray w (λe w'=>e=.returned (.tuple [].toArray)/\k w'):=by
 refine zD0 s a b cmp w k ?_
 have hlen:=hO.len;have hsm:=hO.small
 rw [xP] at hlen
 by_cases hab:b<=a
 ·unfold ZC
  refine ⟨λi w1=>i=(a:Int)+1/\w1=w,λ_ _=>0,⟨wr64 (by omega) (by omega),rfl⟩,?_⟩
  rintro i w1 ⟨rfl,rfl⟩
  unfold xk
  exact ⟨λhc=>by omega,λ_=>H f w1 (.refl f) (yL.small (by omega)) hO (World.grownBy.refl _ _)⟩
 unfold ZC
 refine ⟨λx w1=>∃ (i:Nat) (g:Nat->zM),x=(i:Int)/\a+1<=i/\i<=b/\Seg a b f g/\yL lt a i g/\Ow base w1 s (tab g L)/\w.grownBy w1 (Sl.v s).ownBlock,λx _=>(b - x).toNat,?_,?_⟩
 ·exact ⟨a+1,f,by rw [wr64 (by omega) (by omega)];omega,by omega,by omega,.refl f,yL.small (by omega),hO,World.grownBy.refl _ _⟩
 rintro x w1 ⟨i,g,rfl,hi1,hi2,hsg,hso,hO1,hg1⟩
 unfold xk
 refine ⟨λhc=>?_,λhc=>?_⟩
 rotate_left
 ·obtain rfl:i=b:=by omega
  exact H g w1 hsg hso hO1 hg1
 refine ⟨λy w2=>∃ (j:Nat) (g:Nat->zM),y=(j:Int)/\a<=j/\j<=i/\Seg a b f g/\Hole lt a i j g/\Ow base w2 s (tab g L)/\w.grownBy w2 (Sl.v s).ownBlock,λy _=>y.toNat,?_,?_⟩
 ·exact ⟨i,g,rfl,by omega,by omega,hsg,Hole.start hso,hO1,hg1⟩
 rintro y w2 ⟨j,g,rfl,hj1,hj2,hsg,hho,hO2,hg2⟩
 unfold YX
 have fin:∀ w3,Bel w2 w3->(j<=a∨Le lt (g (j - 1)) (g j))->(λ(x8':Int) (w':World)=>(∃ (i:Nat) (g:Nat->zM),x8'=(i:Int)/\a+1<=i/\i<=b/\Seg a b f g/\yL lt a i g/\Ow base w' s (tab g L)/\w.grownBy w' (Sl.v s).ownBlock)/\(b - x8').toNat<(b - (i:Int)).toNat) (zC .i64 ((i:Int)+1)) w3:=by
  intro w3 hb3 hd
  rw [wr64 (by omega) (by omega)]
  exact ⟨⟨i+1,g,by omega,by omega,by omega,hsg,hho.done O hd,hO2.bel hb3,zS hg2 (zo hb3 _)⟩,by omega⟩
 refine ⟨λhc=>?_,λhc=>?_⟩
 ·refine yJ zq hO2 rfl (by omega) ?_
  refine yJ zq hO2 (i':=j - 1) (by rw [wr64 (by omega) (by omega)];omega) (by omega) ?_
  obtain ⟨r,hr,hl⟩:=hcmp w2 (g j) (g (j - 1))
  refine ⟨r,hr,?_⟩
  rw [ZR hl]
  unfold yp
  intro w3 hb3
  refine ⟨λhlt=>?_,λhlt=>fin w3 hb3 (.inr hlt)⟩
  refine Y2 zq (hO2.bel hb3) (i':=j) (j':=j - 1) rfl (by rw [wr64 (by omega) (by omega)];omega) (by omega) (by omega) λw4 hO4 hg4=>?_
  unfold QL
  rw [wr64 (by omega) (by omega)]
  exact ⟨⟨j - 1,_,by omega,by omega,by omega,.step j (j - 1) (by omega) (by omega) (by omega) (by omega) hsg,hho.step O (by omega) hj2 hlt,hO4,zS (zS hg2 (zo hb3 _)) hg4⟩,by dsimp only;omega⟩
 ·unfold yp
  intro w3 hb3
  exact ⟨λh=>(nomatch h),λ_=>fin w3 hb3 (.inl (by omega))⟩
end
end SoCmpFunc_api_Pair
end Go.Proofs.YtealcoghiaeiiaaGreat.VG
set_option linter.unusedVariables false
namespace Go.Proofs.YtealcoghiaeiiaaGreat.VG
open Go.VB Go.VB.Srt Go.Proofs
namespace SoCmpFunc_api_Pair
section
variable {cmp:Value} {lt:zM->zM->Bool} (O:SWO lt) (hcmp:Cmps cmp lt) {base:Nat} {w:World} {s:Sl} {L:Nat} {f:Nat->zM}
include O hcmp
theorem zHQ (hO:Ow base w s (tab f L)) {lo hi o:Nat} (hb:o+hi<=L) (hlo:lo<=hi) (hp:Hp lt o (lo+1) hi f) {k:World->Prop}
  (H:∀ g w',Seg (o+lo) (o+hi) f g->Hp lt o lo hi g->Ow base w' s (tab g L)->w.grownBy w' (Sl.v s).ownBlock->k w'):
  Cl zA zFS [Sl.v s,.int .i64 (lo:Int),.int .i64 (hi:Int),.int .i64 (o:Int),cmp].toArray w (λe w'=>e=.returned (.tuple [].toArray)/\k w'):=by
 refine zFR s lo hi o cmp w k ?_
 have hlen:=hO.len;have hsm:=hO.small
 rw [xP] at hlen
 unfold zA9
 refine ⟨λx w1=>∃ (r:Nat) (g:Nat->zM),x=(r:Int)/\lo<=r/\r<=hi/\Seg (o+lo) (o+hi) f g/\HpX lt o lo hi r g/\Ow base w1 s (tab g L)/\w.grownBy w1 (Sl.v s).ownBlock,λx _=>(hi - x).toNat,?_,?_⟩
 ·exact ⟨lo,f,rfl,zU _,hlo,.refl f,HpX.start hp,hO,World.grownBy.refl _ _⟩
 rintro x w1 ⟨r,g,rfl,hr1,hr2,hsg,hx,hO1,hg1⟩
 unfold ZH
 rw [wr64 (n:=2*(r:Int)) (by omega) (by omega),wr64 (n:=2*(r:Int)+1) (by omega) (by omega)]
 refine ⟨λhc=>H g w1 hsg (hx.done O λc h1 h2=>by unfold zBS at h1;omega) hO1 hg1,λhc=>?_⟩
 have j2:∀ (c:Nat) (w2:World),Bel w1 w2->zBS c r->c<hi->(∀ d,zBS d r->d<hi->Le lt (g (o+d)) (g (o+c)))->
   xy s o cmp k r (λx10' w'=>(∃ (r:Nat) (g:Nat->zM),x10'=(r:Int)/\lo<=r/\r<=hi/\Seg (o+lo) (o+hi) f g/\HpX lt o lo hi r g/\Ow base w' s (tab g L)/\w.grownBy w' (Sl.v s).ownBlock)/\(hi - x10').toNat<(hi - (r:Int)).toNat) c w2:=by
  intro c w2 hb2 hcr hch hmax
  have hrc:r<c:=by unfold zBS at hcr;omega
  have hO2:=hO1.bel hb2
  unfold xy
  rw [wr64 (n:=(o:Int)+r) (by omega) (by omega),wr64 (n:=(o:Int)+c) (by omega) (by omega)]
  refine yJ zq hO2 (i':=o+r) (by omega) (by omega) ?_
  refine yJ zq hO2 (i':=o+c) (by omega) (by omega) ?_
  obtain ⟨q,hq,hl⟩:=hcmp w2 (g (o+r)) (g (o+c))
  refine ⟨q,hq,?_⟩
  rw [ZR hl]
  intro w3 hb3
  refine ⟨λhn=>?_,λhn=>?_⟩
  ·have hn':lt (g (o+r)) (g (o+c))=false:=by simpa using hn
   exact H g w3 hsg (hx.done O λd h1 h2=>O.trans (hmax d h1 h2) hn') (hO2.bel hb3) (zS (zS hg1 (zo hb2 _)) (zo hb3 _))
  ·have hn':lt (g (o+r)) (g (o+c))=true:=by simpa using hn
   refine Y2 zq (hO2.bel hb3) (i':=o+r) (j':=o+c) (by omega) (by omega) (by omega) (by omega) λw4 hO4 hg4=>?_
   unfold YQ
   exact ⟨⟨c,_,rfl,by omega,by omega,.step (o+r) (o+c) (by omega) (by omega) (by omega) (by omega) hsg,hx.step O hr1 hcr hch hmax hn',hO4,zS (zS (zS hg1 (zo hb2 _)) (zo hb3 _)) hg4⟩,by omega⟩
 rw [wr64 (n:=2*(r:Int)+1+1) (by omega) (by omega),wr64 (n:=(o:Int)+(2*r+1)) (by omega) (by omega)]
 refine ⟨λhc2=>?_,λhc2=>?_⟩
 ·rw [wr64 (n:=(o:Int)+(2*r+1)+1) (by omega) (by omega)]
  refine yJ zq hO1 (i':=o+(2*r+1)) (by omega) (by omega) ?_
  refine yJ zq hO1 (i':=o+(2*r+2)) (by omega) (by omega) ?_
  obtain ⟨q,hq,hl⟩:=hcmp w1 (g (o+(2*r+1))) (g (o+(2*r+2)))
  refine ⟨q,hq,?_⟩
  rw [ZR hl]
  unfold QB
  rw [wr64 (n:=2*(r:Int)) (by omega) (by omega),wr64 (n:=2*(r:Int)+1) (by omega) (by omega),wr64 (n:=2*(r:Int)+1+1) (by omega) (by omega)]
  intro w2 hb2
  refine ⟨λhn=>?_,λhn=>?_⟩
  ·have:=j2 (2*r+2) w2 hb2 (.inr rfl) (by omega) λd hd hdh=>by
    rcases hd with rfl|rfl
    ·exact O.of_lt hn
    ·exact O.refl _
   rw [show ((2*r+2:Nat):Int)=2*(r:Int)+1+1 by omega] at this
   exact this
  ·have:=j2 (2*r+1) w2 hb2 (.inl rfl) (by omega) λd hd hdh=>by
    rcases hd with rfl|rfl
    ·exact O.refl _
    ·exact hn
   rw [show ((2*r+1:Nat):Int)=2*(r:Int)+1 by omega] at this
   exact this
 ·unfold QB
  rw [wr64 (n:=2*(r:Int)) (by omega) (by omega),wr64 (n:=2*(r:Int)+1) (by omega) (by omega)]
  intro w2 hb2
  refine ⟨λh=>(nomatch h),λ_=>?_⟩
  have:=j2 (2*r+1) w2 hb2 (.inl rfl) (by omega) λd hd hdh=>by
    rcases hd with rfl|rfl
    ·exact O.refl _
    ·omega
  rw [show ((2*r+1:Nat):Int)=2*(r:Int)+1 by omega] at this
  exact this
theorem zKK (hO:Ow base w s (tab f L)) {a b:Nat} (hA:a<=b) (hb:b<=L) {k:World->Prop}
  (H:∀ g w',Seg a b f g->yL lt a b g->Ow base w' s (tab g L)->w.grownBy w' (Sl.v s).ownBlock->k w'):
  Cl zA zFM [Sl.v s,.int .i64 (a:Int),.int .i64 (b:Int),cmp].toArray w (λe w'=>e=.returned (.tuple [].toArray)/\k w'):=by
 refine zFN s a b cmp w k ?_
 have hlen:=hO.len;have hsm:=hO.small
 rw [xP] at hlen
 unfold zBA
 rw [wr64 (n:=(b:Int) - a) (by omega) (by omega),wr64 (n:=(b:Int) - a - 1) (by omega) (by omega)]
 have hq:∃ q:Nat,((b:Int) - a - 1).tdiv 2=(q:Int)/\b - a<=2*q+2/\q<=b - a:=by
  by_cases h0:a=b
  ·subst h0;exact ⟨0,by rw [show (a:Int) - a - 1 = -1 by omega];rfl,by omega,by omega⟩
  ·refine ⟨(b - a - 1) / 2,?_,by omega,by omega⟩
   rw [Int.tdiv_eq_ediv_of_nonneg (by omega)];omega
 obtain ⟨q,hq1,hq2,hq3⟩:=hq
 refine zE9 (by decide) (by rw [hq1];omega) (by rw [hq1];omega) ?_
 rw [hq1]
 obtain ⟨n,rfl⟩:∃ n,b=a+n:=⟨b - a,by omega⟩
 refine ⟨λx w1=>∃ (i:Nat) (g:Nat->zM),x=(i:Int) - 1/\i<=n+1/\Seg a (a+n) f g/\Hp lt a i n g/\Ow base w1 s (tab g L)/\w.grownBy w1 (Sl.v s).ownBlock,λx _=>(x+1).toNat,?_,?_⟩
 ·exact ⟨q+1,f,by omega,by omega,.refl f,λi c h1 h2 h3=>by unfold zBS at h2;omega,hO,World.grownBy.refl _ _⟩
 rintro x w1 ⟨i,g,rfl,hi,hsg,hp,hO1,hg1⟩
 unfold ZG
 rw [wr64 (n:=((a+n:Nat):Int) - a) (by omega) (by omega)]
 refine ⟨λhc=>?_,λhc=>?_⟩
 ·obtain ⟨m,rfl⟩:∃ m,i=m+1:=⟨i - 1,by omega⟩
  rw [show ((m+1:Nat):Int) - 1=(m:Int) by omega,show ((a+n:Nat):Int) - a=(n:Int) by omega]
  refine zHQ O hcmp hO1 (lo:=m) (hi:=n) (o:=a) hb (by omega) hp λh w2 hsg2 hp2 hO2 hg2=>?_
  rw [wr64 (by omega) (by omega)]
  exact ⟨⟨m,h,rfl,by omega,hsg.trans (hsg2.mono (by omega) (zU _)),hp2,hO2,zS hg1 hg2⟩,by dsimp only;omega⟩
 ·obtain rfl:i=0:=by omega
  rw [wr64 (n:=((a+n:Nat):Int) - a - 1) (by omega) (by omega)]
  refine ⟨λx w2=>∃ (i:Nat) (g:Nat->zM),x=(i:Int) - 1/\i<=n/\Seg a (a+n) f g/\HS lt a (a+n) i g/\Ow base w2 s (tab g L)/\w.grownBy w2 (Sl.v s).ownBlock,λx _=>(x+1).toNat,?_,?_⟩
  ·exact ⟨n,g,by omega,zU _,hsg,⟨hp,λi j h1 h2 h3=>by omega,λk q h1 h2 h3 h4=>by omega⟩,hO1,hg1⟩
  rintro x w2 ⟨i,g,rfl,hi,hsg,hs,hO2,hg2⟩
  unfold ZF
  refine ⟨λhc=>?_,λhc=>?_⟩
  ·obtain ⟨m,rfl⟩:∃ m,i=m+1:=⟨i - 1,by omega⟩
   rw [show ((m+1:Nat):Int) - 1=(m:Int) by omega,wr64 (n:=(a:Int)+m) (by omega) (by omega)]
   refine Y2 zq hO2 (i':=a) (j':=a+m) rfl (by omega) (by omega) (by omega) λw3 hO3 hg3=>?_
   unfold YT
   refine zHQ O hcmp hO3 (lo:=0) (hi:=m) (o:=a) (by omega) (by omega) (λi c h1 h2 h3=>?_) λh w4 hsg4 hp4 hO4 hg4=>?_
   ·rw [zDM g (by unfold zBS at h2;omega) (by unfold zBS at h2;omega),zDM g (by omega) (by unfold zBS at h2;omega)]
    exact hs.hp i c (by omega) h2 (by omega)
   ·rw [wr64 (by omega) (by omega)]
    rw [Nat.add_zero] at hsg4
    exact ⟨⟨m,h,rfl,by omega,(hsg.trans (Seg.one g (by omega) (by omega) (by omega) (by omega))).trans (hsg4.mono (zU _) (by omega)),hs.step O (by omega) hsg4 hp4,hO4,zS (zS hg2 hg3) hg4⟩,by dsimp only;omega⟩
  ·obtain rfl:i=0:=by omega
   exact H g w2 hsg hs.so hO2 hg2
end
theorem zHD {cmp:Value} {base:Nat} {w:World} {s:Sl} {L:Nat} {f:Nat->zM} (hO:Ow base w s (tab f L)) {a b:Nat} (hA:a<=b) (hb:b<=L) {k:World->Prop}
  (H:∀ g w',Seg a b f g->Ow base w' s (tab g L)->w.grownBy w' (Sl.v s).ownBlock->k w'):
  Cl zA zEF [Sl.v s,.int .i64 (a:Int),.int .i64 (b:Int),cmp].toArray w (λe w'=>e=.returned (.tuple [].toArray)/\k w'):=by
 refine zEO s a b cmp w k ?_
 have hlen:=hO.len;have hsm:=hO.small
 rw [xP] at hlen
 unfold zAQ
 refine ⟨λx y w1=>∃ (i:Nat) (g:Nat->zM),x=(i:Int)/\a<=i/\i<=b /\ -1<=y/\y<b/\Seg a b f g/\Ow base w1 s (tab g L)/\w.grownBy w1 (Sl.v s).ownBlock,λx y _=>(y - x).toNat,?_,?_⟩
 ·rw [wr64 (by omega) (by omega)]
  exact ⟨a,f,rfl,zU _,hA,by omega,by omega,.refl f,hO,World.grownBy.refl _ _⟩
 rintro x y w1 ⟨i,g,rfl,hi,hib,hy1,hy2,hsg,hO1,hg1⟩
 unfold Yn
 refine ⟨λhc=>?_,λhc=>H g w1 hsg hO1 hg1⟩
 refine Y2 zq hO1 (i':=i) (j':=y.toNat) rfl (by omega) (by omega) (by omega) λw3 hO3 hg3=>?_
 unfold QV
 rw [wr64 (n:=(i:Int)+1) (by omega) (by omega),wr64 (n:=y - 1) (by omega) (by omega)]
 exact ⟨⟨i+1,_,by omega,by omega,by omega,by omega,by omega,.step i y.toNat (by omega) (by omega) (by omega) (by omega) hsg,hO3,zS hg1 hg3⟩,by dsimp only;omega⟩
end SoCmpFunc_api_Pair
end Go.Proofs.YtealcoghiaeiiaaGreat.VG
set_option linter.unusedVariables false
namespace Go.Proofs.YtealcoghiaeiiaaGreat.VG
open Go.VB Go.VB.Srt Go.Proofs
namespace SoCmpFunc_api_Pair
section
variable {cmp:Value} {lt:zM->zM->Bool} (hcmp:Cmps cmp lt) {base:Nat} {w:World} {s:Sl} {L:Nat} {f:Nat->zM}
include hcmp
theorem zC5 (hO:Ow base w s (tab f L)) {B:Nat} {v:Int} (hB:Row w B [.int .i64 v] Zr) {a b:Nat} (ha:a<L) (hb:b<L) {k:Int->Int->World->Prop}
  (H:∀ (x y:Nat) w' v',(x=a∨x=b)->(y=a∨y=b)->Row w' B [.int .i64 v'] Zr->w.grownBy w' (some B)->k x y w'):
  Cl zA zF3 [Sl.v s,.int .i64 (a:Int),.int .i64 (b:Int),.pointer (some ⟨B,0,none⟩),cmp].toArray w (λe w'=>∃ (r0 r1:Int),e=.returned (.tuple [.int .i64 r0,.int .i64 r1].toArray)/\k r0 r1 w'):=by
 refine zFv s a b (some ⟨B,0,none⟩) cmp w k ?_
 unfold zBb
 refine yJ zq hO (i':=b) rfl hb ?_
 refine yJ zq hO (i':=a) rfl ha ?_
 obtain ⟨q,hq,hl⟩:=hcmp w (f b) (f a)
 refine ⟨q,hq,?_⟩
 intro w1 hb1
 have hB1:=hB.bel hb1
 refine ⟨λ_=>⟨by trivial,?_⟩,λ_=>H a b w1 v (.inl rfl) (.inr rfl) hB1 (zo hb1 _)⟩
 refine zBX zAM v hB1.cell ?_
 refine ⟨by trivial,?_⟩
 refine zIZ zAM hB1 rfl rfl λw2 hB2 hg2=>?_
 exact H b a w2 _ (.inr rfl) (.inl rfl) hB2 (zS (zo hb1 _) hg2)
theorem zFf (hO:Ow base w s (tab f L)) {B:Nat} {v:Int} (hB:Row w B [.int .i64 v] Zr) (hne:(Sl.v s).ownBlock≠some B) {a b c:Nat} (ha:a<L) (hb:b<L) (hc:c<L) {k:Int->World->Prop}
  (H:∀ (x:Nat) w' v',(x=a∨x=b∨x=c)->Row w' B [.int .i64 v'] Zr->w.grownBy w' (some B)->k x w'):
  Cl zA zF1 [Sl.v s,.int .i64 (a:Int),.int .i64 (b:Int),.int .i64 (c:Int),.pointer (some ⟨B,0,none⟩),cmp].toArray w (λe w'=>∃ r0:Int,e=.returned (.int .i64 r0)/\k r0 w'):=by
 refine zFx s a b c (some ⟨B,0,none⟩) cmp w k ?_
 unfold zBZ
 have kept:∀ {w w'},Ow base w s (tab f L)->w.grownBy w' (some B)->Ow base w' s (tab f L):=λh hg=>h.kept hg (by
  cases hk:(Sl.v s).ownBlock with
  |none=>exact .inl rfl
  |some q=>exact .inr (by rw [← hk];exact hne))
 refine zC5 hcmp hO hB ha hb λx y w1 v1 hx hy hB1 hg1=>?_
 have hO1:=kept hO hg1
 refine zC5 hcmp hO1 hB1 (a:=y) (b:=c) (by omega) hc λx2 y2 w2 v2 hx2 hy2 hB2 hg2=>?_
 have hO2:=kept hO1 hg2
 refine zC5 hcmp hO2 hB2 (a:=x) (b:=x2) (by omega) (by omega) λx3 y3 w3 v3 hx3 hy3 hB3 hg3=>?_
 exact H y3 w3 v3 (by omega) hB3 (zS (zS hg1 hg2) hg3)
theorem zBJ (hO:Ow base w s (tab f L)) {B:Nat} {v:Int} (hB:Row w B [.int .i64 v] Zr) (hne:(Sl.v s).ownBlock≠some B) {a:Nat} (h0:1<=a) (ha:a+1<L) (hL:L<=140737488355328) {k:Int->World->Prop}
  (H:∀ (x:Nat) w' v',a - 1<=x->x<=a+1->Row w' B [.int .i64 v'] Zr->w.grownBy w' (some B)->k x w'):
  Cl zA zDo [Sl.v s,.int .i64 (a:Int),.pointer (some ⟨B,0,none⟩),cmp].toArray w (λe w'=>∃ r0:Int,e=.returned (.int .i64 r0)/\k r0 w'):=by
 refine zDt s a (some ⟨B,0,none⟩) cmp w k ?_
 unfold Zw
 rw [wr64 (n:=(a:Int) - 1) (by omega) (by omega),wr64 (n:=(a:Int)+1) (by omega) (by omega),show (a:Int) - 1=((a - 1:Nat):Int) by omega,show (a:Int)+1=((a+1:Nat):Int) by omega]
 exact zFf hcmp hO hB hne (a:=a - 1) (b:=a) (c:=a+1) (by omega) (by omega) ha λx w' v' hx h1 h2=>H x w' v' (by omega) (by omega) h1 h2
theorem zIY (hO:Ow base w s (tab f L)) {a b:Nat} (hA:a<b) (hb:b<=L) {k:Int->Int->World->Prop}
  (H:∀ (x:Nat) (y:Int) w',a<=x->x<b->Bel w w'->k x y w'):
  Cl zA zEm [Sl.v s,.int .i64 (a:Int),.int .i64 (b:Int),cmp].toArray w (λe w'=>∃ (r0 r1:Int),e=.returned (.tuple [.int .i64 r0,.int .i64 r1].toArray)/\k r0 r1 w'):=by
 refine zEd s a b cmp w k ?_
 have hlen:=hO.len;have hsm:=hO.small
 rw [xP] at hlen
 unfold zAX
 refine zIo zMQ ?_
 have hB:=Row.new w zFE Zr
 have hb1:Bel w (w.alloc (.cells zFE.toArray Zr)):=Bel.alloc _ _
 have hO1:=hO.bel hb1
 have hne:(Sl.v s).ownBlock≠some w.heap.size:=λe=>by have:=(hO.row.lt _ e).2;omega
 have hw:w.heap.size<=w.heap.size:=zU _
 generalize hBd:w.heap.size=B at hB hne ⊢
 generalize (w.alloc (.cells zFE.toArray Zr))=w1 at hB hb1 hO1 ⊢
 obtain ⟨n,rfl⟩:∃ n,b=a+n:=⟨b - a,by omega⟩
 rw [wr64 (n:=((a+n:Nat):Int) - a) (by omega) (by omega),show ((a+n:Nat):Int) - a=(n:Int) by omega]
 have hq:(n:Int).tdiv 4=((n / 4:Nat):Int):=by rw [Int.tdiv_eq_ediv_of_nonneg (by omega)];omega
 refine zE9 (by decide) (by rw [hq];omega) (by rw [hq];omega) ?_
 refine zE9 (by decide) (by rw [hq];omega) (by rw [hq];omega) ?_
 refine zE9 (by decide) (by rw [hq];omega) (by rw [hq];omega) ?_
 rw [hq]
 generalize hm:n / 4=m
 have hm1:4*m<=n:=by omega
 rw [wr64 (n:=(m:Int)*1) (by omega) (by omega),wr64 (n:=(m:Int)*2) (by omega) (by omega),wr64 (n:=(m:Int)*3) (by omega) (by omega),
  wr64 (n:=(a:Int)+m*1) (by omega) (by omega),wr64 (n:=(a:Int)+m*2) (by omega) (by omega),wr64 (n:=(a:Int)+m*3) (by omega) (by omega)]
 have j1:∀ (x:Nat) (w2:World) (v:Int),a<=x->x<a+n->Row w2 B [.int .i64 v] Zr->w1.grownBy w2 (some B)->y5 k (some ⟨B,0,none⟩) x w2:=by
  intro x w2 v h1 h2 h3 h4
  have hb2:Bel w w2:=hb1.grown h4 (λr hr=>by cases hr;omega)
  unfold y5
  refine zBX zAM v h3.cell ?_
  exact ⟨λ_=>H x _ w2 h1 h2 hb2,λ_=>⟨λ_=>H x _ w2 h1 h2 hb2,λ_=>H x _ w2 h1 h2 hb2⟩⟩
 have kept:∀ {w w'},Ow base w s (tab f L)->w.grownBy w' (some B)->Ow base w' s (tab f L):=λh hg=>h.kept hg (by
  cases hk:(Sl.v s).ownBlock with
  |none=>exact .inl rfl
  |some q=>exact .inr (by rw [← hk];exact hne))
 have j2:∀ (x y z:Nat) (w2:World) (v:Int),a<=x->x<a+n->a<=y->y<a+n->a<=z->z<a+n->Row w2 B [.int .i64 v] Zr->w1.grownBy w2 (some B)->yy s cmp k (some ⟨B,0,none⟩) x y z w2:=by
  intro x y z w2 v h1 h2 h3 h4 h5 h6 h7 h8
  unfold yy
  refine zFf hcmp (kept hO1 h8) h7 hne (by omega) (by omega) (by omega) λq w3 v3 hq h9 h10=>j1 q w3 v3 (by omega) (by omega) h9 (zS h8 h10)
 have e1:(a:Int)+m*1=((a+m:Nat):Int):=by omega
 have e2:(a:Int)+m*2=((a+2*m:Nat):Int):=by omega
 have e3:(a:Int)+m*3=((a+3*m:Nat):Int):=by omega
 rw [e1,e2,e3]
 refine ⟨λh8=>⟨λh50=>?_,λ_=>?_⟩,λ_=>j1 _ w1 _ (by omega) (by omega) hB (World.grownBy.refl _ _)⟩
 ·refine zBJ hcmp hO1 hB hne (by omega) (by omega) (by omega) λx w2 v2 hx1 hx2 hB2 hg2=>?_
  refine zBJ hcmp (kept hO1 hg2) hB2 hne (by omega) (by omega) (by omega) λy w3 v3 hy1 hy2 hB3 hg3=>?_
  refine zBJ hcmp (kept hO1 (zS hg2 hg3)) hB3 hne (by omega) (by omega) (by omega) λz w4 v4 hz1 hz2 hB4 hg4=>?_
  exact j2 x y z w4 v4 (by omega) (by omega) (by omega) (by omega) (by omega) (by omega) hB4 (zS (zS hg2 hg3) hg4)
 ·exact j2 _ _ _ w1 _ (by omega) (by omega) (by omega) (by omega) (by omega) (by omega) hB (World.grownBy.refl _ _)
end
end SoCmpFunc_api_Pair
end Go.Proofs.YtealcoghiaeiiaaGreat.VG
set_option linter.unusedVariables false
set_option linter.unusedSimpArgs false
namespace Go.Proofs.YtealcoghiaeiiaaGreat.VG
open Go.VB Go.Proofs
def zJa (x0:Int) (w:World) (Ret:Int->World->Prop):Prop:=
 Cl zA 99 [(.int .u64 x0)].toArray w (λe w=>∃ (r:Int),e=.returned (.int .i64 r)/\(Ret r w))
set_option maxRecDepth 100000 in
theorem zNe (x0:Int) (w:World) (Ret:Int->World->Prop) (H:zJa x0 w Ret):Cl zA 73 [(.int .u64 x0)].toArray w (λe w'=>∃ (r0:Int),e=.returned (.int .i64 r0)/\Ret r0 w'):=by
 unfold zJa at H
 refine zp 8 (zipE 0 [(.int .u64 x0)]) Tryz.func73 rfl rfl (by rfl) rfl ?_
 intro a g
 have g:Sat [] 8 [(0,(.int .u64 x0))] a:=g
 refine zI (zE (g.s rfl λ_ g=>(zL (tn (zI (zk g rfl (λh=>nomatch h) (λ_=>(zY (tn (zI (zE (g.m rfl λ_ g=>(g.c (zb g zTK rfl rfl) H λe w H=>?_)))))))))))))
 obtain ⟨r,rfl,H⟩:=H
 exact ⟨_,rfl,λ_ g=>(g.s rfl λ_ g=>(zL (tn (zl (zw g rfl rfl ⟨_,rfl,H⟩)))))⟩
def zCZ (Ret:Int->World->Prop) (x0_3:Int) (x2_2:Int) (w:World):Prop:=
 opE zA (zV .u8) (Go.convert 37 5 (.int .u64 x0_3)) w (λx21 w=>opE zA (zV .u8) (Instr.index 9 (.string (ByteArray.mk #[0,1,2,2,3,3,3,3,4,4,4,4,4,4,4,4,5,5,5,5,5,5,5,5,5,5,5,5,5,5,5,5,6,6,6,6,6,6,6,6,6,6,6,6,6,6,6,6,6,6,6,6,6,6,6,6,6,6,6,6,6,6,6,6,7,7,7,7,7,7,7,7,7,7,7,7,7,7,7,7,7,7,7,7,7,7,7,7,7,7,7,7,7,7,7,7,7,7,7,7,7,7,7,7,7,7,7,7,7,7,7,7,7,7,7,7,7,7,7,7,7,7,7,7,7,7,7,7,8,8,8,8,8,8,8,8,8,8,8,8,8,8,8,8,8,8,8,8,8,8,8,8,8,8,8,8,8,8,8,8,8,8,8,8,8,8,8,8,8,8,8,8,8,8,8,8,8,8,8,8,8,8,8,8,8,8,8,8,8,8,8,8,8,8,8,8,8,8,8,8,8,8,8,8,8,8,8,8,8,8,8,8,8,8,8,8,8,8,8,8,8,8,8,8,8,8,8,8,8,8,8,8,8,8,8,8,8,8,8,8,8,8,8,8,8,8,8,8,8,8,8,8,8,8,8,8])) (.int .u8 x21)) w (λx22 w=>opE zA (zV .i64) (Go.convert 5 3 (.int .u8 x22)) w (λx23 w=>Ret (zC .i64 (x2_2+x23)) w)))
def zCS (Ret:Int->World->Prop) (x0_2:Int) (x2_1:Int) (w:World):Prop:=
 ((256<=x0_2)->(opE zA (zV .u64) (binOp .shr 37 (.int .u64 x0_2) (.int .u64 8)) w (λx16 w=>zCZ Ret x16 (zC .i64 (x2_1+8)) w)))/\(¬ (256<=x0_2)->(zCZ Ret x0_2 x2_1 w))
def zCU (Ret:Int->World->Prop) (x0_1:Int) (x2:Int) (w:World):Prop:=
 ((65536<=x0_1)->(opE zA (zV .u64) (binOp .shr 37 (.int .u64 x0_1) (.int .u64 16)) w (λx10 w=>zCS Ret x10 (zC .i64 (x2+16)) w)))/\(¬ (65536<=x0_1)->(zCS Ret x0_1 x2 w))
def zHu (x0:Int) (w:World) (Ret:Int->World->Prop):Prop:=
 ((4294967296<=x0)->(opE zA (zV .u64) (binOp .shr 37 (.int .u64 x0) (.int .u64 32)) w (λx6 w=>zCU Ret x6 32 w)))/\(¬ (4294967296<=x0)->(zCU Ret x0 0 w))
set_option maxRecDepth 100000 in
theorem zLp (x0:Int) (w:World) (Ret:Int->World->Prop) (H:zHu x0 w Ret):Cl zA 99 [(.int .u64 x0)].toArray w (λe w'=>∃ (r0:Int),e=.returned (.int .i64 r0)/\Ret r0 w'):=by
 unfold zHu at H
 refine zp 25 (zipE 0 [(.int .u64 x0)]) Tryz.func99 rfl rfl (by rfl) rfl ?_
 intro a g
 have g:Sat [] 25 [(0,(.int .u64 x0))] a:=g
 refine zI (zE (g.s rfl λ_ g=>zL (tn (z8 (ds:=[]) (N:=25) (σ:=Int × Int) (λs=>[(0,(.int .u64 s.1)),(2,(.int .i64 s.2))]) (λs w=>zCU Ret s.1 s.2 w) ?_ (λhj1=>?_)))))
 ·rintro ⟨x0_1,x2⟩ w a H g
  try dsimp only at H g
  unfold zCU at H
  refine z8 (ds:=[]) (N:=25) (σ:=Int × Int) (λs=>[(0,(.int .u64 s.1)),(2,(.int .i64 s.2))]) (λs w=>zCS Ret s.1 s.2 w) ?_ (λhj2=>?_)
  ·rintro ⟨x0_2,x2_1⟩ w a H g
   try dsimp only at H g
   unfold zCS at H
   refine z8 (ds:=[]) (N:=25) (σ:=Int × Int) (λs=>[(0,(.int .u64 s.1)),(2,(.int .i64 s.2))]) (λs w=>zCZ Ret s.1 s.2 w) ?_ (λhj3=>?_)
   ·rintro ⟨x0_3,x2_2⟩ w a H g
    try dsimp only at H g
    unfold zCZ at H
    exact zI (zE (g.m rfl λ_ g=>g.m rfl λ_ g=>g.o (zBw g rfl) H λx21 w a H g=>g.o (zRY g rfl rfl) H λx22 w a H g=>g.o (zBw g rfl) H λx23 w a H g=>g.p (zr g rfl rfl) λ_ g=>g.s rfl λ_ g=>zL (tn (zl (zw g rfl rfl ⟨_,rfl,H⟩)))))
   ·refine zI (zE (g.m rfl λ_ g=>g.p (Zm g rfl rfl) λ_ g=>zL (tn (zd g rfl (λhc=>?_) (λhc=>?_)))))
    ·have H:=H.1 hc
     exact zI (zE (g.m rfl λ_ g=>g.o (ZS g rfl rfl) H λx16 w a H g=>g.s rfl λ_ g=>zL (tn (zE (g.m rfl λ_ g=>g.p (zr g rfl rfl) λ_ g=>g.s rfl λ_ g=>zL (tn (hj3 (x16,(zC .i64 (x2_1+8))) _ _ H (g.k))))))))
    ·have H:=H.2 hc
     exact zY (tn (hj3 (x0_2,x2_1) _ _ H (g.k)))
  ·refine zI (zE (g.m rfl λ_ g=>g.p (Zm g rfl rfl) λ_ g=>zL (tn (zd g rfl (λhc=>?_) (λhc=>?_)))))
   ·have H:=H.1 hc
    exact zI (zE (g.m rfl λ_ g=>g.o (ZS g rfl rfl) H λx10 w a H g=>g.s rfl λ_ g=>zL (tn (zE (g.m rfl λ_ g=>g.p (zr g rfl rfl) λ_ g=>g.s rfl λ_ g=>zL (tn (hj2 (x10,(zC .i64 (x2+16))) _ _ H (g.k))))))))
   ·have H:=H.2 hc
    exact zY (tn (hj2 (x0_1,x2) _ _ H (g.k)))
 ·refine zI (zE (g.m rfl λ_ g=>g.p (Zm g rfl rfl) λ_ g=>zL (tn (zd g rfl (λhc=>?_) (λhc=>?_)))))
  ·have H:=H.1 hc
   exact zI (zE (g.m rfl λ_ g=>g.o (ZS g rfl rfl) H λx6 w a H g=>g.s rfl λ_ g=>zL (tn (zE (g.s rfl λ_ g=>zL (tn (hj1 (x6,32) _ _ H (g.k))))))))
  ·have H:=H.2 hc
   exact zY (tn (hj1 (x0,0) _ _ H (g.k)))
def zC2 (x0:Int) (w:World) (Ret:Int->World->Prop):Prop:=
 opE zA (zV .u64) (Go.convert 3 143 (.int .i64 x0)) w (λx4 w=>Cl zA 73 [(.int .u64 x4)].toArray w (λe w=>∃ (r:Int),e=.returned (.int .i64 r)/\(opE zA (zV .u64) (binOp .shl 143 (.int .u64 1) (.int .i64 r)) w (λx6 w=>Ret x6 w))))
set_option maxRecDepth 100000 in
theorem zHS (x0:Int) (w:World) (Ret:Int->World->Prop) (H:zC2 x0 w Ret):Cl zA 115 [(.int .i64 x0)].toArray w (λe w'=>∃ (r0:Int),e=.returned (.int .u64 r0)/\Ret r0 w'):=by
 unfold zC2 at H
 refine zp 7 (zipE 0 [(.int .i64 x0)]) Tryz.func115 rfl rfl (by rfl) rfl ?_
 intro a g
 have g:Sat [] 7 [(0,(.int .i64 x0))] a:=g
 refine zI (zE (g.s rfl λ_ g=>(zL (tn (zI (zE (g.m rfl λ_ g=>(g.o (zBw g rfl) H λx4 w a H g=>(g.c (zb g zO3 rfl rfl) H λe w H=>?_)))))))))
 obtain ⟨r,rfl,H⟩:=H
 exact ⟨_,rfl,λ_ g=>(g.o (ZS g rfl rfl) H λx6 w a H g=>(g.s rfl λ_ g=>(zL (tn (zl (zw g rfl rfl ⟨_,rfl,H⟩))))))⟩
def zAV (x0:Option Addr) (Ret:Int->World->Prop) (w:World):Prop:=
 Qg (.pointer x0)/\(opE zA (zV .u64) (zD 182 (.pointer x0)) w (λx32 w=>Ret x32 w))
def zAU (x0:Option Addr) (Ret:Int->World->Prop) (w:World):Prop:=
 yM w (λw=>Qg (.pointer x0)/\(Qg (.pointer x0)/\((opE zA (zV .u64) (zD 182 (.pointer x0)) w (λx23 w=>opE zA (zV .u64) (zD 182 (.pointer x0)) w (λx26 w=>opP zA (zV .u64) (binOp .shl 182 (.int .u64 x26) (.int .u64 17)) (λx27=>opP zA (zV .u64) (binOp .xor 182 (.int .u64 x23) (.int .u64 x27)) (λx28=>Qg (.pointer x0)/\(opU zA (zK 182 (.pointer x0) (.int .u64 x28)) w (λw=>zAV x0 Ret w)))))))/\(opE zA (zV .u64) (zD 182 (.pointer x0)) w (λx26_1 w=>opP zA (zV .u64) (binOp .shl 182 (.int .u64 x26_1) (.int .u64 17)) (λx27_1=>opE zA (zV .u64) (zD 182 (.pointer x0)) w (λx23_1 w=>opP zA (zV .u64) (binOp .xor 182 (.int .u64 x23_1) (.int .u64 x27_1)) (λx28_1=>Qg (.pointer x0)/\(opU zA (zK 182 (.pointer x0) (.int .u64 x28_1)) w (λw=>zAV x0 Ret w))))))))))
def zAW (x0:Option Addr) (Ret:Int->World->Prop) (w:World):Prop:=
 yM w (λw=>Qg (.pointer x0)/\(Qg (.pointer x0)/\((opE zA (zV .u64) (zD 182 (.pointer x0)) w (λx14 w=>opE zA (zV .u64) (zD 182 (.pointer x0)) w (λx17 w=>opP zA (zV .u64) (binOp .shr 182 (.int .u64 x17) (.int .u64 7)) (λx18=>opP zA (zV .u64) (binOp .xor 182 (.int .u64 x14) (.int .u64 x18)) (λx19=>Qg (.pointer x0)/\(opU zA (zK 182 (.pointer x0) (.int .u64 x19)) w (λw=>zAU x0 Ret w)))))))/\(opE zA (zV .u64) (zD 182 (.pointer x0)) w (λx17_1 w=>opP zA (zV .u64) (binOp .shr 182 (.int .u64 x17_1) (.int .u64 7)) (λx18_1=>opE zA (zV .u64) (zD 182 (.pointer x0)) w (λx14_1 w=>opP zA (zV .u64) (binOp .xor 182 (.int .u64 x14_1) (.int .u64 x18_1)) (λx19_1=>Qg (.pointer x0)/\(opU zA (zK 182 (.pointer x0) (.int .u64 x19_1)) w (λw=>zAU x0 Ret w))))))))))
def zDF (x0:Option Addr) (w:World) (Ret:Int->World->Prop):Prop:=
 yM w (λw=>Qg (.pointer x0)/\(Qg (.pointer x0)/\((opE zA (zV .u64) (zD 182 (.pointer x0)) w (λx5 w=>opE zA (zV .u64) (zD 182 (.pointer x0)) w (λx8 w=>opP zA (zV .u64) (binOp .shl 182 (.int .u64 x8) (.int .u64 13)) (λx9=>opP zA (zV .u64) (binOp .xor 182 (.int .u64 x5) (.int .u64 x9)) (λx10=>Qg (.pointer x0)/\(opU zA (zK 182 (.pointer x0) (.int .u64 x10)) w (λw=>zAW x0 Ret w)))))))/\(opE zA (zV .u64) (zD 182 (.pointer x0)) w (λx8_1 w=>opP zA (zV .u64) (binOp .shl 182 (.int .u64 x8_1) (.int .u64 13)) (λx9_1=>opE zA (zV .u64) (zD 182 (.pointer x0)) w (λx5_1 w=>opP zA (zV .u64) (binOp .xor 182 (.int .u64 x5_1) (.int .u64 x9_1)) (λx10_1=>Qg (.pointer x0)/\(opU zA (zK 182 (.pointer x0) (.int .u64 x10_1)) w (λw=>zAW x0 Ret w))))))))))
set_option maxRecDepth 100000 in
theorem zHo (x0:Option Addr) (w:World) (Ret:Int->World->Prop) (H:zDF x0 w Ret):Cl zA 116 [(.pointer x0)].toArray w (λe w'=>∃ (r0:Int),e=.returned (.int .u64 r0)/\Ret r0 w'):=by
 unfold zDF at H
 refine zp 33 (zipE 0 [(.pointer x0)]) Tryz.func116 rfl rfl (by rfl) rfl ?_
 intro a g
 have g:Sat [] 33 [(0,(.pointer x0))] a:=g
 refine zI (zE (g.s rfl λ_ g=>zL (tn (z8 (ds:=[]) (N:=33) (σ:=Unit) (λs=>[(0,(.pointer x0))]) (λs w=>zAW x0 Ret w) ?_ (λhj1=>?_)))))
 ·rintro ⟨⟩ w a H g
  try dsimp only at H g
  unfold zAW at H
  refine z8 (ds:=[]) (N:=33) (σ:=Unit) (λs=>[(0,(.pointer x0))]) (λs w=>zAU x0 Ret w) ?_ (λhj2=>?_)
  ·rintro ⟨⟩ w a H g
   try dsimp only at H g
   unfold zAU at H
   refine z8 (ds:=[]) (N:=33) (σ:=Unit) (λs=>[(0,(.pointer x0))]) (λs w=>zAV x0 Ret w) ?_ (λhj3=>?_)
   ·rintro ⟨⟩ w a H g
    try dsimp only at H g
    unfold zAV at H
    refine zI (zE (g.m rfl λ_ g=>g.p (zj g rfl H.1) λ_ g=>?_))
    have H:=H.2
    exact g.o (zO g rfl) H λx32 w a H g=>g.s rfl λ_ g=>zL (tn (zl (zw g rfl rfl ⟨_,rfl,H⟩)))
   ·refine zCC 10 λw hB=>?_
    replace H:=H w hB
    refine g.x 0 rfl (zR g rfl) λ_ g=>g.x 1 rfl (zj g rfl H.1) λ_ g=>?_
    have H:=H.2
    refine g.x 3 rfl (zR g rfl) λ_ g=>g.x 4 rfl (zj g rfl H.1) λ_ g=>?_
    have H:=H.2
    refine WA.tw 2 5 rfl rfl ?_ ?_
    ·have H:=H.1
     intro K hK
     refine g.i (zO g rfl) H λx23 w a H g=>hK _ _ (g.j 5 rfl (zO g rfl) H λx26 w a H g=>g.y 6 rfl (ZS g rfl rfl) H λx27 a H g=>g.y 7 rfl (ZS g rfl rfl) H λx28 a H g=>g.x 8 rfl (zj g rfl H.1) λ_ g=>?_)
     have H:=H.2
     exact g.l 9 rfl (zT g rfl rfl) H λw a H g=>WA.ni ((tn (hj3 () _ _ H (g.k))))
    ·have H:=H.2
     intro K hK
     refine g.i (zO g rfl) H λx26_1 w a H g=>hK _ _ (g.y 6 rfl (ZS g rfl rfl) H λx27_1 a H g=>g.j 2 rfl (zO g rfl) H λx23_1 w a H g=>g.y 7 rfl (ZS g rfl rfl) H λx28_1 a H g=>g.x 8 rfl (zj g rfl H.1) λ_ g=>?_)
     have H:=H.2
     exact g.l 9 rfl (zT g rfl rfl) H λw a H g=>WA.ni ((tn (hj3 () _ _ H (g.k))))
  ·refine zCC 10 λw hB=>?_
   replace H:=H w hB
   refine g.x 0 rfl (zR g rfl) λ_ g=>g.x 1 rfl (zj g rfl H.1) λ_ g=>?_
   have H:=H.2
   refine g.x 3 rfl (zR g rfl) λ_ g=>g.x 4 rfl (zj g rfl H.1) λ_ g=>?_
   have H:=H.2
   refine WA.tw 2 5 rfl rfl ?_ ?_
   ·have H:=H.1
    intro K hK
    refine g.i (zO g rfl) H λx14 w a H g=>hK _ _ (g.j 5 rfl (zO g rfl) H λx17 w a H g=>g.y 6 rfl (ZS g rfl rfl) H λx18 a H g=>g.y 7 rfl (ZS g rfl rfl) H λx19 a H g=>g.x 8 rfl (zj g rfl H.1) λ_ g=>?_)
    have H:=H.2
    exact g.l 9 rfl (zT g rfl rfl) H λw a H g=>WA.ni ((tn (hj2 () _ _ H (g.k))))
   ·have H:=H.2
    intro K hK
    refine g.i (zO g rfl) H λx17_1 w a H g=>hK _ _ (g.y 6 rfl (ZS g rfl rfl) H λx18_1 a H g=>g.j 2 rfl (zO g rfl) H λx14_1 w a H g=>g.y 7 rfl (ZS g rfl rfl) H λx19_1 a H g=>g.x 8 rfl (zj g rfl H.1) λ_ g=>?_)
    have H:=H.2
    exact g.l 9 rfl (zT g rfl rfl) H λw a H g=>WA.ni ((tn (hj2 () _ _ H (g.k))))
 ·refine zCC 10 λw hB=>?_
  replace H:=H w hB
  refine g.x 0 rfl (zR g rfl) λ_ g=>g.x 1 rfl (zj g rfl H.1) λ_ g=>?_
  have H:=H.2
  refine g.x 3 rfl (zR g rfl) λ_ g=>g.x 4 rfl (zj g rfl H.1) λ_ g=>?_
  have H:=H.2
  refine WA.tw 2 5 rfl rfl ?_ ?_
  ·have H:=H.1
   intro K hK
   refine g.i (zO g rfl) H λx5 w a H g=>hK _ _ (g.j 5 rfl (zO g rfl) H λx8 w a H g=>g.y 6 rfl (ZS g rfl rfl) H λx9 a H g=>g.y 7 rfl (ZS g rfl rfl) H λx10 a H g=>g.x 8 rfl (zj g rfl H.1) λ_ g=>?_)
   have H:=H.2
   exact g.l 9 rfl (zT g rfl rfl) H λw a H g=>WA.ni ((tn (hj1 () _ _ H (g.k))))
  ·have H:=H.2
   intro K hK
   refine g.i (zO g rfl) H λx8_1 w a H g=>hK _ _ (g.y 6 rfl (ZS g rfl rfl) H λx9_1 a H g=>g.j 2 rfl (zO g rfl) H λx5_1 w a H g=>g.y 7 rfl (ZS g rfl rfl) H λx10_1 a H g=>g.x 8 rfl (zj g rfl H.1) λ_ g=>?_)
   have H:=H.2
   exact g.l 9 rfl (zT g rfl rfl) H λw a H g=>WA.ni ((tn (hj1 () _ _ H (g.k))))
end Go.Proofs.YtealcoghiaeiiaaGreat.VG
set_option linter.unusedVariables false
namespace Go.VB
theorem zIE {n:Int} (h0:0<=n) (h1:n<18446744073709551616):zC .u64 n=n:=by
 unfold zC
 have h2:(2:Int) ^ IntKind.u64.bits=18446744073709551616:=by decide
 rw [h2]
 simp [IntKind.signed];omega
section
variable {P:Program} {w:World}
theorem zFr {src dst:TypeId} {q k:IntKind} {n:Int} (hs:(P.underlying src).isSome=true) (hd:P.underlying dst=some (.int k)) {K:Int->World->Prop} (H:K (k.wrap n) w):opE P (zV k) (Go.convert src dst (.int q n)) w K:=by
 obtain ⟨d,hd'⟩:=Option.isSome_iff_exists.mp hs
 refine ⟨_,w,?_,H⟩
 simp [convert,run_underlying hd',run_underlying hd,Conv.intToInt]
theorem zMS {t:TypeId} {k q:IntKind} {x y:Int} (hy:¬ y<0) (w:World):(binOp .shl t (.int k x) (.int q y)).run P w=.ok (.int k (k.wrap (x*2 ^ (min y.toNat k.bits)))) w:=by
 rw [binOp_shl];simp [Op.shift,hy]
theorem zJ6 {t:TypeId} {k q:IntKind} {x y:Int} (hy:¬ y<0) (w:World):(binOp .shr t (.int k x) (.int q y)).run P w=.ok (.int k (x.fdiv (2 ^ (min y.toNat k.bits)))) w:=by
 rw [binOp_shr];simp [Op.shift,hy]
theorem zO1 {t:TypeId} {k:IntKind} {x y:Int} (w:World):(binOp .xor t (.int k x) (.int k y)).run P w=.ok (.int k (k.wrap ((BitVec.ofInt k.bits x) ^^^ (BitVec.ofInt k.bits y)).toNat)) w:=by
 rw [binOp_xor];simp [Op.intBits]
theorem zQi {t:TypeId} {x y:Int} (h0:0<=y) (h1:y<18446744073709551616) {K:Int->World->Prop} (H:∀ r:Int,0<=r->r<=y->K r w):opE P (zV .u64) (binOp .and t (.int .u64 x) (.int .u64 y)) w K:=by
 have hb:((BitVec.ofInt 64 x) &&& (BitVec.ofInt 64 y)).toNat<=y.toNat:=by
  rw [BitVec.toNat_and]
  refine zn Nat.and_le_right ?_
  rw [BitVec.toNat_ofInt]
  have:(y % ((2 ^ 64:Nat):Int)).toNat=y.toNat:=by
   rw [Int.emod_eq_of_lt h0 (by exact h1)]
  rw [this];exact zU _
 refine ⟨((((BitVec.ofInt 64 x) &&& (BitVec.ofInt 64 y)).toNat:Nat):Int),w,?_,H _ (by omega) (by omega)⟩
 rw [binOp_and]
 show Result.ok (zV .u64 (zC .u64 ((((BitVec.ofInt 64 x) &&& (BitVec.ofInt 64 y)).toNat:Nat):Int))) w=_
 rw [zIE (by omega) (by omega)]
theorem zST {t:Nat} {m:Int} {op:BinOp} {B:Nat} {v:Int} {e:TypeId} (hA:One P t) (hB:Row w B [.int .u64 v] e) (hsh:∀ x:Int,∃ y:Int,∀ w,(binOp op t (.int .u64 x) (.int .u64 m)).run P w=.ok (.int .u64 y) w) {K:World->Prop}
  (H:∀ v' w',Row w' B [.int .u64 v'] e->w.grownBy w' (some B)->K w'):
  yM w (λw=>Qg (.pointer (some ⟨B,0,none⟩))/\(Qg (.pointer (some ⟨B,0,none⟩))/\
   ((opE P (zV .u64) (zD t (.pointer (some ⟨B,0,none⟩))) w (λx5 w=>opE P (zV .u64) (zD t (.pointer (some ⟨B,0,none⟩))) w (λx8 w=>opP P (zV .u64) (binOp op t (.int .u64 x8) (.int .u64 m)) (λx9=>opP P (zV .u64) (binOp .xor t (.int .u64 x5) (.int .u64 x9)) (λx10=>Qg (.pointer (some ⟨B,0,none⟩))/\(opU P (zK t (.pointer (some ⟨B,0,none⟩)) (.int .u64 x10)) w (λw=>K w)))))))/\
   (opE P (zV .u64) (zD t (.pointer (some ⟨B,0,none⟩))) w (λx8 w=>opP P (zV .u64) (binOp op t (.int .u64 x8) (.int .u64 m)) (λx9=>opE P (zV .u64) (zD t (.pointer (some ⟨B,0,none⟩))) w (λx5 w=>opP P (zV .u64) (binOp .xor t (.int .u64 x5) (.int .u64 x9)) (λx10=>Qg (.pointer (some ⟨B,0,none⟩))/\(opU P (zK t (.pointer (some ⟨B,0,none⟩)) (.int .u64 x10)) w (λw=>K w)))))))))):=by
 intro w1 hb1
 have hB1:=hB.bel hb1
 obtain ⟨y,hy⟩:=hsh v
 have fin:Qg (.pointer (some ⟨B,0,none⟩))/\(opU P (zK t (.pointer (some ⟨B,0,none⟩)) (.int .u64 (zC .u64 ((BitVec.ofInt IntKind.u64.bits v) ^^^ (BitVec.ofInt IntKind.u64.bits y)).toNat))) w1 (λw=>K w)):=by
  refine ⟨trivial,?_⟩
  exact zIZ hA hB1 rfl rfl λw2 h2 g2=>H _ w2 h2 (zS (zo hb1 _) g2)
 refine ⟨trivial,trivial,?_,?_⟩
 ·refine zBX hA v hB1.cell ?_
  refine zBX hA v hB1.cell ?_
  exact ⟨y,hy,_,λw=>zO1 w,fin⟩
 ·refine zBX hA v hB1.cell ?_
  refine ⟨y,hy,?_⟩
  refine zBX hA v hB1.cell ?_
  exact ⟨_,λw=>zO1 w,fin⟩
end
end Go.VB
namespace Go.Proofs.YtealcoghiaeiiaaGreat.VG
open Go.VB Go.Proofs
abbrev len8:ByteArray:=ByteArray.mk #[0,1,2,2,3,3,3,3,4,4,4,4,4,4,4,4,5,5,5,5,5,5,5,5,5,5,5,5,5,5,5,5,6,6,6,6,6,6,6,6,6,6,6,6,6,6,6,6,6,6,6,6,6,6,6,6,6,6,6,6,6,6,6,6,7,7,7,7,7,7,7,7,7,7,7,7,7,7,7,7,7,7,7,7,7,7,7,7,7,7,7,7,7,7,7,7,7,7,7,7,7,7,7,7,7,7,7,7,7,7,7,7,7,7,7,7,7,7,7,7,7,7,7,7,7,7,7,7,8,8,8,8,8,8,8,8,8,8,8,8,8,8,8,8,8,8,8,8,8,8,8,8,8,8,8,8,8,8,8,8,8,8,8,8,8,8,8,8,8,8,8,8,8,8,8,8,8,8,8,8,8,8,8,8,8,8,8,8,8,8,8,8,8,8,8,8,8,8,8,8,8,8,8,8,8,8,8,8,8,8,8,8,8,8,8,8,8,8,8,8,8,8,8,8,8,8,8,8,8,8,8,8,8,8,8,8,8,8,8,8,8,8,8,8,8,8,8,8,8,8,8,8,8,8,8,8]
theorem zRS:∀ i:Fin 256,(match len8[i.1]? with|some b=>decide (i.1<2 ^ b.toNat)&&(decide (i.1=0)||decide (2 ^ b.toNat<=2*i.1))&&decide (b.toNat<=8)|none=>false)=true:=by decide +kernel
def zSA (x:Nat) (r:Nat):Prop:=r<=64/\x<2 ^ r/\(1<=x->2 ^ r<=2*x)
set_option maxRecDepth 100000 in
theorem zP6 {x:Nat} (hx:x<18446744073709551616) {w:World} {k:Int->World->Prop} (H:∀ r:Nat,zSA x r->k r w):
  Cl zA zLk [.int .u64 (x:Int)].toArray w (λe w'=>∃ r0:Int,e=.returned (.int .i64 r0)/\k r0 w'):=by
 refine zLp x w k ?_
 have j3:∀ (y a:Nat),y<256->y=x / 2 ^ a->a<=56->(a=0∨2 ^ a<=x)->zCZ k (y:Int) (a:Int) w:=by
  intro y a hy hya ha hax
  unfold zCZ
  refine zFr (by kernel_rfl) (by kernel_rfl) ?_
  have hw:zC .u8 (y:Int)=(y:Int):=by
   unfold zC
   have h2:(2:Int) ^ IntKind.u8.bits=256:=by decide
   rw [h2]
   simp [IntKind.signed];omega
  rw [hw]
  have h8:=zRS ⟨y,hy⟩
  cases hb:len8[y]? with
  |none=>rw [hb] at h8;cases h8
  |some b=>
   rw [hb] at h8
   simp only [Bool.and_eq_true,Bool.or_eq_true,decide_eq_true_eq] at h8
   refine ⟨(b.toNat:Int),w,?_,?_⟩
   ·simp [Instr.index,asIntOf,run_underlying Tryz.underlying9,hb]
   refine zFr (by kernel_rfl) (by kernel_rfl) ?_
   rw [wr64 (n:=((b.toNat:Nat):Int)) (by omega) (by omega),wr64 (by omega) (by omega)]
   have e:(a:Int)+((b.toNat:Nat):Int)=((a+b.toNat:Nat):Int):=by omega
   rw [e]
   obtain ⟨⟨h1,h2⟩,h3⟩:=h8
   refine H _ ⟨by omega,?_,λhx1=>?_⟩
   ·rw [Nat.pow_add]
    rw [hya] at h1
    have:=Nat.lt_mul_of_div_lt h1 (Nat.two_pow_pos a)
    rw [Nat.mul_comm];exact this
   ·rw [Nat.pow_add]
    have hy1:1<=y:=by
     rcases hax with rfl|hax
     ·rw [hya];simpa using hx1
     ·rw [hya];exact (Nat.le_div_iff_mul_le (Nat.two_pow_pos a)).2 (by omega)
    have h4:2 ^ b.toNat<=2*y:=by omega
    calc 2 ^ a*2 ^ b.toNat<=2 ^ a*(2*y):=Nat.mul_le_mul_left _ h4
     _=2*(2 ^ a*y):=by rw [Nat.mul_left_comm]
     _<=2*x:=Nat.mul_le_mul_left _ (by rw [hya];exact Nat.mul_div_le x _)
 have sh:∀ (y n:Nat),((y:Int)).fdiv (2 ^ n)=((y / 2 ^ n:Nat):Int):=λy n=>by
  have e:(2:Int) ^ n=((2 ^ n:Nat):Int):=by simp
  rw [e,Int.fdiv_eq_ediv_of_nonneg _ (Int.natCast_nonneg _),Int.natCast_ediv]
 have j2:∀ (y a:Nat),y<65536->y=x / 2 ^ a->a<=48->(a=0∨2 ^ a<=x)->zCS k (y:Int) (a:Int) w:=by
  intro y a hy hya ha hax
  unfold zCS
  refine ⟨λhc=>⟨_,w,zJ6 (by decide) w,?_⟩,λhc=>j3 y a (by omega) hya (by omega) hax⟩
  rw [wr64 (by omega) (by omega),show min (8:Int).toNat IntKind.u64.bits=8 by decide,sh,show (a:Int)+8=((a+8:Nat):Int) by omega]
  have e:y / 2 ^ 8=x / 2 ^ (a+8):=by rw [hya,Nat.div_div_eq_div_mul,Nat.pow_add]
  refine j3 _ (a+8) (by omega) e (by omega) (.inr ?_)
  have h5:1<=x / 2 ^ (a+8):=by rw [← e];omega
  have:=(Nat.le_div_iff_mul_le (Nat.two_pow_pos (a+8))).1 h5
  omega
 have j1:∀ (y a:Nat),y<4294967296->y=x / 2 ^ a->a<=32->(a=0∨2 ^ a<=x)->zCU k (y:Int) (a:Int) w:=by
  intro y a hy hya ha hax
  unfold zCU
  refine ⟨λhc=>⟨_,w,zJ6 (by decide) w,?_⟩,λhc=>j2 y a (by omega) hya (by omega) hax⟩
  rw [wr64 (by omega) (by omega),show min (16:Int).toNat IntKind.u64.bits=16 by decide,sh,show (a:Int)+16=((a+16:Nat):Int) by omega]
  have e:y / 2 ^ 16=x / 2 ^ (a+16):=by rw [hya,Nat.div_div_eq_div_mul,Nat.pow_add]
  refine j2 _ (a+16) (by omega) e (by omega) (.inr ?_)
  have h5:1<=x / 2 ^ (a+16):=by rw [← e];omega
  have:=(Nat.le_div_iff_mul_le (Nat.two_pow_pos (a+16))).1 h5
  omega
 unfold zHu
 refine ⟨λhc=>⟨_,w,zJ6 (by decide) w,?_⟩,λhc=>j1 x 0 (by omega) (by simp) (by omega) (.inl rfl)⟩
 rw [show min (32:Int).toNat IntKind.u64.bits=32 by decide,sh,show (32:Int)=((32:Nat):Int) by omega]
 exact j1 _ 32 (by omega) rfl (by omega) (.inr (by omega))
theorem zMm {x:Nat} (hx:x<18446744073709551616) {w:World} {k:Int->World->Prop} (H:∀ r:Nat,zSA x r->k r w):
  Cl zA zM5 [.int .u64 (x:Int)].toArray w (λe w'=>∃ r0:Int,e=.returned (.int .i64 r0)/\k r0 w'):=by
 refine zNe x w k ?_
 unfold zJa
 exact zP6 hx H
theorem zMM {n:Nat} (h0:1<=n) (hn:n<=140737488355328) {w:World} {k:Int->World->Prop} (H:∀ m:Nat,n<m->m<=2*n->k m w):
  Cl zA zHW [.int .i64 (n:Int)].toArray w (λe w'=>∃ r0:Int,e=.returned (.int .u64 r0)/\k r0 w'):=by
 refine zHS n w k ?_
 unfold zC2
 refine zFr (by kernel_rfl) (by kernel_rfl) ?_
 rw [zIE (by omega) (by omega)]
 refine zMm (by omega) λr hr=>?_
 obtain ⟨h1,h2,h3⟩:=hr
 have h4:=h3 h0
 have hr48:r<=49:=by
  rcases Nat.lt_or_ge 49 r with h|h
  ·have:2 ^ 50<=2 ^ r:=Nat.pow_le_pow_right (by decide) h
   omega
  ·exact h
 have hmin:min ((r:Int)).toNat IntKind.u64.bits=r:=by
  show min r 64=r;omega
 refine ⟨_,w,zMS (by omega) w,?_⟩
 rw [hmin,show (1:Int)*2 ^ r=((2 ^ r:Nat):Int) by simp,zIE (by omega) (by omega)]
 exact H _ h2 h4
theorem zMy {w:World} {B:Nat} {v:Int} {e:TypeId} (hB:Row w B [.int .u64 v] e) {k:Int->World->Prop} (H:∀ (r v':Int) w',Row w' B [.int .u64 v'] e->w.grownBy w' (some B)->k r w'):
  Cl zA zHf [.pointer (some ⟨B,0,none⟩)].toArray w (λe w'=>∃ r0:Int,e=.returned (.int .u64 r0)/\k r0 w'):=by
 refine zHo (some ⟨B,0,none⟩) w k ?_
 unfold zDF
 refine zST zAb hB (λx=>⟨_,λw=>zMS (by decide) w⟩) λv1 w1 h1 g1=>?_
 unfold zAW
 refine zST zAb h1 (λx=>⟨_,λw=>zJ6 (by decide) w⟩) λv2 w2 h2 g2=>?_
 unfold zAU
 refine zST zAb h2 (λx=>⟨_,λw=>zMS (by decide) w⟩) λv3 w3 h3 g3=>?_
 unfold zAV
 refine ⟨trivial,?_⟩
 refine zBX zAb v3 h3.cell ?_
 exact H v3 v3 w3 h3 (zS (zS g1 g2) g3)
end Go.Proofs.YtealcoghiaeiiaaGreat.VG
set_option linter.unusedVariables false
namespace Go.Proofs.YtealcoghiaeiiaaGreat.VG
open Go.VB Go.VB.Srt Go.Proofs
namespace SoCmpFunc_api_Pair
theorem zI4 {cmp:Value} {base:Nat} {w:World} {s:Sl} {L:Nat} {f:Nat->zM} (hO:Ow base w s (tab f L)) {a b:Nat} (hA:a<=b) (hb:b<=L) {w0:World} {k:World->Prop}
  (H:∀ g w',Seg a b f g->Ow base w' s (tab g L)->w.grownBy w' (Sl.v s).ownBlock->k w'):
  Cl zA zD5 [Sl.v s,.int .i64 (a:Int),.int .i64 (b:Int),cmp].toArray w (λe w'=>e=.returned (.tuple [].toArray)/\k w'):=by
 refine zD1 s a b cmp w k ?_
 have hlen:=hO.len;have hsm:=hO.small
 rw [xP] at hlen
 obtain ⟨n,rfl⟩:∃ n,b=a+n:=⟨b - a,by omega⟩
 unfold Z8
 rw [wr64 (n:=((a+n:Nat):Int) - a) (by omega) (by omega),show ((a+n:Nat):Int) - a=(n:Int) by omega]
 refine ⟨λh8=>?_,λ_=>H f w (.refl f) hO (World.grownBy.refl _ _)⟩
 refine zFr (by kernel_rfl) (by kernel_rfl) ?_
 rw [zIE (by omega) (by omega)]
 refine zIo zEz ?_
 have hr0:=Row.new w Yh xC
 have hb1:Bel w (w.alloc (.cells Yh.toArray xC)):=Bel.alloc _ _
 have hO1:=hO.bel hb1
 have hne:(Sl.v s).ownBlock≠some w.heap.size:=λe=>by have:=(hO.row.lt _ e).2;omega
 have hB0:w.heap.size<=w.heap.size:=zU _
 generalize hBd:w.heap.size=B at hr0 hne ⊢
 generalize (w.alloc (.cells Yh.toArray xC))=w1 at hr0 hb1 hO1 ⊢
 refine zIZ zAb hr0 rfl rfl λw2 hr2 hg2=>?_
 have kept:∀ {g:Nat->zM} {w w'},Ow base w s (tab g L)->w.grownBy w' (some B)->Ow base w' s (tab g L):=λh hg=>h.kept hg (by
  cases hk:(Sl.v s).ownBlock with
  |none=>exact .inl rfl
  |some q=>exact .inr (by rw [← hk];exact hne))
 have hO2:=kept hO1 hg2
 have hb2:Bel w w2:=hb1.grown hg2 (λr hr=>by cases hr;omega)
 refine zMM (by omega) (by omega) λm hm1 hm2=>?_
 have hq:(n:Int).tdiv 4=((n / 4:Nat):Int):=by rw [Int.tdiv_eq_ediv_of_nonneg (by omega)];omega
 refine zE9 (by decide) (by rw [hq];omega) (by rw [hq];omega) ?_
 rw [hq]
 generalize hn4:n / 4=q
 have hq1:4*q<=n:=by omega
 have hq2:2<=q:=by omega
 rw [wr64 (n:=(q:Int)*2) (by omega) (by omega),wr64 (n:=(a:Int)+q*2) (by omega) (by omega),wr64 (n:=(a:Int)+q*2 - 1) (by omega) (by omega)]
 refine ⟨λx w3=>∃ (i:Nat) (g:Nat->zM) (v:Int),x=(i:Int)/\a+2*q - 1<=i/\i<=a+2*q+2/\Seg a (a+n) f g/\Ow base w3 s (tab g L)/\Row w3 B [.int .u64 v] xC/\w.heap.size<=w3.heap.size/\w.grownBy w3 (Sl.v s).ownBlock,λx _=>(a+2*q+3 - x).toNat,?_,?_⟩
 ·exact ⟨a+2*q - 1,f,_,by omega,by omega,by omega,.refl f,hO2,hr2,hb2.le,zo hb2 _⟩
 rintro x w3 ⟨i,g,v,rfl,hi1,hi2,hsg,hO3,hr3,hsz3,hg3⟩
 unfold Yb
 rw [wr64 (n:=((a+n:Nat):Int) - a) (by omega) (by omega),show ((a+n:Nat):Int) - a=(n:Int) by omega]
 refine zE9 (by decide) (by rw [hq];omega) (by rw [hq];omega) ?_
 rw [hq,hn4,wr64 (n:=(q:Int)*2) (by omega) (by omega),wr64 (n:=(a:Int)+q*2) (by omega) (by omega),wr64 (n:=(a:Int)+q*2+1) (by omega) (by omega)]
 refine ⟨λhc=>?_,λhc=>H g w3 hsg hO3 hg3⟩
 refine zMy hr3 λr v' w4 hr4 hg4=>?_
 have hO4:=kept hO3 hg4
 rw [zIE (n:=(m:Int) - 1) (by omega) (by omega)]
 refine zQi (by omega) (by omega) λz hz0 hz1=>?_
 refine zFr (by kernel_rfl) (by kernel_rfl) ?_
 rw [wr64 (n:=z) (by omega) (by omega)]
 have hgo4:w.grownBy w4 (Sl.v s).ownBlock:=by
  refine ⟨hg4.os.trans hg3.os,hg4.tape.trans hg3.tape,hg4.output.trans hg3.output,zn hg3.size hg4.size,λk hk hr=>?_⟩
  exact (hg4.block k (yF hk hg3.size) (λe=>by have:=Option.some.inj e;omega)).trans (hg3.block k hk hr)
 have j3:∀ y:Nat,y<n->yo s a i (λx11' w'=>(∃ (i:Nat) (g:Nat->zM) (v:Int),x11'=(i:Int)/\a+2*q - 1<=i/\i<=a+2*q+2/\Seg a (a+n) f g/\Ow base w' s (tab g L)/\Row w' B [.int .u64 v] xC/\w.heap.size<=w'.heap.size/\w.grownBy w' (Sl.v s).ownBlock)/\(a+2*q+3 - x11').toNat<(a+2*q+3 - (i:Int)).toNat) y w4:=by
  intro y hy
  unfold yo
  rw [wr64 (n:=(a:Int)+y) (by omega) (by omega)]
  refine Y2 zq hO4 (i':=i) (j':=a+y) rfl (by omega) (by omega) (by omega) λw5 hO5 hg5=>?_
  unfold QJ
  rw [wr64 (n:=(i:Int)+1) (by omega) (by omega)]
  exact ⟨⟨i+1,_,v',by omega,by omega,by omega,.step i (a+y) (by omega) (by omega) (by omega) (by omega) hsg,hO5,hr4.grown hg5 hne,zn hsz3 (zn hg4.size hg5.size),zS hgo4 hg5⟩,by omega⟩
 obtain ⟨y,rfl⟩:∃ y:Nat,z=(y:Int):=⟨z.toNat,by omega⟩
 refine ⟨λh=>?_,λh=>j3 y (by omega)⟩
 rw [wr64 (n:=(y:Int) - n) (by omega) (by omega)]
 have:=j3 (y - n) (by omega)
 rw [show ((y - n:Nat):Int)=(y:Int) - n by omega] at this
 exact this
end SoCmpFunc_api_Pair
end Go.Proofs.YtealcoghiaeiiaaGreat.VG
set_option linter.unusedVariables false
namespace Go.VB.Srt
section
variable {α:Type} {lt:α->α->Bool}
theorem yL.snoc (O:SWO lt) {a i:Nat} {g:Nat->α} (h:yL lt a i g) (hai:a<i) (hl:Le lt (g (i - 1)) (g i)):yL lt a (i+1) g:=by
 intro p q h1 h2 h3
 by_cases hq:q=i
 ·subst hq
  by_cases hp:p=q - 1
  ·rw [hp];exact hl
  ·exact O.trans (h p (q - 1) h1 (by omega) (by omega)) hl
 ·exact h p q h1 h2 (by omega)
structure Pt (Q:α->α->Bool) (a b i j:Nat) (g:Nat->α):Prop where
 lo:∀ k,a<k->k<i->Q (g a) (g k)=true
 hi:∀ k,j<k->k<b->Q (g a) (g k)=false
theorem Pt.start (Q:α->α->Bool) (a b:Nat) (g:Nat->α):Pt Q a b (a+1) (b - 1) g:=⟨λk h1 h2=>by omega,λk h1 h2=>by omega⟩
theorem Pt.incr {Q:α->α->Bool} {a b i j:Nat} {g:Nat->α} (h:Pt Q a b i j g) (hq:Q (g a) (g i)=true):Pt Q a b (i+1) j g:=⟨λk h1 h2=>by
 by_cases hk:k=i
 ·subst hk;exact hq
 ·exact h.lo k h1 (by omega),h.hi⟩
theorem Pt.decr {Q:α->α->Bool} {a b i j:Nat} {g:Nat->α} (h:Pt Q a b i j g) (hq:Q (g a) (g j)=false):Pt Q a b i (j - 1) g:=⟨h.lo,λk h1 h2=>by
 by_cases hk:k=j
 ·subst hk;exact hq
 ·exact h.hi k (by omega) h2⟩
theorem Pt.swap {Q:α->α->Bool} {a b i j:Nat} {g:Nat->α} (h:Pt Q a b i j g) (hai:a<i) (hij:i<j) (h1:Q (g a) (g i)=false) (h2:Q (g a) (g j)=true):Pt Q a b (i+1) (j - 1) (swp g i j):=by
 have e:swp g i j a=g a:=zDM g (by omega) (by omega)
 refine ⟨λk hk hk'=>?_,λk hk hk'=>?_⟩
 ·rw [e]
  by_cases h3:k=i
  ·rw [h3,zKk];exact h2
  ·rw [zDM g h3 (by omega)];exact h.lo k hk (by omega)
 ·rw [e]
  by_cases h3:k=j
  ·rw [h3,zNB];exact h1
  ·rw [zDM g (by omega) h3];exact h.hi k (by omega) hk'
structure zGd (lt:α->α->Bool) (a b m:Nat) (h:Nat->α):Prop where
 lo:∀ k,a<=k->k<m->Le lt (h k) (h m)
 hi:∀ k,m<k->k<b->Le lt (h m) (h k)
theorem Pt.done (O:SWO lt) {a b i j:Nat} {g:Nat->α} (h:Pt (λp z=>lt z p) a b i j g) (haj:a<=j) (hji:j<i):zGd lt a b j (swp g j a):=by
 have em:swp g j a j=g a:=zKk g j a
 refine ⟨λk h1 h2=>?_,λk h1 h2=>?_⟩
 ·rw [em]
  by_cases hk:k=a
  ·rw [hk,zNB];exact O.of_lt (h.lo j (by omega) hji)
  ·rw [zDM g (by omega) hk];exact O.of_lt (h.lo k (by omega) (by omega))
 ·rw [em,zDM g (by omega) (by omega)];exact h.hi k h1 h2
theorem zGd.left {a b m:Nat} {g h:Nat->α} (p:zGd lt a b m g) (s:Seg a m g h):zGd lt a b m h:=by
 have e:h m=g m:=s.out m (.inr (zU _))
 refine ⟨λk h1 h2=>?_,λk h1 h2=>?_⟩
 ·rw [e];exact s.all (Q:=λz=>Le lt z (g m)) p.lo k h1 h2
 ·rw [e,s.out k (.inr (by omega))];exact p.hi k h1 h2
theorem zGd.right {a b m:Nat} {g h:Nat->α} (p:zGd lt a b m g) (s:Seg (m+1) b g h):zGd lt a b m h:=by
 have e:h m=g m:=s.out m (.inl (Nat.lt_succ_self _))
 refine ⟨λk h1 h2=>?_,λk h1 h2=>?_⟩
 ·rw [e,s.out k (.inl (by omega))];exact p.lo k h1 h2
 ·rw [e];exact s.all (Q:=λz=>Le lt (g m) z) (λk h1 h2=>p.hi k (by omega) h2) k (by omega) h2
structure Inv (lt:α->α->Bool) (a b a1 b1:Nat) (f g:Nat->α):Prop where
 ha:a<=a1
 hb:b1<=b
 seg:Seg a b f g
 s1:yL lt a a1 g
 s2:yL lt b1 b g
 l1:∀ k q,a<=k->k<a1->a1<=q->q<b->Le lt (g k) (g q)
 l2:∀ k q,a<=k->k<b1->b1<=q->q<b->Le lt (g k) (g q)
def Pre (lt:α->α->Bool) (a b:Nat) (f:Nat->α):Prop:=a=0∨∀ k,a<=k->k<b->Le lt (f (a - 1)) (f k)
theorem Pre.seg {a b:Nat} {f g:Nat->α} (h:Pre lt a b f) (s:Seg a b f g):Pre lt a b g:=by
 rcases h with h|h
 ·exact .inl h
 ·by_cases h0:a=0
  ·exact .inl h0
  ·refine .inr ?_
   rw [s.out (a - 1) (.inl (by omega))]
   exact s.all (Q:=λz=>Le lt (f (a - 1)) z) h
theorem Inv.start (a b:Nat) (f:Nat->α):Inv lt a b a b f f:=⟨zU _,zU _,.refl f,λi j h1 h2 h3=>by omega,λi j h1 h2 h3=>by omega,λk q h1 h2=>by omega,λk q h1 h2 h3 h4=>by omega⟩
theorem Inv.turn {a b a1 b1:Nat} {f g h:Nat->α} (p:Inv lt a b a1 b1 f g) (s:Seg a1 b1 g h):Inv lt a b a1 b1 f h:=by
 have hA:=p.ha;have hB:=p.hb
 refine ⟨hA,hB,p.seg.trans (s.mono hA hB),p.s1.congr λk h1 h2=>s.out k (.inl h2),p.s2.congr λk h1 h2=>s.out k (.inr h1),λk q h1 h2 h3 h4=>?_,λk q h1 h2 h3 h4=>?_⟩
 ·rw [s.out k (.inl h2)]
  rcases Nat.lt_or_ge q b1 with h5|h5
  ·exact s.all (Q:=λz=>Le lt (g k) z) (λq h6 h7=>p.l1 k q h1 h2 h6 (by omega)) q h3 h5
  ·rw [s.out q (.inr h5)];exact p.l1 k q h1 h2 h3 h4
 ·rw [s.out q (.inr h3)]
  rcases Nat.lt_or_ge k a1 with h5|h5
  ·rw [s.out k (.inl h5)];exact p.l2 k q h1 h2 h3 h4
  ·exact s.all (Q:=λz=>Le lt z (g q)) (λk h6 h7=>p.l2 k q (by omega) h7 h3 h4) k h5 h2
theorem Inv.fin {a b a1 b1:Nat} {f g:Nat->α} (p:Inv lt a b a1 b1 f g) (s:yL lt a1 b1 g):yL lt a b g:=λi j h1 h2 h3=>by
 rcases Nat.lt_or_ge i a1 with h4|h4
 ·rcases Nat.lt_or_ge j a1 with h5|h5
  ·exact p.s1 i j h1 h2 h5
  ·exact p.l1 i j h1 h4 h5 h3
 ·rcases Nat.lt_or_ge j b1 with h5|h5
  ·exact s i j h4 h2 h5
  ·rcases Nat.lt_or_ge i b1 with h6|h6
   ·exact p.l2 i j h1 h6 h5 h3
   ·exact p.s2 i j h6 h2 h3
theorem Inv.pre {a b a1 b1:Nat} {f g:Nat->α} (p:Inv lt a b a1 b1 f g) (h:Pre lt a b f):Pre lt a1 b1 g:=by
 have hA:=p.ha;have hB:=p.hb
 by_cases h0:a1=a
 ·subst h0
  rcases h.seg p.seg with h1|h1
  ·exact .inl h1
  ·exact .inr λk h2 h3=>h1 k h2 (by omega)
 ·exact .inr λk h2 h3=>p.l1 (a1 - 1) k (by omega) (by omega) h2 (by omega)
theorem Inv.goRight {a b a1 b1 m:Nat} {f g:Nat->α} (p:Inv lt a b a1 b1 f g) (hm1:a1<=m) (hm2:m<b1) (O:SWO lt) (q:zGd lt a1 b1 m g) (s:yL lt a1 m g):Inv lt a b (m+1) b1 f g:=by
 have hA:=p.ha;have hB:=p.hb
 refine ⟨by omega,hB,p.seg,λi j h1 h2 h3=>?_,p.s2,λk r h1 h2 h3 h4=>?_,p.l2⟩
 ·rcases Nat.lt_or_ge i a1 with h4|h4
  ·rcases Nat.lt_or_ge j a1 with h5|h5
   ·exact p.s1 i j h1 h2 h5
   ·exact p.l1 i j h1 h4 h5 (by omega)
  ·by_cases h5:j=m
   ·rw [h5];exact q.lo i h4 (by omega)
   ·exact s i j h4 h2 (by omega)
 ·rcases Nat.lt_or_ge k a1 with h5|h5
  ·exact p.l1 k r h1 h5 (by omega) h4
  ·rcases Nat.lt_or_ge r b1 with h6|h6
   ·have e1:Le lt (g m) (g r):=q.hi r (by omega) h6
    by_cases h7:k=m
    ·rw [h7];exact e1
    ·exact O.trans (q.lo k h5 (by omega)) e1
   ·exact p.l2 k r h1 (by omega) h6 h4
theorem Inv.goLeft {a b a1 b1 m:Nat} {f g:Nat->α} (p:Inv lt a b a1 b1 f g) (hm1:a1<=m) (hm2:m<b1) (O:SWO lt) (q:zGd lt a1 b1 m g) (s:yL lt (m+1) b1 g):Inv lt a b a1 m f g:=by
 have hA:=p.ha;have hB:=p.hb
 refine ⟨hA,by omega,p.seg,p.s1,λi j h1 h2 h3=>?_,p.l1,λk r h1 h2 h3 h4=>?_⟩
 ·rcases Nat.lt_or_ge j b1 with h5|h5
  ·by_cases h6:i=m
   ·rw [h6];exact q.hi j (by omega) h5
   ·exact s i j (by omega) h2 h5
  ·rcases Nat.lt_or_ge i b1 with h6|h6
   ·exact p.l2 i j (by omega) h6 h5 h3
   ·exact p.s2 i j h6 h2 h3
 ·rcases Nat.lt_or_ge r b1 with h5|h5
  ·rcases Nat.lt_or_ge k a1 with h6|h6
   ·exact p.l1 k r h1 h6 (by omega) h4
   ·have e1:Le lt (g k) (g m):=q.lo k h6 h2
    by_cases h7:r=m
    ·rw [h7];exact e1
    ·exact O.trans e1 (q.hi r (by omega) h5)
  ·exact p.l2 k r h1 (by omega) h5 h4
theorem Inv.goEqual {a b a1 b1 m:Nat} {f g:Nat->α} (p:Inv lt a b a1 b1 f g) (hm1:a1<=m) (hm2:m<=b1) (O:SWO lt) {v:α} (hv:∀ k,a1<=k->k<m->Le lt (g k) v) (hv2:∀ k,a1<=k->k<b1->Le lt v (g k)):Inv lt a b m b1 f g:=by
 have hA:=p.ha;have hB:=p.hb
 refine ⟨by omega,hB,p.seg,λi j h1 h2 h3=>?_,p.s2,λk r h1 h2 h3 h4=>?_,p.l2⟩
 ·rcases Nat.lt_or_ge i a1 with h4|h4
  ·rcases Nat.lt_or_ge j a1 with h5|h5
   ·exact p.s1 i j h1 h2 h5
   ·exact p.l1 i j h1 h4 h5 (by omega)
  ·exact O.trans (hv i h4 (by omega)) (hv2 j (by omega) (by omega))
 ·rcases Nat.lt_or_ge k a1 with h5|h5
  ·exact p.l1 k r h1 h5 (by omega) h4
  ·rcases Nat.lt_or_ge r b1 with h6|h6
   ·exact O.trans (hv k h5 h2) (hv2 r (by omega) h6)
   ·exact p.l2 k r h1 (by omega) h6 h4
end
end Go.VB.Srt
set_option linter.unusedVariables false
namespace Go.Proofs.YtealcoghiaeiiaaGreat.VG
open Go.VB Go.VB.Srt Go.Proofs
namespace SoCmpFunc_api_Pair
section
variable {cmp:Value} {lt:zM->zM->Bool} (O:SWO lt) (hcmp:Cmps cmp lt) {base:Nat} {w:World} {s:Sl} {L:Nat} {f:Nat->zM}
include O hcmp
theorem zG2 (hO:Ow base w s (tab f L)) {a b:Nat} (hA:a<b) (hb:b<=L) (hpre:Pre lt a b f) {k:Bool->World->Prop}
  (H:∀ r g w',Seg a b f g->(r=true->yL lt a b g)->Ow base w' s (tab g L)->w.grownBy w' (Sl.v s).ownBlock->k r w'):
  Cl zA zCq [Sl.v s,.int .i64 (a:Int),.int .i64 (b:Int),cmp].toArray w (λe w'=>∃ r0:Bool,e=.returned (.bool r0)/\k r0 w'):=by
 refine zCp s a b cmp w k ?_
 have hlen:=hO.len;have hsm:=hO.small
 rw [xP] at hlen
 unfold ZJ
 refine ⟨λx y w1=>∃ (i:Nat) (g:Nat->zM),x=(i:Int)/\0<=y/\y<=5/\a+1<=i/\i<=b/\Seg a b f g/\yL lt a i g/\Ow base w1 s (tab g L)/\w.grownBy w1 (Sl.v s).ownBlock,λ_ y _=>(5 - y).toNat,?_,?_⟩
 ·rw [wr64 (by omega) (by omega)]
  exact ⟨a+1,f,by omega,by decide,by decide,zU _,by omega,.refl f,yL.small (zU _),hO,World.grownBy.refl _ _⟩
 rintro x y w1 ⟨i0,g0,rfl,hy0,hy5,hi1,hi2,hsg0,hso0,hO1,hg1⟩
 unfold QF
 refine ⟨λhc5=>?_,λ_=>H false g0 w1 hsg0 (λh=>(nomatch h)) hO1 hg1⟩
 have next:∀ (i:Nat) (g:Nat->zM) (w2:World),a+1<=i->i<=b->Seg a b f g->yL lt a i g->Ow base w2 s (tab g L)->w.grownBy w2 (Sl.v s).ownBlock->
   yB y (λx9' x10' w'=>(∃ (i:Nat) (g:Nat->zM),x9'=(i:Int)/\0<=x10'/\x10'<=5/\a+1<=i/\i<=b/\Seg a b f g/\yL lt a i g/\Ow base w' s (tab g L)/\w.grownBy w' (Sl.v s).ownBlock)/\(5 - x10').toNat<(5 - y).toNat) (i:Int) w2:=by
  intro i g w2 h1 h2 h3 h4 h5 h6
  unfold yB
  rw [wr64 (by omega) (by omega)]
  exact ⟨⟨i,g,rfl,by omega,by omega,h1,h2,h3,h4,h5,h6⟩,by omega⟩
 generalize hKl:(λ(x9' x10':Int) (w':World)=>(∃ (i:Nat) (g:Nat->zM),x9'=(i:Int)/\0<=x10'/\x10'<=5/\a+1<=i/\i<=b/\Seg a b f g/\yL lt a i g/\Ow base w' s (tab g L)/\w.grownBy w' (Sl.v s).ownBlock)/\(5 - x10').toNat<(5 - y).toNat)=Kl at next
 have j6:∀ (i:Nat) (g:Nat->zM) (w2:World),a+1<=i->i<=b->Seg a b f g->yL lt a i g->Ow base w2 s (tab g L)->w.grownBy w2 (Sl.v s).ownBlock->z5 s b cmp y Kl (i:Int) w2:=by
  intro i g w2 h1 h2 h3 h4 h5 h6
  unfold z5
  refine ⟨λ_=>?_,λ_=>next i g w2 h1 h2 h3 h4 h5 h6⟩
  rw [wr64 (n:=(i:Int)+1) (by omega) (by omega)]
  refine ⟨λx w3=>∃ (m:Nat) (h:Nat->zM),x=(m:Int)/\i+1<=m/\m<=b+1/\Seg a b f h/\yL lt a i h/\Ow base w3 s (tab h L)/\w.grownBy w3 (Sl.v s).ownBlock,λx _=>(b+1 - x).toNat,?_,?_⟩
  ·exact ⟨i+1,g,by omega,zU _,by omega,h3,h4,h5,h6⟩
  rintro x w3 ⟨m,h,rfl,hm1,hm2,hsg,hso,hO3,hg3⟩
  unfold QD
  refine ⟨λhc=>?_,λ_=>next i h w3 h1 h2 hsg hso hO3 hg3⟩
  refine yJ zq hO3 (i':=m) rfl (by omega) ?_
  refine yJ zq hO3 (i':=m - 1) (by rw [wr64 (by omega) (by omega)];omega) (by omega) ?_
  obtain ⟨r,hr,hl⟩:=hcmp w3 (h m) (h (m - 1))
  refine ⟨r,hr,?_⟩
  rw [ZR hl]
  intro w4 hb4
  refine ⟨λ_=>next i h w4 h1 h2 hsg hso (hO3.bel hb4) (zS hg3 (zo hb4 _)),λ_=>?_⟩
  refine Y2 zq (hO3.bel hb4) (i':=m) (j':=m - 1) rfl (by rw [wr64 (by omega) (by omega)];omega) (by omega) (by omega) λw5 hO5 hg5=>?_
  unfold ym
  rw [wr64 (n:=(m:Int)+1) (by omega) (by omega)]
  exact ⟨⟨m+1,_,by omega,by omega,by omega,.step m (m - 1) (by omega) (by omega) (by omega) (by omega) hsg,hso.congr λq h7 h8=>zDM h (by omega) (by omega),hO5,zS (zS hg3 (zo hb4 _)) hg5⟩,by dsimp only;omega⟩
 refine ⟨λx w2=>∃ (i:Nat) (g:Nat->zM),x=(i:Int)/\a+1<=i/\i<=b/\Seg a b f g/\yL lt a i g/\Ow base w2 s (tab g L)/\w.grownBy w2 (Sl.v s).ownBlock,λx _=>(b - x).toNat,⟨i0,g0,rfl,hi1,hi2,hsg0,hso0,hO1,hg1⟩,?_⟩
 rintro x w2 ⟨i,g,rfl,hi1,hi2,hsg,hso,hO2,hg2⟩
 unfold QG
 generalize hK3:(λ(x9_2':Int) (w':World)=>(∃ (i:Nat) (g:Nat->zM),x9_2'=(i:Int)/\a+1<=i/\i<=b/\Seg a b f g/\yL lt a i g/\Ow base w' s (tab g L)/\w.grownBy w' (Sl.v s).ownBlock)/\(b - x9_2').toNat<(b - (i:Int)).toNat)=K3
 have stop:∀ w3,Bel w2 w3->(i<b->lt (g i) (g (i - 1))=true)->yl s a b cmp k y Kl (i:Int) K3 false w2:=by
  intro w3' hb3' hlt w3 hb3
  have hO3:=hO2.bel hb3
  have hg3:=zS hg2 (zo hb3 _)
  refine ⟨λh=>(nomatch h),λ_=>⟨λhib=>?_,λhib=>⟨λ_=>H false g w3 hsg (λh=>(nomatch h)) hO3 hg3,λ_=>?_⟩⟩⟩
  ·obtain rfl:i=b:=by omega
   exact H true g w3 hsg (λ_=>hso) hO3 hg3
  have hib':i<b:=by omega
  refine Y2 zq hO3 (i':=i) (j':=i - 1) rfl (by rw [wr64 (by omega) (by omega)];omega) (by omega) (by omega) λw4 hO4 hg4=>?_
  have hg04:=zS hg3 hg4
  have hsg4:Seg a b f (swp g i (i - 1)):=.step i (i - 1) (by omega) (by omega) (by omega) (by omega) hsg
  have hso4:yL lt a (i - 1) (swp g i (i - 1)):=yL.congr (f:=g) (λp q h1 h2 h3=>hso p q h1 h2 (by omega)) λq h1 h2=>zDM g (by omega) (by omega)
  unfold yk
  refine ⟨λhia=>?_,λhia=>j6 i _ w4 hi1 hi2 hsg4 (yL.small (by rw [wr64 (by omega) (by omega)] at hia;omega)) hO4 hg04⟩
  rw [wr64 (by omega) (by omega)] at hia
  rw [wr64 (by omega) (by omega)]
  refine ⟨λx w5=>∃ (j:Nat) (h:Nat->zM),x=(j:Int)/\a<=j/\j<=i - 1/\Seg a b f h/\Hole lt a (i - 1) j h/\Ow base w5 s (tab h L)/\w.grownBy w5 (Sl.v s).ownBlock,λx _=>x.toNat,⟨i - 1,_,by omega,by omega,zU _,hsg4,Hole.start hso4,hO4,hg04⟩,?_⟩
  rintro x w5 ⟨j,h,rfl,hj1,hj2,hsg5,hho,hO5,hg5⟩
  unfold QE
  have out:∀ w6,Bel w5 w6->(j<=a∨Le lt (h (j - 1)) (h j))->z5 s b cmp y Kl (i:Int) w6:=by
   intro w6 hb6 hd
   have:=hho.done O hd
   rw [show i - 1+1=i by omega] at this
   exact j6 i h w6 hi1 hi2 hsg5 this (hO5.bel hb6) (zS hg5 (zo hb6 _))
  refine ⟨λhc=>?_,λhc=>out w5 (Bel.refl _) (.inl (by omega))⟩
  refine yJ zq hO5 (i':=j) rfl (by omega) ?_
  refine yJ zq hO5 (i':=j - 1) (by rw [wr64 (by omega) (by omega)];omega) (by omega) ?_
  obtain ⟨r,hr,hl⟩:=hcmp w5 (h j) (h (j - 1))
  refine ⟨r,hr,?_⟩
  rw [ZR hl]
  intro w6 hb6
  refine ⟨λhn=>out w6 hb6 (.inr (show lt (h j) (h (j - 1))=false by simpa using hn)),λhn=>?_⟩
  have hn':lt (h j) (h (j - 1))=true:=by simpa using hn
  have haj:a<j:=by
   rcases Nat.lt_or_ge a j with h1|h1
   ·exact h1
   ·obtain rfl:j=a:=by omega
    rcases hpre.seg hsg5 with h2|h2
    ·omega
    ·have:=h2 j (zU _) hA
     unfold Le at this
     rw [hn'] at this;cases this
  refine Y2 zq (hO5.bel hb6) (i':=j) (j':=j - 1) rfl (by rw [wr64 (by omega) (by omega)];omega) (by omega) (by omega) λw7 hO7 hg7=>?_
  unfold yd
  rw [wr64 (n:=(j:Int) - 1) (by omega) (by omega)]
  exact ⟨⟨j - 1,_,by omega,by omega,by omega,.step j (j - 1) (by omega) (by omega) (by omega) (by omega) hsg5,hho.step O haj hj2 hn',hO7,zS (zS hg5 (zo hb6 _)) hg7⟩,by dsimp only;omega⟩
 refine ⟨λhc=>?_,λhc=>stop w2 (Bel.refl _) (λh=>by omega)⟩
 refine yJ zq hO2 (i':=i) rfl (by omega) ?_
 refine yJ zq hO2 (i':=i - 1) (by rw [wr64 (by omega) (by omega)];omega) (by omega) ?_
 obtain ⟨r,hr,hl⟩:=hcmp w2 (g i) (g (i - 1))
 refine ⟨r,hr,?_⟩
 rw [ZR hl]
 cases hlt:lt (g i) (g (i - 1)) with
 |true=>exact stop w2 (Bel.refl _) (λ_=>hlt)
 |false=>
  intro w3 hb3
  refine ⟨λ_=>?_,λh=>(nomatch h)⟩
  rw [wr64 (n:=(i:Int)+1) (by omega) (by omega),← hK3]
  exact ⟨⟨i+1,g,by omega,by omega,by omega,hsg,hso.snoc O (by omega) hlt,hO2.bel hb3,zS hg2 (zo hb3 _)⟩,by omega⟩
end
end SoCmpFunc_api_Pair
end Go.Proofs.YtealcoghiaeiiaaGreat.VG
set_option linter.unusedVariables false
namespace Go.Proofs.YtealcoghiaeiiaaGreat.VG
open Go.VB Go.VB.Srt Go.Proofs
namespace SoCmpFunc_api_Pair
section
variable {cmp:Value} {lt:zM->zM->Bool} (O:SWO lt) (hcmp:Cmps cmp lt) {base:Nat} {w:World} {s:Sl} {L:Nat} {f:Nat->zM}
include O hcmp
theorem zIi (hO:Ow base w s (tab f L)) {a b p:Nat} (hA:a<=p) (hp:p<b) (hb:b<=L) {k:Int->World->Prop}
  (H:∀ (m:Nat) g w',a<m->m<=b->Seg a b f g->(∀ q,a<=q->q<m->Le lt (g q) (f p))->Ow base w' s (tab g L)->w.grownBy w' (Sl.v s).ownBlock->k m w'):
  Cl zA zDj [Sl.v s,.int .i64 (a:Int),.int .i64 (b:Int),.int .i64 (p:Int),cmp].toArray w (λe w'=>∃ r0:Int,e=.returned (.int .i64 r0)/\k r0 w'):=by
 refine zDm s a b p cmp w k ?_
 have hlen:=hO.len;have hsm:=hO.small
 rw [xP] at hlen
 unfold Zx
 refine Y2 zq hO (i':=a) (j':=p) rfl rfl (by omega) (by omega) λw1 hO1 hg1=>?_
 have hs1:Seg a b f (swp f a p):=Seg.one f (by omega) (by omega) (by omega) (by omega)
 have ha1:swp f a p a=f p:=zKk f a p
 generalize (swp f a p)=f1 at hO1 hs1 ha1
 unfold xg
 rw [wr64 (n:=(a:Int)+1) (by omega) (by omega),wr64 (n:=(b:Int) - 1) (by omega) (by omega)]
 refine ⟨λx y w2=>∃ (i j:Nat) (g:Nat->zM),x=(i:Int)/\y=(j:Int)/\a<i/\a<=j/\i<=j+1/\j<b/\Seg a b f g/\g a=f p/\Pt (λq z=>!(lt q z)) a b i j g/\Ow base w2 s (tab g L)/\w.grownBy w2 (Sl.v s).ownBlock,λx y _=>(y+1 - x).toNat,?_,?_⟩
 ·exact ⟨a+1,b - 1,f1,by omega,by omega,by omega,by omega,by omega,by omega,hs1,ha1,Pt.start _ a b f1,hO1,hg1⟩
 rintro x y w2 ⟨i0,j0,g,rfl,rfl,hi0,hj0,hij0,hjb,hsg,hga,hpt0,hO2,hg2⟩
 unfold YN
 generalize hKl2:(λ(x11' x12':Int) (w':World)=>(∃ (i j:Nat) (g:Nat->zM),x11'=(i:Int)/\x12'=(j:Int)/\a<i/\a<=j/\i<=j+1/\j<b/\Seg a b f g/\g a=f p/\Pt (λq z=>!(lt q z)) a b i j g/\Ow base w' s (tab g L)/\w.grownBy w' (Sl.v s).ownBlock)/\(x12'+1 - x11').toNat<((j0:Int)+1 - (i0:Int)).toNat)=Kl2
 refine ⟨λx w3=>∃ i:Nat,x=(i:Int)/\i0<=i/\i<=j0+1/\Pt (λq z=>!(lt q z)) a b i j0 g/\Bel w2 w3,λx _=>(j0+1 - x).toNat,⟨i0,rfl,zU _,hij0,hpt0,Bel.refl _⟩,?_⟩
 rintro x w3 ⟨i,rfl,hi1,hi2,hpt,hb3⟩
 have hO3:=hO2.bel hb3
 unfold YM
 generalize hKl3:(λ(x11_1':Int) (w':World)=>(∃ i:Nat,x11_1'=(i:Int)/\i0<=i/\i<=j0+1/\Pt (λq z=>!(lt q z)) a b i j0 g/\Bel w2 w')/\(j0+1 - x11_1').toNat<((j0:Int)+1 - (i:Int)).toNat)=Kl3
 have down:∀ w4,Bel w3 w4->(i<=j0->lt (g a) (g i)=true)->xr s a cmp k (j0:Int) Kl2 (i:Int) Kl3 false w3:=by
  intro w4' hb4' hlti w4 hb4
  refine ⟨λh=>(nomatch h),λ_=>?_⟩
  refine ⟨λy w5=>∃ j:Nat,y=(j:Int)/\a<=j/\i<=j+1/\j<=j0/\Pt (λq z=>!(lt q z)) a b i j g/\Bel w2 w5,λy _=>y.toNat,⟨j0,rfl,hj0,hi2,zU _,hpt,hb3.trans hb4⟩,?_⟩
  rintro y w5 ⟨j,rfl,hj1,hj2,hj3,hptj,hb5⟩
  have hO5:=hO2.bel hb5
  unfold YL
  generalize hKl5:(λ(x12_1':Int) (w':World)=>(∃ j:Nat,x12_1'=(j:Int)/\a<=j/\i<=j+1/\j<=j0/\Pt (λq z=>!(lt q z)) a b i j g/\Bel w2 w')/\x12_1'.toNat<((j:Int)).toNat)=Kl5
  have stop:(i<=j->lt (g a) (g j)=false)->xj s k Kl2 (i:Int) (j:Int) Kl5 false w5:=by
   intro hltj w6 hb6
   have hO6:=hO5.bel hb6
   have hg6:=zS hg2 (zo (hb5.trans hb6) (Sl.v s).ownBlock)
   refine ⟨λh=>(nomatch h),λ_=>⟨λhc=>?_,λhc=>?_⟩⟩
   ·refine H i g w6 (by omega) (by omega) hsg (λq h1 h2=>?_) hO6 hg6
    rw [← hga]
    by_cases hq:q=a
    ·rw [hq];exact O.refl _
    ·have:=hptj.lo q (by omega) h2
     unfold Le;simpa using this
   ·have hij:i<j:=by
     rcases Nat.lt_or_ge i j with h1|h1
     ·exact h1
     ·obtain rfl:i=j:=by omega
      have h2:=hlti (by omega)
      have h3:=hltj (zU _)
      rw [h2] at h3;cases h3
    refine Y2 zq hO6 (i':=i) (j':=j) rfl rfl (by omega) (by omega) λw7 hO7 hg7=>?_
    unfold xq
    rw [wr64 (n:=(i:Int)+1) (by omega) (by omega),wr64 (n:=(j:Int) - 1) (by omega) (by omega),← hKl2]
    exact ⟨⟨i+1,j - 1,_,by omega,by omega,by omega,by omega,by omega,by omega,.step i j (by omega) (by omega) (by omega) (by omega) hsg,by rw [zDM g (by omega) (by omega)];exact hga,
     hptj.swap (by omega) hij (by simp [hlti (by omega)]) (by simp [hltj (by omega)]),hO7,zS hg6 hg7⟩,by omega⟩
  refine ⟨λhc=>?_,λhc=>stop (λh=>by omega)⟩
  refine yJ zq hO5 (i':=a) rfl (by omega) ?_
  refine yJ zq hO5 (i':=j) rfl (by omega) ?_
  obtain ⟨r,hr,hl⟩:=hcmp w5 (g a) (g j)
  refine ⟨r,hr,?_⟩
  rw [ZR hl]
  cases hlt:lt (g a) (g j) with
  |false=>exact stop (λ_=>hlt)
  |true=>
   intro w6 hb6
   refine ⟨λ_=>?_,λh=>(nomatch h)⟩
   rw [wr64 (n:=(j:Int) - 1) (by omega) (by omega),← hKl5]
   exact ⟨⟨j - 1,by omega,by omega,by omega,by omega,hptj.decr (by simp [hlt]),hb5.trans hb6⟩,by omega⟩
 refine ⟨λhc=>?_,λhc=>down w3 (Bel.refl _) (λh=>by omega)⟩
 refine yJ zq hO3 (i':=a) rfl (by omega) ?_
 refine yJ zq hO3 (i':=i) rfl (by omega) ?_
 obtain ⟨r,hr,hl⟩:=hcmp w3 (g a) (g i)
 refine ⟨r,hr,?_⟩
 rw [ZR hl]
 cases hlt:lt (g a) (g i) with
 |true=>exact down w3 (Bel.refl _) (λ_=>hlt)
 |false=>
  intro w4 hb4
  refine ⟨λ_=>?_,λh=>(nomatch h)⟩
  rw [wr64 (n:=(i:Int)+1) (by omega) (by omega),← hKl3]
  exact ⟨⟨i+1,by omega,by omega,by omega,hpt.incr (by simp [hlt]),hb3.trans hb4⟩,by omega⟩
theorem zJ7 (hO:Ow base w s (tab f L)) {a b p:Nat} (hA:a<=p) (hp:p<b) (hb:b<=L) {k:Int->Bool->World->Prop}
  (H:∀ (m:Nat) (r:Bool) g w',a<=m->m<b->Seg a b f g->zGd lt a b m g->Ow base w' s (tab g L)->w.grownBy w' (Sl.v s).ownBlock->k m r w'):
  Cl zA zE6 [Sl.v s,.int .i64 (a:Int),.int .i64 (b:Int),.int .i64 (p:Int),cmp].toArray w (λe w'=>∃ (r0:Int) (r1:Bool),e=.returned (.tuple [.int .i64 r0,.bool r1].toArray)/\k r0 r1 w'):=by
 refine zE4 s a b p cmp w k ?_
 have hlen:=hO.len;have hsm:=hO.small
 rw [xP] at hlen
 unfold zAs
 refine Y2 zq hO (i':=a) (j':=p) rfl rfl (by omega) (by omega) λw1 hO1 hg1=>?_
 have hs1:Seg a b f (swp f a p):=Seg.one f (by omega) (by omega) (by omega) (by omega)
 generalize (swp f a p)=f1 at hO1 hs1
 unfold YF
 rw [wr64 (n:=(a:Int)+1) (by omega) (by omega)]
 have hbm:zC .i64 ((b:Int) - 1)=((b - 1:Nat):Int):=by rw [wr64 (by omega) (by omega)];omega
 have main:∀ (i0 j0:Nat) (g0:Nat->zM) (w0:World),a<i0->a<=j0->i0<=j0+1->j0<b->Seg a b f g0->Pt (λq z=>lt z q) a b i0 j0 g0->Ow base w0 s (tab g0 L)->w.grownBy w0 (Sl.v s).ownBlock->
   ∃ (I:Int->Int->World->Prop) (μ:Int->Int->World->Nat),I (i0:Int) (j0:Int) w0/\∀ (x12_1:Int) (x13_1:Int) w,I x12_1 x13_1 w->Qy s a cmp k x12_1 x13_1 w (λx12_1' x13_1' w'=>I x12_1' x13_1' w'/\μ x12_1' x13_1' w'<μ x12_1 x13_1 w):=by
  intro i0 j0 g0 w0 h1 h2 h3 h4 h5 h6 h7 h8
  refine ⟨λx y w2=>∃ (i j:Nat) (g:Nat->zM),x=(i:Int)/\y=(j:Int)/\a<i/\a<=j/\i<=j+1/\j<b/\Seg a b f g/\Pt (λq z=>lt z q) a b i j g/\Ow base w2 s (tab g L)/\w.grownBy w2 (Sl.v s).ownBlock,λx y _=>(y+1 - x).toNat,⟨i0,j0,g0,rfl,rfl,h1,h2,h3,h4,h5,h6,h7,h8⟩,?_⟩
  rintro x y w2 ⟨i0,j0,g,rfl,rfl,hi0,hj0,hij0,hjb,hsg,hpt0,hO2,hg2⟩
  unfold Qy
  generalize hKl8:(λ(x12' x13':Int) (w':World)=>(∃ (i j:Nat) (g:Nat->zM),x12'=(i:Int)/\x13'=(j:Int)/\a<i/\a<=j/\i<=j+1/\j<b/\Seg a b f g/\Pt (λq z=>lt z q) a b i j g/\Ow base w' s (tab g L)/\w.grownBy w' (Sl.v s).ownBlock)/\(x13'+1 - x12').toNat<((j0:Int)+1 - (i0:Int)).toNat)=Kl8
  refine ⟨λx w3=>∃ i:Nat,x=(i:Int)/\i0<=i/\i<=j0+1/\Pt (λq z=>lt z q) a b i j0 g/\Bel w2 w3,λx _=>(j0+1 - x).toNat,⟨i0,rfl,zU _,hij0,hpt0,Bel.refl _⟩,?_⟩
  rintro x w3 ⟨i,rfl,hi1,hi2,hpt,hb3⟩
  have hO3:=hO2.bel hb3
  unfold Y9
  generalize hKl9:(λ(x12_2':Int) (w':World)=>(∃ i:Nat,x12_2'=(i:Int)/\i0<=i/\i<=j0+1/\Pt (λq z=>lt z q) a b i j0 g/\Bel w2 w')/\(j0+1 - x12_2').toNat<((j0:Int)+1 - (i:Int)).toNat)=Kl9
  have down:(i<=j0->lt (g i) (g a)=false)->Qx s a cmp k (j0:Int) Kl8 (i:Int) Kl9 false w3:=by
   intro hlti w4 hb4
   refine ⟨λh=>(nomatch h),λ_=>?_⟩
   refine ⟨λy w5=>∃ j:Nat,y=(j:Int)/\a<=j/\i<=j+1/\j<=j0/\Pt (λq z=>lt z q) a b i j g/\Bel w2 w5,λy _=>y.toNat,⟨j0,rfl,hj0,hi2,zU _,hpt,hb3.trans hb4⟩,?_⟩
   rintro y w5 ⟨j,rfl,hj1,hj2,hj3,hptj,hb5⟩
   have hO5:=hO2.bel hb5
   unfold Yw
   generalize hKl11:(λ(x13_2':Int) (w':World)=>(∃ j:Nat,x13_2'=(j:Int)/\a<=j/\i<=j+1/\j<=j0/\Pt (λq z=>lt z q) a b i j g/\Bel w2 w')/\x13_2'.toNat<((j:Int)).toNat)=Kl11
   have stop:(i<=j->lt (g j) (g a)=true)->Qz s a k Kl8 (i:Int) (j:Int) Kl11 false w5:=by
    intro hltj w6 hb6
    have hO6:=hO5.bel hb6
    have hg6:=zS hg2 (zo (hb5.trans hb6) (Sl.v s).ownBlock)
    refine ⟨λh=>(nomatch h),λ_=>⟨λhc=>?_,λhc=>?_⟩⟩
    ·refine Y2 zq hO6 (i':=j) (j':=a) rfl rfl (by omega) (by omega) λw7 hO7 hg7=>?_
     unfold Q2
     exact H j false _ w7 hj1 (by omega) (.step j a (by omega) (by omega) (by omega) (by omega) hsg) (hptj.done O hj1 (by omega)) hO7 (zS hg6 hg7)
    ·have hij:i<j:=by
      rcases Nat.lt_or_ge i j with h1|h1
      ·exact h1
      ·obtain rfl:i=j:=by omega
       have h2:=hlti (by omega)
       have h3:=hltj (zU _)
       rw [h2] at h3;cases h3
     refine Y2 zq hO6 (i':=i) (j':=j) rfl rfl (by omega) (by omega) λw7 hO7 hg7=>?_
     unfold Q3
     rw [wr64 (n:=(i:Int)+1) (by omega) (by omega),wr64 (n:=(j:Int) - 1) (by omega) (by omega),← hKl8]
     exact ⟨⟨i+1,j - 1,_,by omega,by omega,by omega,by omega,by omega,by omega,.step i j (by omega) (by omega) (by omega) (by omega) hsg,
      hptj.swap (by omega) hij (hlti (by omega)) (hltj (by omega)),hO7,zS hg6 hg7⟩,by omega⟩
   refine ⟨λhc=>?_,λhc=>stop (λh=>by omega)⟩
   refine yJ zq hO5 (i':=j) rfl (by omega) ?_
   refine yJ zq hO5 (i':=a) rfl (by omega) ?_
   obtain ⟨r,hr,hl⟩:=hcmp w5 (g j) (g a)
   refine ⟨r,hr,?_⟩
   rw [ZR hl]
   cases hlt:lt (g j) (g a) with
   |true=>exact stop (λ_=>hlt)
   |false=>
    intro w6 hb6
    refine ⟨λ_=>?_,λh=>(nomatch h)⟩
    rw [wr64 (n:=(j:Int) - 1) (by omega) (by omega),← hKl11]
    exact ⟨⟨j - 1,by omega,by omega,by omega,by omega,hptj.decr hlt,hb5.trans hb6⟩,by omega⟩
  refine ⟨λhc=>?_,λhc=>down (λh=>by omega)⟩
  refine yJ zq hO3 (i':=i) rfl (by omega) ?_
  refine yJ zq hO3 (i':=a) rfl (by omega) ?_
  obtain ⟨r,hr,hl⟩:=hcmp w3 (g i) (g a)
  refine ⟨r,hr,?_⟩
  rw [ZR hl]
  cases hlt:lt (g i) (g a) with
  |false=>exact down (λ_=>hlt)
  |true=>
   intro w4 hb4
   refine ⟨λ_=>?_,λh=>(nomatch h)⟩
   rw [wr64 (n:=(i:Int)+1) (by omega) (by omega),← hKl9]
   exact ⟨⟨i+1,by omega,by omega,by omega,hpt.incr hlt,hb3.trans hb4⟩,by omega⟩
 refine ⟨λx w3=>∃ i:Nat,x=(i:Int)/\a<i/\i<=b - 1+1/\Pt (λq z=>lt z q) a b i (b - 1) f1/\Bel w1 w3,λx _=>(b+1 - x).toNat,⟨a+1,by omega,by omega,by omega,Pt.start _ a b f1,Bel.refl _⟩,?_⟩
 rintro x w3 ⟨i,rfl,hi1,hi2,hpt,hb3⟩
 have hO3:=hO1.bel hb3
 unfold ZA
 generalize hKl2:(λ(x12':Int) (w':World)=>(∃ i:Nat,x12'=(i:Int)/\a<i/\i<=b - 1+1/\Pt (λq z=>lt z q) a b i (b - 1) f1/\Bel w1 w')/\(b+1 - x12').toNat<((b:Int)+1 - (i:Int)).toNat)=Kl2
 rw [hbm]
 have down:(i<=b - 1->lt (f1 i) (f1 a)=false)->xZ s a b cmp k (i:Int) Kl2 false w3:=by
  intro hlti
  unfold xZ
  intro w4 hb4
  refine ⟨λh=>(nomatch h),λ_=>?_⟩
  rw [hbm]
  refine ⟨λy w5=>∃ j:Nat,y=(j:Int)/\a<=j/\i<=j+1/\j<=b - 1/\Pt (λq z=>lt z q) a b i j f1/\Bel w1 w5,λy _=>y.toNat,⟨b - 1,rfl,by omega,hi2,zU _,hpt,hb3.trans hb4⟩,?_⟩
  rintro y w5 ⟨j,rfl,hj1,hj2,hj3,hptj,hb5⟩
  have hO5:=hO1.bel hb5
  unfold Y7
  generalize hKl4:(λ(x13':Int) (w':World)=>(∃ j:Nat,x13'=(j:Int)/\a<=j/\i<=j+1/\j<=b - 1/\Pt (λq z=>lt z q) a b i j f1/\Bel w1 w')/\x13'.toNat<((j:Int)).toNat)=Kl4
  have stop:(i<=j->lt (f1 j) (f1 a)=true)->Q9 s a cmp k (i:Int) (j:Int) Kl4 false w5:=by
   intro hltj w6 hb6
   have hO6:=hO5.bel hb6
   have hg6:=zS hg1 (zo (hb5.trans hb6) (Sl.v s).ownBlock)
   refine ⟨λh=>(nomatch h),λ_=>⟨λhc=>?_,λhc=>?_⟩⟩
   ·refine Y2 zq hO6 (i':=j) (j':=a) rfl rfl (by omega) (by omega) λw7 hO7 hg7=>?_
    unfold YH
    exact H j true _ w7 hj1 (by omega) (.step j a (by omega) (by omega) (by omega) (by omega) hs1) (hptj.done O hj1 (by omega)) hO7 (zS hg6 hg7)
   ·have hij:i<j:=by
     rcases Nat.lt_or_ge i j with h1|h1
     ·exact h1
     ·obtain rfl:i=j:=by omega
      have h2:=hlti (by omega)
      have h3:=hltj (zU _)
      rw [h2] at h3;cases h3
    refine Y2 zq hO6 (i':=i) (j':=j) rfl rfl (by omega) (by omega) λw7 hO7 hg7=>?_
    unfold YE
    rw [wr64 (n:=(i:Int)+1) (by omega) (by omega),wr64 (n:=(j:Int) - 1) (by omega) (by omega),show (i:Int)+1=((i+1:Nat):Int) by omega,show (j:Int) - 1=((j - 1:Nat):Int) by omega]
    exact main (i+1) (j - 1) _ w7 (by omega) (by omega) (by omega) (by omega) (.step i j (by omega) (by omega) (by omega) (by omega) hs1) (hptj.swap (by omega) hij (hlti (by omega)) (hltj (by omega))) hO7 (zS hg6 hg7)
  refine ⟨λhc=>?_,λhc=>stop (λh=>by omega)⟩
  refine yJ zq hO5 (i':=j) rfl (by omega) ?_
  refine yJ zq hO5 (i':=a) rfl (by omega) ?_
  obtain ⟨r,hr,hl⟩:=hcmp w5 (f1 j) (f1 a)
  refine ⟨r,hr,?_⟩
  rw [ZR hl]
  cases hlt:lt (f1 j) (f1 a) with
  |true=>exact stop (λ_=>hlt)
  |false=>
   intro w6 hb6
   refine ⟨λ_=>?_,λh=>(nomatch h)⟩
   rw [wr64 (n:=(j:Int) - 1) (by omega) (by omega),← hKl4]
   exact ⟨⟨j - 1,by omega,by omega,by omega,by omega,hptj.decr hlt,hb5.trans hb6⟩,by omega⟩
 refine ⟨λhc=>?_,λhc=>down (λh=>by omega)⟩
 refine yJ zq hO3 (i':=i) rfl (by omega) ?_
 refine yJ zq hO3 (i':=a) rfl (by omega) ?_
 obtain ⟨r,hr,hl⟩:=hcmp w3 (f1 i) (f1 a)
 refine ⟨r,hr,?_⟩
 rw [ZR hl]
 cases hlt:lt (f1 i) (f1 a) with
 |false=>exact down (λ_=>hlt)
 |true=>
  intro w4 hb4
  refine ⟨λ_=>?_,λh=>(nomatch h)⟩
  rw [wr64 (n:=(i:Int)+1) (by omega) (by omega),← hKl2]
  exact ⟨⟨i+1,by omega,by omega,by omega,hpt.incr hlt,hb3.trans hb4⟩,by omega⟩
end
end SoCmpFunc_api_Pair
end Go.Proofs.YtealcoghiaeiiaaGreat.VG
set_option linter.unusedVariables false
namespace Go.Proofs.YtealcoghiaeiiaaGreat.VG
open Go.VB Go.VB.Srt Go.Proofs
namespace SoCmpFunc_api_Pair
section
variable {cmp:Value} {lt:zM->zM->Bool} (O:SWO lt) (hcmp:Cmps cmp lt) {base:Nat}
include O hcmp
theorem zI5:∀ (n:Nat) {w:World} {s:Sl} {L:Nat} {f:Nat->zM} (hO:Ow base w s (tab f L)) {a b:Nat} (hab:a<=b) (hn:b - a<=n) (hb:b<=L) (hpre:Pre lt a b f) (lim:Int) {k:World->Prop}
  (H:∀ g w',Seg a b f g->yL lt a b g->Ow base w' s (tab g L)->w.grownBy w' (Sl.v s).ownBlock->k w'),
  Cl zA zFl [Sl.v s,.int .i64 (a:Int),.int .i64 (b:Int),.int .i64 lim,cmp].toArray w (λe w'=>e=.returned (.tuple [].toArray)/\k w'):=by
 intro n
 induction n with
 |zero=>
  intro w s L f hO a b hab hn hb hpre lim k H
  refine zCO s a b lim cmp w k ?_
  have hlen:=hO.len;have hsm:=hO.small
  rw [xP] at hlen
  unfold Zv
  refine ⟨λx y _ _ _ w1=>x=(a:Int)/\y=(b:Int)/\w1=w,λ_ _ _ _ _ _=>0,⟨rfl,rfl,rfl⟩,?_⟩
  rintro x y z p q w1 ⟨rfl,rfl,rfl⟩
  unfold YU
  rw [wr64 (n:=(b:Int) - a) (by omega) (by omega)]
  refine ⟨λ_=>?_,λh=>by omega⟩
  exact zCl O hcmp hO hab hb H
 |succ n ih=>
  intro w s L f hO a b hab hn hb hpre lim k H
  refine zCO s a b lim cmp w k ?_
  have hlen:=hO.len;have hsm:=hO.small
  rw [xP] at hlen
  unfold Zv
  refine ⟨λx y _ _ _ w1=>∃ (a1 b1:Nat) (g:Nat->zM),x=(a1:Int)/\y=(b1:Int)/\a1<=b1/\Inv lt a b a1 b1 f g/\Ow base w1 s (tab g L)/\w.grownBy w1 (Sl.v s).ownBlock,λx y _ _ _ _=>(y - x).toNat,⟨a,b,f,rfl,rfl,hab,Inv.start a b f,hO,World.grownBy.refl _ _⟩,?_⟩
  rintro x y z p q w1 ⟨a1,b1,g,rfl,rfl,hab1,hinv,hO1,hg1⟩
  have hA:=hinv.ha;have hB:=hinv.hb
  unfold YU
  generalize hKl:(λ(x1_1' x2_1' x3_1':Int) (x10' x11':Bool) (w':World)=>(∃ (a1 b1:Nat) (g:Nat->zM),x1_1'=(a1:Int)/\x2_1'=(b1:Int)/\a1<=b1/\Inv lt a b a1 b1 f g/\Ow base w' s (tab g L)/\w.grownBy w' (Sl.v s).ownBlock)/\(x2_1' - x1_1').toNat<((b1:Int) - (a1:Int)).toNat)=Kl
  have hwn:zC .i64 ((b1:Int) - a1)=(b1:Int) - a1:=wr64 (by omega) (by omega)
  rw [hwn]
  have fin:∀ (h:Nat->zM) (w2:World),Seg a1 b1 g h->yL lt a1 b1 h->Ow base w2 s (tab h L)->w1.grownBy w2 (Sl.v s).ownBlock->k w2:=λh w2 h1 h2 h3 h4=>
   H h w2 (hinv.turn h1).seg ((hinv.turn h1).fin h2) h3 (zS hg1 h4)
  refine ⟨λ_=>zCl O hcmp hO1 hab1 (by omega) fin,λhc=>⟨λ_=>zKK O hcmp hO1 hab1 (by omega) fin,λ_=>?_⟩⟩
  have hlt:a1<b1:=by omega
  have j4:∀ (h:Nat->zM) (w2:World) (lim:Int) (v:Nat),Seg a1 b1 g h->Ow base w2 s (tab h L)->w1.grownBy w2 (Sl.v s).ownBlock->a1<=v->v<b1->QQ s cmp (a1:Int) (b1:Int) p q Kl lim (v:Int) w2:=by
   intro h w2 lim v hs2 hO2 hg2 hv1 hv2
   have hinv2:=hinv.turn hs2
   have hg02:=zS hg1 hg2
   have away:∀ w3,Bel w2 w3->Ye s cmp (a1:Int) (b1:Int) p q Kl lim (v:Int) false w2:=by
    intro w3' hb3'
    intro w3 hb3
    refine ⟨λh=>(nomatch h),λ_=>?_⟩
    have hg03:=zS hg02 (zo hb3 (Sl.v s).ownBlock)
    refine zJ7 O hcmp (hO2.bel hb3) hv1 hv2 (by omega) λm r h4 w4 hm1 hm2 hs4 hpk hO4 hg4=>?_
    have hinv4:=hinv2.turn hs4
    have hg04:=zS hg03 hg4
    refine zE9 (by decide) (by rw [hwn,Int.tdiv_eq_ediv_of_nonneg (by omega)];omega) (by rw [hwn,Int.tdiv_eq_ediv_of_nonneg (by omega)];omega) ?_
    rw [wr64 (n:=(m:Int) - a1) (by omega) (by omega),wr64 (n:=(b1:Int) - m) (by omega) (by omega),wr64 (n:=(m:Int)+1) (by omega) (by omega),show (m:Int)+1=((m+1:Nat):Int) by omega]
    refine ⟨λ_=>?_,λ_=>?_⟩
    ·refine ih hO4 hm1 (by omega) (by omega) (a:=a1) (b:=m) (by
      rcases hinv4.pre hpre with h5|h5
      ·exact .inl h5
      ·exact .inr λk h6 h7=>h5 k h6 (by omega)) lim λh5 w5 hs5 hso5 hO5 hg5=>?_
     have hs5':Seg a1 b1 h4 h5:=hs5.mono (zU _) (by omega)
     rw [← hKl]
     exact ⟨⟨m+1,b1,h5,rfl,rfl,by omega,(hinv4.turn hs5').goRight hm1 hm2 O (hpk.left hs5) hso5,hO5,zS hg04 hg5⟩,by omega⟩
    ·refine ih hO4 (a:=m+1) (b:=b1) (by omega) (by omega) (by omega) (.inr λk h6 h7=>hpk.hi k (by omega) h7) lim λh5 w5 hs5 hso5 hO5 hg5=>?_
     have hs5':Seg a1 b1 h4 h5:=hs5.mono (by omega) (zU _)
     rw [← hKl]
     exact ⟨⟨a1,m,h5,rfl,rfl,hm1,(hinv4.turn hs5').goLeft hm1 hm2 O (hpk.right hs5) hso5,hO5,zS hg04 hg5⟩,by omega⟩
   unfold QQ
   refine ⟨λha0=>?_,λ_=>away w2 (Bel.refl _)⟩
   refine yJ zq hO2 (i':=a1 - 1) (by rw [wr64 (by omega) (by omega)];omega) (by omega) ?_
   refine yJ zq hO2 (i':=v) rfl (by omega) ?_
   obtain ⟨r,hr,hl⟩:=hcmp w2 (h (a1 - 1)) (h v)
   refine ⟨r,hr,?_⟩
   rw [ZR hl]
   cases hlv:lt (h (a1 - 1)) (h v) with
   |true=>exact away w2 (Bel.refl _)
   |false=>
    intro w3 hb3
    refine ⟨λ_=>?_,λh=>(nomatch h)⟩
    have hg03:=zS hg02 (zo hb3 (Sl.v s).ownBlock)
    refine zIi O hcmp (hO2.bel hb3) hv1 hv2 (by omega) λm h4 w4 hm1 hm2 hs4 heq hO4 hg4=>?_
    have hinv4:=hinv2.turn hs4
    rw [← hKl]
    have hpre4:=hinv4.pre hpre
    refine ⟨⟨m,b1,h4,rfl,rfl,hm2,hinv4.goEqual (by omega) hm2 O (v:=h4 (a1 - 1)) (λq h1 h2=>?_) (λq h1 h2=>?_),hO4,zS hg03 hg4⟩,by omega⟩
    ·rw [hs4.out (a1 - 1) (.inl (by omega))]
     exact O.trans (heq q h1 h2) hlv
    ·rcases hpre4 with h5|h5
     ·omega
     ·exact h5 q h1 h2
  have j3:∀ (h:Nat->zM) (w2:World) (lim hint:Int) (v:Nat),Seg a1 b1 g h->Ow base w2 s (tab h L)->w1.grownBy w2 (Sl.v s).ownBlock->a1<=v->v<b1->QT s cmp k (a1:Int) (b1:Int) p q Kl lim (v:Int) hint w2:=by
   intro h w2 lim hint v hs2 hO2 hg2 hv1 hv2
   have r7f:QP s cmp k (a1:Int) (b1:Int) p q Kl lim (v:Int) false w2:=⟨λh=>(nomatch h),λ_=>j4 h w2 lim v hs2 hO2 hg2 hv1 hv2⟩
   have r7t:QP s cmp k (a1:Int) (b1:Int) p q Kl lim (v:Int) true w2:=by
    refine ⟨λ_=>?_,λh=>(nomatch h)⟩
    refine zG2 O hcmp hO2 hlt (by omega) ((hinv.turn hs2).pre hpre) λr h3 w3 hs3 hso3 hO3 hg3=>?_
    exact ⟨λht=>fin h3 w3 (hs2.trans hs3) (hso3 ht) hO3 (zS hg2 hg3),λ_=>j4 h3 w3 lim v (hs2.trans hs3) hO3 (zS hg2 hg3) hv1 hv2⟩
   have r6:∀ c:Bool,Yg s cmp k (a1:Int) (b1:Int) p q Kl lim (v:Int) hint c w2:=by
    intro c
    refine ⟨λ_=>?_,λ_=>r7f⟩
    by_cases hh:hint=1
    ·rw [decide_eq_true hh];exact r7t
    ·rw [decide_eq_false hh];exact r7f
   unfold QT
   exact ⟨λ_=>r6 q,λ_=>r6 false⟩
  have j2:∀ (h:Nat->zM) (w2:World) (lim:Int),Seg a1 b1 g h->Ow base w2 s (tab h L)->w1.grownBy w2 (Sl.v s).ownBlock->QS s cmp k (a1:Int) (b1:Int) p q Kl lim w2:=by
   intro h w2 lim hs2 hO2 hg2
   unfold QS
   refine zIY hcmp hO2 hlt (by omega) λv hint w3 hv1 hv2 hb3=>?_
   have hg3:=zS hg2 (zo hb3 (Sl.v s).ownBlock)
   refine ⟨λ_=>?_,λ_=>j3 h w3 lim hint v hs2 (hO2.bel hb3) hg3 hv1 hv2⟩
   refine zHD (hO2.bel hb3) hab1 (by omega) λh4 w4 hs4 hO4 hg4=>?_
   rw [wr64 (n:=(b1:Int) - 1) (by omega) (by omega),wr64 (n:=(v:Int) - a1) (by omega) (by omega),wr64 (by omega) (by omega),show (b1:Int) - 1 - (v - a1)=((b1 - 1 - (v - a1):Nat):Int) by omega]
   exact j3 h4 w4 lim 1 _ (hs2.trans hs4) hO4 (zS hg3 hg4) (by omega) (by omega)
  refine ⟨λ_=>?_,λ_=>j2 g w1 _ (.refl g) hO1 (World.grownBy.refl _ _)⟩
  exact zI4 (w0:=w) hO1 hab1 (by omega) λh w2 hs2 hO2 hg2=>j2 h w2 _ hs2 hO2 hg2
theorem sort_ok {w:World} {s:Sl} {xs:List zM} (hO:Ow base w s xs) {k:World->Prop}
  (H:∀ ys w',ys.Perm xs->ys.Pairwise (λx y=>Le lt x y)->Ow base w' s ys->w.grownBy w' (Sl.v s).ownBlock->k w'):
  Cl zA zE0 [Sl.v s,cmp].toArray w (λe w'=>e=.returned (.tuple [].toArray)/\k w'):=by
 refine zEw s cmp w k ?_
 have hlen:=hO.len;have hsm:=hO.small
 unfold zAm
 refine zFr (by kernel_rfl) (by kernel_rfl) ?_
 rw [zIE (by omega) (by omega)]
 refine zMm (by omega) λr hr=>?_
 cases xs with
 |nil=>
  have hl0:s.len=0:=by simpa using hlen.symm
  rw [hl0]
  refine zI5 O hcmp 0 (f:=λ_=>⟨ByteArray.mk #[],ByteArray.mk #[]⟩) (L:=0) (a:=0) (b:=0) hO (zU _) (zU _) (zU _) (.inl rfl) _ λg w' _ _ hO' hg=>?_
  exact H [] w' (.refl _) .nil hO' hg
 |cons x0 xs=>
  obtain ⟨f,hf⟩:∃ f:Nat->zM,f=λi=>((x0::xs)[i]?).getD x0:=⟨_,rfl⟩
  have htab:tab f (x0::xs).length=x0::xs:=zOE _ f λi y hy=>by rw [hf];simp only [hy,Option.getD_some]
  rw [← htab] at hO
  have hL:s.len=(x0::xs).length:=hlen.symm
  rw [hL]
  refine zI5 O hcmp (x0::xs).length hO (a:=0) (Nat.zero_le _) (by omega) (zU _) (.inl rfl) _ λg w' hsg hso hO' hg=>?_
  refine H (tab g (x0::xs).length) w' ?_ ?_ hO' hg
  ·have:=hsg.perm (zU _)
   rw [htab] at this;exact this
  ·rw [List.pairwise_iff_getElem]
   intro i j hi hj hij
   rw [xP] at hi hj
   have e1:=zFK g hi
   have e2:=zFK g hj
   have:=hso i j (Nat.zero_le _) hij hj
   rw [List.getElem?_eq_getElem (by rw [xP];exact hi)] at e1
   rw [List.getElem?_eq_getElem (by rw [xP];exact hj)] at e2
   rw [Option.some.inj e1,Option.some.inj e2]
   exact this
end
end SoCmpFunc_api_Pair
end Go.Proofs.YtealcoghiaeiiaaGreat.VG
set_option linter.unusedVariables false
set_option linter.unusedSimpArgs false
namespace Go.Proofs.YtealcoghiaeiiaaGreat.VG
open Go.VB Go.Proofs
def xH (x9:Int) (Kl2:Int->World->Prop) (w:World):Prop:=
 Kl2 (zC .i64 (x9 - 1)) w
def yY (x0:Sl) (x8:Int) (Kl1:Int->World->Prop) (x9:Int) (Kl2:Int->World->Prop) (x34:Bool) (w:World):Prop:=
 yM w (λw=>(x34=true->(yM w (λw=>opP zA zB (zF 67 (Sl.v x0) (.int .i64 (zC .i64 (x9 - 1)))) (λx45=>opP zA zB (zF 67 (Sl.v x0) (.int .i64 x9)) (λx49=>(opE zA zG.v (zD 72 (.pointer x45)) w (λx46 w=>opE zA zG.v (zD 72 (.pointer x49)) w (λx50 w=>opP zA zB (zF 67 (Sl.v x0) (.int .i64 x9)) (λx51=>opU zA (zK 72 (.pointer x51) (zG.v x46)) w (λw=>opP zA zB (zF 67 (Sl.v x0) (.int .i64 (zC .i64 (x9 - 1)))) (λx52=>opU zA (zK 72 (.pointer x52) (zG.v x50)) w (λw=>xH x9 Kl2 w)))))))/\(opE zA zG.v (zD 72 (.pointer x49)) w (λx50_1 w=>opE zA zG.v (zD 72 (.pointer x45)) w (λx46_1 w=>opP zA zB (zF 67 (Sl.v x0) (.int .i64 x9)) (λx51_1=>opU zA (zK 72 (.pointer x51_1) (zG.v x46_1)) w (λw=>opP zA zB (zF 67 (Sl.v x0) (.int .i64 (zC .i64 (x9 - 1)))) (λx52_1=>opU zA (zK 72 (.pointer x52_1) (zG.v x50_1)) w (λw=>xH x9 Kl2 w))))))))))))/\(x34=false->(Kl1 (zC .i64 (x8+1)) w)))
def Q5 (x0:Sl) (x1:Int) (x3:Value) (x8:Int) (Kl1:Int->World->Prop) (x9:Int) (w:World) (Kl2:Int->World->Prop):Prop:=
 ((x1<x9)->(opB zA zB (zF 67 (Sl.v x0) (.int .i64 x9)) w (λx25=>opB zA zG.v (zD 72 (.pointer x25)) w (λx26=>opB zA zB (zF 67 (Sl.v x0) (.int .i64 (zC .i64 (x9 - 1)))) w (λx30=>opB zA zG.v (zD 72 (.pointer x30)) w (λx31=>∃ (r:Int),Zs zA x3 [(zG.v x26),(zG.v x31)] w (.int .i64 r)/\(yY x0 x8 Kl1 x9 Kl2 (decide (r<0)) w)))))))/\(¬ (x1<x9)->(yY x0 x8 Kl1 x9 Kl2 false w))
def xB (x0:Sl) (x1:Int) (x2:Int) (x3:Value) (Ret:World->Prop) (x8:Int) (w:World) (Kl1:Int->World->Prop):Prop:=
 ((x8<x2)->(∃ (I:Int->World->Prop) (μ:Int->World->Nat),I x8 w/\∀ (x9:Int) w,I x9 w->Q5 x0 x1 x3 x8 Kl1 x9 w (λx9' w'=>I x9' w'/\μ x9' w'<μ x9 w)))/\(¬ (x8<x2)->(Ret w))
def Yl (x0:Sl) (x1:Int) (x2:Int) (x3:Value) (w:World) (Ret:World->Prop):Prop:=
 ∃ (I:Int->World->Prop) (μ:Int->World->Nat),I (zC .i64 (x1+1)) w/\∀ (x8:Int) w,I x8 w->xB x0 x1 x2 x3 Ret x8 w (λx8' w'=>I x8' w'/\μ x8' w'<μ x8 w)
set_option maxRecDepth 100000 in
theorem zDJ (x0:Sl) (x1:Int) (x2:Int) (x3:Value) (w:World) (Ret:World->Prop) (H:Yl x0 x1 x2 x3 w Ret):Cl zA 105 [(Sl.v x0),(.int .i64 x1),(.int .i64 x2),x3].toArray w (λe w'=>e=.returned (.tuple [].toArray)/\Ret w'):=by
 unfold Yl at H
 refine zp 53 (zipE 0 [(Sl.v x0),(.int .i64 x1),(.int .i64 x2),x3]) Tryz.func105 rfl rfl (by rfl) rfl ?_
 intro a g
 have g:Sat [] 53 [(0,(Sl.v x0)),(1,(.int .i64 x1)),(2,(.int .i64 x2)),(3,x3)] a:=g
 refine zI (zE (g.m rfl λ_ g=>g.p (zr g rfl rfl) λ_ g=>g.s rfl λ_ g=>zL (tn (zX ?_))))
 obtain ⟨I_l1,μ_l1,h0,hb⟩:=H
 refine yE (ds:=[]) (N:=53) (σ:=Int) (λs=>[(8,(.int .i64 s)),(0,(Sl.v x0)),(1,(.int .i64 x1)),(2,(.int .i64 x2)),(3,x3)]) (λs w=>I_l1 s w) (λs w=>μ_l1 s w) (zC .i64 (x1+1)) h0 (g.k) ?_
 intro x8 w a hI g
 try dsimp only at hI g
 obtain ⟨Kl1,hK_l1⟩:∃ K:Int->World->Prop,K=(λx8' w'=>I_l1 x8' w'/\μ_l1 x8' w'<μ_l1 x8 w):=⟨_,rfl⟩
 have H:xB x0 x1 x2 x3 Ret x8 w Kl1:=by rw [hK_l1];exact hb x8 w hI
 clear hb h0 hI
 unfold xB at H
 refine zI (zI (zE (g.m rfl λ_ g=>g.m rfl λ_ g=>g.p (yR g rfl rfl) λ_ g=>zL (tn (zd g rfl (λhc=>?_) (λhc=>?_))))))
 ·have H:=H.1 hc
  refine zY (tn (zI (zX (zI (zE (g.m rfl λ_ g=>g.s rfl λ_ g=>zL (tn (zX ?_))))))))
  obtain ⟨I_l2,μ_l2,h0,hb⟩:=H
  refine yE (ds:=[]) (N:=53) (σ:=Int) (λs=>[(9,(.int .i64 s)),(0,(Sl.v x0)),(1,(.int .i64 x1)),(2,(.int .i64 x2)),(3,x3),(8,(.int .i64 x8))]) (λs w=>I_l2 s w) (λs w=>μ_l2 s w) x8 h0 (g.k) ?_
  intro x9 w a hI g
  try dsimp only at hI g
  obtain ⟨Kl2,hK_l2⟩:∃ K:Int->World->Prop,K=(λx9' w'=>I_l2 x9' w'/\μ_l2 x9' w'<μ_l2 x9 w):=⟨_,rfl⟩
  have H:Q5 x0 x1 x3 x8 Kl1 x9 w Kl2:=by rw [hK_l2];exact hb x9 w hI
  clear hb h0 hI
  unfold Q5 at H
  refine zI (zI (QU (by kernel_rfl) (by kernel_rfl) (g.t rfl λ_ g=>g.t rfl λ_ g=>g.r (zBx g rfl rfl) λ_ g=>g.t rfl λ_ g=>WQ.join (ds:=[]) (N:=53) (σ:=Bool) (λs=>[(34,(.bool s)),(0,(Sl.v x0)),(1,(.int .i64 x1)),(2,(.int .i64 x2)),(3,x3),(8,(.int .i64 x8)),(9,(.int .i64 x9))]) (λs=>yY x0 x8 Kl1 x9 Kl2 s w) 13 ?_ (λhr3=>?_))))
  ·intro x34 a H g
   try dsimp only at H g
   unfold yY at H
   refine Qb (λw hB=>?_)
   replace H:=H w hB
   refine (tn (zk g rfl (λhc=>?_) (λhc=>?_)))
   ·have H:=H.1 hc
    refine zY (tn (z8 (ds:=[]) (N:=53) (σ:=Unit) (λs=>[(0,(Sl.v x0)),(1,(.int .i64 x1)),(2,(.int .i64 x2)),(3,x3),(8,(.int .i64 x8)),(9,(.int .i64 x9))]) (λs w=>xH x9 Kl2 w) ?_ (λhj4=>?_)))
    ·rintro ⟨⟩ w a H g
     try dsimp only at H g
     unfold xH at H
     refine zE (g.m rfl λ_ g=>g.p (zv g rfl rfl) λ_ g=>g.s rfl λ_ g=>?_)
     rw [hK_l2] at H
     exact zL (tn ⟨(zC .i64 (x9 - 1)),g.k,H⟩)
    ·refine zX (zCC 18 λw hB=>?_)
     replace H:=H w hB
     refine g.x 0 rfl (zR g rfl) λ_ g=>g.x 1 rfl (zR g rfl) λ_ g=>g.x 2 rfl (zR g rfl) λ_ g=>g.x 3 rfl (zR g rfl) λ_ g=>g.x 4 rfl (zv g rfl rfl) λ_ g=>g.x 5 rfl (zR g rfl) λ_ g=>g.x 6 rfl (zR g rfl) λ_ g=>g.x 7 rfl (zv g rfl rfl) λ_ g=>g.y 8 rfl (zH g rfl rfl) H λx45 a H g=>g.x 10 rfl (zR g rfl) λ_ g=>g.x 11 rfl (zR g rfl) λ_ g=>g.y 12 rfl (zH g rfl rfl) H λx49 a H g=>WA.tw 9 13 rfl rfl ?_ ?_
     ·have H:=H.1
      intro K hK
      exact g.i (zO g rfl) H λx46 w a H g=>hK _ _ (g.j 13 rfl (zO g rfl) H λx50 w a H g=>g.y 14 rfl (zH g rfl rfl) H λx51 a H g=>g.l 15 rfl (zT g rfl rfl) H λw a H g=>g.y 16 rfl (zH g rfl rfl) H λx52 a H g=>g.l 17 rfl (zT g rfl rfl) H λw a H g=>WA.ni ((bn (tn (hj4 () _ _ H (g.k))))))
     ·have H:=H.2
      intro K hK
      exact g.i (zO g rfl) H λx50_1 w a H g=>hK _ _ (g.j 9 rfl (zO g rfl) H λx46_1 w a H g=>g.y 14 rfl (zH g rfl rfl) H λx51_1 a H g=>g.l 15 rfl (zT g rfl rfl) H λw a H g=>g.y 16 rfl (zH g rfl rfl) H λx52_1 a H g=>g.l 17 rfl (zT g rfl rfl) H λw a H g=>WA.ni ((bn (tn (hj4 () _ _ H (g.k))))))
   ·have H:=H.2 hc
    refine z7 (te (te (be (bn (tn (zE (g.m rfl λ_ g=>g.p (zr g rfl rfl) λ_ g=>g.s rfl λ_ g=>?_)))))))
    rw [hK_l1] at H
    exact zL (tn ⟨(zC .i64 (x8+1)),g.k,H⟩)
  ·rcases Classical.em ((x1<x9)) with hbr3|hbr3
   ·have H:=H.1 hbr3
    have g:=g.b (b:=true) (t:=21) rfl (decide_eq_true hbr3)
    refine g.e (g.t rfl λ_ g=>g.e (g.t rfl λ_ g=>g.e (g.t rfl λ_ g=>g.e (g.A (zH g rfl rfl) H λx25 a H g=>g.e (g.A (zO g rfl) H λx26 a H g=>g.e (g.t rfl λ_ g=>g.e (g.t rfl λ_ g=>g.e (g.r (zv g rfl rfl) λ_ g=>g.e (g.A (zH g rfl rfl) H λx30 a H g=>g.e (g.A (zO g rfl) H λx31 a H g=>g.e ?_))))))))))
    obtain ⟨r,hc,H⟩:=H
    exact g.qcallV rfl rfl hc λ_ g=>g.e (g.r (yR g rfl rfl) λ_ g=>g.r (zx g rfl rfl) λ_ g=>hr3 (decide (r<0)) _ H (g.k))
   ·have H:=H.2 hbr3
    have g:=g.b (b:=false) (t:=21) rfl (decide_eq_false hbr3)
    exact g.g (λ_ g=>g.g (λ_ g=>g.g (λ_ g=>g.g (λ_ g=>g.g (λ_ g=>g.g (λ_ g=>g.g (λ_ g=>g.g (λ_ g=>g.g (λ_ g=>g.g (λ_ g=>g.g (λ_ g=>g.g (λ_ g=>g.r (zy g rfl rfl) λ_ g=>hr3 false _ H (g.k)))))))))))))
 ·have H:=H.2 hc
  exact z7 (te (te (be (zBg g rfl ⟨rfl,H⟩))))
def Qe (x0:Sl) (x1:Int) (x3:Value) (x12:Int) (Kl2:Int->World->Prop) (w:World):Prop:=
 Cl zA 136 [(Sl.v x0),(.int .i64 0),(.int .i64 x12),(.int .i64 x1),x3].toArray w (λe w=>e=.returned (.tuple [].toArray)/\(Kl2 (zC .i64 (x12 - 1)) w))
def Ys (x0:Sl) (x1:Int) (x3:Value) (Ret:World->Prop) (x12:Int) (w:World) (Kl2:Int->World->Prop):Prop:=
 ((0<=x12)->(yM w (λw=>opP zA zB (zF 67 (Sl.v x0) (.int .i64 (zC .i64 (x1+x12)))) (λx46=>opP zA zB (zF 67 (Sl.v x0) (.int .i64 x1)) (λx50=>(opE zA zG.v (zD 72 (.pointer x46)) w (λx47 w=>opE zA zG.v (zD 72 (.pointer x50)) w (λx51 w=>opP zA zB (zF 67 (Sl.v x0) (.int .i64 x1)) (λx52=>opU zA (zK 72 (.pointer x52) (zG.v x47)) w (λw=>opP zA zB (zF 67 (Sl.v x0) (.int .i64 (zC .i64 (x1+x12)))) (λx53=>opU zA (zK 72 (.pointer x53) (zG.v x51)) w (λw=>Qe x0 x1 x3 x12 Kl2 w)))))))/\(opE zA zG.v (zD 72 (.pointer x50)) w (λx51_1 w=>opE zA zG.v (zD 72 (.pointer x46)) w (λx47_1 w=>opP zA zB (zF 67 (Sl.v x0) (.int .i64 x1)) (λx52_1=>opU zA (zK 72 (.pointer x52_1) (zG.v x47_1)) w (λw=>opP zA zB (zF 67 (Sl.v x0) (.int .i64 (zC .i64 (x1+x12)))) (λx53_1=>opU zA (zK 72 (.pointer x53_1) (zG.v x51_1)) w (λw=>Qe x0 x1 x3 x12 Kl2 w))))))))))))/\(¬ (0<=x12)->(Ret w))
def Yv (x0:Sl) (x1:Int) (x2:Int) (x3:Value) (Ret:World->Prop) (x11:Int) (w:World) (Kl1:Int->World->Prop):Prop:=
 ((0<=x11)->(Cl zA 136 [(Sl.v x0),(.int .i64 x11),(.int .i64 (zC .i64 (x2 - x1))),(.int .i64 x1),x3].toArray w (λe w=>e=.returned (.tuple [].toArray)/\(Kl1 (zC .i64 (x11 - 1)) w))))/\(¬ (0<=x11)->(∃ (I:Int->World->Prop) (μ:Int->World->Nat),I (zC .i64 ((zC .i64 (x2 - x1)) - 1)) w/\∀ (x12:Int) w,I x12 w->Ys x0 x1 x3 Ret x12 w (λx12' w'=>I x12' w'/\μ x12' w'<μ x12 w)))
def zAZ (x0:Sl) (x1:Int) (x2:Int) (x3:Value) (w:World) (Ret:World->Prop):Prop:=
 opE zA (zV .i64) (binOp .quo 3 (.int .i64 (zC .i64 ((zC .i64 (x2 - x1)) - 1))) (.int .i64 2)) w (λx19 w=>∃ (I:Int->World->Prop) (μ:Int->World->Nat),I x19 w/\∀ (x11:Int) w,I x11 w->Yv x0 x1 x2 x3 Ret x11 w (λx11' w'=>I x11' w'/\μ x11' w'<μ x11 w))
set_option maxRecDepth 100000 in
theorem zEq (x0:Sl) (x1:Int) (x2:Int) (x3:Value) (w:World) (Ret:World->Prop) (H:zAZ x0 x1 x2 x3 w Ret):Cl zA 106 [(Sl.v x0),(.int .i64 x1),(.int .i64 x2),x3].toArray w (λe w'=>e=.returned (.tuple [].toArray)/\Ret w'):=by
 unfold zAZ at H
 refine zp 60 (zipE 0 [(Sl.v x0),(.int .i64 x1),(.int .i64 x2),x3]) Tryz.func106 rfl rfl (by rfl) rfl ?_
 intro a g
 have g:Sat [] 60 [(0,(Sl.v x0)),(1,(.int .i64 x1)),(2,(.int .i64 x2)),(3,x3)] a:=g
 refine zI (zE (g.m rfl λ_ g=>g.s rfl λ_ g=>zL (tn (zI (zE (g.s rfl λ_ g=>zL (tn (zI (zE (g.m rfl λ_ g=>g.m rfl λ_ g=>g.p (zv g rfl rfl) λ_ g=>g.s rfl λ_ g=>zL (tn (zI (zI (zE (g.m rfl λ_ g=>g.p (zv g rfl rfl) λ_ g=>g.o (ZS g rfl rfl) H λx19 w a H g=>g.s rfl λ_ g=>zL (tn (zX ?_)))))))))))))))))
 obtain ⟨I_l1,μ_l1,h0,hb⟩:=H
 refine yE (ds:=[]) (N:=60) (σ:=Int) (λs=>[(11,(.int .i64 s)),(0,(Sl.v x0)),(3,x3),(8,(.int .i64 x1)),(9,(.int .i64 0)),(10,(.int .i64 (zC .i64 (x2 - x1))))]) (λs w=>I_l1 s w) (λs w=>μ_l1 s w) x19 h0 (g.k) ?_
 intro x11 w a hI g
 try dsimp only at hI g
 obtain ⟨Kl1,hK_l1⟩:∃ K:Int->World->Prop,K=(λx11' w'=>I_l1 x11' w'/\μ_l1 x11' w'<μ_l1 x11 w):=⟨_,rfl⟩
 have H:Yv x0 x1 x2 x3 Ret x11 w Kl1:=by rw [hK_l1];exact hb x11 w hI
 clear hb h0 hI
 unfold Yv at H
 refine zI (zI (zE (g.m rfl λ_ g=>g.p (Zm g rfl rfl) λ_ g=>zL (tn (zd g rfl (λhc=>?_) (λhc=>?_))))))
 ·have H:=H.1 hc
  refine zY (tn (zI (zX (zE (g.m rfl λ_ g=>g.m rfl λ_ g=>g.m rfl λ_ g=>g.m rfl λ_ g=>g.m rfl λ_ g=>g.c (zb g zQK rfl rfl) H λe w H=>?_)))))
  obtain ⟨rfl,H⟩:=H
  refine ⟨_,rfl,λ_ g=>(zL (bn (tn (zE (g.m rfl λ_ g=>g.p (zv g rfl rfl) λ_ g=>g.s rfl λ_ g=>?_)))))⟩
  rw [hK_l1] at H
  exact zL (tn ⟨(zC .i64 (x11 - 1)),g.k,H⟩)
 ·have H:=H.2 hc
  refine z7 (te (te (be (tn (zI (zE (g.m rfl λ_ g=>g.p (zv g rfl rfl) λ_ g=>g.s rfl λ_ g=>zL (tn (zX ?_)))))))))
  obtain ⟨I_l2,μ_l2,h0,hb⟩:=H
  refine yE (ds:=[]) (N:=60) (σ:=Int) (λs=>[(12,(.int .i64 s)),(0,(Sl.v x0)),(3,x3),(8,(.int .i64 x1)),(9,(.int .i64 0))]) (λs w=>I_l2 s w) (λs w=>μ_l2 s w) (zC .i64 ((zC .i64 (x2 - x1)) - 1)) h0 (g.k) ?_
  intro x12 w a hI g
  try dsimp only at hI g
  obtain ⟨Kl2,hK_l2⟩:∃ K:Int->World->Prop,K=(λx12' w'=>I_l2 x12' w'/\μ_l2 x12' w'<μ_l2 x12 w):=⟨_,rfl⟩
  have H:Ys x0 x1 x3 Ret x12 w Kl2:=by rw [hK_l2];exact hb x12 w hI
  clear hb h0 hI
  unfold Ys at H
  refine zI (zI (zE (g.m rfl λ_ g=>g.p (Zm g rfl rfl) λ_ g=>zL (tn (zd g rfl (λhc=>?_) (λhc=>?_))))))
  ·have H:=H.1 hc
   refine zY (tn (zI (zX (z8 (ds:=[]) (N:=60) (σ:=Unit) (λs=>[(0,(Sl.v x0)),(3,x3),(8,(.int .i64 x1)),(9,(.int .i64 0)),(12,(.int .i64 x12))]) (λs w=>Qe x0 x1 x3 x12 Kl2 w) ?_ (λhj3=>?_)))))
   ·rintro ⟨⟩ w a H g
    try dsimp only at H g
    unfold Qe at H
    refine zE (g.m rfl λ_ g=>g.m rfl λ_ g=>g.m rfl λ_ g=>g.m rfl λ_ g=>g.m rfl λ_ g=>g.c (zb g zQK rfl rfl) H λe w H=>?_)
    obtain ⟨rfl,H⟩:=H
    refine ⟨_,rfl,λ_ g=>(zL (bn (tn (zE (g.m rfl λ_ g=>g.p (zv g rfl rfl) λ_ g=>g.s rfl λ_ g=>?_)))))⟩
    rw [hK_l2] at H
    exact zL (tn ⟨(zC .i64 (x12 - 1)),g.k,H⟩)
   ·refine zCC 20 λw hB=>?_
    replace H:=H w hB
    refine g.x 0 rfl (zR g rfl) λ_ g=>g.x 1 rfl (zR g rfl) λ_ g=>g.x 2 rfl (zR g rfl) λ_ g=>g.x 3 rfl (zR g rfl) λ_ g=>g.x 4 rfl (zR g rfl) λ_ g=>g.x 5 rfl (zr g rfl rfl) λ_ g=>g.x 6 rfl (zR g rfl) λ_ g=>g.x 7 rfl (zR g rfl) λ_ g=>g.x 8 rfl (zR g rfl) λ_ g=>g.x 9 rfl (zr g rfl rfl) λ_ g=>g.y 10 rfl (zH g rfl rfl) H λx46 a H g=>g.x 12 rfl (zR g rfl) λ_ g=>g.x 13 rfl (zR g rfl) λ_ g=>g.y 14 rfl (zH g rfl rfl) H λx50 a H g=>WA.tw 11 15 rfl rfl ?_ ?_
    ·have H:=H.1
     intro K hK
     exact g.i (zO g rfl) H λx47 w a H g=>hK _ _ (g.j 15 rfl (zO g rfl) H λx51 w a H g=>g.y 16 rfl (zH g rfl rfl) H λx52 a H g=>g.l 17 rfl (zT g rfl rfl) H λw a H g=>g.y 18 rfl (zH g rfl rfl) H λx53 a H g=>g.l 19 rfl (zT g rfl rfl) H λw a H g=>WA.ni ((tn (hj3 () _ _ H (g.k)))))
    ·have H:=H.2
     intro K hK
     exact g.i (zO g rfl) H λx51_1 w a H g=>hK _ _ (g.j 11 rfl (zO g rfl) H λx47_1 w a H g=>g.y 16 rfl (zH g rfl rfl) H λx52_1 a H g=>g.l 17 rfl (zT g rfl rfl) H λw a H g=>g.y 18 rfl (zH g rfl rfl) H λx53_1 a H g=>g.l 19 rfl (zT g rfl rfl) H λw a H g=>WA.ni ((tn (hj3 () _ _ H (g.k)))))
  ·have H:=H.2 hc
   exact z7 (te (te (be (zBg g rfl ⟨rfl,H⟩))))
def yg (Ret:Int->Int->World->Prop) (x11:Option Addr) (x13:Int) (w:World):Prop:=
 opE zA (zV .i64) (zD 3 (.pointer x11)) w (λx55 w=>((x55=0)->(Ret x13 1 w))/\(¬ (x55=0)->(((x55=12)->(Ret x13 2 w))/\(¬ (x55=12)->(Ret x13 0 w)))))
def yf (x0:Sl) (x3:Value) (Ret:Int->Int->World->Prop) (x11:Option Addr) (x12:Int) (x13_1:Int) (x14:Int) (w:World):Prop:=
 Cl zA 138 [(Sl.v x0),(.int .i64 x12),(.int .i64 x13_1),(.int .i64 x14),(.pointer x11),x3].toArray w (λe w=>∃ (r:Int),e=.returned (.int .i64 r)/\(yg Ret x11 r w))
def Z3 (x0:Sl) (x1:Int) (x2:Int) (x3:Value) (w:World) (Ret:Int->Int->World->Prop):Prop:=
 opE zA zB (zf 3 true (.tuple #[])) w (λx11 w=>opE zA (zV .i64) (binOp .quo 3 (.int .i64 (zC .i64 (x2 - x1))) (.int .i64 4)) w (λx20 w=>opE zA (zV .i64) (binOp .quo 3 (.int .i64 (zC .i64 (x2 - x1))) (.int .i64 4)) w (λx25 w=>opE zA (zV .i64) (binOp .quo 3 (.int .i64 (zC .i64 (x2 - x1))) (.int .i64 4)) w (λx30 w=>((8<=(zC .i64 (x2 - x1)))->(((50<=(zC .i64 (x2 - x1)))->(Cl zA 137 [(Sl.v x0),(.int .i64 (zC .i64 (x1+(zC .i64 (x20*1))))),(.pointer x11),x3].toArray w (λe w=>∃ (r_1:Int),e=.returned (.int .i64 r_1)/\(Cl zA 137 [(Sl.v x0),(.int .i64 (zC .i64 (x1+(zC .i64 (x25*2))))),(.pointer x11),x3].toArray w (λe w=>∃ (r_2:Int),e=.returned (.int .i64 r_2)/\(Cl zA 137 [(Sl.v x0),(.int .i64 (zC .i64 (x1+(zC .i64 (x30*3))))),(.pointer x11),x3].toArray w (λe w=>∃ (r_3:Int),e=.returned (.int .i64 r_3)/\(yf x0 x3 Ret x11 r_1 r_2 r_3 w))))))))/\(¬ (50<=(zC .i64 (x2 - x1)))->(yf x0 x3 Ret x11 (zC .i64 (x1+(zC .i64 (x20*1)))) (zC .i64 (x1+(zC .i64 (x25*2)))) (zC .i64 (x1+(zC .i64 (x30*3)))) w))))/\(¬ (8<=(zC .i64 (x2 - x1)))->(yg Ret x11 (zC .i64 (x1+(zC .i64 (x25*2)))) w))))))
set_option maxRecDepth 100000 in
theorem zDn (x0:Sl) (x1:Int) (x2:Int) (x3:Value) (w:World) (Ret:Int->Int->World->Prop) (H:Z3 x0 x1 x2 x3 w Ret):Cl zA 108 [(Sl.v x0),(.int .i64 x1),(.int .i64 x2),x3].toArray w (λe w'=>∃ (r0:Int) (r1:Int),e=.returned (.tuple [(.int .i64 r0),(.int .i64 r1)].toArray)/\Ret r0 r1 w'):=by
 unfold Z3 at H
 refine zp 63 (zipE 0 [(Sl.v x0),(.int .i64 x1),(.int .i64 x2),x3]) Tryz.func108 rfl rfl (by rfl) rfl ?_
 intro a g
 have g:Sat [] 63 [(0,(Sl.v x0)),(1,(.int .i64 x1)),(2,(.int .i64 x2)),(3,x3)] a:=g
 refine zI (zE (g.s rfl λ_ g=>g.s rfl λ_ g=>zL (tn (zI (zE (g.m rfl λ_ g=>g.m rfl λ_ g=>g.p (zv g rfl rfl) λ_ g=>g.s rfl λ_ g=>zL (tn (zI (zE (g.o (xY) H λx11 w a H g=>zL (tn (zI (zE (g.m rfl λ_ g=>g.m rfl λ_ g=>g.o (ZS g rfl rfl) H λx20 w a H g=>g.p (zF8 g rfl rfl) λ_ g=>g.p (zr g rfl rfl) λ_ g=>g.s rfl λ_ g=>zL (tn (zI (zE (g.m rfl λ_ g=>g.m rfl λ_ g=>g.o (ZS g rfl rfl) H λx25 w a H g=>g.p (zF8 g rfl rfl) λ_ g=>g.p (zr g rfl rfl) λ_ g=>g.s rfl λ_ g=>zL (tn (zI (zE (g.m rfl λ_ g=>g.m rfl λ_ g=>g.o (ZS g rfl rfl) H λx30 w a H g=>g.p (zF8 g rfl rfl) λ_ g=>g.p (zr g rfl rfl) λ_ g=>g.s rfl λ_ g=>zL (tn (z8 (ds:=[]) (N:=63) (σ:=Int) (λs=>[(13,(.int .i64 s)),(11,(.pointer x11))]) (λs w=>yg Ret x11 s w) ?_ (λhj1=>?_)))))))))))))))))))))))))
 ·intro x13 w a H g
  try dsimp only at H g
  unfold yg at H
  refine zI (zE (g.o (zO g rfl) H λx55 w a H g=>zL (tn (zX (zI (zE (g.p (Zb g rfl rfl) λ_ g=>g.s rfl λ_ g=>zL (tn (zd g rfl (λhc=>?_) (λhc=>?_))))))))))
  ·have H:=H.1 hc
   exact zI (zE (g.m rfl λ_ g=>g.s rfl λ_ g=>g.s rfl λ_ g=>zL (tn (zl (br (ZK g rfl rfl rfl ⟨_,_,rfl,H⟩))))))
  ·have H:=H.2 hc
   refine zI (zE (g.p (Zb g rfl rfl) λ_ g=>g.s rfl λ_ g=>zL (tn (zd g rfl (λhc=>?_) (λhc=>?_)))))
   ·have H:=H.1 hc
    exact zI (zE (g.m rfl λ_ g=>g.s rfl λ_ g=>g.s rfl λ_ g=>zL (tn (zl (br (ZK g rfl rfl rfl ⟨_,_,rfl,H⟩))))))
   ·have H:=H.2 hc
    exact zI (zE (g.m rfl λ_ g=>g.s rfl λ_ g=>g.s rfl λ_ g=>zL (tn (zl (br (ZK g rfl rfl rfl ⟨_,_,rfl,H⟩))))))
 ·refine zI (zE (g.m rfl λ_ g=>g.p (Zm g rfl rfl) λ_ g=>zL (tn (zd g rfl (λhc=>?_) (λhc=>?_)))))
  ·have H:=H.1 hc
   refine z8 (ds:=[]) (N:=63) (σ:=Int × Int × Int) (λs=>[(12,(.int .i64 s.1)),(13,(.int .i64 s.2.1)),(14,(.int .i64 s.2.2)),(0,(Sl.v x0)),(3,x3),(11,(.pointer x11))]) (λs w=>yf x0 x3 Ret x11 s.1 s.2.1 s.2.2 w) ?_ (λhj2=>?_)
   ·rintro ⟨x12,x13_1,x14⟩ w a H g
    try dsimp only at H g
    unfold yf at H
    refine zE (g.m rfl λ_ g=>g.m rfl λ_ g=>g.m rfl λ_ g=>g.m rfl λ_ g=>g.m rfl λ_ g=>g.c (zb g zP9 rfl rfl) H λe w H=>?_)
    obtain ⟨r,rfl,H⟩:=H
    exact ⟨_,rfl,λ_ g=>(g.s rfl λ_ g=>zL (tn (hj1 r _ _ H (g.k))))⟩
   ·refine zI (zE (g.m rfl λ_ g=>g.p (Zm g rfl rfl) λ_ g=>zL (tn (zd g rfl (λhc=>?_) (λhc=>?_)))))
    ·have H:=H.1 hc
     refine zI (zE (g.m rfl λ_ g=>g.m rfl λ_ g=>g.m rfl λ_ g=>g.c (zb g zN6 rfl rfl) H λe w H=>?_))
     obtain ⟨r_1,rfl,H⟩:=H
     refine ⟨_,rfl,λ_ g=>(g.s rfl λ_ g=>zL (tn (zI (zE (g.m rfl λ_ g=>g.m rfl λ_ g=>g.m rfl λ_ g=>g.c (zb g zN6 rfl rfl) H λe w H=>?_)))))⟩
     obtain ⟨r_2,rfl,H⟩:=H
     refine ⟨_,rfl,λ_ g=>(g.s rfl λ_ g=>zL (tn (zE (g.m rfl λ_ g=>g.m rfl λ_ g=>g.m rfl λ_ g=>g.c (zb g zN6 rfl rfl) H λe w H=>?_))))⟩
     obtain ⟨r_3,rfl,H⟩:=H
     exact ⟨_,rfl,λ_ g=>(g.s rfl λ_ g=>zL (tn (hj2 (r_1,r_2,r_3) _ _ H (g.k))))⟩
    ·have H:=H.2 hc
     exact zY (tn (hj2 ((zC .i64 (x1+(zC .i64 (x20*1)))),(zC .i64 (x1+(zC .i64 (x25*2)))),(zC .i64 (x1+(zC .i64 (x30*3))))) _ _ H (g.k)))
  ·have H:=H.2 hc
   exact zY (tn (hj1 (zC .i64 (x1+(zC .i64 (x25*2)))) _ _ H (g.k)))
def xS (x8:Int) (x9:Int) (Kl1:Int->Int->World->Prop) (w:World):Prop:=
 Kl1 (zC .i64 (x8+1)) (zC .i64 (x9 - 1)) w
def YG (x0:Sl) (Ret:World->Prop) (x8:Int) (x9:Int) (w:World) (Kl1:Int->Int->World->Prop):Prop:=
 ((x8<x9)->(yM w (λw=>opP zA zB (zF 67 (Sl.v x0) (.int .i64 x9)) (λx22=>opP zA zB (zF 67 (Sl.v x0) (.int .i64 x8)) (λx26=>(opE zA zG.v (zD 72 (.pointer x22)) w (λx23 w=>opE zA zG.v (zD 72 (.pointer x26)) w (λx27 w=>opP zA zB (zF 67 (Sl.v x0) (.int .i64 x8)) (λx28=>opU zA (zK 72 (.pointer x28) (zG.v x23)) w (λw=>opP zA zB (zF 67 (Sl.v x0) (.int .i64 x9)) (λx29=>opU zA (zK 72 (.pointer x29) (zG.v x27)) w (λw=>xS x8 x9 Kl1 w)))))))/\(opE zA zG.v (zD 72 (.pointer x26)) w (λx27_1 w=>opE zA zG.v (zD 72 (.pointer x22)) w (λx23_1 w=>opP zA zB (zF 67 (Sl.v x0) (.int .i64 x8)) (λx28_1=>opU zA (zK 72 (.pointer x28_1) (zG.v x23_1)) w (λw=>opP zA zB (zF 67 (Sl.v x0) (.int .i64 x9)) (λx29_1=>opU zA (zK 72 (.pointer x29_1) (zG.v x27_1)) w (λw=>xS x8 x9 Kl1 w))))))))))))/\(¬ (x8<x9)->(Ret w))
def Zp (x0:Sl) (x1:Int) (x2:Int) (x3:Value) (w:World) (Ret:World->Prop):Prop:=
 ∃ (I:Int->Int->World->Prop) (μ:Int->Int->World->Nat),I x1 (zC .i64 (x2 - 1)) w/\∀ (x8:Int) (x9:Int) w,I x8 x9 w->YG x0 Ret x8 x9 w (λx8' x9' w'=>I x8' x9' w'/\μ x8' x9' w'<μ x8 x9 w)
set_option maxRecDepth 100000 in
theorem zDW (x0:Sl) (x1:Int) (x2:Int) (x3:Value) (w:World) (Ret:World->Prop) (H:Zp x0 x1 x2 x3 w Ret):Cl zA 109 [(Sl.v x0),(.int .i64 x1),(.int .i64 x2),x3].toArray w (λe w'=>e=.returned (.tuple [].toArray)/\Ret w'):=by
 unfold Zp at H
 refine zp 34 (zipE 0 [(Sl.v x0),(.int .i64 x1),(.int .i64 x2),x3]) Tryz.func109 rfl rfl (by rfl) rfl ?_
 intro a g
 have g:Sat [] 34 [(0,(Sl.v x0)),(1,(.int .i64 x1)),(2,(.int .i64 x2)),(3,x3)] a:=g
 refine zI (zE (g.m rfl λ_ g=>g.s rfl λ_ g=>zL (tn (zI (zE (g.m rfl λ_ g=>g.p (zv g rfl rfl) λ_ g=>g.s rfl λ_ g=>zL (tn (zX ?_))))))))
 obtain ⟨I_l1,μ_l1,h0,hb⟩:=H
 refine yE (ds:=[]) (N:=34) (σ:=Int × Int) (λs=>[(8,(.int .i64 s.1)),(9,(.int .i64 s.2)),(0,(Sl.v x0))]) (λs w=>I_l1 s.1 s.2 w) (λs w=>μ_l1 s.1 s.2 w) (x1,(zC .i64 (x2 - 1))) h0 (g.k) ?_
 rintro ⟨x8,x9⟩ w a hI g
 try dsimp only at hI g
 obtain ⟨Kl1,hK_l1⟩:∃ K:Int->Int->World->Prop,K=(λx8' x9' w'=>I_l1 x8' x9' w'/\μ_l1 x8' x9' w'<μ_l1 x8 x9 w):=⟨_,rfl⟩
 have H:YG x0 Ret x8 x9 w Kl1:=by rw [hK_l1];exact hb x8 x9 w hI
 clear hb h0 hI
 unfold YG at H
 refine zI (zI (zE (g.m rfl λ_ g=>g.m rfl λ_ g=>g.p (yR g rfl rfl) λ_ g=>zL (tn (zd g rfl (λhc=>?_) (λhc=>?_))))))
 ·have H:=H.1 hc
  refine zY (tn (zX (z8 (ds:=[]) (N:=34) (σ:=Unit) (λs=>[(0,(Sl.v x0)),(8,(.int .i64 x8)),(9,(.int .i64 x9))]) (λs w=>xS x8 x9 Kl1 w) ?_ (λhj2=>?_))))
  ·rintro ⟨⟩ w a H g
   try dsimp only at H g
   unfold xS at H
   refine zI (zE (g.m rfl λ_ g=>g.p (zr g rfl rfl) λ_ g=>g.s rfl λ_ g=>zL (tn (zE (g.m rfl λ_ g=>g.p (zv g rfl rfl) λ_ g=>g.s rfl λ_ g=>?_)))))
   rw [hK_l1] at H
   exact zL (bn (tn ⟨((zC .i64 (x8+1)),(zC .i64 (x9 - 1))),g.k,H⟩))
  ·refine zCC 16 λw hB=>?_
   replace H:=H w hB
   refine g.x 0 rfl (zR g rfl) λ_ g=>g.x 1 rfl (zR g rfl) λ_ g=>g.x 2 rfl (zR g rfl) λ_ g=>g.x 3 rfl (zR g rfl) λ_ g=>g.x 4 rfl (zR g rfl) λ_ g=>g.x 5 rfl (zR g rfl) λ_ g=>g.y 6 rfl (zH g rfl rfl) H λx22 a H g=>g.x 8 rfl (zR g rfl) λ_ g=>g.x 9 rfl (zR g rfl) λ_ g=>g.y 10 rfl (zH g rfl rfl) H λx26 a H g=>WA.tw 7 11 rfl rfl ?_ ?_
   ·have H:=H.1
    intro K hK
    exact g.i (zO g rfl) H λx23 w a H g=>hK _ _ (g.j 11 rfl (zO g rfl) H λx27 w a H g=>g.y 12 rfl (zH g rfl rfl) H λx28 a H g=>g.l 13 rfl (zT g rfl rfl) H λw a H g=>g.y 14 rfl (zH g rfl rfl) H λx29 a H g=>g.l 15 rfl (zT g rfl rfl) H λw a H g=>WA.ni ((tn (hj2 () _ _ H (g.k)))))
   ·have H:=H.2
    intro K hK
    exact g.i (zO g rfl) H λx27_1 w a H g=>hK _ _ (g.j 7 rfl (zO g rfl) H λx23_1 w a H g=>g.y 12 rfl (zH g rfl rfl) H λx28_1 a H g=>g.l 13 rfl (zT g rfl rfl) H λw a H g=>g.y 14 rfl (zH g rfl rfl) H λx29_1 a H g=>g.l 15 rfl (zT g rfl rfl) H λw a H g=>WA.ni ((tn (hj2 () _ _ H (g.k)))))
 ·have H:=H.2 hc
  exact z7 (te (te (be (zBg g rfl ⟨rfl,H⟩))))
def z6 (x10:Int) (Kl1:Int->Int->World->Prop) (x9_1:Int) (w:World):Prop:=
 Kl1 x9_1 (zC .i64 (x10+1)) w
def yV (x12:Int) (Kl7:Int->World->Prop) (w:World):Prop:=
 Kl7 (zC .i64 (x12+1)) w
def xO (x0:Sl) (x2:Int) (x3:Value) (x10:Int) (Kl1:Int->Int->World->Prop) (x9_2:Int) (x12:Int) (w:World) (Kl7:Int->World->Prop):Prop:=
 ((x12<x2)->(opB zA zB (zF 67 (Sl.v x0) (.int .i64 x12)) w (λx115=>opB zA zG.v (zD 72 (.pointer x115)) w (λx116=>opB zA zB (zF 67 (Sl.v x0) (.int .i64 (zC .i64 (x12 - 1)))) w (λx120=>opB zA zG.v (zD 72 (.pointer x120)) w (λx121=>∃ (r:Int),Zs zA x3 [(zG.v x116),(zG.v x121)] w (.int .i64 r)/\(yM w (λw=>((!(decide (r<0)))=true->(z6 x10 Kl1 x9_2 w))/\((!(decide (r<0)))=false->(yM w (λw=>opP zA zB (zF 67 (Sl.v x0) (.int .i64 (zC .i64 (x12 - 1)))) (λx133=>opP zA zB (zF 67 (Sl.v x0) (.int .i64 x12)) (λx137=>(opE zA zG.v (zD 72 (.pointer x133)) w (λx134 w=>opE zA zG.v (zD 72 (.pointer x137)) w (λx138 w=>opP zA zB (zF 67 (Sl.v x0) (.int .i64 x12)) (λx139=>opU zA (zK 72 (.pointer x139) (zG.v x134)) w (λw=>opP zA zB (zF 67 (Sl.v x0) (.int .i64 (zC .i64 (x12 - 1)))) (λx140=>opU zA (zK 72 (.pointer x140) (zG.v x138)) w (λw=>yV x12 Kl7 w)))))))/\(opE zA zG.v (zD 72 (.pointer x137)) w (λx138_1 w=>opE zA zG.v (zD 72 (.pointer x133)) w (λx134_1 w=>opP zA zB (zF 67 (Sl.v x0) (.int .i64 x12)) (λx139_1=>opU zA (zK 72 (.pointer x139_1) (zG.v x134_1)) w (λw=>opP zA zB (zF 67 (Sl.v x0) (.int .i64 (zC .i64 (x12 - 1)))) (λx140_1=>opU zA (zK 72 (.pointer x140_1) (zG.v x138_1)) w (λw=>yV x12 Kl7 w))))))))))))))))))))/\(¬ (x12<x2)->(z6 x10 Kl1 x9_2 w))
def zu (x0:Sl) (x2:Int) (x3:Value) (x10:Int) (Kl1:Int->Int->World->Prop) (x9_2:Int) (w:World):Prop:=
 ((2<=(zC .i64 (x2 - x9_2)))->(∃ (I:Int->World->Prop) (μ:Int->World->Nat),I (zC .i64 (x9_2+1)) w/\∀ (x12:Int) w,I x12 w->xO x0 x2 x3 x10 Kl1 x9_2 x12 w (λx12' w'=>I x12' w'/\μ x12' w'<μ x12 w)))/\(¬ (2<=(zC .i64 (x2 - x9_2)))->(z6 x10 Kl1 x9_2 w))
def yS (x11:Int) (Kl9:Int->World->Prop) (w:World):Prop:=
 Kl9 (zC .i64 (x11 - 1)) w
def xN (x0:Sl) (x2:Int) (x3:Value) (x10:Int) (Kl1:Int->Int->World->Prop) (x9_2:Int) (x11:Int) (w:World) (Kl9:Int->World->Prop):Prop:=
 ((1<=x11)->(opB zA zB (zF 67 (Sl.v x0) (.int .i64 x11)) w (λx75=>opB zA zG.v (zD 72 (.pointer x75)) w (λx76=>opB zA zB (zF 67 (Sl.v x0) (.int .i64 (zC .i64 (x11 - 1)))) w (λx80=>opB zA zG.v (zD 72 (.pointer x80)) w (λx81=>∃ (r_1:Int),Zs zA x3 [(zG.v x76),(zG.v x81)] w (.int .i64 r_1)/\(yM w (λw=>((!(decide (r_1<0)))=true->(zu x0 x2 x3 x10 Kl1 x9_2 w))/\((!(decide (r_1<0)))=false->(yM w (λw=>opP zA zB (zF 67 (Sl.v x0) (.int .i64 (zC .i64 (x11 - 1)))) (λx93=>opP zA zB (zF 67 (Sl.v x0) (.int .i64 x11)) (λx97=>(opE zA zG.v (zD 72 (.pointer x93)) w (λx94 w=>opE zA zG.v (zD 72 (.pointer x97)) w (λx98 w=>opP zA zB (zF 67 (Sl.v x0) (.int .i64 x11)) (λx99=>opU zA (zK 72 (.pointer x99) (zG.v x94)) w (λw=>opP zA zB (zF 67 (Sl.v x0) (.int .i64 (zC .i64 (x11 - 1)))) (λx100=>opU zA (zK 72 (.pointer x100) (zG.v x98)) w (λw=>yS x11 Kl9 w)))))))/\(opE zA zG.v (zD 72 (.pointer x97)) w (λx98_1 w=>opE zA zG.v (zD 72 (.pointer x93)) w (λx94_1 w=>opP zA zB (zF 67 (Sl.v x0) (.int .i64 x11)) (λx99_1=>opU zA (zK 72 (.pointer x99_1) (zG.v x94_1)) w (λw=>opP zA zB (zF 67 (Sl.v x0) (.int .i64 (zC .i64 (x11 - 1)))) (λx100_1=>opU zA (zK 72 (.pointer x100_1) (zG.v x98_1)) w (λw=>yS x11 Kl9 w))))))))))))))))))))/\(¬ (1<=x11)->(zu x0 x2 x3 x10 Kl1 x9_2 w))
def yW (x0:Sl) (x1:Int) (x2:Int) (x3:Value) (x10:Int) (Kl1:Int->Int->World->Prop) (x9_2:Int) (w:World):Prop:=
 ((2<=(zC .i64 (x9_2 - x1)))->(∃ (I:Int->World->Prop) (μ:Int->World->Nat),I (zC .i64 (x9_2 - 1)) w/\∀ (x11:Int) w,I x11 w->xN x0 x2 x3 x10 Kl1 x9_2 x11 w (λx11' w'=>I x11' w'/\μ x11' w'<μ x11 w)))/\(¬ (2<=(zC .i64 (x9_2 - x1)))->(zu x0 x2 x3 x10 Kl1 x9_2 w))
def yX (x0:Sl) (x1:Int) (x2:Int) (x3:Value) (Ret:Bool->World->Prop) (x10:Int) (Kl1:Int->Int->World->Prop) (x9_2:Int) (Kl3:Int->World->Prop) (x36:Bool) (w:World):Prop:=
 yM w (λw=>(x36=true->(Kl3 (zC .i64 (x9_2+1)) w))/\(x36=false->(((x9_2=x2)->(Ret true w))/\(¬ (x9_2=x2)->((((zC .i64 (x2 - x1))<50)->(Ret false w))/\(¬ ((zC .i64 (x2 - x1))<50)->(yM w (λw=>opP zA zB (zF 67 (Sl.v x0) (.int .i64 (zC .i64 (x9_2 - 1)))) (λx54=>opP zA zB (zF 67 (Sl.v x0) (.int .i64 x9_2)) (λx58=>(opE zA zG.v (zD 72 (.pointer x54)) w (λx55 w=>opE zA zG.v (zD 72 (.pointer x58)) w (λx59 w=>opP zA zB (zF 67 (Sl.v x0) (.int .i64 x9_2)) (λx60=>opU zA (zK 72 (.pointer x60) (zG.v x55)) w (λw=>opP zA zB (zF 67 (Sl.v x0) (.int .i64 (zC .i64 (x9_2 - 1)))) (λx61=>opU zA (zK 72 (.pointer x61) (zG.v x59)) w (λw=>yW x0 x1 x2 x3 x10 Kl1 x9_2 w)))))))/\(opE zA zG.v (zD 72 (.pointer x58)) w (λx59_1 w=>opE zA zG.v (zD 72 (.pointer x54)) w (λx55_1 w=>opP zA zB (zF 67 (Sl.v x0) (.int .i64 x9_2)) (λx60_1=>opU zA (zK 72 (.pointer x60_1) (zG.v x55_1)) w (λw=>opP zA zB (zF 67 (Sl.v x0) (.int .i64 (zC .i64 (x9_2 - 1)))) (λx61_1=>opU zA (zK 72 (.pointer x61_1) (zG.v x59_1)) w (λw=>yW x0 x1 x2 x3 x10 Kl1 x9_2 w)))))))))))))))))
def xQ (x0:Sl) (x1:Int) (x2:Int) (x3:Value) (Ret:Bool->World->Prop) (x10:Int) (Kl1:Int->Int->World->Prop) (x9_2:Int) (w:World) (Kl3:Int->World->Prop):Prop:=
 ((x9_2<x2)->(opB zA zB (zF 67 (Sl.v x0) (.int .i64 x9_2)) w (λx26=>opB zA zG.v (zD 72 (.pointer x26)) w (λx27=>opB zA zB (zF 67 (Sl.v x0) (.int .i64 (zC .i64 (x9_2 - 1)))) w (λx31=>opB zA zG.v (zD 72 (.pointer x31)) w (λx32=>∃ (r_2:Int),Zs zA x3 [(zG.v x27),(zG.v x32)] w (.int .i64 r_2)/\(yX x0 x1 x2 x3 Ret x10 Kl1 x9_2 Kl3 (!(decide (r_2<0))) w)))))))/\(¬ (x9_2<x2)->(yX x0 x1 x2 x3 Ret x10 Kl1 x9_2 Kl3 false w))
def xM (x0:Sl) (x1:Int) (x2:Int) (x3:Value) (Ret:Bool->World->Prop) (x9:Int) (x10:Int) (w:World) (Kl1:Int->Int->World->Prop):Prop:=
 ((x10<5)->(∃ (I:Int->World->Prop) (μ:Int->World->Nat),I x9 w/\∀ (x9_2:Int) w,I x9_2 w->xQ x0 x1 x2 x3 Ret x10 Kl1 x9_2 w (λx9_2' w'=>I x9_2' w'/\μ x9_2' w'<μ x9_2 w)))/\(¬ (x10<5)->(Ret false w))
def Y1 (x0:Sl) (x1:Int) (x2:Int) (x3:Value) (w:World) (Ret:Bool->World->Prop):Prop:=
 ∃ (I:Int->Int->World->Prop) (μ:Int->Int->World->Nat),I (zC .i64 (x1+1)) 0 w/\∀ (x9:Int) (x10:Int) w,I x9 x10 w->xM x0 x1 x2 x3 Ret x9 x10 w (λx9' x10' w'=>I x9' x10' w'/\μ x9' x10' w'<μ x9 x10 w)
set_option maxRecDepth 100000 in
theorem zCN (x0:Sl) (x1:Int) (x2:Int) (x3:Value) (w:World) (Ret:Bool->World->Prop) (H:Y1 x0 x1 x2 x3 w Ret):Cl zA 110 [(Sl.v x0),(.int .i64 x1),(.int .i64 x2),x3].toArray w (λe w'=>∃ (r0:Bool),e=.returned (.bool r0)/\Ret r0 w'):=by
 unfold Y1 at H
 refine zp 141 (zipE 0 [(Sl.v x0),(.int .i64 x1),(.int .i64 x2),x3]) Tryz.func110 rfl rfl (by rfl) rfl ?_
 intro a g
 have g:Sat [] 141 [(0,(Sl.v x0)),(1,(.int .i64 x1)),(2,(.int .i64 x2)),(3,x3)] a:=g
 refine zI (zE (g.s rfl λ_ g=>zL (tn (zI (zE (g.m rfl λ_ g=>g.p (zr g rfl rfl) λ_ g=>g.s rfl λ_ g=>zL (tn (zI (zI (zE (g.s rfl λ_ g=>zL (tn (zX ?_)))))))))))))
 obtain ⟨I_l1,μ_l1,h0,hb⟩:=H
 refine yE (ds:=[]) (N:=141) (σ:=Int × Int) (λs=>[(9,(.int .i64 s.1)),(10,(.int .i64 s.2)),(0,(Sl.v x0)),(1,(.int .i64 x1)),(2,(.int .i64 x2)),(3,x3)]) (λs w=>I_l1 s.1 s.2 w) (λs w=>μ_l1 s.1 s.2 w) ((zC .i64 (x1+1)),0) h0 (g.k) ?_
 rintro ⟨x9,x10⟩ w a hI g
 try dsimp only at hI g
 obtain ⟨Kl1,hK_l1⟩:∃ K:Int->Int->World->Prop,K=(λx9' x10' w'=>I_l1 x9' x10' w'/\μ_l1 x9' x10' w'<μ_l1 x9 x10 w):=⟨_,rfl⟩
 have H:xM x0 x1 x2 x3 Ret x9 x10 w Kl1:=by rw [hK_l1];exact hb x9 x10 w hI
 clear hb h0 hI
 unfold xM at H
 refine zI (zI (zE (g.m rfl λ_ g=>g.p (yR g rfl rfl) λ_ g=>zL (tn (zd g rfl (λhc=>?_) (λhc=>?_))))))
 ·have H:=H.1 hc
  refine zY (tn (z8 (ds:=[]) (N:=141) (σ:=Int) (λs=>[(9,(.int .i64 s)),(0,(Sl.v x0)),(1,(.int .i64 x1)),(2,(.int .i64 x2)),(3,x3),(10,(.int .i64 x10))]) (λs w=>z6 x10 Kl1 s w) ?_ (λhj2=>?_)))
  ·intro x9_1 w a H g
   try dsimp only at H g
   unfold z6 at H
   refine zE (g.m rfl λ_ g=>g.p (zr g rfl rfl) λ_ g=>g.s rfl λ_ g=>?_)
   rw [hK_l1] at H
   exact zL (tn ⟨(x9_1,(zC .i64 (x10+1))),g.k,H⟩)
  ·refine zX (zI (zX ?_))
   obtain ⟨I_l3,μ_l3,h0,hb⟩:=H
   refine yE (ds:=[]) (N:=141) (σ:=Int) (λs=>[(9,(.int .i64 s)),(0,(Sl.v x0)),(1,(.int .i64 x1)),(2,(.int .i64 x2)),(3,x3),(10,(.int .i64 x10))]) (λs w=>I_l3 s w) (λs w=>μ_l3 s w) x9 h0 (g.k) ?_
   intro x9_2 w a hI g
   try dsimp only at hI g
   obtain ⟨Kl3,hK_l3⟩:∃ K:Int->World->Prop,K=(λx9_2' w'=>I_l3 x9_2' w'/\μ_l3 x9_2' w'<μ_l3 x9_2 w):=⟨_,rfl⟩
   have H:xQ x0 x1 x2 x3 Ret x10 Kl1 x9_2 w Kl3:=by rw [hK_l3];exact hb x9_2 w hI
   clear hb h0 hI
   unfold xQ at H
   refine zI (zI (QU (by kernel_rfl) (by kernel_rfl) (g.t rfl λ_ g=>g.t rfl λ_ g=>g.r (yR g rfl rfl) λ_ g=>g.t rfl λ_ g=>WQ.join (ds:=[]) (N:=141) (σ:=Bool) (λs=>[(36,(.bool s)),(0,(Sl.v x0)),(1,(.int .i64 x1)),(2,(.int .i64 x2)),(3,x3),(9,(.int .i64 x9_2)),(10,(.int .i64 x10))]) (λs=>yX x0 x1 x2 x3 Ret x10 Kl1 x9_2 Kl3 s w) 14 ?_ (λhr4=>?_))))
   ·intro x36 a H g
    try dsimp only at H g
    unfold yX at H
    refine Qb (λw hB=>?_)
    replace H:=H w hB
    refine (tn (zk g rfl (λhc=>?_) (λhc=>?_)))
    ·have H:=H.1 hc
     refine zY (tn (zX (zE (g.m rfl λ_ g=>g.p (zr g rfl rfl) λ_ g=>g.s rfl λ_ g=>?_))))
     rw [hK_l3] at H
     exact zL (bn (tn ⟨(zC .i64 (x9_2+1)),g.k,H⟩))
    ·have H:=H.2 hc
     refine z7 (te (te (be (tn (zI (zI (zE (g.m rfl λ_ g=>g.m rfl λ_ g=>g.p (Zb g rfl rfl) λ_ g=>zL (tn (zd g rfl (λhc=>?_) (λhc=>?_)))))))))))
     ·have H:=H.1 hc
      exact zI (zE (g.s rfl λ_ g=>zL (tn (zl (tr (br (tr (tr (br (tr (zw g rfl rfl ⟨_,rfl,H⟩)))))))))))
     ·have H:=H.2 hc
      refine zY (tn (zI (zI (zE (g.m rfl λ_ g=>g.m rfl λ_ g=>g.p (zv g rfl rfl) λ_ g=>g.p (yR g rfl rfl) λ_ g=>zL (tn (zd g rfl (λhc=>?_) (λhc=>?_))))))))
      ·have H:=H.1 hc
       exact zI (zE (g.s rfl λ_ g=>zL (tn (zl (tr (br (tr (tr (br (tr (zw g rfl rfl ⟨_,rfl,H⟩)))))))))))
      ·have H:=H.2 hc
       refine zY (tn (z8 (ds:=[]) (N:=141) (σ:=Unit) (λs=>[(0,(Sl.v x0)),(1,(.int .i64 x1)),(2,(.int .i64 x2)),(3,x3),(9,(.int .i64 x9_2)),(10,(.int .i64 x10))]) (λs w=>yW x0 x1 x2 x3 x10 Kl1 x9_2 w) ?_ (λhj5=>?_)))
       ·rintro ⟨⟩ w a H g
        try dsimp only at H g
        unfold yW at H
        refine z8 (ds:=[]) (N:=141) (σ:=Unit) (λs=>[(0,(Sl.v x0)),(1,(.int .i64 x1)),(2,(.int .i64 x2)),(3,x3),(9,(.int .i64 x9_2)),(10,(.int .i64 x10))]) (λs w=>zu x0 x2 x3 x10 Kl1 x9_2 w) ?_ (λhj6=>?_)
        ·rintro ⟨⟩ w a H g
         try dsimp only at H g
         unfold zu at H
         refine zI (zE (g.m rfl λ_ g=>g.m rfl λ_ g=>g.p (zv g rfl rfl) λ_ g=>g.p (Zm g rfl rfl) λ_ g=>zL (tn (zd g rfl (λhc=>?_) (λhc=>?_)))))
         ·have H:=H.1 hc
          refine zI (zE (g.m rfl λ_ g=>g.p (zr g rfl rfl) λ_ g=>g.s rfl λ_ g=>zL (tn (zX ?_))))
          obtain ⟨I_l7,μ_l7,h0,hb⟩:=H
          refine yE (ds:=[]) (N:=141) (σ:=Int) (λs=>[(12,(.int .i64 s)),(0,(Sl.v x0)),(1,(.int .i64 x1)),(2,(.int .i64 x2)),(3,x3),(9,(.int .i64 x9_2)),(10,(.int .i64 x10))]) (λs w=>I_l7 s w) (λs w=>μ_l7 s w) (zC .i64 (x9_2+1)) h0 (g.k) ?_
          intro x12 w a hI g
          try dsimp only at hI g
          obtain ⟨Kl7,hK_l7⟩:∃ K:Int->World->Prop,K=(λx12' w'=>I_l7 x12' w'/\μ_l7 x12' w'<μ_l7 x12 w):=⟨_,rfl⟩
          have H:xO x0 x2 x3 x10 Kl1 x9_2 x12 w Kl7:=by rw [hK_l7];exact hb x12 w hI
          clear hb h0 hI
          unfold xO at H
          refine zI (zI (zE (g.m rfl λ_ g=>g.m rfl λ_ g=>g.p (yR g rfl rfl) λ_ g=>zL (tn (zd g rfl (λhc=>?_) (λhc=>?_))))))
          ·have H:=H.1 hc
           refine zY (tn (z8 (ds:=[]) (N:=141) (σ:=Unit) (λs=>[(0,(Sl.v x0)),(1,(.int .i64 x1)),(2,(.int .i64 x2)),(3,x3),(9,(.int .i64 x9_2)),(10,(.int .i64 x10)),(12,(.int .i64 x12))]) (λs w=>yV x12 Kl7 w) ?_ (λhj8=>?_)))
           ·rintro ⟨⟩ w a H g
            try dsimp only at H g
            unfold yV at H
            refine zE (g.m rfl λ_ g=>g.p (zr g rfl rfl) λ_ g=>g.s rfl λ_ g=>?_)
            rw [hK_l7] at H
            exact zL (tn ⟨(zC .i64 (x12+1)),g.k,H⟩)
           ·refine zX (zI (zI (QU (by kernel_rfl) (by kernel_rfl) (g.t rfl λ_ g=>g.t rfl λ_ g=>g.t rfl λ_ g=>g.A (zH g rfl rfl) H λx115 a H g=>g.A (zO g rfl) H λx116 a H g=>g.t rfl λ_ g=>g.t rfl λ_ g=>g.r (zv g rfl rfl) λ_ g=>g.A (zH g rfl rfl) H λx120 a H g=>g.A (zO g rfl) H λx121 a H g=>?_))))
            obtain ⟨r,hc,H⟩:=H
            refine g.qcallV rfl rfl hc λ_ g=>g.r (yR g rfl rfl) λ_ g=>g.r (zAJ g rfl) λ_ g=>Qb (λw hB=>?_)
            replace H:=H w hB
            refine (tn (zk g rfl (λhc=>?_) (λhc=>?_)))
            ·have H:=H.1 hc
             exact z7 (te (bo (te (te (be (bn (tn (hj2 x9_2 _ _ H (g.k)))))))))
            ·have H:=H.2 hc
             refine zY (tn (zCC 18 λw hB=>?_))
             replace H:=H w hB
             refine g.x 0 rfl (zR g rfl) λ_ g=>g.x 1 rfl (zR g rfl) λ_ g=>g.x 2 rfl (zR g rfl) λ_ g=>g.x 3 rfl (zR g rfl) λ_ g=>g.x 4 rfl (zv g rfl rfl) λ_ g=>g.x 5 rfl (zR g rfl) λ_ g=>g.x 6 rfl (zR g rfl) λ_ g=>g.x 7 rfl (zv g rfl rfl) λ_ g=>g.y 8 rfl (zH g rfl rfl) H λx133 a H g=>g.x 10 rfl (zR g rfl) λ_ g=>g.x 11 rfl (zR g rfl) λ_ g=>g.y 12 rfl (zH g rfl rfl) H λx137 a H g=>WA.tw 9 13 rfl rfl ?_ ?_
             ·have H:=H.1
              intro K hK
              exact g.i (zO g rfl) H λx134 w a H g=>hK _ _ (g.j 13 rfl (zO g rfl) H λx138 w a H g=>g.y 14 rfl (zH g rfl rfl) H λx139 a H g=>g.l 15 rfl (zT g rfl rfl) H λw a H g=>g.y 16 rfl (zH g rfl rfl) H λx140 a H g=>g.l 17 rfl (zT g rfl rfl) H λw a H g=>WA.ni ((bn (tn (hj8 () _ _ H (g.k))))))
             ·have H:=H.2
              intro K hK
              exact g.i (zO g rfl) H λx138_1 w a H g=>hK _ _ (g.j 9 rfl (zO g rfl) H λx134_1 w a H g=>g.y 14 rfl (zH g rfl rfl) H λx139_1 a H g=>g.l 15 rfl (zT g rfl rfl) H λw a H g=>g.y 16 rfl (zH g rfl rfl) H λx140_1 a H g=>g.l 17 rfl (zT g rfl rfl) H λw a H g=>WA.ni ((bn (tn (hj8 () _ _ H (g.k))))))
          ·have H:=H.2 hc
           exact z7 (te (te (be (bn (tn (hj2 x9_2 _ _ H (g.k)))))))
         ·have H:=H.2 hc
          exact zY (bn (tn (hj2 x9_2 _ _ H (g.k))))
        ·refine zI (zE (g.m rfl λ_ g=>g.m rfl λ_ g=>g.p (zv g rfl rfl) λ_ g=>g.p (Zm g rfl rfl) λ_ g=>zL (tn (zd g rfl (λhc=>?_) (λhc=>?_)))))
         ·have H:=H.1 hc
          refine zI (zE (g.m rfl λ_ g=>g.p (zv g rfl rfl) λ_ g=>g.s rfl λ_ g=>zL (tn (zX ?_))))
          obtain ⟨I_l9,μ_l9,h0,hb⟩:=H
          refine yE (ds:=[]) (N:=141) (σ:=Int) (λs=>[(11,(.int .i64 s)),(0,(Sl.v x0)),(1,(.int .i64 x1)),(2,(.int .i64 x2)),(3,x3),(9,(.int .i64 x9_2)),(10,(.int .i64 x10))]) (λs w=>I_l9 s w) (λs w=>μ_l9 s w) (zC .i64 (x9_2 - 1)) h0 (g.k) ?_
          intro x11 w a hI g
          try dsimp only at hI g
          obtain ⟨Kl9,hK_l9⟩:∃ K:Int->World->Prop,K=(λx11' w'=>I_l9 x11' w'/\μ_l9 x11' w'<μ_l9 x11 w):=⟨_,rfl⟩
          have H:xN x0 x2 x3 x10 Kl1 x9_2 x11 w Kl9:=by rw [hK_l9];exact hb x11 w hI
          clear hb h0 hI
          unfold xN at H
          refine zI (zI (zE (g.m rfl λ_ g=>g.p (Zm g rfl rfl) λ_ g=>zL (tn (zd g rfl (λhc=>?_) (λhc=>?_))))))
          ·have H:=H.1 hc
           refine zY (tn (z8 (ds:=[]) (N:=141) (σ:=Unit) (λs=>[(0,(Sl.v x0)),(1,(.int .i64 x1)),(2,(.int .i64 x2)),(3,x3),(9,(.int .i64 x9_2)),(10,(.int .i64 x10)),(11,(.int .i64 x11))]) (λs w=>yS x11 Kl9 w) ?_ (λhj10=>?_)))
           ·rintro ⟨⟩ w a H g
            try dsimp only at H g
            unfold yS at H
            refine zE (g.m rfl λ_ g=>g.p (zv g rfl rfl) λ_ g=>g.s rfl λ_ g=>?_)
            rw [hK_l9] at H
            exact zL (tn ⟨(zC .i64 (x11 - 1)),g.k,H⟩)
           ·refine zX (zI (zI (QU (by kernel_rfl) (by kernel_rfl) (g.t rfl λ_ g=>g.t rfl λ_ g=>g.t rfl λ_ g=>g.A (zH g rfl rfl) H λx75 a H g=>g.A (zO g rfl) H λx76 a H g=>g.t rfl λ_ g=>g.t rfl λ_ g=>g.r (zv g rfl rfl) λ_ g=>g.A (zH g rfl rfl) H λx80 a H g=>g.A (zO g rfl) H λx81 a H g=>?_))))
            obtain ⟨r_1,hc,H⟩:=H
            refine g.qcallV rfl rfl hc λ_ g=>g.r (yR g rfl rfl) λ_ g=>g.r (zAJ g rfl) λ_ g=>Qb (λw hB=>?_)
            replace H:=H w hB
            refine (tn (zk g rfl (λhc=>?_) (λhc=>?_)))
            ·have H:=H.1 hc
             exact z7 (te (bo (te (te (be (tn (hj6 () _ _ H (g.k))))))))
            ·have H:=H.2 hc
             refine zY (tn (zCC 18 λw hB=>?_))
             replace H:=H w hB
             refine g.x 0 rfl (zR g rfl) λ_ g=>g.x 1 rfl (zR g rfl) λ_ g=>g.x 2 rfl (zR g rfl) λ_ g=>g.x 3 rfl (zR g rfl) λ_ g=>g.x 4 rfl (zv g rfl rfl) λ_ g=>g.x 5 rfl (zR g rfl) λ_ g=>g.x 6 rfl (zR g rfl) λ_ g=>g.x 7 rfl (zv g rfl rfl) λ_ g=>g.y 8 rfl (zH g rfl rfl) H λx93 a H g=>g.x 10 rfl (zR g rfl) λ_ g=>g.x 11 rfl (zR g rfl) λ_ g=>g.y 12 rfl (zH g rfl rfl) H λx97 a H g=>WA.tw 9 13 rfl rfl ?_ ?_
             ·have H:=H.1
              intro K hK
              exact g.i (zO g rfl) H λx94 w a H g=>hK _ _ (g.j 13 rfl (zO g rfl) H λx98 w a H g=>g.y 14 rfl (zH g rfl rfl) H λx99 a H g=>g.l 15 rfl (zT g rfl rfl) H λw a H g=>g.y 16 rfl (zH g rfl rfl) H λx100 a H g=>g.l 17 rfl (zT g rfl rfl) H λw a H g=>WA.ni ((bn (tn (hj10 () _ _ H (g.k))))))
             ·have H:=H.2
              intro K hK
              exact g.i (zO g rfl) H λx98_1 w a H g=>hK _ _ (g.j 9 rfl (zO g rfl) H λx94_1 w a H g=>g.y 14 rfl (zH g rfl rfl) H λx99_1 a H g=>g.l 15 rfl (zT g rfl rfl) H λw a H g=>g.y 16 rfl (zH g rfl rfl) H λx100_1 a H g=>g.l 17 rfl (zT g rfl rfl) H λw a H g=>WA.ni ((bn (tn (hj10 () _ _ H (g.k))))))
          ·have H:=H.2 hc
           exact z7 (te (te (be (tn (hj6 () _ _ H (g.k))))))
         ·have H:=H.2 hc
          exact zY (tn (hj6 () _ _ H (g.k)))
       ·refine zCC 18 λw hB=>?_
        replace H:=H w hB
        refine g.x 0 rfl (zR g rfl) λ_ g=>g.x 1 rfl (zR g rfl) λ_ g=>g.x 2 rfl (zR g rfl) λ_ g=>g.x 3 rfl (zR g rfl) λ_ g=>g.x 4 rfl (zv g rfl rfl) λ_ g=>g.x 5 rfl (zR g rfl) λ_ g=>g.x 6 rfl (zR g rfl) λ_ g=>g.x 7 rfl (zv g rfl rfl) λ_ g=>g.y 8 rfl (zH g rfl rfl) H λx54 a H g=>g.x 10 rfl (zR g rfl) λ_ g=>g.x 11 rfl (zR g rfl) λ_ g=>g.y 12 rfl (zH g rfl rfl) H λx58 a H g=>WA.tw 9 13 rfl rfl ?_ ?_
        ·have H:=H.1
         intro K hK
         exact g.i (zO g rfl) H λx55 w a H g=>hK _ _ (g.j 13 rfl (zO g rfl) H λx59 w a H g=>g.y 14 rfl (zH g rfl rfl) H λx60 a H g=>g.l 15 rfl (zT g rfl rfl) H λw a H g=>g.y 16 rfl (zH g rfl rfl) H λx61 a H g=>g.l 17 rfl (zT g rfl rfl) H λw a H g=>WA.ni ((tn (hj5 () _ _ H (g.k)))))
        ·have H:=H.2
         intro K hK
         exact g.i (zO g rfl) H λx59_1 w a H g=>hK _ _ (g.j 9 rfl (zO g rfl) H λx55_1 w a H g=>g.y 14 rfl (zH g rfl rfl) H λx60_1 a H g=>g.l 15 rfl (zT g rfl rfl) H λw a H g=>g.y 16 rfl (zH g rfl rfl) H λx61_1 a H g=>g.l 17 rfl (zT g rfl rfl) H λw a H g=>WA.ni ((tn (hj5 () _ _ H (g.k)))))
   ·rcases Classical.em ((x9_2<x2)) with hbr4|hbr4
    ·have H:=H.1 hbr4
     have g:=g.b (b:=true) (t:=22) rfl (decide_eq_true hbr4)
     refine g.e (g.t rfl λ_ g=>g.e (g.t rfl λ_ g=>g.e (g.t rfl λ_ g=>g.e (g.A (zH g rfl rfl) H λx26 a H g=>g.e (g.A (zO g rfl) H λx27 a H g=>g.e (g.t rfl λ_ g=>g.e (g.t rfl λ_ g=>g.e (g.r (zv g rfl rfl) λ_ g=>g.e (g.A (zH g rfl rfl) H λx31 a H g=>g.e (g.A (zO g rfl) H λx32 a H g=>g.e ?_))))))))))
     obtain ⟨r_2,hc,H⟩:=H
     exact g.qcallV rfl rfl hc λ_ g=>g.e (g.r (yR g rfl rfl) λ_ g=>g.e (g.r (zAJ g rfl) λ_ g=>g.r (zx g rfl rfl) λ_ g=>hr4 (!(decide (r_2<0))) _ H (g.k)))
    ·have H:=H.2 hbr4
     have g:=g.b (b:=false) (t:=22) rfl (decide_eq_false hbr4)
     exact g.g (λ_ g=>g.g (λ_ g=>g.g (λ_ g=>g.g (λ_ g=>g.g (λ_ g=>g.g (λ_ g=>g.g (λ_ g=>g.g (λ_ g=>g.g (λ_ g=>g.g (λ_ g=>g.g (λ_ g=>g.g (λ_ g=>g.g (λ_ g=>g.r (zy g rfl rfl) λ_ g=>hr4 false _ H (g.k))))))))))))))
 ·have H:=H.2 hc
  exact z7 (te (te (be (tn (zI (zE (g.s rfl λ_ g=>zL (tn (zl (zw g rfl rfl ⟨_,rfl,H⟩))))))))))
def y9 (Kl2:Int->Int->World->Prop) (x11_1:Int) (x12_1:Int) (w:World):Prop:=
 Kl2 (zC .i64 (x11_1+1)) (zC .i64 (x12_1 - 1)) w
def y8 (x0:Sl) (Ret:Int->World->Prop) (Kl2:Int->Int->World->Prop) (x11_1:Int) (x12_1:Int) (Kl5:Int->World->Prop) (x65:Bool) (w:World):Prop:=
 yM w (λw=>(x65=true->(Kl5 (zC .i64 (x12_1 - 1)) w))/\(x65=false->(((x12_1<x11_1)->(Ret x11_1 w))/\(¬ (x12_1<x11_1)->(yM w (λw=>opP zA zB (zF 67 (Sl.v x0) (.int .i64 x12_1)) (λx77=>opP zA zB (zF 67 (Sl.v x0) (.int .i64 x11_1)) (λx81=>(opE zA zG.v (zD 72 (.pointer x77)) w (λx78 w=>opE zA zG.v (zD 72 (.pointer x81)) w (λx82 w=>opP zA zB (zF 67 (Sl.v x0) (.int .i64 x11_1)) (λx83=>opU zA (zK 72 (.pointer x83) (zG.v x78)) w (λw=>opP zA zB (zF 67 (Sl.v x0) (.int .i64 x12_1)) (λx84=>opU zA (zK 72 (.pointer x84) (zG.v x82)) w (λw=>y9 Kl2 x11_1 x12_1 w)))))))/\(opE zA zG.v (zD 72 (.pointer x81)) w (λx82_1 w=>opE zA zG.v (zD 72 (.pointer x77)) w (λx78_1 w=>opP zA zB (zF 67 (Sl.v x0) (.int .i64 x11_1)) (λx83_1=>opU zA (zK 72 (.pointer x83_1) (zG.v x78_1)) w (λw=>opP zA zB (zF 67 (Sl.v x0) (.int .i64 x12_1)) (λx84_1=>opU zA (zK 72 (.pointer x84_1) (zG.v x82_1)) w (λw=>y9 Kl2 x11_1 x12_1 w)))))))))))))))
def Qp (x0:Sl) (x1:Int) (x4:Value) (Ret:Int->World->Prop) (Kl2:Int->Int->World->Prop) (x11_1:Int) (x12_1:Int) (w:World) (Kl5:Int->World->Prop):Prop:=
 ((x11_1<=x12_1)->(opB zA zB (zF 67 (Sl.v x0) (.int .i64 x1)) w (λx57=>opB zA zG.v (zD 72 (.pointer x57)) w (λx58=>opB zA zB (zF 67 (Sl.v x0) (.int .i64 x12_1)) w (λx61=>opB zA zG.v (zD 72 (.pointer x61)) w (λx62=>∃ (r:Int),Zs zA x4 [(zG.v x58),(zG.v x62)] w (.int .i64 r)/\(y8 x0 Ret Kl2 x11_1 x12_1 Kl5 (decide (r<0)) w)))))))/\(¬ (x11_1<=x12_1)->(y8 x0 Ret Kl2 x11_1 x12_1 Kl5 false w))
def y7 (x0:Sl) (x1:Int) (x4:Value) (Ret:Int->World->Prop) (x12:Int) (Kl2:Int->Int->World->Prop) (x11_1:Int) (Kl3:Int->World->Prop) (x47:Bool) (w:World):Prop:=
 yM w (λw=>(x47=true->(Kl3 (zC .i64 (x11_1+1)) w))/\(x47=false->(∃ (I:Int->World->Prop) (μ:Int->World->Nat),I x12 w/\∀ (x12_1:Int) w,I x12_1 w->Qp x0 x1 x4 Ret Kl2 x11_1 x12_1 w (λx12_1' w'=>I x12_1' w'/\μ x12_1' w'<μ x12_1 w))))
def Qt (x0:Sl) (x1:Int) (x4:Value) (Ret:Int->World->Prop) (x12:Int) (Kl2:Int->Int->World->Prop) (x11_1:Int) (w:World) (Kl3:Int->World->Prop):Prop:=
 ((x11_1<=x12)->(opB zA zB (zF 67 (Sl.v x0) (.int .i64 x1)) w (λx38=>opB zA zG.v (zD 72 (.pointer x38)) w (λx39=>opB zA zB (zF 67 (Sl.v x0) (.int .i64 x11_1)) w (λx42=>opB zA zG.v (zD 72 (.pointer x42)) w (λx43=>∃ (r_1:Int),Zs zA x4 [(zG.v x39),(zG.v x43)] w (.int .i64 r_1)/\(y7 x0 x1 x4 Ret x12 Kl2 x11_1 Kl3 (!(decide (r_1<0))) w)))))))/\(¬ (x11_1<=x12)->(y7 x0 x1 x4 Ret x12 Kl2 x11_1 Kl3 false w))
def Qq (x0:Sl) (x1:Int) (x4:Value) (Ret:Int->World->Prop) (x11:Int) (x12:Int) (w:World) (Kl2:Int->Int->World->Prop):Prop:=
 ∃ (I:Int->World->Prop) (μ:Int->World->Nat),I x11 w/\∀ (x11_1:Int) w,I x11_1 w->Qt x0 x1 x4 Ret x12 Kl2 x11_1 w (λx11_1' w'=>I x11_1' w'/\μ x11_1' w'<μ x11_1 w)
def xA (x0:Sl) (x1:Int) (x2:Int) (x4:Value) (Ret:Int->World->Prop) (w:World):Prop:=
 ∃ (I:Int->Int->World->Prop) (μ:Int->Int->World->Nat),I (zC .i64 (x1+1)) (zC .i64 (x2 - 1)) w/\∀ (x11:Int) (x12:Int) w,I x11 x12 w->Qq x0 x1 x4 Ret x11 x12 w (λx11' x12' w'=>I x11' x12' w'/\μ x11' x12' w'<μ x11 x12 w)
def ZW (x0:Sl) (x1:Int) (x2:Int) (x3:Int) (x4:Value) (w:World) (Ret:Int->World->Prop):Prop:=
 yM w (λw=>opP zA zB (zF 67 (Sl.v x0) (.int .i64 x3)) (λx19=>opP zA zB (zF 67 (Sl.v x0) (.int .i64 x1)) (λx23=>(opE zA zG.v (zD 72 (.pointer x19)) w (λx20 w=>opE zA zG.v (zD 72 (.pointer x23)) w (λx24 w=>opP zA zB (zF 67 (Sl.v x0) (.int .i64 x1)) (λx25=>opU zA (zK 72 (.pointer x25) (zG.v x20)) w (λw=>opP zA zB (zF 67 (Sl.v x0) (.int .i64 x3)) (λx26=>opU zA (zK 72 (.pointer x26) (zG.v x24)) w (λw=>xA x0 x1 x2 x4 Ret w)))))))/\(opE zA zG.v (zD 72 (.pointer x23)) w (λx24_1 w=>opE zA zG.v (zD 72 (.pointer x19)) w (λx20_1 w=>opP zA zB (zF 67 (Sl.v x0) (.int .i64 x1)) (λx25_1=>opU zA (zK 72 (.pointer x25_1) (zG.v x20_1)) w (λw=>opP zA zB (zF 67 (Sl.v x0) (.int .i64 x3)) (λx26_1=>opU zA (zK 72 (.pointer x26_1) (zG.v x24_1)) w (λw=>xA x0 x1 x2 x4 Ret w))))))))))
set_option maxRecDepth 100000 in
theorem zC8 (x0:Sl) (x1:Int) (x2:Int) (x3:Int) (x4:Value) (w:World) (Ret:Int->World->Prop) (H:ZW x0 x1 x2 x3 x4 w Ret):Cl zA 111 [(Sl.v x0),(.int .i64 x1),(.int .i64 x2),(.int .i64 x3),x4].toArray w (λe w'=>∃ (r0:Int),e=.returned (.int .i64 r0)/\Ret r0 w'):=by
 unfold ZW at H
 refine zp 90 (zipE 0 [(Sl.v x0),(.int .i64 x1),(.int .i64 x2),(.int .i64 x3),x4]) Tryz.func111 rfl rfl (by rfl) rfl ?_
 intro a g
 have g:Sat [] 90 [(0,(Sl.v x0)),(1,(.int .i64 x1)),(2,(.int .i64 x2)),(3,(.int .i64 x3)),(4,x4)] a:=g
 refine zI (zE (g.s rfl λ_ g=>zL (tn (z8 (ds:=[]) (N:=90) (σ:=Unit) (λs=>[(0,(Sl.v x0)),(1,(.int .i64 x1)),(2,(.int .i64 x2)),(4,x4)]) (λs w=>xA x0 x1 x2 x4 Ret w) ?_ (λhj1=>?_)))))
 ·rintro ⟨⟩ w a H g
  try dsimp only at H g
  unfold xA at H
  refine zI (zE (g.m rfl λ_ g=>g.p (zr g rfl rfl) λ_ g=>g.m rfl λ_ g=>g.p (zv g rfl rfl) λ_ g=>g.s rfl λ_ g=>g.s rfl λ_ g=>zL (tn (zI (zX ?_)))))
  obtain ⟨I_l2,μ_l2,h0,hb⟩:=H
  refine yE (ds:=[]) (N:=90) (σ:=Int × Int) (λs=>[(11,(.int .i64 s.1)),(12,(.int .i64 s.2)),(0,(Sl.v x0)),(1,(.int .i64 x1)),(4,x4)]) (λs w=>I_l2 s.1 s.2 w) (λs w=>μ_l2 s.1 s.2 w) ((zC .i64 (x1+1)),(zC .i64 (x2 - 1))) h0 (g.k) ?_
  rintro ⟨x11,x12⟩ w a hI g
  try dsimp only at hI g
  obtain ⟨Kl2,hK_l2⟩:∃ K:Int->Int->World->Prop,K=(λx11' x12' w'=>I_l2 x11' x12' w'/\μ_l2 x11' x12' w'<μ_l2 x11 x12 w):=⟨_,rfl⟩
  have H:Qq x0 x1 x4 Ret x11 x12 w Kl2:=by rw [hK_l2];exact hb x11 x12 w hI
  clear hb h0 hI
  unfold Qq at H
  refine zX (zI (zX ?_))
  obtain ⟨I_l3,μ_l3,h0,hb⟩:=H
  refine yE (ds:=[]) (N:=90) (σ:=Int) (λs=>[(11,(.int .i64 s)),(0,(Sl.v x0)),(1,(.int .i64 x1)),(4,x4),(12,(.int .i64 x12))]) (λs w=>I_l3 s w) (λs w=>μ_l3 s w) x11 h0 (g.k) ?_
  intro x11_1 w a hI g
  try dsimp only at hI g
  obtain ⟨Kl3,hK_l3⟩:∃ K:Int->World->Prop,K=(λx11_1' w'=>I_l3 x11_1' w'/\μ_l3 x11_1' w'<μ_l3 x11_1 w):=⟨_,rfl⟩
  have H:Qt x0 x1 x4 Ret x12 Kl2 x11_1 w Kl3:=by rw [hK_l3];exact hb x11_1 w hI
  clear hb h0 hI
  unfold Qt at H
  refine zI (zI (QU (by kernel_rfl) (by kernel_rfl) (g.t rfl λ_ g=>g.t rfl λ_ g=>g.r (zCw g rfl rfl) λ_ g=>g.t rfl λ_ g=>WQ.join (ds:=[]) (N:=90) (σ:=Bool) (λs=>[(47,(.bool s)),(0,(Sl.v x0)),(1,(.int .i64 x1)),(4,x4),(11,(.int .i64 x11_1)),(12,(.int .i64 x12))]) (λs=>y7 x0 x1 x4 Ret x12 Kl2 x11_1 Kl3 s w) 13 ?_ (λhr4=>?_))))
  ·intro x47 a H g
   try dsimp only at H g
   unfold y7 at H
   refine Qb (λw hB=>?_)
   replace H:=H w hB
   refine (tn (zk g rfl (λhc=>?_) (λhc=>?_)))
   ·have H:=H.1 hc
    refine zY (tn (zX (zE (g.m rfl λ_ g=>g.p (zr g rfl rfl) λ_ g=>g.s rfl λ_ g=>?_))))
    rw [hK_l3] at H
    exact zL (bn (tn ⟨(zC .i64 (x11_1+1)),g.k,H⟩))
   ·have H:=H.2 hc
    refine z7 (te (te (be (tn (zI (zX ?_))))))
    obtain ⟨I_l5,μ_l5,h0,hb⟩:=H
    refine yE (ds:=[]) (N:=90) (σ:=Int) (λs=>[(12,(.int .i64 s)),(0,(Sl.v x0)),(1,(.int .i64 x1)),(4,x4),(11,(.int .i64 x11_1))]) (λs w=>I_l5 s w) (λs w=>μ_l5 s w) x12 h0 (g.k) ?_
    intro x12_1 w a hI g
    try dsimp only at hI g
    obtain ⟨Kl5,hK_l5⟩:∃ K:Int->World->Prop,K=(λx12_1' w'=>I_l5 x12_1' w'/\μ_l5 x12_1' w'<μ_l5 x12_1 w):=⟨_,rfl⟩
    have H:Qp x0 x1 x4 Ret Kl2 x11_1 x12_1 w Kl5:=by rw [hK_l5];exact hb x12_1 w hI
    clear hb h0 hI
    unfold Qp at H
    refine zI (zI (QU (by kernel_rfl) (by kernel_rfl) (g.t rfl λ_ g=>g.t rfl λ_ g=>g.r (zCw g rfl rfl) λ_ g=>g.t rfl λ_ g=>WQ.join (ds:=[]) (N:=90) (σ:=Bool) (λs=>[(65,(.bool s)),(0,(Sl.v x0)),(1,(.int .i64 x1)),(4,x4),(11,(.int .i64 x11_1)),(12,(.int .i64 x12_1))]) (λs=>y8 x0 Ret Kl2 x11_1 x12_1 Kl5 s w) 12 ?_ (λhr6=>?_))))
    ·intro x65 a H g
     try dsimp only at H g
     unfold y8 at H
     refine Qb (λw hB=>?_)
     replace H:=H w hB
     refine (tn (zk g rfl (λhc=>?_) (λhc=>?_)))
     ·have H:=H.1 hc
      refine zY (tn (zX (zE (g.m rfl λ_ g=>g.p (zv g rfl rfl) λ_ g=>g.s rfl λ_ g=>?_))))
      rw [hK_l5] at H
      exact zL (bn (tn ⟨(zC .i64 (x12_1 - 1)),g.k,H⟩))
     ·have H:=H.2 hc
      refine z7 (te (te (be (tn (zI (zI (zE (g.m rfl λ_ g=>g.m rfl λ_ g=>g.p (zBx g rfl rfl) λ_ g=>zL (tn (zd g rfl (λhc=>?_) (λhc=>?_)))))))))))
      ·have H:=H.1 hc
       exact z7 (te (bo (te (be (tn (zI (zE (g.m rfl λ_ g=>g.s rfl λ_ g=>zL (tn (zl (zw g rfl rfl ⟨_,rfl,H⟩)))))))))))
      ·have H:=H.2 hc
       refine zY (tn (z8 (ds:=[]) (N:=90) (σ:=Unit) (λs=>[(0,(Sl.v x0)),(1,(.int .i64 x1)),(4,x4),(11,(.int .i64 x11_1)),(12,(.int .i64 x12_1))]) (λs w=>y9 Kl2 x11_1 x12_1 w) ?_ (λhj7=>?_)))
       ·rintro ⟨⟩ w a H g
        try dsimp only at H g
        unfold y9 at H
        refine zI (zE (g.m rfl λ_ g=>g.p (zr g rfl rfl) λ_ g=>g.s rfl λ_ g=>zL (tn (zE (g.m rfl λ_ g=>g.p (zv g rfl rfl) λ_ g=>g.s rfl λ_ g=>?_)))))
        rw [hK_l2] at H
        exact zL (bn (tn ⟨((zC .i64 (x11_1+1)),(zC .i64 (x12_1 - 1))),g.k,H⟩))
       ·refine zCC 16 λw hB=>?_
        replace H:=H w hB
        refine g.x 0 rfl (zR g rfl) λ_ g=>g.x 1 rfl (zR g rfl) λ_ g=>g.x 2 rfl (zR g rfl) λ_ g=>g.x 3 rfl (zR g rfl) λ_ g=>g.x 4 rfl (zR g rfl) λ_ g=>g.x 5 rfl (zR g rfl) λ_ g=>g.y 6 rfl (zH g rfl rfl) H λx77 a H g=>g.x 8 rfl (zR g rfl) λ_ g=>g.x 9 rfl (zR g rfl) λ_ g=>g.y 10 rfl (zH g rfl rfl) H λx81 a H g=>WA.tw 7 11 rfl rfl ?_ ?_
        ·have H:=H.1
         intro K hK
         exact g.i (zO g rfl) H λx78 w a H g=>hK _ _ (g.j 11 rfl (zO g rfl) H λx82 w a H g=>g.y 12 rfl (zH g rfl rfl) H λx83 a H g=>g.l 13 rfl (zT g rfl rfl) H λw a H g=>g.y 14 rfl (zH g rfl rfl) H λx84 a H g=>g.l 15 rfl (zT g rfl rfl) H λw a H g=>WA.ni ((tn (hj7 () _ _ H (g.k)))))
        ·have H:=H.2
         intro K hK
         exact g.i (zO g rfl) H λx82_1 w a H g=>hK _ _ (g.j 7 rfl (zO g rfl) H λx78_1 w a H g=>g.y 12 rfl (zH g rfl rfl) H λx83_1 a H g=>g.l 13 rfl (zT g rfl rfl) H λw a H g=>g.y 14 rfl (zH g rfl rfl) H λx84_1 a H g=>g.l 15 rfl (zT g rfl rfl) H λw a H g=>WA.ni ((tn (hj7 () _ _ H (g.k)))))
    ·rcases Classical.em ((x11_1<=x12_1)) with hbr6|hbr6
     ·have H:=H.1 hbr6
      have g:=g.b (b:=true) (t:=53) rfl (decide_eq_true hbr6)
      refine g.e (g.t rfl λ_ g=>g.e (g.t rfl λ_ g=>g.e (g.t rfl λ_ g=>g.e (g.A (zH g rfl rfl) H λx57 a H g=>g.e (g.A (zO g rfl) H λx58 a H g=>g.e (g.t rfl λ_ g=>g.e (g.t rfl λ_ g=>g.e (g.A (zH g rfl rfl) H λx61 a H g=>g.e (g.A (zO g rfl) H λx62 a H g=>g.e ?_)))))))))
      obtain ⟨r,hc,H⟩:=H
      exact g.qcallV rfl rfl hc λ_ g=>g.e (g.r (yR g rfl rfl) λ_ g=>g.r (zx g rfl rfl) λ_ g=>hr6 (decide (r<0)) _ H (g.k))
     ·have H:=H.2 hbr6
      have g:=g.b (b:=false) (t:=53) rfl (decide_eq_false hbr6)
      exact g.g (λ_ g=>g.g (λ_ g=>g.g (λ_ g=>g.g (λ_ g=>g.g (λ_ g=>g.g (λ_ g=>g.g (λ_ g=>g.g (λ_ g=>g.g (λ_ g=>g.g (λ_ g=>g.g (λ_ g=>g.r (zy g rfl rfl) λ_ g=>hr6 false _ H (g.k))))))))))))
  ·rcases Classical.em ((x11_1<=x12)) with hbr4|hbr4
   ·have H:=H.1 hbr4
    have g:=g.b (b:=true) (t:=34) rfl (decide_eq_true hbr4)
    refine g.e (g.t rfl λ_ g=>g.e (g.t rfl λ_ g=>g.e (g.t rfl λ_ g=>g.e (g.A (zH g rfl rfl) H λx38 a H g=>g.e (g.A (zO g rfl) H λx39 a H g=>g.e (g.t rfl λ_ g=>g.e (g.t rfl λ_ g=>g.e (g.A (zH g rfl rfl) H λx42 a H g=>g.e (g.A (zO g rfl) H λx43 a H g=>g.e ?_)))))))))
    obtain ⟨r_1,hc,H⟩:=H
    exact g.qcallV rfl rfl hc λ_ g=>g.e (g.r (yR g rfl rfl) λ_ g=>g.e (g.r (zAJ g rfl) λ_ g=>g.r (zx g rfl rfl) λ_ g=>hr4 (!(decide (r_1<0))) _ H (g.k)))
   ·have H:=H.2 hbr4
    have g:=g.b (b:=false) (t:=34) rfl (decide_eq_false hbr4)
    exact g.g (λ_ g=>g.g (λ_ g=>g.g (λ_ g=>g.g (λ_ g=>g.g (λ_ g=>g.g (λ_ g=>g.g (λ_ g=>g.g (λ_ g=>g.g (λ_ g=>g.g (λ_ g=>g.g (λ_ g=>g.g (λ_ g=>g.r (zy g rfl rfl) λ_ g=>hr4 false _ H (g.k)))))))))))))
 ·refine zCC 16 λw hB=>?_
  replace H:=H w hB
  refine g.x 0 rfl (zR g rfl) λ_ g=>g.x 1 rfl (zR g rfl) λ_ g=>g.x 2 rfl (zR g rfl) λ_ g=>g.x 3 rfl (zR g rfl) λ_ g=>g.x 4 rfl (zR g rfl) λ_ g=>g.x 5 rfl (zR g rfl) λ_ g=>g.y 6 rfl (zH g rfl rfl) H λx19 a H g=>g.x 8 rfl (zR g rfl) λ_ g=>g.x 9 rfl (zR g rfl) λ_ g=>g.y 10 rfl (zH g rfl rfl) H λx23 a H g=>WA.tw 7 11 rfl rfl ?_ ?_
  ·have H:=H.1
   intro K hK
   exact g.i (zO g rfl) H λx20 w a H g=>hK _ _ (g.j 11 rfl (zO g rfl) H λx24 w a H g=>g.y 12 rfl (zH g rfl rfl) H λx25 a H g=>g.l 13 rfl (zT g rfl rfl) H λw a H g=>g.y 14 rfl (zH g rfl rfl) H λx26 a H g=>g.l 15 rfl (zT g rfl rfl) H λw a H g=>WA.ni ((tn (hj1 () _ _ H (g.k)))))
  ·have H:=H.2
   intro K hK
   exact g.i (zO g rfl) H λx24_1 w a H g=>hK _ _ (g.j 7 rfl (zO g rfl) H λx20_1 w a H g=>g.y 12 rfl (zH g rfl rfl) H λx25_1 a H g=>g.l 13 rfl (zT g rfl rfl) H λw a H g=>g.y 14 rfl (zH g rfl rfl) H λx26_1 a H g=>g.l 15 rfl (zT g rfl rfl) H λw a H g=>WA.ni ((tn (hj1 () _ _ H (g.k)))))
def QW (Ret:Int->Bool->World->Prop) (x13:Int) (w:World):Prop:=
 Ret x13 true w
def QO (Ret:Int->Bool->World->Prop) (x13_2:Int) (w:World):Prop:=
 Ret x13_2 false w
def QH (Kl8:Int->Int->World->Prop) (x12_2:Int) (x13_2:Int) (w:World):Prop:=
 Kl8 (zC .i64 (x12_2+1)) (zC .i64 (x13_2 - 1)) w
def QK (x0:Sl) (x1:Int) (Ret:Int->Bool->World->Prop) (Kl8:Int->Int->World->Prop) (x12_2:Int) (x13_2:Int) (Kl11:Int->World->Prop) (x139:Bool) (w:World):Prop:=
 yM w (λw=>(x139=true->(Kl11 (zC .i64 (x13_2 - 1)) w))/\(x139=false->(((x13_2<x12_2)->(yM w (λw=>opP zA zB (zF 67 (Sl.v x0) (.int .i64 x1)) (λx169=>opP zA zB (zF 67 (Sl.v x0) (.int .i64 x13_2)) (λx173=>(opE zA zG.v (zD 72 (.pointer x169)) w (λx170 w=>opE zA zG.v (zD 72 (.pointer x173)) w (λx174 w=>opP zA zB (zF 67 (Sl.v x0) (.int .i64 x13_2)) (λx175=>opU zA (zK 72 (.pointer x175) (zG.v x170)) w (λw=>opP zA zB (zF 67 (Sl.v x0) (.int .i64 x1)) (λx176=>opU zA (zK 72 (.pointer x176) (zG.v x174)) w (λw=>QO Ret x13_2 w)))))))/\(opE zA zG.v (zD 72 (.pointer x173)) w (λx174_1 w=>opE zA zG.v (zD 72 (.pointer x169)) w (λx170_1 w=>opP zA zB (zF 67 (Sl.v x0) (.int .i64 x13_2)) (λx175_1=>opU zA (zK 72 (.pointer x175_1) (zG.v x170_1)) w (λw=>opP zA zB (zF 67 (Sl.v x0) (.int .i64 x1)) (λx176_1=>opU zA (zK 72 (.pointer x176_1) (zG.v x174_1)) w (λw=>QO Ret x13_2 w))))))))))))/\(¬ (x13_2<x12_2)->(yM w (λw=>opP zA zB (zF 67 (Sl.v x0) (.int .i64 x13_2)) (λx151=>opP zA zB (zF 67 (Sl.v x0) (.int .i64 x12_2)) (λx155=>(opE zA zG.v (zD 72 (.pointer x151)) w (λx152 w=>opE zA zG.v (zD 72 (.pointer x155)) w (λx156 w=>opP zA zB (zF 67 (Sl.v x0) (.int .i64 x12_2)) (λx157=>opU zA (zK 72 (.pointer x157) (zG.v x152)) w (λw=>opP zA zB (zF 67 (Sl.v x0) (.int .i64 x13_2)) (λx158=>opU zA (zK 72 (.pointer x158) (zG.v x156)) w (λw=>QH Kl8 x12_2 x13_2 w)))))))/\(opE zA zG.v (zD 72 (.pointer x155)) w (λx156_1 w=>opE zA zG.v (zD 72 (.pointer x151)) w (λx152_1 w=>opP zA zB (zF 67 (Sl.v x0) (.int .i64 x12_2)) (λx157_1=>opU zA (zK 72 (.pointer x157_1) (zG.v x152_1)) w (λw=>opP zA zB (zF 67 (Sl.v x0) (.int .i64 x13_2)) (λx158_1=>opU zA (zK 72 (.pointer x158_1) (zG.v x156_1)) w (λw=>QH Kl8 x12_2 x13_2 w)))))))))))))))
def Ya (x0:Sl) (x1:Int) (x4:Value) (Ret:Int->Bool->World->Prop) (Kl8:Int->Int->World->Prop) (x12_2:Int) (x13_2:Int) (w:World) (Kl11:Int->World->Prop):Prop:=
 ((x12_2<=x13_2)->(opB zA zB (zF 67 (Sl.v x0) (.int .i64 x13_2)) w (λx130=>opB zA zG.v (zD 72 (.pointer x130)) w (λx131=>opB zA zB (zF 67 (Sl.v x0) (.int .i64 x1)) w (λx134=>opB zA zG.v (zD 72 (.pointer x134)) w (λx135=>∃ (r:Int),Zs zA x4 [(zG.v x131),(zG.v x135)] w (.int .i64 r)/\(QK x0 x1 Ret Kl8 x12_2 x13_2 Kl11 (!(decide (r<0))) w)))))))/\(¬ (x12_2<=x13_2)->(QK x0 x1 Ret Kl8 x12_2 x13_2 Kl11 false w))
def QM (x0:Sl) (x1:Int) (x4:Value) (Ret:Int->Bool->World->Prop) (x13_1:Int) (Kl8:Int->Int->World->Prop) (x12_2:Int) (Kl9:Int->World->Prop) (x120:Bool) (w:World):Prop:=
 yM w (λw=>(x120=true->(Kl9 (zC .i64 (x12_2+1)) w))/\(x120=false->(∃ (I:Int->World->Prop) (μ:Int->World->Nat),I x13_1 w/\∀ (x13_2:Int) w,I x13_2 w->Ya x0 x1 x4 Ret Kl8 x12_2 x13_2 w (λx13_2' w'=>I x13_2' w'/\μ x13_2' w'<μ x13_2 w))))
def Yk (x0:Sl) (x1:Int) (x4:Value) (Ret:Int->Bool->World->Prop) (x13_1:Int) (Kl8:Int->Int->World->Prop) (x12_2:Int) (w:World) (Kl9:Int->World->Prop):Prop:=
 ((x12_2<=x13_1)->(opB zA zB (zF 67 (Sl.v x0) (.int .i64 x12_2)) w (λx112=>opB zA zG.v (zD 72 (.pointer x112)) w (λx113=>opB zA zB (zF 67 (Sl.v x0) (.int .i64 x1)) w (λx116=>opB zA zG.v (zD 72 (.pointer x116)) w (λx117=>∃ (r_1:Int),Zs zA x4 [(zG.v x113),(zG.v x117)] w (.int .i64 r_1)/\(QM x0 x1 x4 Ret x13_1 Kl8 x12_2 Kl9 (decide (r_1<0)) w)))))))/\(¬ (x12_2<=x13_1)->(QM x0 x1 x4 Ret x13_1 Kl8 x12_2 Kl9 false w))
def QN (x0:Sl) (x1:Int) (x4:Value) (Ret:Int->Bool->World->Prop) (x12_1:Int) (x13_1:Int) (w:World) (Kl8:Int->Int->World->Prop):Prop:=
 ∃ (I:Int->World->Prop) (μ:Int->World->Nat),I x12_1 w/\∀ (x12_2:Int) w,I x12_2 w->Yk x0 x1 x4 Ret x13_1 Kl8 x12_2 w (λx12_2' w'=>I x12_2' w'/\μ x12_2' w'<μ x12_2 w)
def QZ (x0:Sl) (x1:Int) (x4:Value) (Ret:Int->Bool->World->Prop) (x12:Int) (x13:Int) (w:World):Prop:=
 ∃ (I:Int->Int->World->Prop) (μ:Int->Int->World->Nat),I (zC .i64 (x12+1)) (zC .i64 (x13 - 1)) w/\∀ (x12_1:Int) (x13_1:Int) w,I x12_1 x13_1 w->QN x0 x1 x4 Ret x12_1 x13_1 w (λx12_1' x13_1' w'=>I x12_1' x13_1' w'/\μ x12_1' x13_1' w'<μ x12_1 x13_1 w)
def Qa (x0:Sl) (x1:Int) (x4:Value) (Ret:Int->Bool->World->Prop) (x12:Int) (x13:Int) (Kl4:Int->World->Prop) (x66:Bool) (w:World):Prop:=
 yM w (λw=>(x66=true->(Kl4 (zC .i64 (x13 - 1)) w))/\(x66=false->(((x13<x12)->(yM w (λw=>opP zA zB (zF 67 (Sl.v x0) (.int .i64 x1)) (λx78=>opP zA zB (zF 67 (Sl.v x0) (.int .i64 x13)) (λx82=>(opE zA zG.v (zD 72 (.pointer x78)) w (λx79 w=>opE zA zG.v (zD 72 (.pointer x82)) w (λx83 w=>opP zA zB (zF 67 (Sl.v x0) (.int .i64 x13)) (λx84=>opU zA (zK 72 (.pointer x84) (zG.v x79)) w (λw=>opP zA zB (zF 67 (Sl.v x0) (.int .i64 x1)) (λx85=>opU zA (zK 72 (.pointer x85) (zG.v x83)) w (λw=>QW Ret x13 w)))))))/\(opE zA zG.v (zD 72 (.pointer x82)) w (λx83_1 w=>opE zA zG.v (zD 72 (.pointer x78)) w (λx79_1 w=>opP zA zB (zF 67 (Sl.v x0) (.int .i64 x13)) (λx84_1=>opU zA (zK 72 (.pointer x84_1) (zG.v x79_1)) w (λw=>opP zA zB (zF 67 (Sl.v x0) (.int .i64 x1)) (λx85_1=>opU zA (zK 72 (.pointer x85_1) (zG.v x83_1)) w (λw=>QW Ret x13 w))))))))))))/\(¬ (x13<x12)->(yM w (λw=>opP zA zB (zF 67 (Sl.v x0) (.int .i64 x13)) (λx93=>opP zA zB (zF 67 (Sl.v x0) (.int .i64 x12)) (λx97=>(opE zA zG.v (zD 72 (.pointer x93)) w (λx94 w=>opE zA zG.v (zD 72 (.pointer x97)) w (λx98 w=>opP zA zB (zF 67 (Sl.v x0) (.int .i64 x12)) (λx99=>opU zA (zK 72 (.pointer x99) (zG.v x94)) w (λw=>opP zA zB (zF 67 (Sl.v x0) (.int .i64 x13)) (λx100=>opU zA (zK 72 (.pointer x100) (zG.v x98)) w (λw=>QZ x0 x1 x4 Ret x12 x13 w)))))))/\(opE zA zG.v (zD 72 (.pointer x97)) w (λx98_1 w=>opE zA zG.v (zD 72 (.pointer x93)) w (λx94_1 w=>opP zA zB (zF 67 (Sl.v x0) (.int .i64 x12)) (λx99_1=>opU zA (zK 72 (.pointer x99_1) (zG.v x94_1)) w (λw=>opP zA zB (zF 67 (Sl.v x0) (.int .i64 x13)) (λx100_1=>opU zA (zK 72 (.pointer x100_1) (zG.v x98_1)) w (λw=>QZ x0 x1 x4 Ret x12 x13 w)))))))))))))))
def Yo (x0:Sl) (x1:Int) (x4:Value) (Ret:Int->Bool->World->Prop) (x12:Int) (x13:Int) (w:World) (Kl4:Int->World->Prop):Prop:=
 ((x12<=x13)->(opB zA zB (zF 67 (Sl.v x0) (.int .i64 x13)) w (λx57=>opB zA zG.v (zD 72 (.pointer x57)) w (λx58=>opB zA zB (zF 67 (Sl.v x0) (.int .i64 x1)) w (λx61=>opB zA zG.v (zD 72 (.pointer x61)) w (λx62=>∃ (r_2:Int),Zs zA x4 [(zG.v x58),(zG.v x62)] w (.int .i64 r_2)/\(Qa x0 x1 x4 Ret x12 x13 Kl4 (!(decide (r_2<0))) w)))))))/\(¬ (x12<=x13)->(Qa x0 x1 x4 Ret x12 x13 Kl4 false w))
def yt (x0:Sl) (x1:Int) (x2:Int) (x4:Value) (Ret:Int->Bool->World->Prop) (x12:Int) (Kl2:Int->World->Prop) (x47:Bool) (w:World):Prop:=
 yM w (λw=>(x47=true->(Kl2 (zC .i64 (x12+1)) w))/\(x47=false->(∃ (I:Int->World->Prop) (μ:Int->World->Nat),I (zC .i64 (x2 - 1)) w/\∀ (x13:Int) w,I x13 w->Yo x0 x1 x4 Ret x12 x13 w (λx13' w'=>I x13' w'/\μ x13' w'<μ x13 w))))
def Ym (x0:Sl) (x1:Int) (x2:Int) (x4:Value) (Ret:Int->Bool->World->Prop) (x12:Int) (w:World) (Kl2:Int->World->Prop):Prop:=
 ((x12<=(zC .i64 (x2 - 1)))->(opB zA zB (zF 67 (Sl.v x0) (.int .i64 x12)) w (λx39=>opB zA zG.v (zD 72 (.pointer x39)) w (λx40=>opB zA zB (zF 67 (Sl.v x0) (.int .i64 x1)) w (λx43=>opB zA zG.v (zD 72 (.pointer x43)) w (λx44=>∃ (r_3:Int),Zs zA x4 [(zG.v x40),(zG.v x44)] w (.int .i64 r_3)/\(yt x0 x1 x2 x4 Ret x12 Kl2 (decide (r_3<0)) w)))))))/\(¬ (x12<=(zC .i64 (x2 - 1)))->(yt x0 x1 x2 x4 Ret x12 Kl2 false w))
def QX (x0:Sl) (x1:Int) (x2:Int) (x4:Value) (Ret:Int->Bool->World->Prop) (w:World):Prop:=
 ∃ (I:Int->World->Prop) (μ:Int->World->Nat),I (zC .i64 (x1+1)) w/\∀ (x12:Int) w,I x12 w->Ym x0 x1 x2 x4 Ret x12 w (λx12' w'=>I x12' w'/\μ x12' w'<μ x12 w)
def zAR (x0:Sl) (x1:Int) (x2:Int) (x3:Int) (x4:Value) (w:World) (Ret:Int->Bool->World->Prop):Prop:=
 yM w (λw=>opP zA zB (zF 67 (Sl.v x0) (.int .i64 x3)) (λx20=>opP zA zB (zF 67 (Sl.v x0) (.int .i64 x1)) (λx24=>(opE zA zG.v (zD 72 (.pointer x20)) w (λx21 w=>opE zA zG.v (zD 72 (.pointer x24)) w (λx25 w=>opP zA zB (zF 67 (Sl.v x0) (.int .i64 x1)) (λx26=>opU zA (zK 72 (.pointer x26) (zG.v x21)) w (λw=>opP zA zB (zF 67 (Sl.v x0) (.int .i64 x3)) (λx27=>opU zA (zK 72 (.pointer x27) (zG.v x25)) w (λw=>QX x0 x1 x2 x4 Ret w)))))))/\(opE zA zG.v (zD 72 (.pointer x24)) w (λx25_1 w=>opE zA zG.v (zD 72 (.pointer x20)) w (λx21_1 w=>opP zA zB (zF 67 (Sl.v x0) (.int .i64 x1)) (λx26_1=>opU zA (zK 72 (.pointer x26_1) (zG.v x21_1)) w (λw=>opP zA zB (zF 67 (Sl.v x0) (.int .i64 x3)) (λx27_1=>opU zA (zK 72 (.pointer x27_1) (zG.v x25_1)) w (λw=>QX x0 x1 x2 x4 Ret w))))))))))
set_option maxRecDepth 100000 in
theorem zEB (x0:Sl) (x1:Int) (x2:Int) (x3:Int) (x4:Value) (w:World) (Ret:Int->Bool->World->Prop) (H:zAR x0 x1 x2 x3 x4 w Ret):Cl zA 112 [(Sl.v x0),(.int .i64 x1),(.int .i64 x2),(.int .i64 x3),x4].toArray w (λe w'=>∃ (r0:Int) (r1:Bool),e=.returned (.tuple [(.int .i64 r0),(.bool r1)].toArray)/\Ret r0 r1 w'):=by
 unfold zAR at H
 refine zp 178 (zipE 0 [(Sl.v x0),(.int .i64 x1),(.int .i64 x2),(.int .i64 x3),x4]) Tryz.func112 rfl rfl (by rfl) rfl ?_
 intro a g
 have g:Sat [] 178 [(0,(Sl.v x0)),(1,(.int .i64 x1)),(2,(.int .i64 x2)),(3,(.int .i64 x3)),(4,x4)] a:=g
 refine zI (zE (g.s rfl λ_ g=>g.s rfl λ_ g=>zL (tn (z8 (ds:=[]) (N:=178) (σ:=Unit) (λs=>[(0,(Sl.v x0)),(1,(.int .i64 x1)),(2,(.int .i64 x2)),(4,x4)]) (λs w=>QX x0 x1 x2 x4 Ret w) ?_ (λhj1=>?_)))))
 ·rintro ⟨⟩ w a H g
  try dsimp only at H g
  unfold QX at H
  refine zI (zE (g.m rfl λ_ g=>g.p (zr g rfl rfl) λ_ g=>g.m rfl λ_ g=>g.p (zv g rfl rfl) λ_ g=>g.s rfl λ_ g=>g.s rfl λ_ g=>zL (tn (zI (zX ?_)))))
  obtain ⟨I_l2,μ_l2,h0,hb⟩:=H
  refine yE (ds:=[]) (N:=178) (σ:=Int) (λs=>[(12,(.int .i64 s)),(0,(Sl.v x0)),(1,(.int .i64 x1)),(4,x4),(13,(.int .i64 (zC .i64 (x2 - 1))))]) (λs w=>I_l2 s w) (λs w=>μ_l2 s w) (zC .i64 (x1+1)) h0 (g.k) ?_
  intro x12 w a hI g
  try dsimp only at hI g
  obtain ⟨Kl2,hK_l2⟩:∃ K:Int->World->Prop,K=(λx12' w'=>I_l2 x12' w'/\μ_l2 x12' w'<μ_l2 x12 w):=⟨_,rfl⟩
  have H:Ym x0 x1 x2 x4 Ret x12 w Kl2:=by rw [hK_l2];exact hb x12 w hI
  clear hb h0 hI
  unfold Ym at H
  refine zI (zI (QU (by kernel_rfl) (by kernel_rfl) (g.t rfl λ_ g=>g.t rfl λ_ g=>g.r (zCw g rfl rfl) λ_ g=>g.t rfl λ_ g=>WQ.join (ds:=[]) (N:=178) (σ:=Bool) (λs=>[(47,(.bool s)),(0,(Sl.v x0)),(1,(.int .i64 x1)),(4,x4),(12,(.int .i64 x12)),(13,(.int .i64 (zC .i64 (x2 - 1))))]) (λs=>yt x0 x1 x2 x4 Ret x12 Kl2 s w) 12 ?_ (λhr3=>?_))))
  ·intro x47 a H g
   try dsimp only at H g
   unfold yt at H
   refine Qb (λw hB=>?_)
   replace H:=H w hB
   refine (tn (zk g rfl (λhc=>?_) (λhc=>?_)))
   ·have H:=H.1 hc
    refine zY (tn (zX (zE (g.m rfl λ_ g=>g.p (zr g rfl rfl) λ_ g=>g.s rfl λ_ g=>?_))))
    rw [hK_l2] at H
    exact zL (bn (tn ⟨(zC .i64 (x12+1)),g.k,H⟩))
   ·have H:=H.2 hc
    refine z7 (te (te (be (tn (zI (zX ?_))))))
    obtain ⟨I_l4,μ_l4,h0,hb⟩:=H
    refine yE (ds:=[]) (N:=178) (σ:=Int) (λs=>[(13,(.int .i64 s)),(0,(Sl.v x0)),(1,(.int .i64 x1)),(4,x4),(12,(.int .i64 x12))]) (λs w=>I_l4 s w) (λs w=>μ_l4 s w) (zC .i64 (x2 - 1)) h0 (g.k) ?_
    intro x13 w a hI g
    try dsimp only at hI g
    obtain ⟨Kl4,hK_l4⟩:∃ K:Int->World->Prop,K=(λx13' w'=>I_l4 x13' w'/\μ_l4 x13' w'<μ_l4 x13 w):=⟨_,rfl⟩
    have H:Yo x0 x1 x4 Ret x12 x13 w Kl4:=by rw [hK_l4];exact hb x13 w hI
    clear hb h0 hI
    unfold Yo at H
    refine zI (zI (QU (by kernel_rfl) (by kernel_rfl) (g.t rfl λ_ g=>g.t rfl λ_ g=>g.r (zCw g rfl rfl) λ_ g=>g.t rfl λ_ g=>WQ.join (ds:=[]) (N:=178) (σ:=Bool) (λs=>[(66,(.bool s)),(0,(Sl.v x0)),(1,(.int .i64 x1)),(4,x4),(12,(.int .i64 x12)),(13,(.int .i64 x13))]) (λs=>Qa x0 x1 x4 Ret x12 x13 Kl4 s w) 13 ?_ (λhr5=>?_))))
    ·intro x66 a H g
     try dsimp only at H g
     unfold Qa at H
     refine Qb (λw hB=>?_)
     replace H:=H w hB
     refine (tn (zk g rfl (λhc=>?_) (λhc=>?_)))
     ·have H:=H.1 hc
      refine zY (tn (zX (zE (g.m rfl λ_ g=>g.p (zv g rfl rfl) λ_ g=>g.s rfl λ_ g=>?_))))
      rw [hK_l4] at H
      exact zL (bn (tn ⟨(zC .i64 (x13 - 1)),g.k,H⟩))
     ·have H:=H.2 hc
      refine z7 (te (te (be (tn (zI (zI (zE (g.m rfl λ_ g=>g.m rfl λ_ g=>g.p (zBx g rfl rfl) λ_ g=>zL (tn (zd g rfl (λhc=>?_) (λhc=>?_)))))))))))
      ·have H:=H.1 hc
       refine z8 (ds:=[]) (N:=178) (σ:=Unit) (λs=>[(13,(.int .i64 x13))]) (λs w=>QW Ret x13 w) ?_ (λhj6=>?_)
       ·rintro ⟨⟩ w a H g
        try dsimp only at H g
        unfold QW at H
        exact zI (zE (g.m rfl λ_ g=>g.s rfl λ_ g=>g.s rfl λ_ g=>zL (tn (zl (tr (ZK g rfl rfl rfl ⟨_,_,rfl,H⟩))))))
       ·refine zCC 16 λw hB=>?_
        replace H:=H w hB
        refine g.x 0 rfl (zR g rfl) λ_ g=>g.x 1 rfl (zR g rfl) λ_ g=>g.x 2 rfl (zR g rfl) λ_ g=>g.x 3 rfl (zR g rfl) λ_ g=>g.x 4 rfl (zR g rfl) λ_ g=>g.x 5 rfl (zR g rfl) λ_ g=>g.y 6 rfl (zH g rfl rfl) H λx78 a H g=>g.x 8 rfl (zR g rfl) λ_ g=>g.x 9 rfl (zR g rfl) λ_ g=>g.y 10 rfl (zH g rfl rfl) H λx82 a H g=>WA.tw 7 11 rfl rfl ?_ ?_
        ·have H:=H.1
         intro K hK
         exact g.i (zO g rfl) H λx79 w a H g=>hK _ _ (g.j 11 rfl (zO g rfl) H λx83 w a H g=>g.y 12 rfl (zH g rfl rfl) H λx84 a H g=>g.l 13 rfl (zT g rfl rfl) H λw a H g=>g.y 14 rfl (zH g rfl rfl) H λx85 a H g=>g.l 15 rfl (zT g rfl rfl) H λw a H g=>WA.ni ((tn (hj6 () _ _ H (g.k)))))
        ·have H:=H.2
         intro K hK
         exact g.i (zO g rfl) H λx83_1 w a H g=>hK _ _ (g.j 7 rfl (zO g rfl) H λx79_1 w a H g=>g.y 12 rfl (zH g rfl rfl) H λx84_1 a H g=>g.l 13 rfl (zT g rfl rfl) H λw a H g=>g.y 14 rfl (zH g rfl rfl) H λx85_1 a H g=>g.l 15 rfl (zT g rfl rfl) H λw a H g=>WA.ni ((tn (hj6 () _ _ H (g.k)))))
      ·have H:=H.2 hc
       refine zY (tn (z8 (ds:=[]) (N:=178) (σ:=Unit) (λs=>[(0,(Sl.v x0)),(1,(.int .i64 x1)),(4,x4),(12,(.int .i64 x12)),(13,(.int .i64 x13))]) (λs w=>QZ x0 x1 x4 Ret x12 x13 w) ?_ (λhj7=>?_)))
       ·rintro ⟨⟩ w a H g
        try dsimp only at H g
        unfold QZ at H
        refine zI (zE (g.m rfl λ_ g=>g.p (zr g rfl rfl) λ_ g=>g.s rfl λ_ g=>zL (tn (zI (zE (g.m rfl λ_ g=>g.p (zv g rfl rfl) λ_ g=>g.s rfl λ_ g=>zL (tn (zI (zX ?_)))))))))
        obtain ⟨I_l8,μ_l8,h0,hb⟩:=H
        refine yE (ds:=[]) (N:=178) (σ:=Int × Int) (λs=>[(12,(.int .i64 s.1)),(13,(.int .i64 s.2)),(0,(Sl.v x0)),(1,(.int .i64 x1)),(4,x4)]) (λs w=>I_l8 s.1 s.2 w) (λs w=>μ_l8 s.1 s.2 w) ((zC .i64 (x12+1)),(zC .i64 (x13 - 1))) h0 (g.k) ?_
        rintro ⟨x12_1,x13_1⟩ w a hI g
        try dsimp only at hI g
        obtain ⟨Kl8,hK_l8⟩:∃ K:Int->Int->World->Prop,K=(λx12_1' x13_1' w'=>I_l8 x12_1' x13_1' w'/\μ_l8 x12_1' x13_1' w'<μ_l8 x12_1 x13_1 w):=⟨_,rfl⟩
        have H:QN x0 x1 x4 Ret x12_1 x13_1 w Kl8:=by rw [hK_l8];exact hb x12_1 x13_1 w hI
        clear hb h0 hI
        unfold QN at H
        refine zX (zI (zX ?_))
        obtain ⟨I_l9,μ_l9,h0,hb⟩:=H
        refine yE (ds:=[]) (N:=178) (σ:=Int) (λs=>[(12,(.int .i64 s)),(0,(Sl.v x0)),(1,(.int .i64 x1)),(4,x4),(13,(.int .i64 x13_1))]) (λs w=>I_l9 s w) (λs w=>μ_l9 s w) x12_1 h0 (g.k) ?_
        intro x12_2 w a hI g
        try dsimp only at hI g
        obtain ⟨Kl9,hK_l9⟩:∃ K:Int->World->Prop,K=(λx12_2' w'=>I_l9 x12_2' w'/\μ_l9 x12_2' w'<μ_l9 x12_2 w):=⟨_,rfl⟩
        have H:Yk x0 x1 x4 Ret x13_1 Kl8 x12_2 w Kl9:=by rw [hK_l9];exact hb x12_2 w hI
        clear hb h0 hI
        unfold Yk at H
        refine zI (zI (QU (by kernel_rfl) (by kernel_rfl) (g.t rfl λ_ g=>g.t rfl λ_ g=>g.r (zCw g rfl rfl) λ_ g=>g.t rfl λ_ g=>WQ.join (ds:=[]) (N:=178) (σ:=Bool) (λs=>[(120,(.bool s)),(0,(Sl.v x0)),(1,(.int .i64 x1)),(4,x4),(12,(.int .i64 x12_2)),(13,(.int .i64 x13_1))]) (λs=>QM x0 x1 x4 Ret x13_1 Kl8 x12_2 Kl9 s w) 12 ?_ (λhr10=>?_))))
        ·intro x120 a H g
         try dsimp only at H g
         unfold QM at H
         refine Qb (λw hB=>?_)
         replace H:=H w hB
         refine (tn (zk g rfl (λhc=>?_) (λhc=>?_)))
         ·have H:=H.1 hc
          refine zY (tn (zX (zE (g.m rfl λ_ g=>g.p (zr g rfl rfl) λ_ g=>g.s rfl λ_ g=>?_))))
          rw [hK_l9] at H
          exact zL (bn (tn ⟨(zC .i64 (x12_2+1)),g.k,H⟩))
         ·have H:=H.2 hc
          refine z7 (te (te (be (tn (zI (zX ?_))))))
          obtain ⟨I_l11,μ_l11,h0,hb⟩:=H
          refine yE (ds:=[]) (N:=178) (σ:=Int) (λs=>[(13,(.int .i64 s)),(0,(Sl.v x0)),(1,(.int .i64 x1)),(4,x4),(12,(.int .i64 x12_2))]) (λs w=>I_l11 s w) (λs w=>μ_l11 s w) x13_1 h0 (g.k) ?_
          intro x13_2 w a hI g
          try dsimp only at hI g
          obtain ⟨Kl11,hK_l11⟩:∃ K:Int->World->Prop,K=(λx13_2' w'=>I_l11 x13_2' w'/\μ_l11 x13_2' w'<μ_l11 x13_2 w):=⟨_,rfl⟩
          have H:Ya x0 x1 x4 Ret Kl8 x12_2 x13_2 w Kl11:=by rw [hK_l11];exact hb x13_2 w hI
          clear hb h0 hI
          unfold Ya at H
          refine zI (zI (QU (by kernel_rfl) (by kernel_rfl) (g.t rfl λ_ g=>g.t rfl λ_ g=>g.r (zCw g rfl rfl) λ_ g=>g.t rfl λ_ g=>WQ.join (ds:=[]) (N:=178) (σ:=Bool) (λs=>[(139,(.bool s)),(0,(Sl.v x0)),(1,(.int .i64 x1)),(4,x4),(12,(.int .i64 x12_2)),(13,(.int .i64 x13_2))]) (λs=>QK x0 x1 Ret Kl8 x12_2 x13_2 Kl11 s w) 13 ?_ (λhr12=>?_))))
          ·intro x139 a H g
           try dsimp only at H g
           unfold QK at H
           refine Qb (λw hB=>?_)
           replace H:=H w hB
           refine (tn (zk g rfl (λhc=>?_) (λhc=>?_)))
           ·have H:=H.1 hc
            refine zY (tn (zX (zE (g.m rfl λ_ g=>g.p (zv g rfl rfl) λ_ g=>g.s rfl λ_ g=>?_))))
            rw [hK_l11] at H
            exact zL (bn (tn ⟨(zC .i64 (x13_2 - 1)),g.k,H⟩))
           ·have H:=H.2 hc
            refine z7 (te (te (be (tn (zI (zI (zE (g.m rfl λ_ g=>g.m rfl λ_ g=>g.p (zBx g rfl rfl) λ_ g=>zL (tn (zd g rfl (λhc=>?_) (λhc=>?_)))))))))))
            ·have H:=H.1 hc
             refine z7 (te (bo (te (be (tn (z8 (ds:=[]) (N:=178) (σ:=Unit) (λs=>[(13,(.int .i64 x13_2))]) (λs w=>QO Ret x13_2 w) ?_ (λhj13=>?_)))))))
             ·rintro ⟨⟩ w a H g
              try dsimp only at H g
              unfold QO at H
              exact zI (zE (g.m rfl λ_ g=>g.s rfl λ_ g=>g.s rfl λ_ g=>zL (tn (zl (ZK g rfl rfl rfl ⟨_,_,rfl,H⟩)))))
             ·refine zCC 16 λw hB=>?_
              replace H:=H w hB
              refine g.x 0 rfl (zR g rfl) λ_ g=>g.x 1 rfl (zR g rfl) λ_ g=>g.x 2 rfl (zR g rfl) λ_ g=>g.x 3 rfl (zR g rfl) λ_ g=>g.x 4 rfl (zR g rfl) λ_ g=>g.x 5 rfl (zR g rfl) λ_ g=>g.y 6 rfl (zH g rfl rfl) H λx169 a H g=>g.x 8 rfl (zR g rfl) λ_ g=>g.x 9 rfl (zR g rfl) λ_ g=>g.y 10 rfl (zH g rfl rfl) H λx173 a H g=>WA.tw 7 11 rfl rfl ?_ ?_
              ·have H:=H.1
               intro K hK
               exact g.i (zO g rfl) H λx170 w a H g=>hK _ _ (g.j 11 rfl (zO g rfl) H λx174 w a H g=>g.y 12 rfl (zH g rfl rfl) H λx175 a H g=>g.l 13 rfl (zT g rfl rfl) H λw a H g=>g.y 14 rfl (zH g rfl rfl) H λx176 a H g=>g.l 15 rfl (zT g rfl rfl) H λw a H g=>WA.ni ((tn (hj13 () _ _ H (g.k)))))
              ·have H:=H.2
               intro K hK
               exact g.i (zO g rfl) H λx174_1 w a H g=>hK _ _ (g.j 7 rfl (zO g rfl) H λx170_1 w a H g=>g.y 12 rfl (zH g rfl rfl) H λx175_1 a H g=>g.l 13 rfl (zT g rfl rfl) H λw a H g=>g.y 14 rfl (zH g rfl rfl) H λx176_1 a H g=>g.l 15 rfl (zT g rfl rfl) H λw a H g=>WA.ni ((tn (hj13 () _ _ H (g.k)))))
            ·have H:=H.2 hc
             refine zY (tn (z8 (ds:=[]) (N:=178) (σ:=Unit) (λs=>[(0,(Sl.v x0)),(1,(.int .i64 x1)),(4,x4),(12,(.int .i64 x12_2)),(13,(.int .i64 x13_2))]) (λs w=>QH Kl8 x12_2 x13_2 w) ?_ (λhj14=>?_)))
             ·rintro ⟨⟩ w a H g
              try dsimp only at H g
              unfold QH at H
              refine zI (zE (g.m rfl λ_ g=>g.p (zr g rfl rfl) λ_ g=>g.s rfl λ_ g=>zL (tn (zE (g.m rfl λ_ g=>g.p (zv g rfl rfl) λ_ g=>g.s rfl λ_ g=>?_)))))
              rw [hK_l8] at H
              exact zL (bn (tn ⟨((zC .i64 (x12_2+1)),(zC .i64 (x13_2 - 1))),g.k,H⟩))
             ·refine zCC 16 λw hB=>?_
              replace H:=H w hB
              refine g.x 0 rfl (zR g rfl) λ_ g=>g.x 1 rfl (zR g rfl) λ_ g=>g.x 2 rfl (zR g rfl) λ_ g=>g.x 3 rfl (zR g rfl) λ_ g=>g.x 4 rfl (zR g rfl) λ_ g=>g.x 5 rfl (zR g rfl) λ_ g=>g.y 6 rfl (zH g rfl rfl) H λx151 a H g=>g.x 8 rfl (zR g rfl) λ_ g=>g.x 9 rfl (zR g rfl) λ_ g=>g.y 10 rfl (zH g rfl rfl) H λx155 a H g=>WA.tw 7 11 rfl rfl ?_ ?_
              ·have H:=H.1
               intro K hK
               exact g.i (zO g rfl) H λx152 w a H g=>hK _ _ (g.j 11 rfl (zO g rfl) H λx156 w a H g=>g.y 12 rfl (zH g rfl rfl) H λx157 a H g=>g.l 13 rfl (zT g rfl rfl) H λw a H g=>g.y 14 rfl (zH g rfl rfl) H λx158 a H g=>g.l 15 rfl (zT g rfl rfl) H λw a H g=>WA.ni ((tn (hj14 () _ _ H (g.k)))))
              ·have H:=H.2
               intro K hK
               exact g.i (zO g rfl) H λx156_1 w a H g=>hK _ _ (g.j 7 rfl (zO g rfl) H λx152_1 w a H g=>g.y 12 rfl (zH g rfl rfl) H λx157_1 a H g=>g.l 13 rfl (zT g rfl rfl) H λw a H g=>g.y 14 rfl (zH g rfl rfl) H λx158_1 a H g=>g.l 15 rfl (zT g rfl rfl) H λw a H g=>WA.ni ((tn (hj14 () _ _ H (g.k)))))
          ·rcases Classical.em ((x12_2<=x13_2)) with hbr12|hbr12
           ·have H:=H.1 hbr12
            have g:=g.b (b:=true) (t:=126) rfl (decide_eq_true hbr12)
            refine g.e (g.t rfl λ_ g=>g.e (g.t rfl λ_ g=>g.e (g.t rfl λ_ g=>g.e (g.A (zH g rfl rfl) H λx130 a H g=>g.e (g.A (zO g rfl) H λx131 a H g=>g.e (g.t rfl λ_ g=>g.e (g.t rfl λ_ g=>g.e (g.A (zH g rfl rfl) H λx134 a H g=>g.e (g.A (zO g rfl) H λx135 a H g=>g.e ?_)))))))))
            obtain ⟨r,hc,H⟩:=H
            exact g.qcallV rfl rfl hc λ_ g=>g.e (g.r (yR g rfl rfl) λ_ g=>g.e (g.r (zAJ g rfl) λ_ g=>g.r (zx g rfl rfl) λ_ g=>hr12 (!(decide (r<0))) _ H (g.k)))
           ·have H:=H.2 hbr12
            have g:=g.b (b:=false) (t:=126) rfl (decide_eq_false hbr12)
            exact g.g (λ_ g=>g.g (λ_ g=>g.g (λ_ g=>g.g (λ_ g=>g.g (λ_ g=>g.g (λ_ g=>g.g (λ_ g=>g.g (λ_ g=>g.g (λ_ g=>g.g (λ_ g=>g.g (λ_ g=>g.g (λ_ g=>g.r (zy g rfl rfl) λ_ g=>hr12 false _ H (g.k)))))))))))))
        ·rcases Classical.em ((x12_2<=x13_1)) with hbr10|hbr10
         ·have H:=H.1 hbr10
          have g:=g.b (b:=true) (t:=108) rfl (decide_eq_true hbr10)
          refine g.e (g.t rfl λ_ g=>g.e (g.t rfl λ_ g=>g.e (g.t rfl λ_ g=>g.e (g.A (zH g rfl rfl) H λx112 a H g=>g.e (g.A (zO g rfl) H λx113 a H g=>g.e (g.t rfl λ_ g=>g.e (g.t rfl λ_ g=>g.e (g.A (zH g rfl rfl) H λx116 a H g=>g.e (g.A (zO g rfl) H λx117 a H g=>g.e ?_)))))))))
          obtain ⟨r_1,hc,H⟩:=H
          exact g.qcallV rfl rfl hc λ_ g=>g.e (g.r (yR g rfl rfl) λ_ g=>g.r (zx g rfl rfl) λ_ g=>hr10 (decide (r_1<0)) _ H (g.k))
         ·have H:=H.2 hbr10
          have g:=g.b (b:=false) (t:=108) rfl (decide_eq_false hbr10)
          exact g.g (λ_ g=>g.g (λ_ g=>g.g (λ_ g=>g.g (λ_ g=>g.g (λ_ g=>g.g (λ_ g=>g.g (λ_ g=>g.g (λ_ g=>g.g (λ_ g=>g.g (λ_ g=>g.g (λ_ g=>g.r (zy g rfl rfl) λ_ g=>hr10 false _ H (g.k))))))))))))
       ·refine zCC 16 λw hB=>?_
        replace H:=H w hB
        refine g.x 0 rfl (zR g rfl) λ_ g=>g.x 1 rfl (zR g rfl) λ_ g=>g.x 2 rfl (zR g rfl) λ_ g=>g.x 3 rfl (zR g rfl) λ_ g=>g.x 4 rfl (zR g rfl) λ_ g=>g.x 5 rfl (zR g rfl) λ_ g=>g.y 6 rfl (zH g rfl rfl) H λx93 a H g=>g.x 8 rfl (zR g rfl) λ_ g=>g.x 9 rfl (zR g rfl) λ_ g=>g.y 10 rfl (zH g rfl rfl) H λx97 a H g=>WA.tw 7 11 rfl rfl ?_ ?_
        ·have H:=H.1
         intro K hK
         exact g.i (zO g rfl) H λx94 w a H g=>hK _ _ (g.j 11 rfl (zO g rfl) H λx98 w a H g=>g.y 12 rfl (zH g rfl rfl) H λx99 a H g=>g.l 13 rfl (zT g rfl rfl) H λw a H g=>g.y 14 rfl (zH g rfl rfl) H λx100 a H g=>g.l 15 rfl (zT g rfl rfl) H λw a H g=>WA.ni ((tn (hj7 () _ _ H (g.k)))))
        ·have H:=H.2
         intro K hK
         exact g.i (zO g rfl) H λx98_1 w a H g=>hK _ _ (g.j 7 rfl (zO g rfl) H λx94_1 w a H g=>g.y 12 rfl (zH g rfl rfl) H λx99_1 a H g=>g.l 13 rfl (zT g rfl rfl) H λw a H g=>g.y 14 rfl (zH g rfl rfl) H λx100_1 a H g=>g.l 15 rfl (zT g rfl rfl) H λw a H g=>WA.ni ((tn (hj7 () _ _ H (g.k)))))
    ·rcases Classical.em ((x12<=x13)) with hbr5|hbr5
     ·have H:=H.1 hbr5
      have g:=g.b (b:=true) (t:=53) rfl (decide_eq_true hbr5)
      refine g.e (g.t rfl λ_ g=>g.e (g.t rfl λ_ g=>g.e (g.t rfl λ_ g=>g.e (g.A (zH g rfl rfl) H λx57 a H g=>g.e (g.A (zO g rfl) H λx58 a H g=>g.e (g.t rfl λ_ g=>g.e (g.t rfl λ_ g=>g.e (g.A (zH g rfl rfl) H λx61 a H g=>g.e (g.A (zO g rfl) H λx62 a H g=>g.e ?_)))))))))
      obtain ⟨r_2,hc,H⟩:=H
      exact g.qcallV rfl rfl hc λ_ g=>g.e (g.r (yR g rfl rfl) λ_ g=>g.e (g.r (zAJ g rfl) λ_ g=>g.r (zx g rfl rfl) λ_ g=>hr5 (!(decide (r_2<0))) _ H (g.k)))
     ·have H:=H.2 hbr5
      have g:=g.b (b:=false) (t:=53) rfl (decide_eq_false hbr5)
      exact g.g (λ_ g=>g.g (λ_ g=>g.g (λ_ g=>g.g (λ_ g=>g.g (λ_ g=>g.g (λ_ g=>g.g (λ_ g=>g.g (λ_ g=>g.g (λ_ g=>g.g (λ_ g=>g.g (λ_ g=>g.g (λ_ g=>g.r (zy g rfl rfl) λ_ g=>hr5 false _ H (g.k)))))))))))))
  ·rcases Classical.em ((x12<=(zC .i64 (x2 - 1)))) with hbr3|hbr3
   ·have H:=H.1 hbr3
    have g:=g.b (b:=true) (t:=35) rfl (decide_eq_true hbr3)
    refine g.e (g.t rfl λ_ g=>g.e (g.t rfl λ_ g=>g.e (g.t rfl λ_ g=>g.e (g.A (zH g rfl rfl) H λx39 a H g=>g.e (g.A (zO g rfl) H λx40 a H g=>g.e (g.t rfl λ_ g=>g.e (g.t rfl λ_ g=>g.e (g.A (zH g rfl rfl) H λx43 a H g=>g.e (g.A (zO g rfl) H λx44 a H g=>g.e ?_)))))))))
    obtain ⟨r_3,hc,H⟩:=H
    exact g.qcallV rfl rfl hc λ_ g=>g.e (g.r (yR g rfl rfl) λ_ g=>g.r (zx g rfl rfl) λ_ g=>hr3 (decide (r_3<0)) _ H (g.k))
   ·have H:=H.2 hbr3
    have g:=g.b (b:=false) (t:=35) rfl (decide_eq_false hbr3)
    exact g.g (λ_ g=>g.g (λ_ g=>g.g (λ_ g=>g.g (λ_ g=>g.g (λ_ g=>g.g (λ_ g=>g.g (λ_ g=>g.g (λ_ g=>g.g (λ_ g=>g.g (λ_ g=>g.g (λ_ g=>g.r (zy g rfl rfl) λ_ g=>hr3 false _ H (g.k))))))))))))
 ·refine zCC 16 λw hB=>?_
  replace H:=H w hB
  refine g.x 0 rfl (zR g rfl) λ_ g=>g.x 1 rfl (zR g rfl) λ_ g=>g.x 2 rfl (zR g rfl) λ_ g=>g.x 3 rfl (zR g rfl) λ_ g=>g.x 4 rfl (zR g rfl) λ_ g=>g.x 5 rfl (zR g rfl) λ_ g=>g.y 6 rfl (zH g rfl rfl) H λx20 a H g=>g.x 8 rfl (zR g rfl) λ_ g=>g.x 9 rfl (zR g rfl) λ_ g=>g.y 10 rfl (zH g rfl rfl) H λx24 a H g=>WA.tw 7 11 rfl rfl ?_ ?_
  ·have H:=H.1
   intro K hK
   exact g.i (zO g rfl) H λx21 w a H g=>hK _ _ (g.j 11 rfl (zO g rfl) H λx25 w a H g=>g.y 12 rfl (zH g rfl rfl) H λx26 a H g=>g.l 13 rfl (zT g rfl rfl) H λw a H g=>g.y 14 rfl (zH g rfl rfl) H λx27 a H g=>g.l 15 rfl (zT g rfl rfl) H λw a H g=>WA.ni ((tn (hj1 () _ _ H (g.k)))))
  ·have H:=H.2
   intro K hK
   exact g.i (zO g rfl) H λx25_1 w a H g=>hK _ _ (g.j 7 rfl (zO g rfl) H λx21_1 w a H g=>g.y 12 rfl (zH g rfl rfl) H λx26_1 a H g=>g.l 13 rfl (zT g rfl rfl) H λw a H g=>g.y 14 rfl (zH g rfl rfl) H λx27_1 a H g=>g.l 15 rfl (zT g rfl rfl) H λw a H g=>WA.ni ((tn (hj1 () _ _ H (g.k)))))
def Qh (Kl1:Int->World->Prop) (x11:Int) (w:World):Prop:=
 Kl1 x11 w
def y6 (x0:Sl) (x3:Int) (x4:Value) (Ret:World->Prop) (x10:Int) (Kl1:Int->World->Prop) (x11:Int) (w:World):Prop:=
 opB zA zB (zF 67 (Sl.v x0) (.int .i64 (zC .i64 (x3+x10)))) w (λx48=>opB zA zG.v (zD 72 (.pointer x48)) w (λx49=>opB zA zB (zF 67 (Sl.v x0) (.int .i64 (zC .i64 (x3+x11)))) w (λx54=>opB zA zG.v (zD 72 (.pointer x54)) w (λx55=>∃ (r:Int),Zs zA x4 [(zG.v x49),(zG.v x55)] w (.int .i64 r)/\(yM w (λw=>((!(decide (r<0)))=true->(Ret w))/\((!(decide (r<0)))=false->(yM w (λw=>opP zA zB (zF 67 (Sl.v x0) (.int .i64 (zC .i64 (x3+x11)))) (λx71=>opP zA zB (zF 67 (Sl.v x0) (.int .i64 (zC .i64 (x3+x10)))) (λx77=>(opE zA zG.v (zD 72 (.pointer x71)) w (λx72 w=>opE zA zG.v (zD 72 (.pointer x77)) w (λx78 w=>opP zA zB (zF 67 (Sl.v x0) (.int .i64 (zC .i64 (x3+x10)))) (λx79=>opU zA (zK 72 (.pointer x79) (zG.v x72)) w (λw=>opP zA zB (zF 67 (Sl.v x0) (.int .i64 (zC .i64 (x3+x11)))) (λx80=>opU zA (zK 72 (.pointer x80) (zG.v x78)) w (λw=>Qh Kl1 x11 w)))))))/\(opE zA zG.v (zD 72 (.pointer x77)) w (λx78_1 w=>opE zA zG.v (zD 72 (.pointer x71)) w (λx72_1 w=>opP zA zB (zF 67 (Sl.v x0) (.int .i64 (zC .i64 (x3+x10)))) (λx79_1=>opU zA (zK 72 (.pointer x79_1) (zG.v x72_1)) w (λw=>opP zA zB (zF 67 (Sl.v x0) (.int .i64 (zC .i64 (x3+x11)))) (λx80_1=>opU zA (zK 72 (.pointer x80_1) (zG.v x78_1)) w (λw=>Qh Kl1 x11 w))))))))))))))))))
def yz (x0:Sl) (x3:Int) (x4:Value) (Ret:World->Prop) (x10:Int) (Kl1:Int->World->Prop) (x40:Bool) (w:World):Prop:=
 yM w (λw=>(x40=true->(y6 x0 x3 x4 Ret x10 Kl1 (zC .i64 ((zC .i64 ((zC .i64 (2*x10))+1))+1)) w))/\(x40=false->(y6 x0 x3 x4 Ret x10 Kl1 (zC .i64 ((zC .i64 (2*x10))+1)) w)))
def Yt (x0:Sl) (x2:Int) (x3:Int) (x4:Value) (Ret:World->Prop) (x10:Int) (w:World) (Kl1:Int->World->Prop):Prop:=
 ((x2<=(zC .i64 ((zC .i64 (2*x10))+1)))->(Ret w))/\(¬ (x2<=(zC .i64 ((zC .i64 (2*x10))+1)))->((((zC .i64 ((zC .i64 ((zC .i64 (2*x10))+1))+1))<x2)->(opB zA zB (zF 67 (Sl.v x0) (.int .i64 (zC .i64 (x3+(zC .i64 ((zC .i64 (2*x10))+1)))))) w (λx29=>opB zA zG.v (zD 72 (.pointer x29)) w (λx30=>opB zA zB (zF 67 (Sl.v x0) (.int .i64 (zC .i64 ((zC .i64 (x3+(zC .i64 ((zC .i64 (2*x10))+1))))+1)))) w (λx36=>opB zA zG.v (zD 72 (.pointer x36)) w (λx37=>∃ (r_1:Int),Zs zA x4 [(zG.v x30),(zG.v x37)] w (.int .i64 r_1)/\(yz x0 x3 x4 Ret x10 Kl1 (decide (r_1<0)) w)))))))/\(¬ ((zC .i64 ((zC .i64 ((zC .i64 (2*x10))+1))+1))<x2)->(yz x0 x3 x4 Ret x10 Kl1 false w))))
def zAa (x0:Sl) (x1:Int) (x2:Int) (x3:Int) (x4:Value) (w:World) (Ret:World->Prop):Prop:=
 ∃ (I:Int->World->Prop) (μ:Int->World->Nat),I x1 w/\∀ (x10:Int) w,I x10 w->Yt x0 x2 x3 x4 Ret x10 w (λx10' w'=>I x10' w'/\μ x10' w'<μ x10 w)
set_option maxRecDepth 100000 in
theorem zEj (x0:Sl) (x1:Int) (x2:Int) (x3:Int) (x4:Value) (w:World) (Ret:World->Prop) (H:zAa x0 x1 x2 x3 x4 w Ret):Cl zA 136 [(Sl.v x0),(.int .i64 x1),(.int .i64 x2),(.int .i64 x3),x4].toArray w (λe w'=>e=.returned (.tuple [].toArray)/\Ret w'):=by
 unfold zAa at H
 refine zp 82 (zipE 0 [(Sl.v x0),(.int .i64 x1),(.int .i64 x2),(.int .i64 x3),x4]) Tryz.func136 rfl rfl (by rfl) rfl ?_
 intro a g
 have g:Sat [] 82 [(0,(Sl.v x0)),(1,(.int .i64 x1)),(2,(.int .i64 x2)),(3,(.int .i64 x3)),(4,x4)] a:=g
 refine zI (zE (g.m rfl λ_ g=>g.s rfl λ_ g=>zL (tn (zX ?_))))
 obtain ⟨I_l1,μ_l1,h0,hb⟩:=H
 refine yE (ds:=[]) (N:=82) (σ:=Int) (λs=>[(10,(.int .i64 s)),(0,(Sl.v x0)),(2,(.int .i64 x2)),(3,(.int .i64 x3)),(4,x4)]) (λs w=>I_l1 s w) (λs w=>μ_l1 s w) x1 h0 (g.k) ?_
 intro x10 w a hI g
 try dsimp only at hI g
 obtain ⟨Kl1,hK_l1⟩:∃ K:Int->World->Prop,K=(λx10' w'=>I_l1 x10' w'/\μ_l1 x10' w'<μ_l1 x10 w):=⟨_,rfl⟩
 have H:Yt x0 x2 x3 x4 Ret x10 w Kl1:=by rw [hK_l1];exact hb x10 w hI
 clear hb h0 hI
 unfold Yt at H
 refine zX (zI (zE (g.m rfl λ_ g=>g.p (zF8 g rfl rfl) λ_ g=>g.p (zr g rfl rfl) λ_ g=>g.s rfl λ_ g=>zL (tn (zI (zI (zE (g.m rfl λ_ g=>g.m rfl λ_ g=>g.p (Zm g rfl rfl) λ_ g=>zL (tn (zd g rfl (λhc=>?_) (λhc=>?_)))))))))))
 ·have H:=H.1 hc
  exact z7 (te (bo (te (be (zBg g rfl ⟨rfl,H⟩)))))
 ·have H:=H.2 hc
  refine zY (tn (z8 (ds:=[]) (N:=82) (σ:=Int) (λs=>[(11,(.int .i64 s)),(0,(Sl.v x0)),(2,(.int .i64 x2)),(3,(.int .i64 x3)),(4,x4),(10,(.int .i64 x10))]) (λs w=>y6 x0 x3 x4 Ret x10 Kl1 s w) ?_ (λhj2=>?_)))
  ·intro x11 w a H g
   try dsimp only at H g
   unfold y6 at H
   refine zI (zI (QU (by kernel_rfl) (by kernel_rfl) (g.t rfl λ_ g=>g.t rfl λ_ g=>g.t rfl λ_ g=>g.t rfl λ_ g=>g.r (zr g rfl rfl) λ_ g=>g.A (zH g rfl rfl) H λx48 a H g=>g.A (zO g rfl) H λx49 a H g=>g.t rfl λ_ g=>g.t rfl λ_ g=>g.t rfl λ_ g=>g.r (zr g rfl rfl) λ_ g=>g.A (zH g rfl rfl) H λx54 a H g=>g.A (zO g rfl) H λx55 a H g=>?_)))
   obtain ⟨r,hc,H⟩:=H
   refine g.qcallV rfl rfl hc λ_ g=>g.r (yR g rfl rfl) λ_ g=>g.r (zAJ g rfl) λ_ g=>Qb (λw hB=>?_)
   replace H:=H w hB
   refine (tn (zk g rfl (λhc=>?_) (λhc=>?_)))
   ·have H:=H.1 hc
    exact zl (tr (br (tr (br (zE1 g rfl ⟨rfl,H⟩)))))
   ·have H:=H.2 hc
    refine zY (tn (z8 (ds:=[]) (N:=82) (σ:=Unit) (λs=>[(0,(Sl.v x0)),(2,(.int .i64 x2)),(3,(.int .i64 x3)),(4,x4),(11,(.int .i64 x11))]) (λs w=>Qh Kl1 x11 w) ?_ (λhj3=>?_)))
    ·rintro ⟨⟩ w a H g
     try dsimp only at H g
     unfold Qh at H
     refine zE (g.m rfl λ_ g=>g.s rfl λ_ g=>?_)
     rw [hK_l1] at H
     exact zL (bn (tn ⟨x11,g.k,H⟩))
    ·refine zCC 24 λw hB=>?_
     replace H:=H w hB
     refine g.x 0 rfl (zR g rfl) λ_ g=>g.x 1 rfl (zR g rfl) λ_ g=>g.x 2 rfl (zR g rfl) λ_ g=>g.x 3 rfl (zr g rfl rfl) λ_ g=>g.x 4 rfl (zR g rfl) λ_ g=>g.x 5 rfl (zR g rfl) λ_ g=>g.x 6 rfl (zR g rfl) λ_ g=>g.x 7 rfl (zr g rfl rfl) λ_ g=>g.x 8 rfl (zR g rfl) λ_ g=>g.x 9 rfl (zR g rfl) λ_ g=>g.x 10 rfl (zR g rfl) λ_ g=>g.x 11 rfl (zr g rfl rfl) λ_ g=>g.y 12 rfl (zH g rfl rfl) H λx71 a H g=>g.x 14 rfl (zR g rfl) λ_ g=>g.x 15 rfl (zR g rfl) λ_ g=>g.x 16 rfl (zR g rfl) λ_ g=>g.x 17 rfl (zr g rfl rfl) λ_ g=>g.y 18 rfl (zH g rfl rfl) H λx77 a H g=>WA.tw 13 19 rfl rfl ?_ ?_
     ·have H:=H.1
      intro K hK
      exact g.i (zO g rfl) H λx72 w a H g=>hK _ _ (g.j 19 rfl (zO g rfl) H λx78 w a H g=>g.y 20 rfl (zH g rfl rfl) H λx79 a H g=>g.l 21 rfl (zT g rfl rfl) H λw a H g=>g.y 22 rfl (zH g rfl rfl) H λx80 a H g=>g.l 23 rfl (zT g rfl rfl) H λw a H g=>WA.ni ((tn (hj3 () _ _ H (g.k)))))
     ·have H:=H.2
      intro K hK
      exact g.i (zO g rfl) H λx78_1 w a H g=>hK _ _ (g.j 13 rfl (zO g rfl) H λx72_1 w a H g=>g.y 20 rfl (zH g rfl rfl) H λx79_1 a H g=>g.l 21 rfl (zT g rfl rfl) H λw a H g=>g.y 22 rfl (zH g rfl rfl) H λx80_1 a H g=>g.l 23 rfl (zT g rfl rfl) H λw a H g=>WA.ni ((tn (hj3 () _ _ H (g.k)))))
  ·refine zI (QU (by kernel_rfl) (by kernel_rfl) (g.t rfl λ_ g=>g.r (zr g rfl rfl) λ_ g=>g.t rfl λ_ g=>g.r (yR g rfl rfl) λ_ g=>g.t rfl λ_ g=>WQ.join (ds:=[]) (N:=82) (σ:=Bool) (λs=>[(40,(.bool s)),(0,(Sl.v x0)),(2,(.int .i64 x2)),(3,(.int .i64 x3)),(4,x4),(10,(.int .i64 x10)),(11,(.int .i64 (zC .i64 ((zC .i64 (2*x10))+1))))]) (λs=>yz x0 x3 x4 Ret x10 Kl1 s w) 17 ?_ (λhr4=>?_)))
   ·intro x40 a H g
    try dsimp only at H g
    unfold yz at H
    refine Qb (λw hB=>?_)
    replace H:=H w hB
    refine (tn (zk g rfl (λhc=>?_) (λhc=>?_)))
    ·have H:=H.1 hc
     exact zE (g.m rfl λ_ g=>g.p (zr g rfl rfl) λ_ g=>g.s rfl λ_ g=>zL (tn (hj2 (zC .i64 ((zC .i64 ((zC .i64 (2*x10))+1))+1)) _ _ H (g.k))))
    ·have H:=H.2 hc
     exact zY (tn (hj2 (zC .i64 ((zC .i64 (2*x10))+1)) _ _ H (g.k)))
   ·rcases Classical.em (((zC .i64 ((zC .i64 ((zC .i64 (2*x10))+1))+1))<x2)) with hbr4|hbr4
    ·have H:=H.1 hbr4
     have g:=g.b (b:=true) (t:=23) rfl (decide_eq_true hbr4)
     refine g.e (g.t rfl λ_ g=>g.e (g.t rfl λ_ g=>g.e (g.t rfl λ_ g=>g.e (g.t rfl λ_ g=>g.e (g.r (zr g rfl rfl) λ_ g=>g.e (g.A (zH g rfl rfl) H λx29 a H g=>g.e (g.A (zO g rfl) H λx30 a H g=>g.e (g.t rfl λ_ g=>g.e (g.t rfl λ_ g=>g.e (g.t rfl λ_ g=>g.e (g.r (zr g rfl rfl) λ_ g=>g.e (g.r (zr g rfl rfl) λ_ g=>g.e (g.A (zH g rfl rfl) H λx36 a H g=>g.e (g.A (zO g rfl) H λx37 a H g=>g.e ?_))))))))))))))
     obtain ⟨r_1,hc,H⟩:=H
     exact g.qcallV rfl rfl hc λ_ g=>g.e (g.r (yR g rfl rfl) λ_ g=>g.r (zx g rfl rfl) λ_ g=>hr4 (decide (r_1<0)) _ H (g.k))
    ·have H:=H.2 hbr4
     have g:=g.b (b:=false) (t:=23) rfl (decide_eq_false hbr4)
     exact g.g (λ_ g=>g.g (λ_ g=>g.g (λ_ g=>g.g (λ_ g=>g.g (λ_ g=>g.g (λ_ g=>g.g (λ_ g=>g.g (λ_ g=>g.g (λ_ g=>g.g (λ_ g=>g.g (λ_ g=>g.g (λ_ g=>g.g (λ_ g=>g.g (λ_ g=>g.g (λ_ g=>g.g (λ_ g=>g.r (zy g rfl rfl) λ_ g=>hr4 false _ H (g.k)))))))))))))))))
def ZV (x0:Sl) (x1:Int) (x2:Option Addr) (x3:Value) (w:World) (Ret:Int->World->Prop):Prop:=
 Cl zA 138 [(Sl.v x0),(.int .i64 (zC .i64 (x1 - 1))),(.int .i64 x1),(.int .i64 (zC .i64 (x1+1))),(.pointer x2),x3].toArray w (λe w=>∃ (r:Int),e=.returned (.int .i64 r)/\(Ret r w))
set_option maxRecDepth 100000 in
theorem zC6 (x0:Sl) (x1:Int) (x2:Option Addr) (x3:Value) (w:World) (Ret:Int->World->Prop) (H:ZV x0 x1 x2 x3 w Ret):Cl zA 137 [(Sl.v x0),(.int .i64 x1),(.pointer x2),x3].toArray w (λe w'=>∃ (r0:Int),e=.returned (.int .i64 r0)/\Ret r0 w'):=by
 unfold ZV at H
 refine zp 18 (zipE 0 [(Sl.v x0),(.int .i64 x1),(.pointer x2),x3]) Tryz.func137 rfl rfl (by rfl) rfl ?_
 intro a g
 have g:Sat [] 18 [(0,(Sl.v x0)),(1,(.int .i64 x1)),(2,(.pointer x2)),(3,x3)] a:=g
 refine zI (zE (g.s rfl λ_ g=>zL (tn (zI (zE (g.m rfl λ_ g=>g.m rfl λ_ g=>g.p (zv g rfl rfl) λ_ g=>g.m rfl λ_ g=>g.m rfl λ_ g=>g.p (zr g rfl rfl) λ_ g=>g.m rfl λ_ g=>g.m rfl λ_ g=>g.c (zb g zP9 rfl rfl) H λe w H=>?_))))))
 obtain ⟨r,rfl,H⟩:=H
 exact ⟨_,rfl,λ_ g=>(g.s rfl λ_ g=>zL (tn (zl (zw g rfl rfl ⟨_,rfl,H⟩))))⟩
def zAw (x0:Sl) (x1:Int) (x2:Int) (x3:Int) (x4:Option Addr) (x5:Value) (w:World) (Ret:Int->World->Prop):Prop:=
 Cl zA 147 [(Sl.v x0),(.int .i64 x1),(.int .i64 x2),(.pointer x4),x5].toArray w (λe w=>∃ (r:Int) (r_1:Int),e=.returned (.tuple [(.int .i64 r),(.int .i64 r_1)].toArray)/\(Cl zA 147 [(Sl.v x0),(.int .i64 r_1),(.int .i64 x3),(.pointer x4),x5].toArray w (λe w=>∃ (r_2:Int) (r_3:Int),e=.returned (.tuple [(.int .i64 r_2),(.int .i64 r_3)].toArray)/\(Cl zA 147 [(Sl.v x0),(.int .i64 r),(.int .i64 r_2),(.pointer x4),x5].toArray w (λe w=>∃ (r_4:Int) (r_5:Int),e=.returned (.tuple [(.int .i64 r_4),(.int .i64 r_5)].toArray)/\(Ret r_5 w))))))
set_option maxRecDepth 100000 in
theorem zE3 (x0:Sl) (x1:Int) (x2:Int) (x3:Int) (x4:Option Addr) (x5:Value) (w:World) (Ret:Int->World->Prop) (H:zAw x0 x1 x2 x3 x4 x5 w Ret):Cl zA 138 [(Sl.v x0),(.int .i64 x1),(.int .i64 x2),(.int .i64 x3),(.pointer x4),x5].toArray w (λe w'=>∃ (r0:Int),e=.returned (.int .i64 r0)/\Ret r0 w'):=by
 unfold zAw at H
 refine zp 41 (zipE 0 [(Sl.v x0),(.int .i64 x1),(.int .i64 x2),(.int .i64 x3),(.pointer x4),x5]) Tryz.func138 rfl rfl (by rfl) rfl ?_
 intro a g
 have g:Sat [] 41 [(0,(Sl.v x0)),(1,(.int .i64 x1)),(2,(.int .i64 x2)),(3,(.int .i64 x3)),(4,(.pointer x4)),(5,x5)] a:=g
 refine zI (zE (g.s rfl λ_ g=>zL (tn (zI (zE (g.m rfl λ_ g=>g.m rfl λ_ g=>g.m rfl λ_ g=>g.m rfl λ_ g=>g.m rfl λ_ g=>g.c (zb g zOF rfl rfl) H λe w H=>?_))))))
 obtain ⟨r,r_1,rfl,H⟩:=H
 refine ⟨_,rfl,λ_ g=>(g.m rfl λ_ g=>g.p (zc g rfl rfl) λ_ g=>g.p (zc g rfl rfl) λ_ g=>g.s rfl λ_ g=>g.s rfl λ_ g=>zL (tn (zI (zE (g.m rfl λ_ g=>g.m rfl λ_ g=>g.m rfl λ_ g=>g.m rfl λ_ g=>g.m rfl λ_ g=>g.c (zb g zOF rfl rfl) H λe w H=>?_)))))⟩
 obtain ⟨r_2,r_3,rfl,H⟩:=H
 refine ⟨_,rfl,λ_ g=>(g.m rfl λ_ g=>g.p (zc g rfl rfl) λ_ g=>g.p (zc g rfl rfl) λ_ g=>g.s rfl λ_ g=>g.s rfl λ_ g=>zL (tn (zI (zE (g.m rfl λ_ g=>g.m rfl λ_ g=>g.m rfl λ_ g=>g.m rfl λ_ g=>g.m rfl λ_ g=>g.c (zb g zOF rfl rfl) H λe w H=>?_)))))⟩
 obtain ⟨r_4,r_5,rfl,H⟩:=H
 exact ⟨_,rfl,λ_ g=>(g.m rfl λ_ g=>g.p (zc g rfl rfl) λ_ g=>g.p (zc g rfl rfl) λ_ g=>g.s rfl λ_ g=>g.s rfl λ_ g=>zL (tn (zI (zE (g.m rfl λ_ g=>g.s rfl λ_ g=>zL (tn (zl (zw g rfl rfl ⟨_,rfl,H⟩))))))))⟩
def zAx (x0:Sl) (x1:Int) (x2:Int) (x3:Option Addr) (x4:Value) (w:World) (Ret:Int->Int->World->Prop):Prop:=
 opB zA zB (zF 67 (Sl.v x0) (.int .i64 x2)) w (λx15=>opB zA zG.v (zD 72 (.pointer x15)) w (λx16=>opB zA zB (zF 67 (Sl.v x0) (.int .i64 x1)) w (λx19=>opB zA zG.v (zD 72 (.pointer x19)) w (λx20=>∃ (r:Int),Zs zA x4 [(zG.v x16),(zG.v x20)] w (.int .i64 r)/\(yM w (λw=>((r<0)->(Qg (.pointer x3)/\(opE zA (zV .i64) (zD 3 (.pointer x3)) w (λx25 w=>Qg (.pointer x3)/\(opU zA (zK 3 (.pointer x3) (.int .i64 (zC .i64 (x25+1)))) w (λw=>Ret x2 x1 w))))))/\(¬ (r<0)->(Ret x1 x2 w))))))))
set_option maxRecDepth 100000 in
theorem zFD (x0:Sl) (x1:Int) (x2:Int) (x3:Option Addr) (x4:Value) (w:World) (Ret:Int->Int->World->Prop) (H:zAx x0 x1 x2 x3 x4 w Ret):Cl zA 147 [(Sl.v x0),(.int .i64 x1),(.int .i64 x2),(.pointer x3),x4].toArray w (λe w'=>∃ (r0:Int) (r1:Int),e=.returned (.tuple [(.int .i64 r0),(.int .i64 r1)].toArray)/\Ret r0 r1 w'):=by
 unfold zAx at H
 refine zp 32 (zipE 0 [(Sl.v x0),(.int .i64 x1),(.int .i64 x2),(.pointer x3),x4]) Tryz.func147 rfl rfl (by rfl) rfl ?_
 intro a g
 have g:Sat [] 32 [(0,(Sl.v x0)),(1,(.int .i64 x1)),(2,(.int .i64 x2)),(3,(.pointer x3)),(4,x4)] a:=g
 refine zI (zE (g.s rfl λ_ g=>g.s rfl λ_ g=>zL (tn (zI (zI (QU (by kernel_rfl) (by kernel_rfl) (g.t rfl λ_ g=>g.t rfl λ_ g=>g.t rfl λ_ g=>g.A (zH g rfl rfl) H λx15 a H g=>g.A (zO g rfl) H λx16 a H g=>g.t rfl λ_ g=>g.t rfl λ_ g=>g.A (zH g rfl rfl) H λx19 a H g=>g.A (zO g rfl) H λx20 a H g=>?_)))))))
 obtain ⟨r,hc,H⟩:=H
 refine g.qcallV rfl rfl hc λ_ g=>g.r (yR g rfl rfl) λ_ g=>Qb (λw hB=>?_)
 replace H:=H w hB
 refine (tn (zd g rfl (λhc=>?_) (λhc=>?_)))
 ·have H:=H.1 hc
  refine zI (zE (g.m rfl λ_ g=>g.p (zj g rfl H.1) λ_ g=>?_))
  have H:=H.2
  refine g.o (zO g rfl) H λx25 w a H g=>g.p (zr g rfl rfl) λ_ g=>g.p (zj g rfl H.1) λ_ g=>?_
  have H:=H.2
  exact g.h (zT g rfl rfl) H λw a H g=>zL (tn (zI (zE (g.m rfl λ_ g=>g.m rfl λ_ g=>g.s rfl λ_ g=>g.s rfl λ_ g=>zL (tn (zl (tr (ZK g rfl rfl rfl ⟨_,_,rfl,H⟩))))))))
 ·have H:=H.2 hc
  exact zY (tn (zI (zE (g.m rfl λ_ g=>g.m rfl λ_ g=>g.s rfl λ_ g=>g.s rfl λ_ g=>zL (tn (zl (ZK g rfl rfl rfl ⟨_,_,rfl,H⟩)))))))
end Go.Proofs.YtealcoghiaeiiaaGreat.VG
