/- Texts by which the law's calls are walked (part 4): rules, printed conditions, contracts; no condition. -/
import Derived.TacticsIn
import Derived.TacticsInMore
import Derived.Deep.LoopGhost
import Derived.Sort.QuietThIn
import Derived.RangeFuncCalls
import Derived.RangeFuncNested
import Derived.RangeFuncLeaves
import Derived.WalkKit
import Derived.StillTail
import Derived.Test.YtealcoghiaeiiaaGreatProg
import Derived.KernelRfl
import Derived.Deep.WholeRow
import Derived.Laws.StructEq
import Derived.MapFrom
import Derived.Laws.CopyRow
import Derived.Test.YtealcoghiaeiiaaGreatPkTxnApartC
set_option linter.unusedVariables false
set_option linter.unusedSimpArgs false
namespace Go.VB
open Go.RowKit
def Row (w:World) (b:Nat) (cs:List Value) (t:TypeId):Prop:=w.heap[b]?=some (.cells cs.toArray t (0,0))
theorem Row.at {w:World} {b:Nat} {cs:List Value} {t:TypeId} (h:Row w b cs t):At w ⟨b,0,none⟩ cs:=At.blk h
theorem Row.bel {w w':World} {b:Nat} {cs:List Value} {t:TypeId} (h:Row w b cs t) (hb:Bel w w'):Row w' b cs t:=hb.blk h
theorem Row.grown {w w':World} {b:Nat} {cs:List Value} {t:TypeId} {row:Option Nat} (h:Row w b cs t) (hg:w.grownBy w' row) (hr:row≠some b):Row w' b cs t:=
 (hg.block b (Array.getElem?_eq_some_iff.1 h).1 (fun e=>hr e.symm)).trans h
theorem Row.lt {w:World} {b:Nat} {cs:List Value} {t:TypeId} (h:Row w b cs t):b<w.heap.size:=(Array.getElem?_eq_some_iff.1 h).1
theorem Row.new (w:World) (cs:List Value) (t:TypeId):Row (w.alloc (.cells cs.toArray t)) w.heap.size cs t:=zOq w _
theorem Row.cell {w:World} {b:Nat} {v:Value} {t:TypeId} (h:Row w b [v] t):w.cell? ⟨b,0,none⟩=some v:=by
 have:=h.at 0 v rfl;simpa [Addr.add] using this
theorem zJ3 (w:World) (g:Nat) (c:Array Value):w.grownBy (w.setRow g c) (some g):=
 ⟨rfl,rfl,rfl,by simp [World.setRow],fun k hk hne=>by
  have:g≠k:=fun e=>hne (by rw [e])
  simp [World.setRow,Array.getElem?_modify,this]⟩
theorem zKW {w:World} {g:Nat} {c c':Array Value} {t:TypeId} (h:w.heap[g]?=some (.cells c t (0,0))):(w.setRow g c').heap[g]?=some (.cells c' t (0,0)):=by
 simp [World.setRow,Array.getElem?_modify,h]
section
variable {P:Program} {w:World}
theorem zJU {t n:Nat} (hs:∀ w,(sizeOf t).run P w=.ok n w) {b off:Nat} {cs vs:List Value} {e:TypeId} {v:Value} (h:Row w b cs e) (hv:v.cells.toList=vs) (hn:vs.length=n) (hl:off+vs.length≤cs.length) (h1:vs.all (·.oneCell')=true):
  (storeVar t ⟨b,off,none⟩ v).run P w=.ok () (w.setRow b (cs.take off++vs++cs.drop (off+vs.length)).toArray):=by
 have h2:=run_storeCells_at (P:=P) b off e vs 0 cs.toArray w h (by simpa using hl) (fun x hx=>by rw [List.all_eq_true] at h1;exact h1 x hx)
 have hsz:v.cells.size=n:=by rw [← hn,← hv];simp
 simp only [storeVar,Sem.run_bind,hs w,Result.andThen_ok]
 rw [if_neg (by rw [hsz];simp)]
 simp only [hv]
 simpa using h2
theorem zNK {t:Nat} (hA:One P t) {b off:Nat} {cs:List Value} {e:TypeId} {v:Value} (h:Row w b cs e) (hv:v.cells.toList=[v]) (hl:off<cs.length) (h1:v.oneCell'=true) {k:World→Prop}
  (H:∀ w',Row w' b (cs.take off++[v]++cs.drop (off+1)) e→w.grownBy w' (some b)→k w'):opU P (Instr.storeAt t (.pointer (some ((⟨b,0,none⟩:Addr).add off))) v) w k:=by
 refine ⟨w.setRow b (cs.take off++[v]++cs.drop (off+1)).toArray,?_,H _ (zKW h) (zJ3 w b _)⟩
 have:=zJU hA.size (off:=off) h hv rfl (by simp;omega) (by simpa using h1)
 rw [add_plain']
 simpa [Instr.storeAt,Instr.sureAddr] using this
theorem zNZ {t:Nat} (hA:One P t) {b:Nat} {u:Value} {e:TypeId} {v:Value} (h:Row w b [u] e) (hv:v.cells.toList=[v]) (h1:v.oneCell'=true) {k:World→Prop}
  (H:∀ w',Row w' b [v] e→w.grownBy w' (some b)→k w'):opU P (Instr.storeAt t (.pointer (some ⟨b,0,none⟩)) v) w k:=by
 have:=zNK hA (off:=0) h hv (by simp) h1 H
 simpa [Addr.add] using this
theorem zNy {t n:Nat} (hA:Agg P t n) {b:Nat} {cs cs':List Value} {e:TypeId} (h:Row w b cs e) (hn:cs.length=n) (hn':cs'.length=n) (h1:cs'.all (·.oneCell')=true) {k:World→Prop}
  (H:∀ w',Row w' b cs' e→w.grownBy w' (some b)→k w'):opU P (Instr.storeAt t (.pointer (some ⟨b,0,none⟩)) (.agg cs'.toArray)) w k:=by
 refine ⟨w.setRow b cs'.toArray,?_,H _ (zKW h) (zJ3 w b _)⟩
 have:=zJU hA.size (off:=0) (v:=.agg cs'.toArray) (vs:=cs') h (by simp [Value.cells]) hn' (by omega) h1
 have h2:cs.drop (0+cs'.length)=[]:=List.drop_of_length_le (by omega)
 rw [h2] at this
 simpa [Instr.storeAt,Instr.sureAddr] using this
theorem zUP {t:Nat} {v:Value} (hv:v.cells=#[v]) {k:Option Addr→World→Prop} (H:k (some ⟨w.heap.size,0,none⟩) (w.alloc (.cells [v].toArray t))):opE P Value.pointer (Instr.box t v) w k:=by
 refine ⟨_,w.alloc (.cells v.cells t),rfl,?_⟩
 rw [hv];exact H
theorem zNE {t:Nat} {z:List Value} (hz:∀ w,(Instr.alloc t true (.tuple #[])).run P w=.ok (.pointer (some ⟨w.heap.size,0,none⟩)) (w.alloc (.cells z.toArray t))) {k:Option Addr→World→Prop} (H:k (some ⟨w.heap.size,0,none⟩) (w.alloc (.cells z.toArray t))):opE P Value.pointer (Instr.alloc t true (.tuple #[])) w k:=⟨_,_,hz w,H⟩
theorem R.cell {τ:Type} {enc:τ→Value} {t:Nat} (hA:One P t) {b:Nat} {e:TypeId} {k:τ→Prop} (x:τ) (h:Row w b [enc x] e) (H:k x):opR P enc t (some ⟨b,0,none⟩) w k:=by
 refine ⟨x,_,rfl,?_,H⟩
 have:=zKN hA h.cell
 simpa [Instr.loadAt,Instr.sureAddr] using this
end
theorem OwnS.isRow {α:Type} {c:α→List Value} {n e base:Nat} {w:World} {s:Sl} {xs:List α} (h:OwnS c n e base w s xs) {k:Nat} (hk:(Sl.v s).ownBlock=some k):∃ cs t fr,w.heap[k]?=some (.cells cs t fr):=by
 rcases h.row.2 with ⟨h1,_⟩|⟨g,cap,cur,h1,_,hh,_⟩
 ·rw [h1] at hk;cases hk
 ·rw [h1] at hk
  simp [Value.ownBlock] at hk
  subst hk
  exact ⟨_,_,_,hh⟩
theorem KeepsFrom.row {B:Nat} {w w':World} {row:Option Nat} (hg:w.grownBy w' row) (hr:∀ r,row=some r→∃ cs t fr,w.heap[r]?=some (.cells cs t fr)):KeepsFrom B w w':=
 ⟨hg.size,fun k o hB hk ho=>(hg.block k (Array.getElem?_eq_some_iff.1 hk).1 (fun e=>by
  obtain ⟨cs,t,fr,h⟩:=hr k e.symm
  rw [hk] at h;cases h;simp [Obj.isCells] at ho)).trans hk⟩
theorem KeepsFrom.bel {B:Nat} {w w':World} (h:Bel w w'):KeepsFrom B w w':=KeepsFrom.row (zAT h none) (fun r e=>by cases e)
theorem Bel.in {n0:Nat} {w w':World} (h:Bel w w') (hn:n0≤w.heap.size):Below n0 w w':=h.mono hn
theorem Bw.row {n0:Nat} {w w':World} {row:Option Nat} (hg:w.grownBy w' row) (hn:n0≤w.heap.size) (hr:∀ r,row=some r→n0≤r):Below n0 w w':=(Below.refl n0 w).grown hg hn hr
theorem SeqAt.later {α:Type} {P:Program} {v:Value} {encs:α→List Value} {Kp:World→World→Prop} {S Sp:List α→Prop} {Num:Nat} {w w':World} (h:SeqAt P v encs Kp S Sp Num w) (hb:Bel w w'):SeqAt P v encs Kp S Sp Num w':=by
 obtain ⟨gf,lb,rfl,he,hs⟩:=h
 exact ⟨gf,lb,rfl,he,fun l J Jx W hW hJ hJx hY h0=>hs l J Jx W (hb.trans hW) hJ hJx hY h0⟩
theorem zKo.of {α:Type} {P:Program} {v:Value} {encs:α→List Value} {n0:Nat} {S Sp:List α→Prop} {Num:Nat} {I Ir:List α→World→Prop} {w:World} (hs:SeqAt P v encs (Below n0) S Sp Num w) (hn:n0≤w.heap.size)
  (own:OwnFrom w.heap.size I) (ownr:OwnFrom w.heap.size Ir) (lo:∀ pre W,I pre W→w.heap.size≤W.heap.size) (start:I [] w):zKo P v encs (Below n0) S Sp Num I Ir w:=
 ⟨hs,fun A B C h k=>h.trans k,fun W l o o' h1 h2 h3 h4=>belowK_b hn W l o o' h1 h2 h3 h4,fun pre W o hI=>(Below.refl n0 W).alloc (Nat.le_trans hn (lo pre W hI)) o,own,ownr,lo,start⟩
theorem Row.notwalk {w w':World} {b:Nat} {cs:List Value} {t:TypeId} {row:Option Nat} {B:Nat} (h:Row w b cs t) (hg:w.grownBy w' row) (hr:∀ r,row=some r→B≤r∧∃ o:Obj,w.heap[r]?=some o∧o.isCells=false):Row w' b cs t:=
 h.grown hg (fun e=>by
  obtain ⟨_,o,ho,hc⟩:=hr b e
  unfold Row at h;rw [h] at ho;cases ho;simp [Obj.isCells] at hc)
theorem OwnS.notwalk {α:Type} {c:α→List Value} {n e base:Nat} {w w':World} {s:Sl} {xs:List α} {row:Option Nat} {B:Nat} (h:OwnS c n e base w s xs) (hg:w.grownBy w' row) (hr:∀ r,row=some r→B≤r∧∃ o:Obj,w.heap[r]?=some o∧o.isCells=false):OwnS c n e base w' s xs:=by
 refine h.kept hg ?_
 cases hk:(Sl.v s).ownBlock with
 |none=>exact .inl rfl
 |some k=>
  refine .inr fun e=>?_
  obtain ⟨cs,t,fr,h1⟩:=h.isRow hk
  obtain ⟨_,o,ho,hc⟩:=hr k e.symm
  rw [h1] at ho;cases ho;simp [Obj.isCells] at hc
theorem Bel.notwalk {w0 w w':World} {row:Option Nat} {B:Nat} (h:Bel w0 w) (hB:w0.heap.size≤B) (hg:w.grownBy w' row) (hr:∀ r,row=some r→B≤r∧∃ o:Obj,w.heap[r]?=some o∧o.isCells=false):Bel w0 w':=
 h.grown hg (fun k e=>Nat.le_trans hB (hr k e).1)
theorem zMs (w:World) (D:Nat):w.grownBy (w.putObj D (.deferred none)) (some D):=grownBy_putObj' w D _
end Go.VB
set_option linter.unusedVariables false
set_option linter.unusedSimpArgs false
namespace Go.VB
open Go.RowKit Go.VB.Srt
structure zKu {α:Type} (P:Program) (t e n:Nat) (c:α→List Value) (enc:α→Value):Prop where
 und:P.underlying t=some (.slice e)
 esz:∀ w,(sizeOf e).run P w=.ok n w
 load:∀ w a x,At w a (c x)→(Instr.loadAt e (.pointer (some a))).run P w=.ok (enc x) w
 cells:∀ x,(enc x).cells.toList=c x
 len:∀ x,(c x).length=n
 one:∀ x,(c x).all (·.oneCell')=true
 pos:0<n
theorem zP6 {α:Type} {c:α→List Value} {n:Nat} (hc:∀ x,(c x).length=n) (x:α):∀ (xs:List α) (i:Nat),i<xs.length→(xs.set i x).flatMap c=(xs.flatMap c).take (i*n)++c x++(xs.flatMap c).drop (i*n+n)
 |[],i,h=>by simp at h
 |y::r,0,_=>by
  rw [List.set_cons_zero,List.flatMap_cons,List.flatMap_cons,Nat.zero_mul,List.take_zero,List.nil_append,Nat.zero_add,List.drop_append_of_le_length (by rw [hc];exact Nat.le_refl _),List.drop_of_length_le (by rw [hc];exact Nat.le_refl _),List.nil_append]
 |y::r,i+1,h=>by
  have ih:=zP6 hc x r i (by simpa using h)
  rw [List.set_cons_succ,List.flatMap_cons,List.flatMap_cons,ih,List.take_append,List.drop_append,hc,List.take_of_length_le (l:=c y) (by rw [hc,Nat.add_mul];omega),List.drop_of_length_le (l:=c y) (by rw [hc,Nat.add_mul];omega),List.nil_append,
   show (i+1)*n - n=i*n by rw [Nat.add_mul];omega,show (i+1)*n+n - n=i*n+n by rw [Nat.add_mul];omega]
  simp [List.append_assoc]
section
variable {P:Program} {w:World} {α:Type} {c:α→List Value} {enc:α→Value} {n e t base:Nat} {s:Sl}
theorem OwnS.at {xs:List α} (hO:OwnS c n e base w s xs) (hpos:0<xs.length):∃ g cap cur,s=⟨some ⟨g,0,none⟩,xs.length,cap⟩∧w.heap[g]?=some (.cells cur e (0,0))∧xs.length≤cap∧cap≤maxLen∧cur.size=cap*n∧cur.toList.take (xs.length*n)=xs.flatMap c∧base≤g:=by
 obtain ⟨hl,hs,hr⟩:=hO
 obtain ⟨a,len,cap⟩:=s
 simp only at hl
 rcases hr.2 with ⟨h1,h2⟩|⟨g,cap',cur,h1,hb,hh,hcap,hm,hsz,htk⟩
 ·simp only at h2;omega
 ·injection h1 with h3 h4 h5
  subst h3;subst h5
  exact ⟨g,cap,cur,by rw [hl],hh,by simpa [hl] using hcap,hm,hsz,by rw [hl];exact htk,hb⟩
theorem zNg (E:zKu P t e n c enc) {xs:List α} (hO:OwnS c n e base w s xs) {i:Nat} (hi:i<xs.length) (x:α) {ad:Addr} (had:s.a=some ad):
  ∃ w',(Instr.storeAt e (.pointer (some (ad.add (i*n)))) (enc x)).run P w=.ok () w'∧OwnS c n e base w' s (xs.set i x)∧w.grownBy w' (Sl.v s).ownBlock:=by
 obtain ⟨g,cap,cur,rfl,hh,hcap,hm,hsz,htk,hb⟩:=hO.at (by omega)
 obtain rfl:(⟨g,0,none⟩:Addr)=ad:=Option.some.inj had
 have hrow:Row w g cur.toList e:=by unfold Row;simpa using hh
 have hin:i*n+n≤xs.length*n:=by
  have:(i+1)*n≤xs.length*n:=Nat.mul_le_mul_right _ (by omega)
  rw [Nat.add_mul] at this;omega
 have hC:xs.length*n≤cur.toList.length:=by
  have h0:cur.toList.length=cap*n:=by simpa using hsz
  rw [h0];exact Nat.mul_le_mul_right _ hcap
 have hst:=zJU E.esz (off:=i*n) (v:=enc x) hrow (E.cells x) (E.len x) (by rw [E.len];omega) (E.one x)
 refine ⟨w.setRow g (cur.toList.take (i*n)++c x++cur.toList.drop (i*n+(c x).length)).toArray,?_,⟨by simp,hO.small,?_⟩,zJ3 w g _⟩
 ·rw [add_plain']
  simpa [Instr.storeAt,Instr.sureAddr] using hst
 ·refine ⟨by rw [zLo E.len,List.length_set],.inr ⟨g,cap,_,rfl,hb,zKW hh,hcap,hm,?_,?_⟩⟩
  ·simp only [List.size_toArray,List.length_append,List.length_take,List.length_drop,E.len]
   have h0:cur.toList.length=cap*n:=by simpa using hsz
   omega
  ·show ((cur.toList.take (i*n)++c x++cur.toList.drop (i*n+(c x).length))).take (xs.length*n)=_
   have hA:(cur.toList.take (i*n)++c x).length=i*n+n:=by rw [List.length_append,List.length_take,E.len];omega
   rw [zP6 E.len x xs i hi,← htk,List.take_append,List.take_of_length_le (by rw [hA];omega),hA,E.len,List.take_take,Nat.min_eq_left (by omega),List.drop_take]
theorem zEn (E:zKu P t e n c enc) {f:Nat→α} {L:Nat} (hO:OwnS c n e base w s (tab f L)) {i j:Int} {i' j':Nat} (hi:i=(i':Int)) (hj:j=(j':Int)) (hi':i'<L) (hj':j'<L) {K:World→Prop}
  (H:∀ w',OwnS c n e base w' s (tab (swp f i' j') L)→w.grownBy w' (Sl.v s).ownBlock→K w'):
  nextB w (fun w=>opP P Value.pointer (Instr.indexAt t (Sl.v s) (.int .i64 j)) (fun p=>opP P Value.pointer (Instr.indexAt t (Sl.v s) (.int .i64 i)) (fun q=>
   (opE P enc (Instr.loadAt e (.pointer p)) w (fun x w=>opE P enc (Instr.loadAt e (.pointer q)) w (fun y w=>opP P Value.pointer (Instr.indexAt t (Sl.v s) (.int .i64 i)) (fun a=>opU P (Instr.storeAt e (.pointer a) (enc x)) w (fun w=>opP P Value.pointer (Instr.indexAt t (Sl.v s) (.int .i64 j)) (fun b=>opU P (Instr.storeAt e (.pointer b) (enc y)) w (fun w=>K w)))))))∧
   (opE P enc (Instr.loadAt e (.pointer q)) w (fun y w=>opE P enc (Instr.loadAt e (.pointer p)) w (fun x w=>opP P Value.pointer (Instr.indexAt t (Sl.v s) (.int .i64 i)) (fun a=>opU P (Instr.storeAt e (.pointer a) (enc x)) w (fun w=>opP P Value.pointer (Instr.indexAt t (Sl.v s) (.int .i64 j)) (fun b=>opU P (Instr.storeAt e (.pointer b) (enc y)) w (fun w=>K w)))))))))):=by
 subst hi;subst hj
 intro w1 hb1
 have hO1:=hO.bel hb1
 have hL:(tab f L).length=L:=zDJ f L
 have hR:=hO1.rd E.len
 obtain ⟨adj,ha,hAj⟩:=hR.cells j' (f j') (zKC f hj')
 obtain ⟨adi,ha',hAi⟩:=hR.cells i' (f i') (zKC f hi')
 obtain rfl:adj=adi:=Option.some.inj (ha.symm.trans ha')
 have hlen:=hR.len
 have idx:∀ (k:Nat),k<L→∀ w,(Instr.indexAt t (Sl.v s) (.int .i64 (k:Int))).run P w=.ok (.pointer (some (adj.add (k*n)))) w:=fun k hk w=>by
  have:=zNU (k:=.i64) E.und E.esz (w:=w) (s:=s) (i:=(k:Int)) ha (by omega) (by omega)
  simpa using this
 have tail:opP P Value.pointer (Instr.indexAt t (Sl.v s) (.int .i64 (i':Int))) (fun a=>opU P (Instr.storeAt e (.pointer a) (enc (f j'))) w1 (fun w=>opP P Value.pointer (Instr.indexAt t (Sl.v s) (.int .i64 (j':Int))) (fun b=>opU P (Instr.storeAt e (.pointer b) (enc (f i'))) w (fun w=>K w)))):=by
  obtain ⟨w2,hs2,hO2,hg2⟩:=zNg E hO1 (i:=i') (by omega) (f j') ha
  obtain ⟨w3,hs3,hO3,hg3⟩:=zNg E hO2 (i:=j') (by rw [List.length_set];omega) (f i') ha
  refine ⟨_,idx i' hi',w2,hs2,_,idx j' hj',w3,hs3,H w3 ?_ (zAK (zAK (zAT hb1 _) hg2) hg3)⟩
  rw [zRW f hi' hj'] at hO3;exact hO3
 refine ⟨_,idx j' hj',_,idx i' hi',⟨_,w1,E.load _ _ _ hAj,_,w1,E.load _ _ _ hAi,tail⟩,⟨_,w1,E.load _ _ _ hAi,_,w1,E.load _ _ _ hAj,tail⟩⟩
theorem zBP (E:zKu P t e n c enc) {f:Nat→α} {L:Nat} (hO:OwnS c n e base w s (tab f L)) {i:Int} {i':Nat} (hi:i=(i':Int)) (hi':i'<L) {k:α→Prop} (H:k (f i')):
  opB P Value.pointer (Instr.indexAt t (Sl.v s) (.int .i64 i)) w (fun p=>opB P enc (Instr.loadAt e (.pointer p)) w k):=by
 subst hi
 refine zOL (hO.rd E.len) E.und E.esz (by omega) (x:=f i') (by simpa using zKC f hi') fun ad hA=>?_
 exact ⟨_,fun w' hb=>E.load _ _ _ (hA.bel hb),H⟩
theorem zKu.agg {n:Nat} {α:Type} {c:α→List Value} (hA:Agg P e n) (hu:P.underlying t=some (.slice e)) (hc:∀ x,(c x).length=n) (h1:∀ x,(c x).all (·.oneCell')=true) (hn:0<n):zKu P t e n c (fun x=>.agg (c x).toArray):=
 ⟨hu,hA.size,fun w a x h=>zK2 hA h (hc x),fun x=>by simp [Value.cells],hc,h1,hn⟩
theorem zKn {t:TypeId} {a b:Int} (hb:b≠0) (h0 : -9223372036854775808≤a.tdiv b) (h1:a.tdiv b≤9223372036854775807) {k:Int→World→Prop} (H:k (a.tdiv b) w):opE P (Value.int .i64) (binOp .quo t (.int .i64 a) (.int .i64 b)) w k:=by
 refine ⟨a.tdiv b,w,?_,H⟩
 rw [binOp_quo]
 simp [Op.intDiv,hb]
 exact wr64 h0 h1
end
end Go.VB
set_option linter.unusedVariables false
namespace Go.Proofs.YtealcoghiaeiiaaGreat.VG
open Go.VB Go.VB.Srt Go.Proofs
namespace SoCmpFunc_api_Pair
theorem zAa:zKu Tryz.prog zFV zGc 2 zAE.cells zAE.v:=zKu.agg zGF zFR (fun _=>rfl) (fun _=>rfl) (by decide)
abbrev Ow (base:Nat) (w:World) (s:Sl) (l:List zAE):Prop:=OwnS zAE.cells 2 zGc base w s l
def Cmps (cmp:Value) (lt:zAE→zAE→Bool):Prop:=∀ w x y,∃ r:Int,CallQ Tryz.prog cmp [zAE.v x,zAE.v y] w (.int .i64 r)∧(lt x y=true↔r<0)
theorem zFF {lt:zAE→zAE→Bool} {x y:zAE} {r:Int} (h:lt x y=true↔r<0):decide (r<0)=lt x y:=by
 cases hl:lt x y with
 |true=>rw [decide_eq_true (h.1 hl)]
 |false=>rw [decide_eq_false (fun e=>by rw [h.2 e] at hl;cases hl)]
section
variable {cmp:Value} {lt:zAE→zAE→Bool} (O:SWO lt) (hcmp:Cmps cmp lt) {base:Nat} {w:World} {s:Sl} {L:Nat} {f:Nat→zAE}
include O hcmp
theorem zG9 (hO:Ow base w s (tab f L)) {a b:Nat} (hA:a≤b) (hb:b≤L) {k:World→Prop}
  (H:∀ g w',Seg a b f g→zBm lt a b g→Ow base w' s (tab g L)→w.grownBy w' (Sl.v s).ownBlock→k w'):
  Cl Tryz.prog zHz [Sl.v s,.int .i64 (a:Int),.int .i64 (b:Int),cmp].toArray w (fun e w'=>e=.returned (.tuple [].toArray)∧k w'):=by
 refine zHx s a b cmp w k ?_
 have hlen:=hO.len;have hsm:=hO.small
 rw [zDJ] at hlen
 by_cases hab:b≤a
 ·unfold zDy
  refine ⟨fun i w1=>i=(a:Int)+1∧w1=w,fun _ _=>0,⟨wr64 (by omega) (by omega),rfl⟩,?_⟩
  rintro i w1 ⟨rfl,rfl⟩
  unfold zB3
  exact ⟨fun hc=>by omega,fun _=>H f w1 (.refl f) (zBm.small (by omega)) hO (World.grownBy.refl _ _)⟩
 unfold zDy
 refine ⟨fun x w1=>∃ (i:Nat) (g:Nat→zAE),x=(i:Int)∧a+1≤i∧i≤b∧Seg a b f g∧zBm lt a i g∧Ow base w1 s (tab g L)∧w.grownBy w1 (Sl.v s).ownBlock,fun x _=>(b - x).toNat,?_,?_⟩
 ·exact ⟨a+1,f,by rw [wr64 (by omega) (by omega)];omega,by omega,by omega,.refl f,zBm.small (by omega),hO,World.grownBy.refl _ _⟩
 rintro x w1 ⟨i,g,rfl,hi1,hi2,hsg,hso,hO1,hg1⟩
 unfold zB3
 refine ⟨fun hc=>?_,fun hc=>?_⟩
 rotate_left
 ·obtain rfl:i=b:=by omega
  exact H g w1 hsg hso hO1 hg1
 refine ⟨fun y w2=>∃ (j:Nat) (g:Nat→zAE),y=(j:Int)∧a≤j∧j≤i∧Seg a b f g∧Hole lt a i j g∧Ow base w2 s (tab g L)∧w.grownBy w2 (Sl.v s).ownBlock,fun y _=>y.toNat,?_,?_⟩
 ·exact ⟨i,g,rfl,by omega,by omega,hsg,Hole.start hso,hO1,hg1⟩
 rintro y w2 ⟨j,g,rfl,hj1,hj2,hsg,hho,hO2,hg2⟩
 unfold zDV
 have fin:∀ w3,Bel w2 w3→(j≤a∨Le lt (g (j - 1)) (g j))→(fun (x8':Int) (w':World)=>(∃ (i:Nat) (g:Nat→zAE),x8'=(i:Int)∧a+1≤i∧i≤b∧Seg a b f g∧zBm lt a i g∧Ow base w' s (tab g L)∧w.grownBy w' (Sl.v s).ownBlock)∧(b - x8').toNat<(b - (i:Int)).toNat) (IntKind.wrap .i64 ((i:Int)+1)) w3:=by
  intro w3 hb3 hd
  rw [wr64 (by omega) (by omega)]
  exact ⟨⟨i+1,g,by omega,by omega,by omega,hsg,hho.done O hd,hO2.bel hb3,zAK hg2 (zAT hb3 _)⟩,by omega⟩
 refine ⟨fun hc=>?_,fun hc=>?_⟩
 ·refine zBP zAa hO2 rfl (by omega) ?_
  refine zBP zAa hO2 (i':=j - 1) (by rw [wr64 (by omega) (by omega)];omega) (by omega) ?_
  obtain ⟨r,hr,hl⟩:=hcmp w2 (g j) (g (j - 1))
  refine ⟨r,hr,?_⟩
  rw [zFF hl]
  unfold zBH
  intro w3 hb3
  refine ⟨fun hlt=>?_,fun hlt=>fin w3 hb3 (.inr hlt)⟩
  refine zEn zAa (hO2.bel hb3) (i':=j) (j':=j - 1) rfl (by rw [wr64 (by omega) (by omega)];omega) (by omega) (by omega) fun w4 hO4 hg4=>?_
  unfold zCT
  rw [wr64 (by omega) (by omega)]
  exact ⟨⟨j - 1,_,by omega,by omega,by omega,.step j (j - 1) (by omega) (by omega) (by omega) (by omega) hsg,hho.step O (by omega) hj2 hlt,hO4,zAK (zAK hg2 (zAT hb3 _)) hg4⟩,by dsimp only;omega⟩
 ·unfold zBH
  intro w3 hb3
  exact ⟨fun h=>(nomatch h),fun _=>fin w3 hb3 (.inl (by omega))⟩
end
end SoCmpFunc_api_Pair
end Go.Proofs.YtealcoghiaeiiaaGreat.VG
set_option linter.unusedVariables false
namespace Go.Proofs.YtealcoghiaeiiaaGreat.VG
open Go.VB Go.VB.Srt Go.Proofs
namespace SoCmpFunc_api_Pair
section
variable {cmp:Value} {lt:zAE→zAE→Bool} (O:SWO lt) (hcmp:Cmps cmp lt) {base:Nat} {w:World} {s:Sl} {L:Nat} {f:Nat→zAE}
include O hcmp
theorem zLP (hO:Ow base w s (tab f L)) {lo hi o:Nat} (hb:o+hi≤L) (hlo:lo≤hi) (hp:Hp lt o (lo+1) hi f) {k:World→Prop}
  (H:∀ g w',Seg (o+lo) (o+hi) f g→Hp lt o lo hi g→Ow base w' s (tab g L)→w.grownBy w' (Sl.v s).ownBlock→k w'):
  Cl Tryz.prog zJR [Sl.v s,.int .i64 (lo:Int),.int .i64 (hi:Int),.int .i64 (o:Int),cmp].toArray w (fun e w'=>e=.returned (.tuple [].toArray)∧k w'):=by
 refine zJO s lo hi o cmp w k ?_
 have hlen:=hO.len;have hsm:=hO.small
 rw [zDJ] at hlen
 unfold zFX
 refine ⟨fun x w1=>∃ (r:Nat) (g:Nat→zAE),x=(r:Int)∧lo≤r∧r≤hi∧Seg (o+lo) (o+hi) f g∧HpX lt o lo hi r g∧Ow base w1 s (tab g L)∧w.grownBy w1 (Sl.v s).ownBlock,fun x _=>(hi - x).toNat,?_,?_⟩
 ·exact ⟨lo,f,rfl,Nat.le_refl _,hlo,.refl f,HpX.start hp,hO,World.grownBy.refl _ _⟩
 rintro x w1 ⟨r,g,rfl,hr1,hr2,hsg,hx,hO1,hg1⟩
 unfold zD7
 rw [wr64 (n:=2*(r:Int)) (by omega) (by omega),wr64 (n:=2*(r:Int)+1) (by omega) (by omega)]
 refine ⟨fun hc=>H g w1 hsg (hx.done O fun c h1 h2=>by unfold Child at h1;omega) hO1 hg1,fun hc=>?_⟩
 -- the greater child is c
 have j2:∀ (c:Nat) (w2:World),Bel w1 w2→Child c r→c<hi→(∀ d,Child d r→d<hi→Le lt (g (o+d)) (g (o+c)))→
   zCD s o cmp k r (fun x10' w'=>(∃ (r:Nat) (g:Nat→zAE),x10'=(r:Int)∧lo≤r∧r≤hi∧Seg (o+lo) (o+hi) f g∧HpX lt o lo hi r g∧Ow base w' s (tab g L)∧w.grownBy w' (Sl.v s).ownBlock)∧(hi - x10').toNat<(hi - (r:Int)).toNat) c w2:=by
  intro c w2 hb2 hcr hch hmax
  have hrc:r<c:=by unfold Child at hcr;omega
  have hO2:=hO1.bel hb2
  unfold zCD
  rw [wr64 (n:=(o:Int)+r) (by omega) (by omega),wr64 (n:=(o:Int)+c) (by omega) (by omega)]
  refine zBP zAa hO2 (i':=o+r) (by omega) (by omega) ?_
  refine zBP zAa hO2 (i':=o+c) (by omega) (by omega) ?_
  obtain ⟨q,hq,hl⟩:=hcmp w2 (g (o+r)) (g (o+c))
  refine ⟨q,hq,?_⟩
  rw [zFF hl]
  intro w3 hb3
  refine ⟨fun hn=>?_,fun hn=>?_⟩
  ·have hn':lt (g (o+r)) (g (o+c))=false:=by simpa using hn
   exact H g w3 hsg (hx.done O fun d h1 h2=>O.trans (hmax d h1 h2) hn') (hO2.bel hb3) (zAK (zAK hg1 (zAT hb2 _)) (zAT hb3 _))
  ·have hn':lt (g (o+r)) (g (o+c))=true:=by simpa using hn
   refine zEn zAa (hO2.bel hb3) (i':=o+r) (j':=o+c) (by omega) (by omega) (by omega) (by omega) fun w4 hO4 hg4=>?_
   unfold zDR
   exact ⟨⟨c,_,rfl,by omega,by omega,.step (o+r) (o+c) (by omega) (by omega) (by omega) (by omega) hsg,hx.step O hr1 hcr hch hmax hn',hO4,zAK (zAK (zAK hg1 (zAT hb2 _)) (zAT hb3 _)) hg4⟩,by omega⟩
 rw [wr64 (n:=2*(r:Int)+1+1) (by omega) (by omega),wr64 (n:=(o:Int)+(2*r+1)) (by omega) (by omega)]
 refine ⟨fun hc2=>?_,fun hc2=>?_⟩
 ·rw [wr64 (n:=(o:Int)+(2*r+1)+1) (by omega) (by omega)]
  refine zBP zAa hO1 (i':=o+(2*r+1)) (by omega) (by omega) ?_
  refine zBP zAa hO1 (i':=o+(2*r+2)) (by omega) (by omega) ?_
  obtain ⟨q,hq,hl⟩:=hcmp w1 (g (o+(2*r+1))) (g (o+(2*r+2)))
  refine ⟨q,hq,?_⟩
  rw [zFF hl]
  unfold zCC
  rw [wr64 (n:=2*(r:Int)) (by omega) (by omega),wr64 (n:=2*(r:Int)+1) (by omega) (by omega),wr64 (n:=2*(r:Int)+1+1) (by omega) (by omega)]
  intro w2 hb2
  refine ⟨fun hn=>?_,fun hn=>?_⟩
  ·have:=j2 (2*r+2) w2 hb2 (.inr rfl) (by omega) fun d hd hdh=>by
    rcases hd with rfl|rfl
    ·exact O.of_lt hn
    ·exact O.refl _
   rw [show ((2*r+2:Nat):Int)=2*(r:Int)+1+1 by omega] at this
   exact this
  ·have:=j2 (2*r+1) w2 hb2 (.inl rfl) (by omega) fun d hd hdh=>by
    rcases hd with rfl|rfl
    ·exact O.refl _
    ·exact hn
   rw [show ((2*r+1:Nat):Int)=2*(r:Int)+1 by omega] at this
   exact this
 ·unfold zCC
  rw [wr64 (n:=2*(r:Int)) (by omega) (by omega),wr64 (n:=2*(r:Int)+1) (by omega) (by omega)]
  intro w2 hb2
  refine ⟨fun h=>(nomatch h),fun _=>?_⟩
  have:=j2 (2*r+1) w2 hb2 (.inl rfl) (by omega) fun d hd hdh=>by
    rcases hd with rfl|rfl
    ·exact O.refl _
    ·omega
  rw [show ((2*r+1:Nat):Int)=2*(r:Int)+1 by omega] at this
  exact this
theorem zNw (hO:Ow base w s (tab f L)) {a b:Nat} (hA:a≤b) (hb:b≤L) {k:World→Prop}
  (H:∀ g w',Seg a b f g→zBm lt a b g→Ow base w' s (tab g L)→w.grownBy w' (Sl.v s).ownBlock→k w'):
  Cl Tryz.prog zJP [Sl.v s,.int .i64 (a:Int),.int .i64 (b:Int),cmp].toArray w (fun e w'=>e=.returned (.tuple [].toArray)∧k w'):=by
 refine zJN s a b cmp w k ?_
 have hlen:=hO.len;have hsm:=hO.small
 rw [zDJ] at hlen
 unfold zFW
 rw [wr64 (n:=(b:Int) - a) (by omega) (by omega),wr64 (n:=(b:Int) - a - 1) (by omega) (by omega)]
 have hq:∃ q:Nat,((b:Int) - a - 1).tdiv 2=(q:Int)∧b - a≤2*q+2∧q≤b - a:=by
  by_cases h0:a=b
  ·subst h0;exact ⟨0,by rw [show (a:Int) - a - 1 = -1 by omega];rfl,by omega,by omega⟩
  ·refine ⟨(b - a - 1) / 2,?_,by omega,by omega⟩
   rw [Int.tdiv_eq_ediv_of_nonneg (by omega)];omega
 obtain ⟨q,hq1,hq2,hq3⟩:=hq
 refine zKn (by decide) (by rw [hq1];omega) (by rw [hq1];omega) ?_
 rw [hq1]
 obtain ⟨n,rfl⟩:∃ n,b=a+n:=⟨b - a,by omega⟩
 refine ⟨fun x w1=>∃ (i:Nat) (g:Nat→zAE),x=(i:Int) - 1∧i≤n+1∧Seg a (a+n) f g∧Hp lt a i n g∧Ow base w1 s (tab g L)∧w.grownBy w1 (Sl.v s).ownBlock,fun x _=>(x+1).toNat,?_,?_⟩
 ·exact ⟨q+1,f,by omega,by omega,.refl f,fun i c h1 h2 h3=>by unfold Child at h2;omega,hO,World.grownBy.refl _ _⟩
 rintro x w1 ⟨i,g,rfl,hi,hsg,hp,hO1,hg1⟩
 unfold zD6
 rw [wr64 (n:=((a+n:Nat):Int) - a) (by omega) (by omega)]
 refine ⟨fun hc=>?_,fun hc=>?_⟩
 ·obtain ⟨m,rfl⟩:∃ m,i=m+1:=⟨i - 1,by omega⟩
  rw [show ((m+1:Nat):Int) - 1=(m:Int) by omega,show ((a+n:Nat):Int) - a=(n:Int) by omega]
  refine zLP O hcmp hO1 (lo:=m) (hi:=n) (o:=a) hb (by omega) hp fun h w2 hsg2 hp2 hO2 hg2=>?_
  rw [wr64 (by omega) (by omega)]
  exact ⟨⟨m,h,rfl,by omega,hsg.trans (hsg2.mono (by omega) (Nat.le_refl _)),hp2,hO2,zAK hg1 hg2⟩,by dsimp only;omega⟩
 ·obtain rfl:i=0:=by omega
  rw [wr64 (n:=((a+n:Nat):Int) - a - 1) (by omega) (by omega)]
  refine ⟨fun x w2=>∃ (i:Nat) (g:Nat→zAE),x=(i:Int) - 1∧i≤n∧Seg a (a+n) f g∧HS lt a (a+n) i g∧Ow base w2 s (tab g L)∧w.grownBy w2 (Sl.v s).ownBlock,fun x _=>(x+1).toNat,?_,?_⟩
  ·exact ⟨n,g,by omega,Nat.le_refl _,hsg,⟨hp,fun i j h1 h2 h3=>by omega,fun k q h1 h2 h3 h4=>by omega⟩,hO1,hg1⟩
  rintro x w2 ⟨i,g,rfl,hi,hsg,hs,hO2,hg2⟩
  unfold zD8
  refine ⟨fun hc=>?_,fun hc=>?_⟩
  ·obtain ⟨m,rfl⟩:∃ m,i=m+1:=⟨i - 1,by omega⟩
   rw [show ((m+1:Nat):Int) - 1=(m:Int) by omega,wr64 (n:=(a:Int)+m) (by omega) (by omega)]
   refine zEn zAa hO2 (i':=a) (j':=a+m) rfl (by omega) (by omega) (by omega) fun w3 hO3 hg3=>?_
   unfold zDO
   refine zLP O hcmp hO3 (lo:=0) (hi:=m) (o:=a) (by omega) (by omega) (fun i c h1 h2 h3=>?_) fun h w4 hsg4 hp4 hO4 hg4=>?_
   ·rw [swp_o g (by unfold Child at h2;omega) (by unfold Child at h2;omega),swp_o g (by omega) (by unfold Child at h2;omega)]
    exact hs.hp i c (by omega) h2 (by omega)
   ·rw [wr64 (by omega) (by omega)]
    rw [Nat.add_zero] at hsg4
    exact ⟨⟨m,h,rfl,by omega,(hsg.trans (Seg.one g (by omega) (by omega) (by omega) (by omega))).trans (hsg4.mono (Nat.le_refl _) (by omega)),hs.step O (by omega) hsg4 hp4,hO4,zAK (zAK hg2 hg3) hg4⟩,by dsimp only;omega⟩
  ·obtain rfl:i=0:=by omega
   exact H g w2 hsg hs.so hO2 hg2
end
theorem zK1 {cmp:Value} {base:Nat} {w:World} {s:Sl} {L:Nat} {f:Nat→zAE} (hO:Ow base w s (tab f L)) {a b:Nat} (hA:a≤b) (hb:b≤L) {k:World→Prop}
  (H:∀ g w',Seg a b f g→Ow base w' s (tab g L)→w.grownBy w' (Sl.v s).ownBlock→k w'):
  Cl Tryz.prog zIV [Sl.v s,.int .i64 (a:Int),.int .i64 (b:Int),cmp].toArray w (fun e w'=>e=.returned (.tuple [].toArray)∧k w'):=by
 refine zIC s a b cmp w k ?_
 have hlen:=hO.len;have hsm:=hO.small
 rw [zDJ] at hlen
 unfold zEo
 refine ⟨fun x y w1=>∃ (i:Nat) (g:Nat→zAE),x=(i:Int)∧a≤i∧i≤b ∧ -1≤y∧y<b∧Seg a b f g∧Ow base w1 s (tab g L)∧w.grownBy w1 (Sl.v s).ownBlock,fun x y _=>(y - x).toNat,?_,?_⟩
 ·rw [wr64 (by omega) (by omega)]
  exact ⟨a,f,rfl,Nat.le_refl _,hA,by omega,by omega,.refl f,hO,World.grownBy.refl _ _⟩
 rintro x y w1 ⟨i,g,rfl,hi,hib,hy1,hy2,hsg,hO1,hg1⟩
 unfold zDe
 refine ⟨fun hc=>?_,fun hc=>H g w1 hsg hO1 hg1⟩
 refine zEn zAa hO1 (i':=i) (j':=y.toNat) rfl (by omega) (by omega) (by omega) fun w3 hO3 hg3=>?_
 unfold zCZ
 rw [wr64 (n:=(i:Int)+1) (by omega) (by omega),wr64 (n:=y - 1) (by omega) (by omega)]
 exact ⟨⟨i+1,_,by omega,by omega,by omega,by omega,by omega,.step i y.toNat (by omega) (by omega) (by omega) (by omega) hsg,hO3,zAK hg1 hg3⟩,by dsimp only;omega⟩
end SoCmpFunc_api_Pair
end Go.Proofs.YtealcoghiaeiiaaGreat.VG
set_option linter.unusedVariables false
namespace Go.Proofs.YtealcoghiaeiiaaGreat.VG
open Go.VB Go.VB.Srt Go.Proofs
namespace SoCmpFunc_api_Pair
section
variable {cmp:Value} {lt:zAE→zAE→Bool} (hcmp:Cmps cmp lt) {base:Nat} {w:World} {s:Sl} {L:Nat} {f:Nat→zAE}
include hcmp
theorem zH6 (hO:Ow base w s (tab f L)) {B:Nat} {v:Int} (hB:Row w B [.int .i64 v] zFp) {a b:Nat} (ha:a<L) (hb:b<L) {k:Int→Int→World→Prop}
  (H:∀ (x y:Nat) w' v',(x=a∨x=b)→(y=a∨y=b)→Row w' B [.int .i64 v'] zFp→w.grownBy w' (some B)→k x y w'):
  Cl Tryz.prog zJj [Sl.v s,.int .i64 (a:Int),.int .i64 (b:Int),.pointer (some ⟨B,0,none⟩),cmp].toArray w (fun e w'=>∃ (r0 r1:Int),e=.returned (.tuple [.int .i64 r0,.int .i64 r1].toArray)∧k r0 r1 w'):=by
 refine zJl s a b (some ⟨B,0,none⟩) cmp w k ?_
 unfold zFr
 refine zBP zAa hO (i':=b) rfl hb ?_
 refine zBP zAa hO (i':=a) rfl ha ?_
 obtain ⟨q,hq,hl⟩:=hcmp w (f b) (f a)
 refine ⟨q,hq,?_⟩
 intro w1 hb1
 have hB1:=hB.bel hb1
 refine ⟨fun _=>⟨by trivial,?_⟩,fun _=>H a b w1 v (.inl rfl) (.inr rfl) hB1 (zAT hb1 _)⟩
 refine zHM zF4 v hB1.cell ?_
 refine ⟨by trivial,?_⟩
 refine zNZ zF4 hB1 rfl rfl fun w2 hB2 hg2=>?_
 exact H b a w2 _ (.inr rfl) (.inl rfl) hB2 (zAK (zAT hb1 _) hg2)
theorem zJ2 (hO:Ow base w s (tab f L)) {B:Nat} {v:Int} (hB:Row w B [.int .i64 v] zFp) (hne:(Sl.v s).ownBlock≠some B) {a b c:Nat} (ha:a<L) (hb:b<L) (hc:c<L) {k:Int→World→Prop}
  (H:∀ (x:Nat) w' v',(x=a∨x=b∨x=c)→Row w' B [.int .i64 v'] zFp→w.grownBy w' (some B)→k x w'):
  Cl Tryz.prog zJk [Sl.v s,.int .i64 (a:Int),.int .i64 (b:Int),.int .i64 (c:Int),.pointer (some ⟨B,0,none⟩),cmp].toArray w (fun e w'=>∃ r0:Int,e=.returned (.int .i64 r0)∧k r0 w'):=by
 refine zJi s a b c (some ⟨B,0,none⟩) cmp w k ?_
 unfold zFs
 have kept:∀ {w w'},Ow base w s (tab f L)→w.grownBy w' (some B)→Ow base w' s (tab f L):=fun h hg=>h.kept hg (by
  cases hk:(Sl.v s).ownBlock with
  |none=>exact .inl rfl
  |some q=>exact .inr (by rw [← hk];exact hne))
 refine zH6 hcmp hO hB ha hb fun x y w1 v1 hx hy hB1 hg1=>?_
 have hO1:=kept hO hg1
 refine zH6 hcmp hO1 hB1 (a:=y) (b:=c) (by omega) hc fun x2 y2 w2 v2 hx2 hy2 hB2 hg2=>?_
 have hO2:=kept hO1 hg2
 refine zH6 hcmp hO2 hB2 (a:=x) (b:=x2) (by omega) (by omega) fun x3 y3 w3 v3 hx3 hy3 hB3 hg3=>?_
 exact H y3 w3 v3 (by omega) hB3 (zAK (zAK hg1 hg2) hg3)
theorem zFx (hO:Ow base w s (tab f L)) {B:Nat} {v:Int} (hB:Row w B [.int .i64 v] zFp) (hne:(Sl.v s).ownBlock≠some B) {a:Nat} (h0:1≤a) (ha:a+1<L) (hL:L≤140737488355328) {k:Int→World→Prop}
  (H:∀ (x:Nat) w' v',a - 1≤x→x≤a+1→Row w' B [.int .i64 v'] zFp→w.grownBy w' (some B)→k x w'):
  Cl Tryz.prog zHq [Sl.v s,.int .i64 (a:Int),.pointer (some ⟨B,0,none⟩),cmp].toArray w (fun e w'=>∃ r0:Int,e=.returned (.int .i64 r0)∧k r0 w'):=by
 refine zHk s a (some ⟨B,0,none⟩) cmp w k ?_
 unfold zEd
 rw [wr64 (n:=(a:Int) - 1) (by omega) (by omega),wr64 (n:=(a:Int)+1) (by omega) (by omega),show (a:Int) - 1=((a - 1:Nat):Int) by omega,show (a:Int)+1=((a+1:Nat):Int) by omega]
 exact zJ2 hcmp hO hB hne (a:=a - 1) (b:=a) (c:=a+1) (by omega) (by omega) ha fun x w' v' hx h1 h2=>H x w' v' (by omega) (by omega) h1 h2
theorem zMh (hO:Ow base w s (tab f L)) {a b:Nat} (hA:a<b) (hb:b≤L) {k:Int→Int→World→Prop}
  (H:∀ (x:Nat) (y:Int) w',a≤x→x<b→Bel w w'→k x y w'):
  Cl Tryz.prog zIc [Sl.v s,.int .i64 (a:Int),.int .i64 (b:Int),cmp].toArray w (fun e w'=>∃ (r0 r1:Int),e=.returned (.tuple [.int .i64 r0,.int .i64 r1].toArray)∧k r0 r1 w'):=by
 refine zIf s a b cmp w k ?_
 have hlen:=hO.len;have hsm:=hO.small
 rw [zDJ] at hlen
 unfold zE3
 refine zNE zPt ?_
 have hB:=Row.new w zJw zFp
 have hb1:Bel w (w.alloc (.cells zJw.toArray zFp)):=Bel.alloc _ _
 have hO1:=hO.bel hb1
 have hne:(Sl.v s).ownBlock≠some w.heap.size:=fun e=>by have:=(hO.row.lt _ e).2;omega
 have hw:w.heap.size≤w.heap.size:=Nat.le_refl _
 generalize hBd:w.heap.size=B at hB hne ⊢
 generalize (w.alloc (.cells zJw.toArray zFp))=w1 at hB hb1 hO1 ⊢
 obtain ⟨n,rfl⟩:∃ n,b=a+n:=⟨b - a,by omega⟩
 rw [wr64 (n:=((a+n:Nat):Int) - a) (by omega) (by omega),show ((a+n:Nat):Int) - a=(n:Int) by omega]
 have hq:(n:Int).tdiv 4=((n / 4:Nat):Int):=by rw [Int.tdiv_eq_ediv_of_nonneg (by omega)];omega
 refine zKn (by decide) (by rw [hq];omega) (by rw [hq];omega) ?_
 refine zKn (by decide) (by rw [hq];omega) (by rw [hq];omega) ?_
 refine zKn (by decide) (by rw [hq];omega) (by rw [hq];omega) ?_
 rw [hq]
 generalize hm:n / 4=m
 have hm1:4*m≤n:=by omega
 rw [wr64 (n:=(m:Int)*1) (by omega) (by omega),wr64 (n:=(m:Int)*2) (by omega) (by omega),wr64 (n:=(m:Int)*3) (by omega) (by omega),
  wr64 (n:=(a:Int)+m*1) (by omega) (by omega),wr64 (n:=(a:Int)+m*2) (by omega) (by omega),wr64 (n:=(a:Int)+m*3) (by omega) (by omega)]
 have j1:∀ (x:Nat) (w2:World) (v:Int),a≤x→x<a+n→Row w2 B [.int .i64 v] zFp→w1.grownBy w2 (some B)→zBW k (some ⟨B,0,none⟩) x w2:=by
  intro x w2 v h1 h2 h3 h4
  have hb2:Bel w w2:=hb1.grown h4 (fun r hr=>by cases hr;omega)
  unfold zBW
  refine zHM zF4 v h3.cell ?_
  exact ⟨fun _=>H x _ w2 h1 h2 hb2,fun _=>⟨fun _=>H x _ w2 h1 h2 hb2,fun _=>H x _ w2 h1 h2 hb2⟩⟩
 have kept:∀ {w w'},Ow base w s (tab f L)→w.grownBy w' (some B)→Ow base w' s (tab f L):=fun h hg=>h.kept hg (by
  cases hk:(Sl.v s).ownBlock with
  |none=>exact .inl rfl
  |some q=>exact .inr (by rw [← hk];exact hne))
 have j2:∀ (x y z:Nat) (w2:World) (v:Int),a≤x→x<a+n→a≤y→y<a+n→a≤z→z<a+n→Row w2 B [.int .i64 v] zFp→w1.grownBy w2 (some B)→zBY s cmp k (some ⟨B,0,none⟩) x y z w2:=by
  intro x y z w2 v h1 h2 h3 h4 h5 h6 h7 h8
  unfold zBY
  refine zJ2 hcmp (kept hO1 h8) h7 hne (by omega) (by omega) (by omega) fun q w3 v3 hq h9 h10=>j1 q w3 v3 (by omega) (by omega) h9 (zAK h8 h10)
 have e1:(a:Int)+m*1=((a+m:Nat):Int):=by omega
 have e2:(a:Int)+m*2=((a+2*m:Nat):Int):=by omega
 have e3:(a:Int)+m*3=((a+3*m:Nat):Int):=by omega
 rw [e1,e2,e3]
 refine ⟨fun h8=>⟨fun h50=>?_,fun _=>?_⟩,fun _=>j1 _ w1 _ (by omega) (by omega) hB (World.grownBy.refl _ _)⟩
 ·refine zFx hcmp hO1 hB hne (by omega) (by omega) (by omega) fun x w2 v2 hx1 hx2 hB2 hg2=>?_
  refine zFx hcmp (kept hO1 hg2) hB2 hne (by omega) (by omega) (by omega) fun y w3 v3 hy1 hy2 hB3 hg3=>?_
  refine zFx hcmp (kept hO1 (zAK hg2 hg3)) hB3 hne (by omega) (by omega) (by omega) fun z w4 v4 hz1 hz2 hB4 hg4=>?_
  exact j2 x y z w4 v4 (by omega) (by omega) (by omega) (by omega) (by omega) (by omega) hB4 (zAK (zAK hg2 hg3) hg4)
 ·exact j2 _ _ _ w1 _ (by omega) (by omega) (by omega) (by omega) (by omega) (by omega) hB (World.grownBy.refl _ _)
end
end SoCmpFunc_api_Pair
end Go.Proofs.YtealcoghiaeiiaaGreat.VG
set_option linter.unusedVariables false
set_option linter.unusedSimpArgs false
namespace Go.Proofs.YtealcoghiaeiiaaGreat.VG
open Go.VB Go.Proofs
def zM3 (x0:Int) (w:World) (Ret:Int→World→Prop):Prop:=
 Cl Tryz.prog 99 [(.int .u64 x0)].toArray w (fun e w=>∃ (r:Int),e=.returned (.int .i64 r)∧(Ret r w))
set_option maxRecDepth 100000 in
theorem zPi (x0:Int) (w:World) (Ret:Int→World→Prop) (H:zM3 x0 w Ret):Cl Tryz.prog 73 [(.int .u64 x0)].toArray w (fun e w'=>∃ (r0:Int),e=.returned (.int .i64 r0)∧Ret r0 w'):=by
 unfold zM3 at H
 refine zAY 8 (zipE 0 [(.int .u64 x0)]) Tryz.func73 rfl rfl (by rfl) rfl ?_
 intro a g
 replace g:Sat [] 8 [(0,(.int .u64 x0))] a:=g
 refine zAF (zAA (g.as_ rfl fun _ g=>(zAG (tn (zAF (zAV g rfl (fun h=>nomatch h) (fun _=>(zAP (tn (zAF (zAA (g.mv rfl fun _ g=>(g.call (zAQ g ent99 rfl rfl) H fun e w H=>?_)))))))))))))
 obtain ⟨r,rfl,H⟩:=H
 exact ⟨_,rfl,fun _ g=>(g.as_ rfl fun _ g=>(zAG (tn (zAf (zAt g rfl rfl ⟨_,rfl,H⟩)))))⟩
def zG3 (Ret:Int→World→Prop) (x0_3:Int) (x2_2:Int) (w:World):Prop:=
 opE Tryz.prog (Value.int .u8) (Go.convert 37 5 (.int .u64 x0_3)) w (fun x21 w=>opE Tryz.prog (Value.int .u8) (Instr.index 9 (.string (ByteArray.mk #[0,1,2,2,3,3,3,3,4,4,4,4,4,4,4,4,5,5,5,5,5,5,5,5,5,5,5,5,5,5,5,5,6,6,6,6,6,6,6,6,6,6,6,6,6,6,6,6,6,6,6,6,6,6,6,6,6,6,6,6,6,6,6,6,7,7,7,7,7,7,7,7,7,7,7,7,7,7,7,7,7,7,7,7,7,7,7,7,7,7,7,7,7,7,7,7,7,7,7,7,7,7,7,7,7,7,7,7,7,7,7,7,7,7,7,7,7,7,7,7,7,7,7,7,7,7,7,7,8,8,8,8,8,8,8,8,8,8,8,8,8,8,8,8,8,8,8,8,8,8,8,8,8,8,8,8,8,8,8,8,8,8,8,8,8,8,8,8,8,8,8,8,8,8,8,8,8,8,8,8,8,8,8,8,8,8,8,8,8,8,8,8,8,8,8,8,8,8,8,8,8,8,8,8,8,8,8,8,8,8,8,8,8,8,8,8,8,8,8,8,8,8,8,8,8,8,8,8,8,8,8,8,8,8,8,8,8,8,8,8,8,8,8,8,8,8,8,8,8,8,8,8,8,8,8,8])) (.int .u8 x21)) w (fun x22 w=>opE Tryz.prog (Value.int .i64) (Go.convert 5 3 (.int .u8 x22)) w (fun x23 w=>Ret (IntKind.wrap .i64 (x2_2+x23)) w)))
def zGt (Ret:Int→World→Prop) (x0_2:Int) (x2_1:Int) (w:World):Prop:=
 ((256≤x0_2)→(opE Tryz.prog (Value.int .u64) (binOp .shr 37 (.int .u64 x0_2) (.int .u64 8)) w (fun x16 w=>zG3 Ret x16 (IntKind.wrap .i64 (x2_1+8)) w)))∧(¬ (256≤x0_2)→(zG3 Ret x0_2 x2_1 w))
def zGu (Ret:Int→World→Prop) (x0_1:Int) (x2:Int) (w:World):Prop:=
 ((65536≤x0_1)→(opE Tryz.prog (Value.int .u64) (binOp .shr 37 (.int .u64 x0_1) (.int .u64 16)) w (fun x10 w=>zGt Ret x10 (IntKind.wrap .i64 (x2+16)) w)))∧(¬ (65536≤x0_1)→(zGt Ret x0_1 x2 w))
def zLU (x0:Int) (w:World) (Ret:Int→World→Prop):Prop:=
 ((4294967296≤x0)→(opE Tryz.prog (Value.int .u64) (binOp .shr 37 (.int .u64 x0) (.int .u64 32)) w (fun x6 w=>zGu Ret x6 32 w)))∧(¬ (4294967296≤x0)→(zGu Ret x0 0 w))
set_option maxRecDepth 100000 in
theorem zOU (x0:Int) (w:World) (Ret:Int→World→Prop) (H:zLU x0 w Ret):Cl Tryz.prog 99 [(.int .u64 x0)].toArray w (fun e w'=>∃ (r0:Int),e=.returned (.int .i64 r0)∧Ret r0 w'):=by
 unfold zLU at H
 refine zAY 25 (zipE 0 [(.int .u64 x0)]) Tryz.func99 rfl rfl (by rfl) rfl ?_
 intro a g
 replace g:Sat [] 25 [(0,(.int .u64 x0))] a:=g
 refine zAF (zAA (g.as_ rfl fun _ g=>(zAG (tn (zBG (ds:=[]) (N:=25) (σ:=Int × Int) (fun s=>[(0,(.int .u64 s.1)),(2,(.int .i64 s.2))]) (fun s w=>zGu Ret s.1 s.2 w) ?_ (fun hj1=>?_))))))
 ·rintro ⟨x0_1,x2⟩ w a H g
  try dsimp only at H g
  unfold zGu at H
  refine zBG (ds:=[]) (N:=25) (σ:=Int × Int) (fun s=>[(0,(.int .u64 s.1)),(2,(.int .i64 s.2))]) (fun s w=>zGt Ret s.1 s.2 w) ?_ (fun hj2=>?_)
  ·rintro ⟨x0_2,x2_1⟩ w a H g
   try dsimp only at H g
   unfold zGt at H
   refine zBG (ds:=[]) (N:=25) (σ:=Int × Int) (fun s=>[(0,(.int .u64 s.1)),(2,(.int .i64 s.2))]) (fun s w=>zG3 Ret s.1 s.2 w) ?_ (fun hj3=>?_)
   ·rintro ⟨x0_3,x2_2⟩ w a H g
    try dsimp only at H g
    unfold zG3 at H
    exact zAF (zAA (g.mv rfl fun _ g=>(g.mv rfl fun _ g=>(g.op (zGY g rfl) H fun x21 w a H g=>(g.op (zSy g rfl rfl) H fun x22 w a H g=>(g.op (zGY g rfl) H fun x23 w a H g=>(g.pur (zAn g rfl rfl) fun _ g=>(g.as_ rfl fun _ g=>(zAG (tn (zAf (zAt g rfl rfl ⟨_,rfl,H⟩))))))))))))
   ·refine zAF (zAA (g.mv rfl fun _ g=>(g.pur (zF7 g rfl rfl) fun _ g=>(zAG (tn (zAR g rfl (fun hc=>?_) (fun hc=>?_)))))))
    ·replace H:=H.1 hc
     exact zAF (zAA (g.mv rfl fun _ g=>(g.op (zFD g rfl rfl) H fun x16 w a H g=>(g.as_ rfl fun _ g=>(zAG (tn (zAA (g.mv rfl fun _ g=>(g.pur (zAn g rfl rfl) fun _ g=>(g.as_ rfl fun _ g=>(zAG (tn (hj3 (x16,(IntKind.wrap .i64 (x2_1+8))) _ _ H (g.weak ⟨rfl,rfl,trivial⟩))))))))))))))
    ·replace H:=H.2 hc
     exact zAP (tn (hj3 (x0_2,x2_1) _ _ H (g.weak ⟨rfl,rfl,trivial⟩)))
  ·refine zAF (zAA (g.mv rfl fun _ g=>(g.pur (zF7 g rfl rfl) fun _ g=>(zAG (tn (zAR g rfl (fun hc=>?_) (fun hc=>?_)))))))
   ·replace H:=H.1 hc
    exact zAF (zAA (g.mv rfl fun _ g=>(g.op (zFD g rfl rfl) H fun x10 w a H g=>(g.as_ rfl fun _ g=>(zAG (tn (zAA (g.mv rfl fun _ g=>(g.pur (zAn g rfl rfl) fun _ g=>(g.as_ rfl fun _ g=>(zAG (tn (hj2 (x10,(IntKind.wrap .i64 (x2+16))) _ _ H (g.weak ⟨rfl,rfl,trivial⟩))))))))))))))
   ·replace H:=H.2 hc
    exact zAP (tn (hj2 (x0_1,x2) _ _ H (g.weak ⟨rfl,rfl,trivial⟩)))
 ·refine zAF (zAA (g.mv rfl fun _ g=>(g.pur (zF7 g rfl rfl) fun _ g=>(zAG (tn (zAR g rfl (fun hc=>?_) (fun hc=>?_)))))))
  ·replace H:=H.1 hc
   exact zAF (zAA (g.mv rfl fun _ g=>(g.op (zFD g rfl rfl) H fun x6 w a H g=>(g.as_ rfl fun _ g=>(zAG (tn (zAA (g.as_ rfl fun _ g=>(zAG (tn (hj1 (x6,32) _ _ H (g.weak ⟨rfl,rfl,trivial⟩))))))))))))
  ·replace H:=H.2 hc
   exact zAP (tn (hj1 (x0,0) _ _ H (g.weak ⟨rfl,rfl,trivial⟩)))
def zHA (x0:Int) (w:World) (Ret:Int→World→Prop):Prop:=
 opE Tryz.prog (Value.int .u64) (Go.convert 3 143 (.int .i64 x0)) w (fun x4 w=>Cl Tryz.prog 73 [(.int .u64 x4)].toArray w (fun e w=>∃ (r:Int),e=.returned (.int .i64 r)∧(opE Tryz.prog (Value.int .u64) (binOp .shl 143 (.int .u64 1) (.int .i64 r)) w (fun x6 w=>Ret x6 w))))
set_option maxRecDepth 100000 in
theorem zKy (x0:Int) (w:World) (Ret:Int→World→Prop) (H:zHA x0 w Ret):Cl Tryz.prog 115 [(.int .i64 x0)].toArray w (fun e w'=>∃ (r0:Int),e=.returned (.int .u64 r0)∧Ret r0 w'):=by
 unfold zHA at H
 refine zAY 7 (zipE 0 [(.int .i64 x0)]) Tryz.func115 rfl rfl (by rfl) rfl ?_
 intro a g
 replace g:Sat [] 7 [(0,(.int .i64 x0))] a:=g
 refine zAF (zAA (g.as_ rfl fun _ g=>(zAG (tn (zAF (zAA (g.mv rfl fun _ g=>(g.op (zGY g rfl) H fun x4 w a H g=>(g.call (zAQ g ent73 rfl rfl) H fun e w H=>?_)))))))))
 obtain ⟨r,rfl,H⟩:=H
 exact ⟨_,rfl,fun _ g=>(g.op (zFD g rfl rfl) H fun x6 w a H g=>(g.as_ rfl fun _ g=>(zAG (tn (zAf (zAt g rfl rfl ⟨_,rfl,H⟩))))))⟩
def zE2 (x0:Option Addr) (Ret:Int→World→Prop) (w:World):Prop:=
 nilOk (.pointer x0)∧(opE Tryz.prog (Value.int .u64) (Instr.loadAt 182 (.pointer x0)) w (fun x32 w=>Ret x32 w))
def zE0 (x0:Option Addr) (Ret:Int→World→Prop) (w:World):Prop:=
 nextB w (fun w=>nilOk (.pointer x0)∧(nilOk (.pointer x0)∧((opE Tryz.prog (Value.int .u64) (Instr.loadAt 182 (.pointer x0)) w (fun x23 w=>opE Tryz.prog (Value.int .u64) (Instr.loadAt 182 (.pointer x0)) w (fun x26 w=>opP Tryz.prog (Value.int .u64) (binOp .shl 182 (.int .u64 x26) (.int .u64 17)) (fun x27=>opP Tryz.prog (Value.int .u64) (binOp .xor 182 (.int .u64 x23) (.int .u64 x27)) (fun x28=>nilOk (.pointer x0)∧(opU Tryz.prog (Instr.storeAt 182 (.pointer x0) (.int .u64 x28)) w (fun w=>zE2 x0 Ret w)))))))∧(opE Tryz.prog (Value.int .u64) (Instr.loadAt 182 (.pointer x0)) w (fun x26_1 w=>opP Tryz.prog (Value.int .u64) (binOp .shl 182 (.int .u64 x26_1) (.int .u64 17)) (fun x27_1=>opE Tryz.prog (Value.int .u64) (Instr.loadAt 182 (.pointer x0)) w (fun x23_1 w=>opP Tryz.prog (Value.int .u64) (binOp .xor 182 (.int .u64 x23_1) (.int .u64 x27_1)) (fun x28_1=>nilOk (.pointer x0)∧(opU Tryz.prog (Instr.storeAt 182 (.pointer x0) (.int .u64 x28_1)) w (fun w=>zE2 x0 Ret w))))))))))
def zEz (x0:Option Addr) (Ret:Int→World→Prop) (w:World):Prop:=
 nextB w (fun w=>nilOk (.pointer x0)∧(nilOk (.pointer x0)∧((opE Tryz.prog (Value.int .u64) (Instr.loadAt 182 (.pointer x0)) w (fun x14 w=>opE Tryz.prog (Value.int .u64) (Instr.loadAt 182 (.pointer x0)) w (fun x17 w=>opP Tryz.prog (Value.int .u64) (binOp .shr 182 (.int .u64 x17) (.int .u64 7)) (fun x18=>opP Tryz.prog (Value.int .u64) (binOp .xor 182 (.int .u64 x14) (.int .u64 x18)) (fun x19=>nilOk (.pointer x0)∧(opU Tryz.prog (Instr.storeAt 182 (.pointer x0) (.int .u64 x19)) w (fun w=>zE0 x0 Ret w)))))))∧(opE Tryz.prog (Value.int .u64) (Instr.loadAt 182 (.pointer x0)) w (fun x17_1 w=>opP Tryz.prog (Value.int .u64) (binOp .shr 182 (.int .u64 x17_1) (.int .u64 7)) (fun x18_1=>opE Tryz.prog (Value.int .u64) (Instr.loadAt 182 (.pointer x0)) w (fun x14_1 w=>opP Tryz.prog (Value.int .u64) (binOp .xor 182 (.int .u64 x14_1) (.int .u64 x18_1)) (fun x19_1=>nilOk (.pointer x0)∧(opU Tryz.prog (Instr.storeAt 182 (.pointer x0) (.int .u64 x19_1)) w (fun w=>zE0 x0 Ret w))))))))))
def zHZ (x0:Option Addr) (w:World) (Ret:Int→World→Prop):Prop:=
 nextB w (fun w=>nilOk (.pointer x0)∧(nilOk (.pointer x0)∧((opE Tryz.prog (Value.int .u64) (Instr.loadAt 182 (.pointer x0)) w (fun x5 w=>opE Tryz.prog (Value.int .u64) (Instr.loadAt 182 (.pointer x0)) w (fun x8 w=>opP Tryz.prog (Value.int .u64) (binOp .shl 182 (.int .u64 x8) (.int .u64 13)) (fun x9=>opP Tryz.prog (Value.int .u64) (binOp .xor 182 (.int .u64 x5) (.int .u64 x9)) (fun x10=>nilOk (.pointer x0)∧(opU Tryz.prog (Instr.storeAt 182 (.pointer x0) (.int .u64 x10)) w (fun w=>zEz x0 Ret w)))))))∧(opE Tryz.prog (Value.int .u64) (Instr.loadAt 182 (.pointer x0)) w (fun x8_1 w=>opP Tryz.prog (Value.int .u64) (binOp .shl 182 (.int .u64 x8_1) (.int .u64 13)) (fun x9_1=>opE Tryz.prog (Value.int .u64) (Instr.loadAt 182 (.pointer x0)) w (fun x5_1 w=>opP Tryz.prog (Value.int .u64) (binOp .xor 182 (.int .u64 x5_1) (.int .u64 x9_1)) (fun x10_1=>nilOk (.pointer x0)∧(opU Tryz.prog (Instr.storeAt 182 (.pointer x0) (.int .u64 x10_1)) w (fun w=>zEz x0 Ret w))))))))))
set_option maxRecDepth 100000 in
theorem zLA (x0:Option Addr) (w:World) (Ret:Int→World→Prop) (H:zHZ x0 w Ret):Cl Tryz.prog 116 [(.pointer x0)].toArray w (fun e w'=>∃ (r0:Int),e=.returned (.int .u64 r0)∧Ret r0 w'):=by
 unfold zHZ at H
 refine zAY 33 (zipE 0 [(.pointer x0)]) Tryz.func116 rfl rfl (by rfl) rfl ?_
 intro a g
 replace g:Sat [] 33 [(0,(.pointer x0))] a:=g
 refine zAF (zAA (g.as_ rfl fun _ g=>(zAG (tn (zBG (ds:=[]) (N:=33) (σ:=Unit) (fun s=>[(0,(.pointer x0))]) (fun s w=>zEz x0 Ret w) ?_ (fun hj1=>?_))))))
 ·rintro ⟨⟩ w a H g
  try dsimp only at H g
  unfold zEz at H
  refine zBG (ds:=[]) (N:=33) (σ:=Unit) (fun s=>[(0,(.pointer x0))]) (fun s w=>zE0 x0 Ret w) ?_ (fun hj2=>?_)
  ·rintro ⟨⟩ w a H g
   try dsimp only at H g
   unfold zE0 at H
   refine zBG (ds:=[]) (N:=33) (σ:=Unit) (fun s=>[(0,(.pointer x0))]) (fun s w=>zE2 x0 Ret w) ?_ (fun hj3=>?_)
   ·rintro ⟨⟩ w a H g
    try dsimp only at H g
    unfold zE2 at H
    refine zAF (zAA (g.mv rfl fun _ g=>(g.pur (zAS g rfl H.1) fun _ g=>?_)))
    replace H:=H.2
    exact g.op (zAI g rfl) H fun x32 w a H g=>g.as_ rfl fun _ g=>zAG (tn (zAf (zAt g rfl rfl ⟨_,rfl,H⟩)))
   ·refine zKK 10 fun w hB=>?_
    replace H:=H w hB
    refine g.ap 0 rfl (zAL g rfl) fun _ g=>g.ap 1 rfl (zAS g rfl H.1) fun _ g=>?_
    replace H:=H.2
    refine g.ap 3 rfl (zAL g rfl) fun _ g=>g.ap 4 rfl (zAS g rfl H.1) fun _ g=>?_
    replace H:=H.2
    refine WA.tw 2 5 rfl rfl ?_ ?_
    ·replace H:=H.1
     intro K hK
     refine g.wop (zAI g rfl) H fun x23 w a H g=>hK _ _ (g.o1 5 rfl (zAI g rfl) H fun x26 w a H g=>(g.ao 6 rfl (zFD g rfl rfl) H fun x27 a H g=>(g.ao 7 rfl (zFD g rfl rfl) H fun x28 a H g=>(g.ap 8 rfl (zAS g rfl H.1) fun _ g=>?_))))
     replace H:=H.2
     exact g.o1u 9 rfl (zAM g rfl rfl) H fun w a H g=>WA.ni ((tn (hj3 () _ _ H (g.weak ⟨rfl,trivial⟩))))
    ·replace H:=H.2
     intro K hK
     refine g.wop (zAI g rfl) H fun x26_1 w a H g=>hK _ _ (g.ao 6 rfl (zFD g rfl rfl) H fun x27_1 a H g=>(g.o1 2 rfl (zAI g rfl) H fun x23_1 w a H g=>(g.ao 7 rfl (zFD g rfl rfl) H fun x28_1 a H g=>(g.ap 8 rfl (zAS g rfl H.1) fun _ g=>?_))))
     replace H:=H.2
     exact g.o1u 9 rfl (zAM g rfl rfl) H fun w a H g=>WA.ni ((tn (hj3 () _ _ H (g.weak ⟨rfl,trivial⟩))))
  ·refine zKK 10 fun w hB=>?_
   replace H:=H w hB
   refine g.ap 0 rfl (zAL g rfl) fun _ g=>g.ap 1 rfl (zAS g rfl H.1) fun _ g=>?_
   replace H:=H.2
   refine g.ap 3 rfl (zAL g rfl) fun _ g=>g.ap 4 rfl (zAS g rfl H.1) fun _ g=>?_
   replace H:=H.2
   refine WA.tw 2 5 rfl rfl ?_ ?_
   ·replace H:=H.1
    intro K hK
    refine g.wop (zAI g rfl) H fun x14 w a H g=>hK _ _ (g.o1 5 rfl (zAI g rfl) H fun x17 w a H g=>(g.ao 6 rfl (zFD g rfl rfl) H fun x18 a H g=>(g.ao 7 rfl (zFD g rfl rfl) H fun x19 a H g=>(g.ap 8 rfl (zAS g rfl H.1) fun _ g=>?_))))
    replace H:=H.2
    exact g.o1u 9 rfl (zAM g rfl rfl) H fun w a H g=>WA.ni ((tn (hj2 () _ _ H (g.weak ⟨rfl,trivial⟩))))
   ·replace H:=H.2
    intro K hK
    refine g.wop (zAI g rfl) H fun x17_1 w a H g=>hK _ _ (g.ao 6 rfl (zFD g rfl rfl) H fun x18_1 a H g=>(g.o1 2 rfl (zAI g rfl) H fun x14_1 w a H g=>(g.ao 7 rfl (zFD g rfl rfl) H fun x19_1 a H g=>(g.ap 8 rfl (zAS g rfl H.1) fun _ g=>?_))))
    replace H:=H.2
    exact g.o1u 9 rfl (zAM g rfl rfl) H fun w a H g=>WA.ni ((tn (hj2 () _ _ H (g.weak ⟨rfl,trivial⟩))))
 ·refine zKK 10 fun w hB=>?_
  replace H:=H w hB
  refine g.ap 0 rfl (zAL g rfl) fun _ g=>g.ap 1 rfl (zAS g rfl H.1) fun _ g=>?_
  replace H:=H.2
  refine g.ap 3 rfl (zAL g rfl) fun _ g=>g.ap 4 rfl (zAS g rfl H.1) fun _ g=>?_
  replace H:=H.2
  refine WA.tw 2 5 rfl rfl ?_ ?_
  ·replace H:=H.1
   intro K hK
   refine g.wop (zAI g rfl) H fun x5 w a H g=>hK _ _ (g.o1 5 rfl (zAI g rfl) H fun x8 w a H g=>(g.ao 6 rfl (zFD g rfl rfl) H fun x9 a H g=>(g.ao 7 rfl (zFD g rfl rfl) H fun x10 a H g=>(g.ap 8 rfl (zAS g rfl H.1) fun _ g=>?_))))
   replace H:=H.2
   exact g.o1u 9 rfl (zAM g rfl rfl) H fun w a H g=>WA.ni ((tn (hj1 () _ _ H (g.weak ⟨rfl,trivial⟩))))
  ·replace H:=H.2
   intro K hK
   refine g.wop (zAI g rfl) H fun x8_1 w a H g=>hK _ _ (g.ao 6 rfl (zFD g rfl rfl) H fun x9_1 a H g=>(g.o1 2 rfl (zAI g rfl) H fun x5_1 w a H g=>(g.ao 7 rfl (zFD g rfl rfl) H fun x10_1 a H g=>(g.ap 8 rfl (zAS g rfl H.1) fun _ g=>?_))))
   replace H:=H.2
   exact g.o1u 9 rfl (zAM g rfl rfl) H fun w a H g=>WA.ni ((tn (hj1 () _ _ H (g.weak ⟨rfl,trivial⟩))))
end Go.Proofs.YtealcoghiaeiiaaGreat.VG
set_option linter.unusedVariables false
namespace Go.VB
theorem wru64 {n:Int} (h0:0≤n) (h1:n<18446744073709551616):IntKind.wrap .u64 n=n:=by
 unfold IntKind.wrap
 have h2:(2:Int) ^ IntKind.u64.bits=18446744073709551616:=by decide
 rw [h2]
 simp [IntKind.signed];omega
section
variable {P:Program} {w:World}
theorem zKd {src dst:TypeId} {q k:IntKind} {n:Int} (hs:(P.underlying src).isSome=true) (hd:P.underlying dst=some (.int k)) {K:Int→World→Prop} (H:K (k.wrap n) w):opE P (Value.int k) (Go.convert src dst (.int q n)) w K:=by
 obtain ⟨d,hd'⟩:=Option.isSome_iff_exists.mp hs
 refine ⟨_,w,?_,H⟩
 simp [convert,run_underlying hd',run_underlying hd,Conv.intToInt]
theorem zPn {t:TypeId} {k q:IntKind} {x y:Int} (hy:¬ y<0) (w:World):(binOp .shl t (.int k x) (.int q y)).run P w=.ok (.int k (k.wrap (x*2 ^ (min y.toNat k.bits)))) w:=by
 rw [binOp_shl];simp [Op.shift,hy]
theorem zNm {t:TypeId} {k q:IntKind} {x y:Int} (hy:¬ y<0) (w:World):(binOp .shr t (.int k x) (.int q y)).run P w=.ok (.int k (x.fdiv (2 ^ (min y.toNat k.bits)))) w:=by
 rw [binOp_shr];simp [Op.shift,hy]
theorem zRn {t:TypeId} {k:IntKind} {x y:Int} (w:World):(binOp .xor t (.int k x) (.int k y)).run P w=.ok (.int k (k.wrap ((BitVec.ofInt k.bits x) ^^^ (BitVec.ofInt k.bits y)).toNat)) w:=by
 rw [binOp_xor];simp [Op.intBits]
theorem zTf {t:TypeId} {x y:Int} (h0:0≤y) (h1:y<18446744073709551616) {K:Int→World→Prop} (H:∀ r:Int,0≤r→r≤y→K r w):opE P (Value.int .u64) (binOp .and t (.int .u64 x) (.int .u64 y)) w K:=by
 have hb:((BitVec.ofInt 64 x) &&& (BitVec.ofInt 64 y)).toNat≤y.toNat:=by
  rw [BitVec.toNat_and]
  refine Nat.le_trans Nat.and_le_right ?_
  rw [BitVec.toNat_ofInt]
  have:(y % ((2 ^ 64:Nat):Int)).toNat=y.toNat:=by
   rw [Int.emod_eq_of_lt h0 (by exact h1)]
  rw [this];exact Nat.le_refl _
 refine ⟨((((BitVec.ofInt 64 x) &&& (BitVec.ofInt 64 y)).toNat:Nat):Int),w,?_,H _ (by omega) (by omega)⟩
 rw [binOp_and]
 show Result.ok (Value.int .u64 (IntKind.wrap .u64 ((((BitVec.ofInt 64 x) &&& (BitVec.ofInt 64 y)).toNat:Nat):Int))) w=_
 rw [wru64 (by omega) (by omega)]
theorem zUM {t:Nat} {m:Int} {op:BinOp} {B:Nat} {v:Int} {e:TypeId} (hA:One P t) (hB:Row w B [.int .u64 v] e) (hsh:∀ x:Int,∃ y:Int,∀ w,(binOp op t (.int .u64 x) (.int .u64 m)).run P w=.ok (.int .u64 y) w) {K:World→Prop}
  (H:∀ v' w',Row w' B [.int .u64 v'] e→w.grownBy w' (some B)→K w'):
  nextB w (fun w=>nilOk (.pointer (some ⟨B,0,none⟩))∧(nilOk (.pointer (some ⟨B,0,none⟩))∧
   ((opE P (Value.int .u64) (Instr.loadAt t (.pointer (some ⟨B,0,none⟩))) w (fun x5 w=>opE P (Value.int .u64) (Instr.loadAt t (.pointer (some ⟨B,0,none⟩))) w (fun x8 w=>opP P (Value.int .u64) (binOp op t (.int .u64 x8) (.int .u64 m)) (fun x9=>opP P (Value.int .u64) (binOp .xor t (.int .u64 x5) (.int .u64 x9)) (fun x10=>nilOk (.pointer (some ⟨B,0,none⟩))∧(opU P (Instr.storeAt t (.pointer (some ⟨B,0,none⟩)) (.int .u64 x10)) w (fun w=>K w)))))))∧
   (opE P (Value.int .u64) (Instr.loadAt t (.pointer (some ⟨B,0,none⟩))) w (fun x8 w=>opP P (Value.int .u64) (binOp op t (.int .u64 x8) (.int .u64 m)) (fun x9=>opE P (Value.int .u64) (Instr.loadAt t (.pointer (some ⟨B,0,none⟩))) w (fun x5 w=>opP P (Value.int .u64) (binOp .xor t (.int .u64 x5) (.int .u64 x9)) (fun x10=>nilOk (.pointer (some ⟨B,0,none⟩))∧(opU P (Instr.storeAt t (.pointer (some ⟨B,0,none⟩)) (.int .u64 x10)) w (fun w=>K w)))))))))):=by
 intro w1 hb1
 have hB1:=hB.bel hb1
 obtain ⟨y,hy⟩:=hsh v
 have fin:nilOk (.pointer (some ⟨B,0,none⟩))∧(opU P (Instr.storeAt t (.pointer (some ⟨B,0,none⟩)) (.int .u64 (IntKind.wrap .u64 ((BitVec.ofInt IntKind.u64.bits v) ^^^ (BitVec.ofInt IntKind.u64.bits y)).toNat))) w1 (fun w=>K w)):=by
  refine ⟨trivial,?_⟩
  exact zNZ hA hB1 rfl rfl fun w2 h2 g2=>H _ w2 h2 (zAK (zAT hb1 _) g2)
 refine ⟨trivial,trivial,?_,?_⟩
 ·refine zHM hA v hB1.cell ?_
  refine zHM hA v hB1.cell ?_
  exact ⟨y,hy,_,fun w=>zRn w,fin⟩
 ·refine zHM hA v hB1.cell ?_
  refine ⟨y,hy,?_⟩
  refine zHM hA v hB1.cell ?_
  exact ⟨_,fun w=>zRn w,fin⟩
end
end Go.VB
namespace Go.Proofs.YtealcoghiaeiiaaGreat.VG
open Go.VB Go.Proofs
abbrev len8:ByteArray:=ByteArray.mk #[0,1,2,2,3,3,3,3,4,4,4,4,4,4,4,4,5,5,5,5,5,5,5,5,5,5,5,5,5,5,5,5,6,6,6,6,6,6,6,6,6,6,6,6,6,6,6,6,6,6,6,6,6,6,6,6,6,6,6,6,6,6,6,6,7,7,7,7,7,7,7,7,7,7,7,7,7,7,7,7,7,7,7,7,7,7,7,7,7,7,7,7,7,7,7,7,7,7,7,7,7,7,7,7,7,7,7,7,7,7,7,7,7,7,7,7,7,7,7,7,7,7,7,7,7,7,7,7,8,8,8,8,8,8,8,8,8,8,8,8,8,8,8,8,8,8,8,8,8,8,8,8,8,8,8,8,8,8,8,8,8,8,8,8,8,8,8,8,8,8,8,8,8,8,8,8,8,8,8,8,8,8,8,8,8,8,8,8,8,8,8,8,8,8,8,8,8,8,8,8,8,8,8,8,8,8,8,8,8,8,8,8,8,8,8,8,8,8,8,8,8,8,8,8,8,8,8,8,8,8,8,8,8,8,8,8,8,8,8,8,8,8,8,8,8,8,8,8,8,8,8,8,8,8,8,8]
theorem zS0:∀ i:Fin 256,(match len8[i.1]? with|some b=>decide (i.1<2 ^ b.toNat)&&(decide (i.1=0)||decide (2 ^ b.toNat≤2*i.1))&&decide (b.toNat≤8)|none=>false)=true:=by decide +kernel
def LenOk (x:Nat) (r:Nat):Prop:=r≤64∧x<2 ^ r∧(1≤x→2 ^ r≤2*x)
set_option maxRecDepth 100000 in
theorem zSE {x:Nat} (hx:x<18446744073709551616) {w:World} {k:Int→World→Prop} (H:∀ r:Nat,LenOk x r→k r w):
  Cl Tryz.prog zOm [.int .u64 (x:Int)].toArray w (fun e w'=>∃ r0:Int,e=.returned (.int .i64 r0)∧k r0 w'):=by
 refine zOU x w k ?_
 have j3:∀ (y a:Nat),y<256→y=x / 2 ^ a→a≤56→(a=0∨2 ^ a≤x)→zG3 k (y:Int) (a:Int) w:=by
  intro y a hy hya ha hax
  unfold zG3
  refine zKd (by kernel_rfl) (by kernel_rfl) ?_
  have hw:IntKind.wrap .u8 (y:Int)=(y:Int):=by
   unfold IntKind.wrap
   have h2:(2:Int) ^ IntKind.u8.bits=256:=by decide
   rw [h2]
   simp [IntKind.signed];omega
  rw [hw]
  have h8:=zS0 ⟨y,hy⟩
  cases hb:len8[y]? with
  |none=>rw [hb] at h8;cases h8
  |some b=>
   rw [hb] at h8
   simp only [Bool.and_eq_true,Bool.or_eq_true,decide_eq_true_eq] at h8
   refine ⟨(b.toNat:Int),w,?_,?_⟩
   ·simp [Instr.index,asIntOf,run_underlying Tryz.underlying9,hb]
   refine zKd (by kernel_rfl) (by kernel_rfl) ?_
   rw [wr64 (n:=((b.toNat:Nat):Int)) (by omega) (by omega),wr64 (by omega) (by omega)]
   have e:(a:Int)+((b.toNat:Nat):Int)=((a+b.toNat:Nat):Int):=by omega
   rw [e]
   obtain ⟨⟨h1,h2⟩,h3⟩:=h8
   refine H _ ⟨by omega,?_,fun hx1=>?_⟩
   ·rw [Nat.pow_add]
    rw [hya] at h1
    have:=Nat.lt_mul_of_div_lt h1 (Nat.two_pow_pos a)
    rw [Nat.mul_comm];exact this
   ·rw [Nat.pow_add]
    have hy1:1≤y:=by
     rcases hax with rfl|hax
     ·rw [hya];simpa using hx1
     ·rw [hya];exact (Nat.le_div_iff_mul_le (Nat.two_pow_pos a)).2 (by omega)
    have h4:2 ^ b.toNat≤2*y:=by omega
    calc 2 ^ a*2 ^ b.toNat≤2 ^ a*(2*y):=Nat.mul_le_mul_left _ h4
     _=2*(2 ^ a*y):=by rw [Nat.mul_left_comm]
     _≤2*x:=Nat.mul_le_mul_left _ (by rw [hya];exact Nat.mul_div_le x _)
 have sh:∀ (y n:Nat),((y:Int)).fdiv (2 ^ n)=((y / 2 ^ n:Nat):Int):=fun y n=>by
  have e:(2:Int) ^ n=((2 ^ n:Nat):Int):=by simp
  rw [e,Int.fdiv_eq_ediv_of_nonneg _ (Int.natCast_nonneg _),Int.natCast_ediv]
 have j2:∀ (y a:Nat),y<65536→y=x / 2 ^ a→a≤48→(a=0∨2 ^ a≤x)→zGt k (y:Int) (a:Int) w:=by
  intro y a hy hya ha hax
  unfold zGt
  refine ⟨fun hc=>⟨_,w,zNm (by decide) w,?_⟩,fun hc=>j3 y a (by omega) hya (by omega) hax⟩
  rw [wr64 (by omega) (by omega),show min (8:Int).toNat IntKind.u64.bits=8 by decide,sh,show (a:Int)+8=((a+8:Nat):Int) by omega]
  have e:y / 2 ^ 8=x / 2 ^ (a+8):=by rw [hya,Nat.div_div_eq_div_mul,Nat.pow_add]
  refine j3 _ (a+8) (by omega) e (by omega) (.inr ?_)
  have h5:1≤x / 2 ^ (a+8):=by rw [← e];omega
  have:=(Nat.le_div_iff_mul_le (Nat.two_pow_pos (a+8))).1 h5
  omega
 have j1:∀ (y a:Nat),y<4294967296→y=x / 2 ^ a→a≤32→(a=0∨2 ^ a≤x)→zGu k (y:Int) (a:Int) w:=by
  intro y a hy hya ha hax
  unfold zGu
  refine ⟨fun hc=>⟨_,w,zNm (by decide) w,?_⟩,fun hc=>j2 y a (by omega) hya (by omega) hax⟩
  rw [wr64 (by omega) (by omega),show min (16:Int).toNat IntKind.u64.bits=16 by decide,sh,show (a:Int)+16=((a+16:Nat):Int) by omega]
  have e:y / 2 ^ 16=x / 2 ^ (a+16):=by rw [hya,Nat.div_div_eq_div_mul,Nat.pow_add]
  refine j2 _ (a+16) (by omega) e (by omega) (.inr ?_)
  have h5:1≤x / 2 ^ (a+16):=by rw [← e];omega
  have:=(Nat.le_div_iff_mul_le (Nat.two_pow_pos (a+16))).1 h5
  omega
 unfold zLU
 refine ⟨fun hc=>⟨_,w,zNm (by decide) w,?_⟩,fun hc=>j1 x 0 (by omega) (by simp) (by omega) (.inl rfl)⟩
 rw [show min (32:Int).toNat IntKind.u64.bits=32 by decide,sh,show (32:Int)=((32:Nat):Int) by omega]
 exact j1 _ 32 (by omega) rfl (by omega) (.inr (by omega))
theorem zQK {x:Nat} (hx:x<18446744073709551616) {w:World} {k:Int→World→Prop} (H:∀ r:Nat,LenOk x r→k r w):
  Cl Tryz.prog zPk [.int .u64 (x:Int)].toArray w (fun e w'=>∃ r0:Int,e=.returned (.int .i64 r0)∧k r0 w'):=by
 refine zPi x w k ?_
 unfold zM3
 exact zSE hx H
theorem zPe {n:Nat} (h0:1≤n) (hn:n≤140737488355328) {w:World} {k:Int→World→Prop} (H:∀ m:Nat,n<m→m≤2*n→k m w):
  Cl Tryz.prog zKr [.int .i64 (n:Int)].toArray w (fun e w'=>∃ r0:Int,e=.returned (.int .u64 r0)∧k r0 w'):=by
 refine zKy n w k ?_
 unfold zHA
 refine zKd (by kernel_rfl) (by kernel_rfl) ?_
 rw [wru64 (by omega) (by omega)]
 refine zQK (by omega) fun r hr=>?_
 obtain ⟨h1,h2,h3⟩:=hr
 have h4:=h3 h0
 have hr48:r≤49:=by
  rcases Nat.lt_or_ge 49 r with h|h
  ·have:2 ^ 50≤2 ^ r:=Nat.pow_le_pow_right (by decide) h
   omega
  ·exact h
 have hmin:min ((r:Int)).toNat IntKind.u64.bits=r:=by
  show min r 64=r;omega
 refine ⟨_,w,zPn (by omega) w,?_⟩
 rw [hmin,show (1:Int)*2 ^ r=((2 ^ r:Nat):Int) by simp,wru64 (by omega) (by omega)]
 exact H _ h2 h4
theorem zPQ {w:World} {B:Nat} {v:Int} {e:TypeId} (hB:Row w B [.int .u64 v] e) {k:Int→World→Prop} (H:∀ (r v':Int) w',Row w' B [.int .u64 v'] e→w.grownBy w' (some B)→k r w'):
  Cl Tryz.prog zK5 [.pointer (some ⟨B,0,none⟩)].toArray w (fun e w'=>∃ r0:Int,e=.returned (.int .u64 r0)∧k r0 w'):=by
 refine zLA (some ⟨B,0,none⟩) w k ?_
 unfold zHZ
 refine zUM zFB hB (fun x=>⟨_,fun w=>zPn (by decide) w⟩) fun v1 w1 h1 g1=>?_
 unfold zEz
 refine zUM zFB h1 (fun x=>⟨_,fun w=>zNm (by decide) w⟩) fun v2 w2 h2 g2=>?_
 unfold zE0
 refine zUM zFB h2 (fun x=>⟨_,fun w=>zPn (by decide) w⟩) fun v3 w3 h3 g3=>?_
 unfold zE2
 refine ⟨trivial,?_⟩
 refine zHM zFB v3 h3.cell ?_
 exact H v3 v3 w3 h3 (zAK (zAK g1 g2) g3)
end Go.Proofs.YtealcoghiaeiiaaGreat.VG
set_option linter.unusedVariables false
namespace Go.Proofs.YtealcoghiaeiiaaGreat.VG
open Go.VB Go.VB.Srt Go.Proofs
namespace SoCmpFunc_api_Pair
theorem zMd {cmp:Value} {base:Nat} {w:World} {s:Sl} {L:Nat} {f:Nat→zAE} (hO:Ow base w s (tab f L)) {a b:Nat} (hA:a≤b) (hb:b≤L) {w0:World} {k:World→Prop}
  (H:∀ g w',Seg a b f g→Ow base w' s (tab g L)→w.grownBy w' (Sl.v s).ownBlock→k w'):
  Cl Tryz.prog zHy [Sl.v s,.int .i64 (a:Int),.int .i64 (b:Int),cmp].toArray w (fun e w'=>e=.returned (.tuple [].toArray)∧k w'):=by
 refine zH8 s a b cmp w k ?_
 have hlen:=hO.len;have hsm:=hO.small
 rw [zDJ] at hlen
 obtain ⟨n,rfl⟩:∃ n,b=a+n:=⟨b - a,by omega⟩
 unfold zEh
 rw [wr64 (n:=((a+n:Nat):Int) - a) (by omega) (by omega),show ((a+n:Nat):Int) - a=(n:Int) by omega]
 refine ⟨fun h8=>?_,fun _=>H f w (.refl f) hO (World.grownBy.refl _ _)⟩
 refine zKd (by kernel_rfl) (by kernel_rfl) ?_
 rw [wru64 (by omega) (by omega)]
 refine zNE zJE ?_
 have hr0:=Row.new w zDj zBn
 have hb1:Bel w (w.alloc (.cells zDj.toArray zBn)):=Bel.alloc _ _
 have hO1:=hO.bel hb1
 have hne:(Sl.v s).ownBlock≠some w.heap.size:=fun e=>by have:=(hO.row.lt _ e).2;omega
 have hB0:w.heap.size≤w.heap.size:=Nat.le_refl _
 generalize hBd:w.heap.size=B at hr0 hne ⊢
 generalize (w.alloc (.cells zDj.toArray zBn))=w1 at hr0 hb1 hO1 ⊢
 refine zNZ zFB hr0 rfl rfl fun w2 hr2 hg2=>?_
 have kept:∀ {g:Nat→zAE} {w w'},Ow base w s (tab g L)→w.grownBy w' (some B)→Ow base w' s (tab g L):=fun h hg=>h.kept hg (by
  cases hk:(Sl.v s).ownBlock with
  |none=>exact .inl rfl
  |some q=>exact .inr (by rw [← hk];exact hne))
 have hO2:=kept hO1 hg2
 have hb2:Bel w w2:=hb1.grown hg2 (fun r hr=>by cases hr;omega)
 refine zPe (by omega) (by omega) fun m hm1 hm2=>?_
 have hq:(n:Int).tdiv 4=((n / 4:Nat):Int):=by rw [Int.tdiv_eq_ediv_of_nonneg (by omega)];omega
 refine zKn (by decide) (by rw [hq];omega) (by rw [hq];omega) ?_
 rw [hq]
 generalize hn4:n / 4=q
 have hq1:4*q≤n:=by omega
 have hq2:2≤q:=by omega
 rw [wr64 (n:=(q:Int)*2) (by omega) (by omega),wr64 (n:=(a:Int)+q*2) (by omega) (by omega),wr64 (n:=(a:Int)+q*2 - 1) (by omega) (by omega)]
 refine ⟨fun x w3=>∃ (i:Nat) (g:Nat→zAE) (v:Int),x=(i:Int)∧a+2*q - 1≤i∧i≤a+2*q+2∧Seg a (a+n) f g∧Ow base w3 s (tab g L)∧Row w3 B [.int .u64 v] zBn∧w.heap.size≤w3.heap.size∧w.grownBy w3 (Sl.v s).ownBlock,fun x _=>(a+2*q+3 - x).toNat,?_,?_⟩
 ·exact ⟨a+2*q - 1,f,_,by omega,by omega,by omega,.refl f,hO2,hr2,hb2.le,zAT hb2 _⟩
 rintro x w3 ⟨i,g,v,rfl,hi1,hi2,hsg,hO3,hr3,hsz3,hg3⟩
 unfold zDT
 rw [wr64 (n:=((a+n:Nat):Int) - a) (by omega) (by omega),show ((a+n:Nat):Int) - a=(n:Int) by omega]
 refine zKn (by decide) (by rw [hq];omega) (by rw [hq];omega) ?_
 rw [hq,hn4,wr64 (n:=(q:Int)*2) (by omega) (by omega),wr64 (n:=(a:Int)+q*2) (by omega) (by omega),wr64 (n:=(a:Int)+q*2+1) (by omega) (by omega)]
 refine ⟨fun hc=>?_,fun hc=>H g w3 hsg hO3 hg3⟩
 refine zPQ hr3 fun r v' w4 hr4 hg4=>?_
 have hO4:=kept hO3 hg4
 rw [wru64 (n:=(m:Int) - 1) (by omega) (by omega)]
 refine zTf (by omega) (by omega) fun z hz0 hz1=>?_
 refine zKd (by kernel_rfl) (by kernel_rfl) ?_
 rw [wr64 (n:=z) (by omega) (by omega)]
 have hgo4:w.grownBy w4 (Sl.v s).ownBlock:=by
  refine ⟨hg4.os.trans hg3.os,hg4.tape.trans hg3.tape,hg4.output.trans hg3.output,Nat.le_trans hg3.size hg4.size,fun k hk hr=>?_⟩
  exact (hg4.block k (Nat.lt_of_lt_of_le hk hg3.size) (fun e=>by have:=Option.some.inj e;omega)).trans (hg3.block k hk hr)
 have j3:∀ y:Nat,y<n→zBI s a i (fun x11' w'=>(∃ (i:Nat) (g:Nat→zAE) (v:Int),x11'=(i:Int)∧a+2*q - 1≤i∧i≤a+2*q+2∧Seg a (a+n) f g∧Ow base w' s (tab g L)∧Row w' B [.int .u64 v] zBn∧w.heap.size≤w'.heap.size∧w.grownBy w' (Sl.v s).ownBlock)∧(a+2*q+3 - x11').toNat<(a+2*q+3 - (i:Int)).toNat) y w4:=by
  intro y hy
  unfold zBI
  rw [wr64 (n:=(a:Int)+y) (by omega) (by omega)]
  refine zEn zAa hO4 (i':=i) (j':=a+y) rfl (by omega) (by omega) (by omega) fun w5 hO5 hg5=>?_
  unfold zCN
  rw [wr64 (n:=(i:Int)+1) (by omega) (by omega)]
  exact ⟨⟨i+1,_,v',by omega,by omega,by omega,.step i (a+y) (by omega) (by omega) (by omega) (by omega) hsg,hO5,hr4.grown hg5 hne,Nat.le_trans hsz3 (Nat.le_trans hg4.size hg5.size),zAK hgo4 hg5⟩,by omega⟩
 obtain ⟨y,rfl⟩:∃ y:Nat,z=(y:Int):=⟨z.toNat,by omega⟩
 refine ⟨fun h=>?_,fun h=>j3 y (by omega)⟩
 rw [wr64 (n:=(y:Int) - n) (by omega) (by omega)]
 have:=j3 (y - n) (by omega)
 rw [show ((y - n:Nat):Int)=(y:Int) - n by omega] at this
 exact this
end SoCmpFunc_api_Pair
end Go.Proofs.YtealcoghiaeiiaaGreat.VG
set_option linter.unusedVariables false
namespace Go.VB.Srt
section
variable {α:Type} {lt:α→α→Bool}
theorem zBm.snoc (O:SWO lt) {a i:Nat} {g:Nat→α} (h:zBm lt a i g) (hai:a<i) (hl:Le lt (g (i - 1)) (g i)):zBm lt a (i+1) g:=by
 intro p q h1 h2 h3
 by_cases hq:q=i
 ·subst hq
  by_cases hp:p=q - 1
  ·rw [hp];exact hl
  ·exact O.trans (h p (q - 1) h1 (by omega) (by omega)) hl
 ·exact h p q h1 h2 (by omega)
structure Pt (Q:α→α→Bool) (a b i j:Nat) (g:Nat→α):Prop where
 lo:∀ k,a<k→k<i→Q (g a) (g k)=true
 hi:∀ k,j<k→k<b→Q (g a) (g k)=false
theorem Pt.start (Q:α→α→Bool) (a b:Nat) (g:Nat→α):Pt Q a b (a+1) (b - 1) g:=⟨fun k h1 h2=>by omega,fun k h1 h2=>by omega⟩
theorem Pt.incr {Q:α→α→Bool} {a b i j:Nat} {g:Nat→α} (h:Pt Q a b i j g) (hq:Q (g a) (g i)=true):Pt Q a b (i+1) j g:=⟨fun k h1 h2=>by
 by_cases hk:k=i
 ·subst hk;exact hq
 ·exact h.lo k h1 (by omega),h.hi⟩
theorem Pt.decr {Q:α→α→Bool} {a b i j:Nat} {g:Nat→α} (h:Pt Q a b i j g) (hq:Q (g a) (g j)=false):Pt Q a b i (j - 1) g:=⟨h.lo,fun k h1 h2=>by
 by_cases hk:k=j
 ·subst hk;exact hq
 ·exact h.hi k (by omega) h2⟩
theorem Pt.swap {Q:α→α→Bool} {a b i j:Nat} {g:Nat→α} (h:Pt Q a b i j g) (hai:a<i) (hij:i<j) (h1:Q (g a) (g i)=false) (h2:Q (g a) (g j)=true):Pt Q a b (i+1) (j - 1) (swp g i j):=by
 have e:swp g i j a=g a:=swp_o g (by omega) (by omega)
 refine ⟨fun k hk hk'=>?_,fun k hk hk'=>?_⟩
 ·rw [e]
  by_cases h3:k=i
  ·rw [h3,swp_i];exact h2
  ·rw [swp_o g h3 (by omega)];exact h.lo k hk (by omega)
 ·rw [e]
  by_cases h3:k=j
  ·rw [h3,swp_j];exact h1
  ·rw [swp_o g (by omega) h3];exact h.hi k (by omega) hk'
structure zLG (lt:α→α→Bool) (a b m:Nat) (h:Nat→α):Prop where
 lo:∀ k,a≤k→k<m→Le lt (h k) (h m)
 hi:∀ k,m<k→k<b→Le lt (h m) (h k)
theorem Pt.done (O:SWO lt) {a b i j:Nat} {g:Nat→α} (h:Pt (fun p z=>lt z p) a b i j g) (haj:a≤j) (hji:j<i):zLG lt a b j (swp g j a):=by
 have em:swp g j a j=g a:=swp_i g j a
 refine ⟨fun k h1 h2=>?_,fun k h1 h2=>?_⟩
 ·rw [em]
  by_cases hk:k=a
  ·rw [hk,swp_j];exact O.of_lt (h.lo j (by omega) hji)
  ·rw [swp_o g (by omega) hk];exact O.of_lt (h.lo k (by omega) (by omega))
 ·rw [em,swp_o g (by omega) (by omega)];exact h.hi k h1 h2
theorem zLG.left {a b m:Nat} {g h:Nat→α} (p:zLG lt a b m g) (s:Seg a m g h):zLG lt a b m h:=by
 have e:h m=g m:=s.out m (.inr (Nat.le_refl _))
 refine ⟨fun k h1 h2=>?_,fun k h1 h2=>?_⟩
 ·rw [e];exact s.all (Q:=fun z=>Le lt z (g m)) p.lo k h1 h2
 ·rw [e,s.out k (.inr (by omega))];exact p.hi k h1 h2
theorem zLG.right {a b m:Nat} {g h:Nat→α} (p:zLG lt a b m g) (s:Seg (m+1) b g h):zLG lt a b m h:=by
 have e:h m=g m:=s.out m (.inl (Nat.lt_succ_self _))
 refine ⟨fun k h1 h2=>?_,fun k h1 h2=>?_⟩
 ·rw [e,s.out k (.inl (by omega))];exact p.lo k h1 h2
 ·rw [e];exact s.all (Q:=fun z=>Le lt (g m) z) (fun k h1 h2=>p.hi k (by omega) h2) k (by omega) h2
structure Inv (lt:α→α→Bool) (a b a1 b1:Nat) (f g:Nat→α):Prop where
 ha:a≤a1
 hb:b1≤b
 seg:Seg a b f g
 s1:zBm lt a a1 g
 s2:zBm lt b1 b g
 l1:∀ k q,a≤k→k<a1→a1≤q→q<b→Le lt (g k) (g q)
 l2:∀ k q,a≤k→k<b1→b1≤q→q<b→Le lt (g k) (g q)
def Pre (lt:α→α→Bool) (a b:Nat) (f:Nat→α):Prop:=a=0∨∀ k,a≤k→k<b→Le lt (f (a - 1)) (f k)
theorem Pre.seg {a b:Nat} {f g:Nat→α} (h:Pre lt a b f) (s:Seg a b f g):Pre lt a b g:=by
 rcases h with h|h
 ·exact .inl h
 ·by_cases h0:a=0
  ·exact .inl h0
  ·refine .inr ?_
   rw [s.out (a - 1) (.inl (by omega))]
   exact s.all (Q:=fun z=>Le lt (f (a - 1)) z) h
theorem Inv.start (a b:Nat) (f:Nat→α):Inv lt a b a b f f:=⟨Nat.le_refl _,Nat.le_refl _,.refl f,fun i j h1 h2 h3=>by omega,fun i j h1 h2 h3=>by omega,fun k q h1 h2=>by omega,fun k q h1 h2 h3 h4=>by omega⟩
theorem Inv.turn {a b a1 b1:Nat} {f g h:Nat→α} (p:Inv lt a b a1 b1 f g) (s:Seg a1 b1 g h):Inv lt a b a1 b1 f h:=by
 have hA:=p.ha;have hB:=p.hb
 refine ⟨hA,hB,p.seg.trans (s.mono hA hB),p.s1.congr fun k h1 h2=>s.out k (.inl h2),p.s2.congr fun k h1 h2=>s.out k (.inr h1),fun k q h1 h2 h3 h4=>?_,fun k q h1 h2 h3 h4=>?_⟩
 ·rw [s.out k (.inl h2)]
  rcases Nat.lt_or_ge q b1 with h5|h5
  ·exact s.all (Q:=fun z=>Le lt (g k) z) (fun q h6 h7=>p.l1 k q h1 h2 h6 (by omega)) q h3 h5
  ·rw [s.out q (.inr h5)];exact p.l1 k q h1 h2 h3 h4
 ·rw [s.out q (.inr h3)]
  rcases Nat.lt_or_ge k a1 with h5|h5
  ·rw [s.out k (.inl h5)];exact p.l2 k q h1 h2 h3 h4
  ·exact s.all (Q:=fun z=>Le lt z (g q)) (fun k h6 h7=>p.l2 k q (by omega) h7 h3 h4) k h5 h2
theorem Inv.fin {a b a1 b1:Nat} {f g:Nat→α} (p:Inv lt a b a1 b1 f g) (s:zBm lt a1 b1 g):zBm lt a b g:=fun i j h1 h2 h3=>by
 rcases Nat.lt_or_ge i a1 with h4|h4
 ·rcases Nat.lt_or_ge j a1 with h5|h5
  ·exact p.s1 i j h1 h2 h5
  ·exact p.l1 i j h1 h4 h5 h3
 ·rcases Nat.lt_or_ge j b1 with h5|h5
  ·exact s i j h4 h2 h5
  ·rcases Nat.lt_or_ge i b1 with h6|h6
   ·exact p.l2 i j h1 h6 h5 h3
   ·exact p.s2 i j h6 h2 h3
theorem Inv.pre {a b a1 b1:Nat} {f g:Nat→α} (p:Inv lt a b a1 b1 f g) (h:Pre lt a b f):Pre lt a1 b1 g:=by
 have hA:=p.ha;have hB:=p.hb
 by_cases h0:a1=a
 ·subst h0
  rcases h.seg p.seg with h1|h1
  ·exact .inl h1
  ·exact .inr fun k h2 h3=>h1 k h2 (by omega)
 ·exact .inr fun k h2 h3=>p.l1 (a1 - 1) k (by omega) (by omega) h2 (by omega)
theorem Inv.goRight {a b a1 b1 m:Nat} {f g:Nat→α} (p:Inv lt a b a1 b1 f g) (hm1:a1≤m) (hm2:m<b1) (O:SWO lt) (q:zLG lt a1 b1 m g) (s:zBm lt a1 m g):Inv lt a b (m+1) b1 f g:=by
 have hA:=p.ha;have hB:=p.hb
 refine ⟨by omega,hB,p.seg,fun i j h1 h2 h3=>?_,p.s2,fun k r h1 h2 h3 h4=>?_,p.l2⟩
 ·rcases Nat.lt_or_ge i a1 with h4|h4
  ·rcases Nat.lt_or_ge j a1 with h5|h5
   ·exact p.s1 i j h1 h2 h5
   ·exact p.l1 i j h1 h4 h5 (by omega)
  ·by_cases h5:j=m
   ·rw [h5];exact q.lo i h4 (by omega)
   ·exact s i j h4 h2 (by omega)
 ·rcases Nat.lt_or_ge k a1 with h5|h5
  ·exact p.l1 k r h1 h5 (by omega) h4
  ·rcases Nat.lt_or_ge r b1 with h6|h6
   ·have e1:Le lt (g m) (g r):=q.hi r (by omega) h6
    by_cases h7:k=m
    ·rw [h7];exact e1
    ·exact O.trans (q.lo k h5 (by omega)) e1
   ·exact p.l2 k r h1 (by omega) h6 h4
theorem Inv.goLeft {a b a1 b1 m:Nat} {f g:Nat→α} (p:Inv lt a b a1 b1 f g) (hm1:a1≤m) (hm2:m<b1) (O:SWO lt) (q:zLG lt a1 b1 m g) (s:zBm lt (m+1) b1 g):Inv lt a b a1 m f g:=by
 have hA:=p.ha;have hB:=p.hb
 refine ⟨hA,by omega,p.seg,p.s1,fun i j h1 h2 h3=>?_,p.l1,fun k r h1 h2 h3 h4=>?_⟩
 ·rcases Nat.lt_or_ge j b1 with h5|h5
  ·by_cases h6:i=m
   ·rw [h6];exact q.hi j (by omega) h5
   ·exact s i j (by omega) h2 h5
  ·rcases Nat.lt_or_ge i b1 with h6|h6
   ·exact p.l2 i j (by omega) h6 h5 h3
   ·exact p.s2 i j h6 h2 h3
 ·rcases Nat.lt_or_ge r b1 with h5|h5
  ·rcases Nat.lt_or_ge k a1 with h6|h6
   ·exact p.l1 k r h1 h6 (by omega) h4
   ·have e1:Le lt (g k) (g m):=q.lo k h6 h2
    by_cases h7:r=m
    ·rw [h7];exact e1
    ·exact O.trans e1 (q.hi r (by omega) h5)
  ·exact p.l2 k r h1 (by omega) h5 h4
theorem Inv.goEqual {a b a1 b1 m:Nat} {f g:Nat→α} (p:Inv lt a b a1 b1 f g) (hm1:a1≤m) (hm2:m≤b1) (O:SWO lt) {v:α} (hv:∀ k,a1≤k→k<m→Le lt (g k) v) (hv2:∀ k,a1≤k→k<b1→Le lt v (g k)):Inv lt a b m b1 f g:=by
 have hA:=p.ha;have hB:=p.hb
 refine ⟨by omega,hB,p.seg,fun i j h1 h2 h3=>?_,p.s2,fun k r h1 h2 h3 h4=>?_,p.l2⟩
 ·rcases Nat.lt_or_ge i a1 with h4|h4
  ·rcases Nat.lt_or_ge j a1 with h5|h5
   ·exact p.s1 i j h1 h2 h5
   ·exact p.l1 i j h1 h4 h5 (by omega)
  ·exact O.trans (hv i h4 (by omega)) (hv2 j (by omega) (by omega))
 ·rcases Nat.lt_or_ge k a1 with h5|h5
  ·exact p.l1 k r h1 h5 (by omega) h4
  ·rcases Nat.lt_or_ge r b1 with h6|h6
   ·exact O.trans (hv k h5 h2) (hv2 r (by omega) h6)
   ·exact p.l2 k r h1 (by omega) h6 h4
end
end Go.VB.Srt
set_option linter.unusedVariables false
namespace Go.Proofs.YtealcoghiaeiiaaGreat.VG
open Go.VB Go.VB.Srt Go.Proofs
namespace SoCmpFunc_api_Pair
section
variable {cmp:Value} {lt:zAE→zAE→Bool} (O:SWO lt) (hcmp:Cmps cmp lt) {base:Nat} {w:World} {s:Sl} {L:Nat} {f:Nat→zAE}
include O hcmp
theorem zKz (hO:Ow base w s (tab f L)) {a b:Nat} (hA:a<b) (hb:b≤L) (hpre:Pre lt a b f) {k:Bool→World→Prop}
  (H:∀ r g w',Seg a b f g→(r=true→zBm lt a b g)→Ow base w' s (tab g L)→w.grownBy w' (Sl.v s).ownBlock→k r w'):
  Cl Tryz.prog zGo [Sl.v s,.int .i64 (a:Int),.int .i64 (b:Int),cmp].toArray w (fun e w'=>∃ r0:Bool,e=.returned (.bool r0)∧k r0 w'):=by
 refine zGn s a b cmp w k ?_
 have hlen:=hO.len;have hsm:=hO.small
 rw [zDJ] at hlen
 unfold zEA
 refine ⟨fun x y w1=>∃ (i:Nat) (g:Nat→zAE),x=(i:Int)∧0≤y∧y≤5∧a+1≤i∧i≤b∧Seg a b f g∧zBm lt a i g∧Ow base w1 s (tab g L)∧w.grownBy w1 (Sl.v s).ownBlock,fun _ y _=>(5 - y).toNat,?_,?_⟩
 ·rw [wr64 (by omega) (by omega)]
  exact ⟨a+1,f,by omega,by decide,by decide,Nat.le_refl _,by omega,.refl f,zBm.small (Nat.le_refl _),hO,World.grownBy.refl _ _⟩
 rintro x y w1 ⟨i0,g0,rfl,hy0,hy5,hi1,hi2,hsg0,hso0,hO1,hg1⟩
 unfold zCK
 refine ⟨fun hc5=>?_,fun _=>H false g0 w1 hsg0 (fun h=>(nomatch h)) hO1 hg1⟩
 -- the next step
 have next:∀ (i:Nat) (g:Nat→zAE) (w2:World),a+1≤i→i≤b→Seg a b f g→zBm lt a i g→Ow base w2 s (tab g L)→w.grownBy w2 (Sl.v s).ownBlock→
   zAe y (fun x9' x10' w'=>(∃ (i:Nat) (g:Nat→zAE),x9'=(i:Int)∧0≤x10'∧x10'≤5∧a+1≤i∧i≤b∧Seg a b f g∧zBm lt a i g∧Ow base w' s (tab g L)∧w.grownBy w' (Sl.v s).ownBlock)∧(5 - x10').toNat<(5 - y).toNat) (i:Int) w2:=by
  intro i g w2 h1 h2 h3 h4 h5 h6
  unfold zAe
  rw [wr64 (by omega) (by omega)]
  exact ⟨⟨i,g,rfl,by omega,by omega,h1,h2,h3,h4,h5,h6⟩,by omega⟩
 generalize hKl:(fun (x9' x10':Int) (w':World)=>(∃ (i:Nat) (g:Nat→zAE),x9'=(i:Int)∧0≤x10'∧x10'≤5∧a+1≤i∧i≤b∧Seg a b f g∧zBm lt a i g∧Ow base w' s (tab g L)∧w.grownBy w' (Sl.v s).ownBlock)∧(5 - x10').toNat<(5 - y).toNat)=Kl at next
 have j6:∀ (i:Nat) (g:Nat→zAE) (w2:World),a+1≤i→i≤b→Seg a b f g→zBm lt a i g→Ow base w2 s (tab g L)→w.grownBy w2 (Sl.v s).ownBlock→zAZ s b cmp y Kl (i:Int) w2:=by
  intro i g w2 h1 h2 h3 h4 h5 h6
  unfold zAZ
  refine ⟨fun _=>?_,fun _=>next i g w2 h1 h2 h3 h4 h5 h6⟩
  rw [wr64 (n:=(i:Int)+1) (by omega) (by omega)]
  refine ⟨fun x w3=>∃ (m:Nat) (h:Nat→zAE),x=(m:Int)∧i+1≤m∧m≤b+1∧Seg a b f h∧zBm lt a i h∧Ow base w3 s (tab h L)∧w.grownBy w3 (Sl.v s).ownBlock,fun x _=>(b+1 - x).toNat,?_,?_⟩
  ·exact ⟨i+1,g,by omega,Nat.le_refl _,by omega,h3,h4,h5,h6⟩
  rintro x w3 ⟨m,h,rfl,hm1,hm2,hsg,hso,hO3,hg3⟩
  unfold zCL
  refine ⟨fun hc=>?_,fun _=>next i h w3 h1 h2 hsg hso hO3 hg3⟩
  refine zBP zAa hO3 (i':=m) rfl (by omega) ?_
  refine zBP zAa hO3 (i':=m - 1) (by rw [wr64 (by omega) (by omega)];omega) (by omega) ?_
  obtain ⟨r,hr,hl⟩:=hcmp w3 (h m) (h (m - 1))
  refine ⟨r,hr,?_⟩
  rw [zFF hl]
  intro w4 hb4
  refine ⟨fun _=>next i h w4 h1 h2 hsg hso (hO3.bel hb4) (zAK hg3 (zAT hb4 _)),fun _=>?_⟩
  refine zEn zAa (hO3.bel hb4) (i':=m) (j':=m - 1) rfl (by rw [wr64 (by omega) (by omega)];omega) (by omega) (by omega) fun w5 hO5 hg5=>?_
  unfold zBC
  rw [wr64 (n:=(m:Int)+1) (by omega) (by omega)]
  exact ⟨⟨m+1,_,by omega,by omega,by omega,.step m (m - 1) (by omega) (by omega) (by omega) (by omega) hsg,hso.congr fun q h7 h8=>swp_o h (by omega) (by omega),hO5,zAK (zAK hg3 (zAT hb4 _)) hg5⟩,by dsimp only;omega⟩
 refine ⟨fun x w2=>∃ (i:Nat) (g:Nat→zAE),x=(i:Int)∧a+1≤i∧i≤b∧Seg a b f g∧zBm lt a i g∧Ow base w2 s (tab g L)∧w.grownBy w2 (Sl.v s).ownBlock,fun x _=>(b - x).toNat,⟨i0,g0,rfl,hi1,hi2,hsg0,hso0,hO1,hg1⟩,?_⟩
 rintro x w2 ⟨i,g,rfl,hi1,hi2,hsg,hso,hO2,hg2⟩
 unfold zCJ
 generalize hK3:(fun (x9_2':Int) (w':World)=>(∃ (i:Nat) (g:Nat→zAE),x9_2'=(i:Int)∧a+1≤i∧i≤b∧Seg a b f g∧zBm lt a i g∧Ow base w' s (tab g L)∧w.grownBy w' (Sl.v s).ownBlock)∧(b - x9_2').toNat<(b - (i:Int)).toNat)=K3
 have stop:∀ w3,Bel w2 w3→(i<b→lt (g i) (g (i - 1))=true)→zBE s a b cmp k y Kl (i:Int) K3 false w2:=by
  intro w3' hb3' hlt w3 hb3
  have hO3:=hO2.bel hb3
  have hg3:=zAK hg2 (zAT hb3 _)
  refine ⟨fun h=>(nomatch h),fun _=>⟨fun hib=>?_,fun hib=>⟨fun _=>H false g w3 hsg (fun h=>(nomatch h)) hO3 hg3,fun _=>?_⟩⟩⟩
  ·obtain rfl:i=b:=by omega
   exact H true g w3 hsg (fun _=>hso) hO3 hg3
  have hib':i<b:=by omega
  refine zEn zAa hO3 (i':=i) (j':=i - 1) rfl (by rw [wr64 (by omega) (by omega)];omega) (by omega) (by omega) fun w4 hO4 hg4=>?_
  have hg04:=zAK hg3 hg4
  have hsg4:Seg a b f (swp g i (i - 1)):=.step i (i - 1) (by omega) (by omega) (by omega) (by omega) hsg
  have hso4:zBm lt a (i - 1) (swp g i (i - 1)):=zBm.congr (f:=g) (fun p q h1 h2 h3=>hso p q h1 h2 (by omega)) fun q h1 h2=>swp_o g (by omega) (by omega)
  unfold zBD
  refine ⟨fun hia=>?_,fun hia=>j6 i _ w4 hi1 hi2 hsg4 (zBm.small (by rw [wr64 (by omega) (by omega)] at hia;omega)) hO4 hg04⟩
  rw [wr64 (by omega) (by omega)] at hia
  rw [wr64 (by omega) (by omega)]
  refine ⟨fun x w5=>∃ (j:Nat) (h:Nat→zAE),x=(j:Int)∧a≤j∧j≤i - 1∧Seg a b f h∧Hole lt a (i - 1) j h∧Ow base w5 s (tab h L)∧w.grownBy w5 (Sl.v s).ownBlock,fun x _=>x.toNat,⟨i - 1,_,by omega,by omega,Nat.le_refl _,hsg4,Hole.start hso4,hO4,hg04⟩,?_⟩
  rintro x w5 ⟨j,h,rfl,hj1,hj2,hsg5,hho,hO5,hg5⟩
  unfold zCI
  have out:∀ w6,Bel w5 w6→(j≤a∨Le lt (h (j - 1)) (h j))→zAZ s b cmp y Kl (i:Int) w6:=by
   intro w6 hb6 hd
   have:=hho.done O hd
   rw [show i - 1+1=i by omega] at this
   exact j6 i h w6 hi1 hi2 hsg5 this (hO5.bel hb6) (zAK hg5 (zAT hb6 _))
  refine ⟨fun hc=>?_,fun hc=>out w5 (Bel.refl _) (.inl (by omega))⟩
  refine zBP zAa hO5 (i':=j) rfl (by omega) ?_
  refine zBP zAa hO5 (i':=j - 1) (by rw [wr64 (by omega) (by omega)];omega) (by omega) ?_
  obtain ⟨r,hr,hl⟩:=hcmp w5 (h j) (h (j - 1))
  refine ⟨r,hr,?_⟩
  rw [zFF hl]
  intro w6 hb6
  refine ⟨fun hn=>out w6 hb6 (.inr (show lt (h j) (h (j - 1))=false by simpa using hn)),fun hn=>?_⟩
  have hn':lt (h j) (h (j - 1))=true:=by simpa using hn
  have haj:a<j:=by
   rcases Nat.lt_or_ge a j with h1|h1
   ·exact h1
   ·obtain rfl:j=a:=by omega
    rcases hpre.seg hsg5 with h2|h2
    ·omega
    ·have:=h2 j (Nat.le_refl _) hA
     unfold Le at this
     rw [hn'] at this;cases this
  refine zEn zAa (hO5.bel hb6) (i':=j) (j':=j - 1) rfl (by rw [wr64 (by omega) (by omega)];omega) (by omega) (by omega) fun w7 hO7 hg7=>?_
  unfold zA4
  rw [wr64 (n:=(j:Int) - 1) (by omega) (by omega)]
  exact ⟨⟨j - 1,_,by omega,by omega,by omega,.step j (j - 1) (by omega) (by omega) (by omega) (by omega) hsg5,hho.step O haj hj2 hn',hO7,zAK (zAK hg5 (zAT hb6 _)) hg7⟩,by dsimp only;omega⟩
 refine ⟨fun hc=>?_,fun hc=>stop w2 (Bel.refl _) (fun h=>by omega)⟩
 refine zBP zAa hO2 (i':=i) rfl (by omega) ?_
 refine zBP zAa hO2 (i':=i - 1) (by rw [wr64 (by omega) (by omega)];omega) (by omega) ?_
 obtain ⟨r,hr,hl⟩:=hcmp w2 (g i) (g (i - 1))
 refine ⟨r,hr,?_⟩
 rw [zFF hl]
 cases hlt:lt (g i) (g (i - 1)) with
 |true=>exact stop w2 (Bel.refl _) (fun _=>hlt)
 |false=>
  intro w3 hb3
  refine ⟨fun _=>?_,fun h=>(nomatch h)⟩
  rw [wr64 (n:=(i:Int)+1) (by omega) (by omega),← hK3]
  exact ⟨⟨i+1,g,by omega,by omega,by omega,hsg,hso.snoc O (by omega) hlt,hO2.bel hb3,zAK hg2 (zAT hb3 _)⟩,by omega⟩
end
end SoCmpFunc_api_Pair
end Go.Proofs.YtealcoghiaeiiaaGreat.VG
set_option linter.unusedVariables false
namespace Go.Proofs.YtealcoghiaeiiaaGreat.VG
open Go.VB Go.VB.Srt Go.Proofs
namespace SoCmpFunc_api_Pair
section
variable {cmp:Value} {lt:zAE→zAE→Bool} (O:SWO lt) (hcmp:Cmps cmp lt) {base:Nat} {w:World} {s:Sl} {L:Nat} {f:Nat→zAE}
include O hcmp
theorem zMg (hO:Ow base w s (tab f L)) {a b p:Nat} (hA:a≤p) (hp:p<b) (hb:b≤L) {k:Int→World→Prop}
  (H:∀ (m:Nat) g w',a<m→m≤b→Seg a b f g→(∀ q,a≤q→q<m→Le lt (g q) (f p))→Ow base w' s (tab g L)→w.grownBy w' (Sl.v s).ownBlock→k m w'):
  Cl Tryz.prog zHu [Sl.v s,.int .i64 (a:Int),.int .i64 (b:Int),.int .i64 (p:Int),cmp].toArray w (fun e w'=>∃ r0:Int,e=.returned (.int .i64 r0)∧k r0 w'):=by
 refine zHo s a b p cmp w k ?_
 have hlen:=hO.len;have hsm:=hO.small
 rw [zDJ] at hlen
 unfold zEY
 refine zEn zAa hO (i':=a) (j':=p) rfl rfl (by omega) (by omega) fun w1 hO1 hg1=>?_
 have hs1:Seg a b f (swp f a p):=Seg.one f (by omega) (by omega) (by omega) (by omega)
 have ha1:swp f a p a=f p:=swp_i f a p
 generalize (swp f a p)=f1 at hO1 hs1 ha1
 unfold zB2
 rw [wr64 (n:=(a:Int)+1) (by omega) (by omega),wr64 (n:=(b:Int) - 1) (by omega) (by omega)]
 refine ⟨fun x y w2=>∃ (i j:Nat) (g:Nat→zAE),x=(i:Int)∧y=(j:Int)∧a<i∧a≤j∧i≤j+1∧j<b∧Seg a b f g∧g a=f p∧Pt (fun q z=>!(lt q z)) a b i j g∧Ow base w2 s (tab g L)∧w.grownBy w2 (Sl.v s).ownBlock,fun x y _=>(y+1 - x).toNat,?_,?_⟩
 ·exact ⟨a+1,b - 1,f1,by omega,by omega,by omega,by omega,by omega,by omega,hs1,ha1,Pt.start _ a b f1,hO1,hg1⟩
 rintro x y w2 ⟨i0,j0,g,rfl,rfl,hi0,hj0,hij0,hjb,hsg,hga,hpt0,hO2,hg2⟩
 unfold zDL
 generalize hKl2:(fun (x11' x12':Int) (w':World)=>(∃ (i j:Nat) (g:Nat→zAE),x11'=(i:Int)∧x12'=(j:Int)∧a<i∧a≤j∧i≤j+1∧j<b∧Seg a b f g∧g a=f p∧Pt (fun q z=>!(lt q z)) a b i j g∧Ow base w' s (tab g L)∧w.grownBy w' (Sl.v s).ownBlock)∧(x12'+1 - x11').toNat<((j0:Int)+1 - (i0:Int)).toNat)=Kl2
 refine ⟨fun x w3=>∃ i:Nat,x=(i:Int)∧i0≤i∧i≤j0+1∧Pt (fun q z=>!(lt q z)) a b i j0 g∧Bel w2 w3,fun x _=>(j0+1 - x).toNat,⟨i0,rfl,Nat.le_refl _,hij0,hpt0,Bel.refl _⟩,?_⟩
 rintro x w3 ⟨i,rfl,hi1,hi2,hpt,hb3⟩
 have hO3:=hO2.bel hb3
 unfold zDG
 generalize hKl3:(fun (x11_1':Int) (w':World)=>(∃ i:Nat,x11_1'=(i:Int)∧i0≤i∧i≤j0+1∧Pt (fun q z=>!(lt q z)) a b i j0 g∧Bel w2 w')∧(j0+1 - x11_1').toNat<((j0:Int)+1 - (i:Int)).toNat)=Kl3
 -- from above
 have down:∀ w4,Bel w3 w4→(i≤j0→lt (g a) (g i)=true)→zB4 s a cmp k (j0:Int) Kl2 (i:Int) Kl3 false w3:=by
  intro w4' hb4' hlti w4 hb4
  refine ⟨fun h=>(nomatch h),fun _=>?_⟩
  refine ⟨fun y w5=>∃ j:Nat,y=(j:Int)∧a≤j∧i≤j+1∧j≤j0∧Pt (fun q z=>!(lt q z)) a b i j g∧Bel w2 w5,fun y _=>y.toNat,⟨j0,rfl,hj0,hi2,Nat.le_refl _,hpt,hb3.trans hb4⟩,?_⟩
  rintro y w5 ⟨j,rfl,hj1,hj2,hj3,hptj,hb5⟩
  have hO5:=hO2.bel hb5
  unfold zDH
  generalize hKl5:(fun (x12_1':Int) (w':World)=>(∃ j:Nat,x12_1'=(j:Int)∧a≤j∧i≤j+1∧j≤j0∧Pt (fun q z=>!(lt q z)) a b i j g∧Bel w2 w')∧x12_1'.toNat<((j:Int)).toNat)=Kl5
  have stop:(i≤j→lt (g a) (g j)=false)→zB7 s k Kl2 (i:Int) (j:Int) Kl5 false w5:=by
   intro hltj w6 hb6
   have hO6:=hO5.bel hb6
   have hg6:=zAK hg2 (zAT (hb5.trans hb6) (Sl.v s).ownBlock)
   refine ⟨fun h=>(nomatch h),fun _=>⟨fun hc=>?_,fun hc=>?_⟩⟩
   ·refine H i g w6 (by omega) (by omega) hsg (fun q h1 h2=>?_) hO6 hg6
    rw [← hga]
    by_cases hq:q=a
    ·rw [hq];exact O.refl _
    ·have:=hptj.lo q (by omega) h2
     unfold Le;simpa using this
   ·have hij:i<j:=by
     rcases Nat.lt_or_ge i j with h1|h1
     ·exact h1
     ·obtain rfl:i=j:=by omega
      have h2:=hlti (by omega)
      have h3:=hltj (Nat.le_refl _)
      rw [h2] at h3;cases h3
    refine zEn zAa hO6 (i':=i) (j':=j) rfl rfl (by omega) (by omega) fun w7 hO7 hg7=>?_
    unfold zB8
    rw [wr64 (n:=(i:Int)+1) (by omega) (by omega),wr64 (n:=(j:Int) - 1) (by omega) (by omega),← hKl2]
    exact ⟨⟨i+1,j - 1,_,by omega,by omega,by omega,by omega,by omega,by omega,.step i j (by omega) (by omega) (by omega) (by omega) hsg,by rw [swp_o g (by omega) (by omega)];exact hga,
     hptj.swap (by omega) hij (by simp [hlti (by omega)]) (by simp [hltj (by omega)]),hO7,zAK hg6 hg7⟩,by omega⟩
  refine ⟨fun hc=>?_,fun hc=>stop (fun h=>by omega)⟩
  refine zBP zAa hO5 (i':=a) rfl (by omega) ?_
  refine zBP zAa hO5 (i':=j) rfl (by omega) ?_
  obtain ⟨r,hr,hl⟩:=hcmp w5 (g a) (g j)
  refine ⟨r,hr,?_⟩
  rw [zFF hl]
  cases hlt:lt (g a) (g j) with
  |false=>exact stop (fun _=>hlt)
  |true=>
   intro w6 hb6
   refine ⟨fun _=>?_,fun h=>(nomatch h)⟩
   rw [wr64 (n:=(j:Int) - 1) (by omega) (by omega),← hKl5]
   exact ⟨⟨j - 1,by omega,by omega,by omega,by omega,hptj.decr (by simp [hlt]),hb5.trans hb6⟩,by omega⟩
 refine ⟨fun hc=>?_,fun hc=>down w3 (Bel.refl _) (fun h=>by omega)⟩
 refine zBP zAa hO3 (i':=a) rfl (by omega) ?_
 refine zBP zAa hO3 (i':=i) rfl (by omega) ?_
 obtain ⟨r,hr,hl⟩:=hcmp w3 (g a) (g i)
 refine ⟨r,hr,?_⟩
 rw [zFF hl]
 cases hlt:lt (g a) (g i) with
 |true=>exact down w3 (Bel.refl _) (fun _=>hlt)
 |false=>
  intro w4 hb4
  refine ⟨fun _=>?_,fun h=>(nomatch h)⟩
  rw [wr64 (n:=(i:Int)+1) (by omega) (by omega),← hKl3]
  exact ⟨⟨i+1,by omega,by omega,by omega,hpt.incr (by simp [hlt]),hb3.trans hb4⟩,by omega⟩
theorem zNS (hO:Ow base w s (tab f L)) {a b p:Nat} (hA:a≤p) (hp:p<b) (hb:b≤L) {k:Int→Bool→World→Prop}
  (H:∀ (m:Nat) (r:Bool) g w',a≤m→m<b→Seg a b f g→zLG lt a b m g→Ow base w' s (tab g L)→w.grownBy w' (Sl.v s).ownBlock→k m r w'):
  Cl Tryz.prog zI9 [Sl.v s,.int .i64 (a:Int),.int .i64 (b:Int),.int .i64 (p:Int),cmp].toArray w (fun e w'=>∃ (r0:Int) (r1:Bool),e=.returned (.tuple [.int .i64 r0,.bool r1].toArray)∧k r0 r1 w'):=by
 refine zJD s a b p cmp w k ?_
 have hlen:=hO.len;have hsm:=hO.small
 rw [zDJ] at hlen
 unfold zFN
 refine zEn zAa hO (i':=a) (j':=p) rfl rfl (by omega) (by omega) fun w1 hO1 hg1=>?_
 have hs1:Seg a b f (swp f a p):=Seg.one f (by omega) (by omega) (by omega) (by omega)
 generalize (swp f a p)=f1 at hO1 hs1
 unfold zDD
 rw [wr64 (n:=(a:Int)+1) (by omega) (by omega)]
 have hbm:IntKind.wrap .i64 ((b:Int) - 1)=((b - 1:Nat):Int):=by rw [wr64 (by omega) (by omega)];omega
 -- the main loop,from i,j on
 have main:∀ (i0 j0:Nat) (g0:Nat→zAE) (w0:World),a<i0→a≤j0→i0≤j0+1→j0<b→Seg a b f g0→Pt (fun q z=>lt z q) a b i0 j0 g0→Ow base w0 s (tab g0 L)→w.grownBy w0 (Sl.v s).ownBlock→
   ∃ (I:Int→Int→World→Prop) (μ:Int→Int→World→Nat),I (i0:Int) (j0:Int) w0∧∀ (x12_1:Int) (x13_1:Int) w,I x12_1 x13_1 w→zC3 s a cmp k x12_1 x13_1 w (fun x12_1' x13_1' w'=>I x12_1' x13_1' w'∧μ x12_1' x13_1' w'<μ x12_1 x13_1 w):=by
  intro i0 j0 g0 w0 h1 h2 h3 h4 h5 h6 h7 h8
  refine ⟨fun x y w2=>∃ (i j:Nat) (g:Nat→zAE),x=(i:Int)∧y=(j:Int)∧a<i∧a≤j∧i≤j+1∧j<b∧Seg a b f g∧Pt (fun q z=>lt z q) a b i j g∧Ow base w2 s (tab g L)∧w.grownBy w2 (Sl.v s).ownBlock,fun x y _=>(y+1 - x).toNat,⟨i0,j0,g0,rfl,rfl,h1,h2,h3,h4,h5,h6,h7,h8⟩,?_⟩
  rintro x y w2 ⟨i0,j0,g,rfl,rfl,hi0,hj0,hij0,hjb,hsg,hpt0,hO2,hg2⟩
  unfold zC3
  generalize hKl8:(fun (x12' x13':Int) (w':World)=>(∃ (i j:Nat) (g:Nat→zAE),x12'=(i:Int)∧x13'=(j:Int)∧a<i∧a≤j∧i≤j+1∧j<b∧Seg a b f g∧Pt (fun q z=>lt z q) a b i j g∧Ow base w' s (tab g L)∧w.grownBy w' (Sl.v s).ownBlock)∧(x13'+1 - x12').toNat<((j0:Int)+1 - (i0:Int)).toNat)=Kl8
  refine ⟨fun x w3=>∃ i:Nat,x=(i:Int)∧i0≤i∧i≤j0+1∧Pt (fun q z=>lt z q) a b i j0 g∧Bel w2 w3,fun x _=>(j0+1 - x).toNat,⟨i0,rfl,Nat.le_refl _,hij0,hpt0,Bel.refl _⟩,?_⟩
  rintro x w3 ⟨i,rfl,hi1,hi2,hpt,hb3⟩
  have hO3:=hO2.bel hb3
  unfold zD4
  generalize hKl9:(fun (x12_2':Int) (w':World)=>(∃ i:Nat,x12_2'=(i:Int)∧i0≤i∧i≤j0+1∧Pt (fun q z=>lt z q) a b i j0 g∧Bel w2 w')∧(j0+1 - x12_2').toNat<((j0:Int)+1 - (i:Int)).toNat)=Kl9
  have down:(i≤j0→lt (g i) (g a)=false)→zCx s a cmp k (j0:Int) Kl8 (i:Int) Kl9 false w3:=by
   intro hlti w4 hb4
   refine ⟨fun h=>(nomatch h),fun _=>?_⟩
   refine ⟨fun y w5=>∃ j:Nat,y=(j:Int)∧a≤j∧i≤j+1∧j≤j0∧Pt (fun q z=>lt z q) a b i j g∧Bel w2 w5,fun y _=>y.toNat,⟨j0,rfl,hj0,hi2,Nat.le_refl _,hpt,hb3.trans hb4⟩,?_⟩
   rintro y w5 ⟨j,rfl,hj1,hj2,hj3,hptj,hb5⟩
   have hO5:=hO2.bel hb5
   unfold zDv
   generalize hKl11:(fun (x13_2':Int) (w':World)=>(∃ j:Nat,x13_2'=(j:Int)∧a≤j∧i≤j+1∧j≤j0∧Pt (fun q z=>lt z q) a b i j g∧Bel w2 w')∧x13_2'.toNat<((j:Int)).toNat)=Kl11
   have stop:(i≤j→lt (g j) (g a)=true)→zCw s a k Kl8 (i:Int) (j:Int) Kl11 false w5:=by
    intro hltj w6 hb6
    have hO6:=hO5.bel hb6
    have hg6:=zAK hg2 (zAT (hb5.trans hb6) (Sl.v s).ownBlock)
    refine ⟨fun h=>(nomatch h),fun _=>⟨fun hc=>?_,fun hc=>?_⟩⟩
    ·refine zEn zAa hO6 (i':=j) (j':=a) rfl rfl (by omega) (by omega) fun w7 hO7 hg7=>?_
     unfold zCv
     exact H j false _ w7 hj1 (by omega) (.step j a (by omega) (by omega) (by omega) (by omega) hsg) (hptj.done O hj1 (by omega)) hO7 (zAK hg6 hg7)
    ·have hij:i<j:=by
      rcases Nat.lt_or_ge i j with h1|h1
      ·exact h1
      ·obtain rfl:i=j:=by omega
       have h2:=hlti (by omega)
       have h3:=hltj (Nat.le_refl _)
       rw [h2] at h3;cases h3
     refine zEn zAa hO6 (i':=i) (j':=j) rfl rfl (by omega) (by omega) fun w7 hO7 hg7=>?_
     unfold zC1
     rw [wr64 (n:=(i:Int)+1) (by omega) (by omega),wr64 (n:=(j:Int) - 1) (by omega) (by omega),← hKl8]
     exact ⟨⟨i+1,j - 1,_,by omega,by omega,by omega,by omega,by omega,by omega,.step i j (by omega) (by omega) (by omega) (by omega) hsg,
      hptj.swap (by omega) hij (hlti (by omega)) (hltj (by omega)),hO7,zAK hg6 hg7⟩,by omega⟩
   refine ⟨fun hc=>?_,fun hc=>stop (fun h=>by omega)⟩
   refine zBP zAa hO5 (i':=j) rfl (by omega) ?_
   refine zBP zAa hO5 (i':=a) rfl (by omega) ?_
   obtain ⟨r,hr,hl⟩:=hcmp w5 (g j) (g a)
   refine ⟨r,hr,?_⟩
   rw [zFF hl]
   cases hlt:lt (g j) (g a) with
   |true=>exact stop (fun _=>hlt)
   |false=>
    intro w6 hb6
    refine ⟨fun _=>?_,fun h=>(nomatch h)⟩
    rw [wr64 (n:=(j:Int) - 1) (by omega) (by omega),← hKl11]
    exact ⟨⟨j - 1,by omega,by omega,by omega,by omega,hptj.decr hlt,hb5.trans hb6⟩,by omega⟩
  refine ⟨fun hc=>?_,fun hc=>down (fun h=>by omega)⟩
  refine zBP zAa hO3 (i':=i) rfl (by omega) ?_
  refine zBP zAa hO3 (i':=a) rfl (by omega) ?_
  obtain ⟨r,hr,hl⟩:=hcmp w3 (g i) (g a)
  refine ⟨r,hr,?_⟩
  rw [zFF hl]
  cases hlt:lt (g i) (g a) with
  |false=>exact down (fun _=>hlt)
  |true=>
   intro w4 hb4
   refine ⟨fun _=>?_,fun h=>(nomatch h)⟩
   rw [wr64 (n:=(i:Int)+1) (by omega) (by omega),← hKl9]
   exact ⟨⟨i+1,by omega,by omega,by omega,hpt.incr hlt,hb3.trans hb4⟩,by omega⟩
 -- ahead of it: from below,then from above
 refine ⟨fun x w3=>∃ i:Nat,x=(i:Int)∧a<i∧i≤b - 1+1∧Pt (fun q z=>lt z q) a b i (b - 1) f1∧Bel w1 w3,fun x _=>(b+1 - x).toNat,⟨a+1,by omega,by omega,by omega,Pt.start _ a b f1,Bel.refl _⟩,?_⟩
 rintro x w3 ⟨i,rfl,hi1,hi2,hpt,hb3⟩
 have hO3:=hO1.bel hb3
 unfold zDz
 generalize hKl2:(fun (x12':Int) (w':World)=>(∃ i:Nat,x12'=(i:Int)∧a<i∧i≤b - 1+1∧Pt (fun q z=>lt z q) a b i (b - 1) f1∧Bel w1 w')∧(b+1 - x12').toNat<((b:Int)+1 - (i:Int)).toNat)=Kl2
 rw [hbm]
 have down:(i≤b - 1→lt (f1 i) (f1 a)=false)→zBx s a b cmp k (i:Int) Kl2 false w3:=by
  intro hlti
  unfold zBx
  intro w4 hb4
  refine ⟨fun h=>(nomatch h),fun _=>?_⟩
  rw [hbm]
  refine ⟨fun y w5=>∃ j:Nat,y=(j:Int)∧a≤j∧i≤j+1∧j≤b - 1∧Pt (fun q z=>lt z q) a b i j f1∧Bel w1 w5,fun y _=>y.toNat,⟨b - 1,rfl,by omega,hi2,Nat.le_refl _,hpt,hb3.trans hb4⟩,?_⟩
  rintro y w5 ⟨j,rfl,hj1,hj2,hj3,hptj,hb5⟩
  have hO5:=hO1.bel hb5
  unfold zD1
  generalize hKl4:(fun (x13':Int) (w':World)=>(∃ j:Nat,x13'=(j:Int)∧a≤j∧i≤j+1∧j≤b - 1∧Pt (fun q z=>lt z q) a b i j f1∧Bel w1 w')∧x13'.toNat<((j:Int)).toNat)=Kl4
  have stop:(i≤j→lt (f1 j) (f1 a)=true)→zDC s a cmp k (i:Int) (j:Int) Kl4 false w5:=by
   intro hltj w6 hb6
   have hO6:=hO5.bel hb6
   have hg6:=zAK hg1 (zAT (hb5.trans hb6) (Sl.v s).ownBlock)
   refine ⟨fun h=>(nomatch h),fun _=>⟨fun hc=>?_,fun hc=>?_⟩⟩
   ·refine zEn zAa hO6 (i':=j) (j':=a) rfl rfl (by omega) (by omega) fun w7 hO7 hg7=>?_
    unfold zC9
    exact H j true _ w7 hj1 (by omega) (.step j a (by omega) (by omega) (by omega) (by omega) hs1) (hptj.done O hj1 (by omega)) hO7 (zAK hg6 hg7)
   ·have hij:i<j:=by
     rcases Nat.lt_or_ge i j with h1|h1
     ·exact h1
     ·obtain rfl:i=j:=by omega
      have h2:=hlti (by omega)
      have h3:=hltj (Nat.le_refl _)
      rw [h2] at h3;cases h3
    refine zEn zAa hO6 (i':=i) (j':=j) rfl rfl (by omega) (by omega) fun w7 hO7 hg7=>?_
    unfold zDB
    rw [wr64 (n:=(i:Int)+1) (by omega) (by omega),wr64 (n:=(j:Int) - 1) (by omega) (by omega),show (i:Int)+1=((i+1:Nat):Int) by omega,show (j:Int) - 1=((j - 1:Nat):Int) by omega]
    exact main (i+1) (j - 1) _ w7 (by omega) (by omega) (by omega) (by omega) (.step i j (by omega) (by omega) (by omega) (by omega) hs1) (hptj.swap (by omega) hij (hlti (by omega)) (hltj (by omega))) hO7 (zAK hg6 hg7)
  refine ⟨fun hc=>?_,fun hc=>stop (fun h=>by omega)⟩
  refine zBP zAa hO5 (i':=j) rfl (by omega) ?_
  refine zBP zAa hO5 (i':=a) rfl (by omega) ?_
  obtain ⟨r,hr,hl⟩:=hcmp w5 (f1 j) (f1 a)
  refine ⟨r,hr,?_⟩
  rw [zFF hl]
  cases hlt:lt (f1 j) (f1 a) with
  |true=>exact stop (fun _=>hlt)
  |false=>
   intro w6 hb6
   refine ⟨fun _=>?_,fun h=>(nomatch h)⟩
   rw [wr64 (n:=(j:Int) - 1) (by omega) (by omega),← hKl4]
   exact ⟨⟨j - 1,by omega,by omega,by omega,by omega,hptj.decr hlt,hb5.trans hb6⟩,by omega⟩
 refine ⟨fun hc=>?_,fun hc=>down (fun h=>by omega)⟩
 refine zBP zAa hO3 (i':=i) rfl (by omega) ?_
 refine zBP zAa hO3 (i':=a) rfl (by omega) ?_
 obtain ⟨r,hr,hl⟩:=hcmp w3 (f1 i) (f1 a)
 refine ⟨r,hr,?_⟩
 rw [zFF hl]
 cases hlt:lt (f1 i) (f1 a) with
 |false=>exact down (fun _=>hlt)
 |true=>
  intro w4 hb4
  refine ⟨fun _=>?_,fun h=>(nomatch h)⟩
  rw [wr64 (n:=(i:Int)+1) (by omega) (by omega),← hKl2]
  exact ⟨⟨i+1,by omega,by omega,by omega,hpt.incr hlt,hb3.trans hb4⟩,by omega⟩
end
end SoCmpFunc_api_Pair
end Go.Proofs.YtealcoghiaeiiaaGreat.VG
set_option linter.unusedVariables false
namespace Go.Proofs.YtealcoghiaeiiaaGreat.VG
open Go.VB Go.VB.Srt Go.Proofs
namespace SoCmpFunc_api_Pair
section
variable {cmp:Value} {lt:zAE→zAE→Bool} (O:SWO lt) (hcmp:Cmps cmp lt) {base:Nat}
include O hcmp
theorem zNC:∀ (n:Nat) {w:World} {s:Sl} {L:Nat} {f:Nat→zAE} (hO:Ow base w s (tab f L)) {a b:Nat} (hab:a≤b) (hn:b - a≤n) (hb:b≤L) (hpre:Pre lt a b f) (lim:Int) {k:World→Prop}
  (H:∀ g w',Seg a b f g→zBm lt a b g→Ow base w' s (tab g L)→w.grownBy w' (Sl.v s).ownBlock→k w'),
  Cl Tryz.prog zJS [Sl.v s,.int .i64 (a:Int),.int .i64 (b:Int),.int .i64 lim,cmp].toArray w (fun e w'=>e=.returned (.tuple [].toArray)∧k w'):=by
 intro n
 induction n with
 |zero=>
  intro w s L f hO a b hab hn hb hpre lim k H
  refine zGb s a b lim cmp w k ?_
  have hlen:=hO.len;have hsm:=hO.small
  rw [zDJ] at hlen
  unfold zEW
  refine ⟨fun x y _ _ _ w1=>x=(a:Int)∧y=(b:Int)∧w1=w,fun _ _ _ _ _ _=>0,⟨rfl,rfl,rfl⟩,?_⟩
  rintro x y z p q w1 ⟨rfl,rfl,rfl⟩
  unfold zDP
  rw [wr64 (n:=(b:Int) - a) (by omega) (by omega)]
  refine ⟨fun _=>?_,fun h=>by omega⟩
  exact zG9 O hcmp hO hab hb H
 |succ n ih=>
  intro w s L f hO a b hab hn hb hpre lim k H
  refine zGb s a b lim cmp w k ?_
  have hlen:=hO.len;have hsm:=hO.small
  rw [zDJ] at hlen
  unfold zEW
  refine ⟨fun x y _ _ _ w1=>∃ (a1 b1:Nat) (g:Nat→zAE),x=(a1:Int)∧y=(b1:Int)∧a1≤b1∧Inv lt a b a1 b1 f g∧Ow base w1 s (tab g L)∧w.grownBy w1 (Sl.v s).ownBlock,fun x y _ _ _ _=>(y - x).toNat,⟨a,b,f,rfl,rfl,hab,Inv.start a b f,hO,World.grownBy.refl _ _⟩,?_⟩
  rintro x y z p q w1 ⟨a1,b1,g,rfl,rfl,hab1,hinv,hO1,hg1⟩
  have hA:=hinv.ha;have hB:=hinv.hb
  unfold zDP
  generalize hKl:(fun (x1_1' x2_1' x3_1':Int) (x10' x11':Bool) (w':World)=>(∃ (a1 b1:Nat) (g:Nat→zAE),x1_1'=(a1:Int)∧x2_1'=(b1:Int)∧a1≤b1∧Inv lt a b a1 b1 f g∧Ow base w' s (tab g L)∧w.grownBy w' (Sl.v s).ownBlock)∧(x2_1' - x1_1').toNat<((b1:Int) - (a1:Int)).toNat)=Kl
  have hwn:IntKind.wrap .i64 ((b1:Int) - a1)=(b1:Int) - a1:=wr64 (by omega) (by omega)
  rw [hwn]
  have fin:∀ (h:Nat→zAE) (w2:World),Seg a1 b1 g h→zBm lt a1 b1 h→Ow base w2 s (tab h L)→w1.grownBy w2 (Sl.v s).ownBlock→k w2:=fun h w2 h1 h2 h3 h4=>
   H h w2 (hinv.turn h1).seg ((hinv.turn h1).fin h2) h3 (zAK hg1 h4)
  refine ⟨fun _=>zG9 O hcmp hO1 hab1 (by omega) fin,fun hc=>⟨fun _=>zNw O hcmp hO1 hab1 (by omega) fin,fun _=>?_⟩⟩
  have hlt:a1<b1:=by omega
  -- what is left,about a place
  have j4:∀ (h:Nat→zAE) (w2:World) (lim:Int) (v:Nat),Seg a1 b1 g h→Ow base w2 s (tab h L)→w1.grownBy w2 (Sl.v s).ownBlock→a1≤v→v<b1→zCV s cmp (a1:Int) (b1:Int) p q Kl lim (v:Int) w2:=by
   intro h w2 lim v hs2 hO2 hg2 hv1 hv2
   have hinv2:=hinv.turn hs2
   have hg02:=zAK hg1 hg2
   have away:∀ w3,Bel w2 w3→zDZ s cmp (a1:Int) (b1:Int) p q Kl lim (v:Int) false w2:=by
    intro w3' hb3'
    intro w3 hb3
    refine ⟨fun h=>(nomatch h),fun _=>?_⟩
    have hg03:=zAK hg02 (zAT hb3 (Sl.v s).ownBlock)
    refine zNS O hcmp (hO2.bel hb3) hv1 hv2 (by omega) fun m r h4 w4 hm1 hm2 hs4 hpk hO4 hg4=>?_
    have hinv4:=hinv2.turn hs4
    have hg04:=zAK hg03 hg4
    refine zKn (by decide) (by rw [hwn,Int.tdiv_eq_ediv_of_nonneg (by omega)];omega) (by rw [hwn,Int.tdiv_eq_ediv_of_nonneg (by omega)];omega) ?_
    rw [wr64 (n:=(m:Int) - a1) (by omega) (by omega),wr64 (n:=(b1:Int) - m) (by omega) (by omega),wr64 (n:=(m:Int)+1) (by omega) (by omega),show (m:Int)+1=((m+1:Nat):Int) by omega]
    refine ⟨fun _=>?_,fun _=>?_⟩
    ·refine ih hO4 hm1 (by omega) (by omega) (a:=a1) (b:=m) (by
      rcases hinv4.pre hpre with h5|h5
      ·exact .inl h5
      ·exact .inr fun k h6 h7=>h5 k h6 (by omega)) lim fun h5 w5 hs5 hso5 hO5 hg5=>?_
     have hs5':Seg a1 b1 h4 h5:=hs5.mono (Nat.le_refl _) (by omega)
     rw [← hKl]
     exact ⟨⟨m+1,b1,h5,rfl,rfl,by omega,(hinv4.turn hs5').goRight hm1 hm2 O (hpk.left hs5) hso5,hO5,zAK hg04 hg5⟩,by omega⟩
    ·refine ih hO4 (a:=m+1) (b:=b1) (by omega) (by omega) (by omega) (.inr fun k h6 h7=>hpk.hi k (by omega) h7) lim fun h5 w5 hs5 hso5 hO5 hg5=>?_
     have hs5':Seg a1 b1 h4 h5:=hs5.mono (by omega) (Nat.le_refl _)
     rw [← hKl]
     exact ⟨⟨a1,m,h5,rfl,rfl,hm1,(hinv4.turn hs5').goLeft hm1 hm2 O (hpk.right hs5) hso5,hO5,zAK hg04 hg5⟩,by omega⟩
   unfold zCV
   refine ⟨fun ha0=>?_,fun _=>away w2 (Bel.refl _)⟩
   refine zBP zAa hO2 (i':=a1 - 1) (by rw [wr64 (by omega) (by omega)];omega) (by omega) ?_
   refine zBP zAa hO2 (i':=v) rfl (by omega) ?_
   obtain ⟨r,hr,hl⟩:=hcmp w2 (h (a1 - 1)) (h v)
   refine ⟨r,hr,?_⟩
   rw [zFF hl]
   cases hlv:lt (h (a1 - 1)) (h v) with
   |true=>exact away w2 (Bel.refl _)
   |false=>
    intro w3 hb3
    refine ⟨fun _=>?_,fun h=>(nomatch h)⟩
    have hg03:=zAK hg02 (zAT hb3 (Sl.v s).ownBlock)
    refine zMg O hcmp (hO2.bel hb3) hv1 hv2 (by omega) fun m h4 w4 hm1 hm2 hs4 heq hO4 hg4=>?_
    have hinv4:=hinv2.turn hs4
    rw [← hKl]
    have hpre4:=hinv4.pre hpre
    refine ⟨⟨m,b1,h4,rfl,rfl,hm2,hinv4.goEqual (by omega) hm2 O (v:=h4 (a1 - 1)) (fun q h1 h2=>?_) (fun q h1 h2=>?_),hO4,zAK hg03 hg4⟩,by omega⟩
    ·rw [hs4.out (a1 - 1) (.inl (by omega))]
     exact O.trans (heq q h1 h2) hlv
    ·rcases hpre4 with h5|h5
     ·omega
     ·exact h5 q h1 h2
  have j3:∀ (h:Nat→zAE) (w2:World) (lim hint:Int) (v:Nat),Seg a1 b1 g h→Ow base w2 s (tab h L)→w1.grownBy w2 (Sl.v s).ownBlock→a1≤v→v<b1→zCX s cmp k (a1:Int) (b1:Int) p q Kl lim (v:Int) hint w2:=by
   intro h w2 lim hint v hs2 hO2 hg2 hv1 hv2
   have r7f:zCU s cmp k (a1:Int) (b1:Int) p q Kl lim (v:Int) false w2:=⟨fun h=>(nomatch h),fun _=>j4 h w2 lim v hs2 hO2 hg2 hv1 hv2⟩
   have r7t:zCU s cmp k (a1:Int) (b1:Int) p q Kl lim (v:Int) true w2:=by
    refine ⟨fun _=>?_,fun h=>(nomatch h)⟩
    refine zKz O hcmp hO2 hlt (by omega) ((hinv.turn hs2).pre hpre) fun r h3 w3 hs3 hso3 hO3 hg3=>?_
    exact ⟨fun ht=>fin h3 w3 (hs2.trans hs3) (hso3 ht) hO3 (zAK hg2 hg3),fun _=>j4 h3 w3 lim v (hs2.trans hs3) hO3 (zAK hg2 hg3) hv1 hv2⟩
   have r6:∀ c:Bool,zDa s cmp k (a1:Int) (b1:Int) p q Kl lim (v:Int) hint c w2:=by
    intro c
    refine ⟨fun _=>?_,fun _=>r7f⟩
    by_cases hh:hint=1
    ·rw [decide_eq_true hh];exact r7t
    ·rw [decide_eq_false hh];exact r7f
   unfold zCX
   exact ⟨fun _=>r6 q,fun _=>r6 false⟩
  have j2:∀ (h:Nat→zAE) (w2:World) (lim:Int),Seg a1 b1 g h→Ow base w2 s (tab h L)→w1.grownBy w2 (Sl.v s).ownBlock→zCW s cmp k (a1:Int) (b1:Int) p q Kl lim w2:=by
   intro h w2 lim hs2 hO2 hg2
   unfold zCW
   refine zMh hcmp hO2 hlt (by omega) fun v hint w3 hv1 hv2 hb3=>?_
   have hg3:=zAK hg2 (zAT hb3 (Sl.v s).ownBlock)
   refine ⟨fun _=>?_,fun _=>j3 h w3 lim hint v hs2 (hO2.bel hb3) hg3 hv1 hv2⟩
   refine zK1 (hO2.bel hb3) hab1 (by omega) fun h4 w4 hs4 hO4 hg4=>?_
   rw [wr64 (n:=(b1:Int) - 1) (by omega) (by omega),wr64 (n:=(v:Int) - a1) (by omega) (by omega),wr64 (by omega) (by omega),show (b1:Int) - 1 - (v - a1)=((b1 - 1 - (v - a1):Nat):Int) by omega]
   exact j3 h4 w4 lim 1 _ (hs2.trans hs4) hO4 (zAK hg3 hg4) (by omega) (by omega)
  refine ⟨fun _=>?_,fun _=>j2 g w1 _ (.refl g) hO1 (World.grownBy.refl _ _)⟩
  exact zMd (w0:=w) hO1 hab1 (by omega) fun h w2 hs2 hO2 hg2=>j2 h w2 _ hs2 hO2 hg2
theorem sort_ok {w:World} {s:Sl} {xs:List zAE} (hO:Ow base w s xs) {k:World→Prop}
  (H:∀ ys w',ys.Perm xs→ys.Pairwise (fun x y=>Le lt x y)→Ow base w' s ys→w.grownBy w' (Sl.v s).ownBlock→k w'):
  Cl Tryz.prog zIr [Sl.v s,cmp].toArray w (fun e w'=>e=.returned (.tuple [].toArray)∧k w'):=by
 refine zIs s cmp w k ?_
 have hlen:=hO.len;have hsm:=hO.small
 unfold zE9
 refine zKd (by kernel_rfl) (by kernel_rfl) ?_
 rw [wru64 (by omega) (by omega)]
 refine zQK (by omega) fun r hr=>?_
 cases xs with
 |nil=>
  have hl0:s.len=0:=by simpa using hlen.symm
  rw [hl0]
  refine zNC O hcmp 0 (f:=fun _=>⟨ByteArray.mk #[],ByteArray.mk #[]⟩) (L:=0) (a:=0) (b:=0) hO (Nat.le_refl _) (Nat.le_refl _) (Nat.le_refl _) (.inl rfl) _ fun g w' _ _ hO' hg=>?_
  exact H [] w' (.refl _) .nil hO' hg
 |cons x0 xs=>
  obtain ⟨f,hf⟩:∃ f:Nat→zAE,f=fun i=>((x0::xs)[i]?).getD x0:=⟨_,rfl⟩
  have htab:tab f (x0::xs).length=x0::xs:=zRK _ f fun i y hy=>by rw [hf];simp only [hy,Option.getD_some]
  rw [← htab] at hO
  have hL:s.len=(x0::xs).length:=hlen.symm
  rw [hL]
  refine zNC O hcmp (x0::xs).length hO (a:=0) (Nat.zero_le _) (by omega) (Nat.le_refl _) (.inl rfl) _ fun g w' hsg hso hO' hg=>?_
  refine H (tab g (x0::xs).length) w' ?_ ?_ hO' hg
  ·have:=hsg.perm (Nat.le_refl _)
   rw [htab] at this;exact this
  ·rw [List.pairwise_iff_getElem]
   intro i j hi hj hij
   rw [zDJ] at hi hj
   have e1:=zKC g hi
   have e2:=zKC g hj
   have:=hso i j (Nat.zero_le _) hij hj
   rw [List.getElem?_eq_getElem (by rw [zDJ];exact hi)] at e1
   rw [List.getElem?_eq_getElem (by rw [zDJ];exact hj)] at e2
   rw [Option.some.inj e1,Option.some.inj e2]
   exact this
end
end SoCmpFunc_api_Pair
end Go.Proofs.YtealcoghiaeiiaaGreat.VG
set_option linter.unusedVariables false
set_option linter.unusedSimpArgs false
namespace Go.Proofs.YtealcoghiaeiiaaGreat.VG
open Go.VB Go.Proofs
def zBb (x9:Int) (Kl2:Int→World→Prop) (w:World):Prop:=
 Kl2 (IntKind.wrap .i64 (x9 - 1)) w
def zA0 (x0:Sl) (x8:Int) (Kl1:Int→World→Prop) (x9:Int) (Kl2:Int→World→Prop) (x34:Bool) (w:World):Prop:=
 nextB w (fun w=>(x34=true→(nextB w (fun w=>opP Tryz.prog Value.pointer (Instr.indexAt 67 (Sl.v x0) (.int .i64 (IntKind.wrap .i64 (x9 - 1)))) (fun x45=>opP Tryz.prog Value.pointer (Instr.indexAt 67 (Sl.v x0) (.int .i64 x9)) (fun x49=>(opE Tryz.prog zAB.v (Instr.loadAt 72 (.pointer x45)) w (fun x46 w=>opE Tryz.prog zAB.v (Instr.loadAt 72 (.pointer x49)) w (fun x50 w=>opP Tryz.prog Value.pointer (Instr.indexAt 67 (Sl.v x0) (.int .i64 x9)) (fun x51=>opU Tryz.prog (Instr.storeAt 72 (.pointer x51) (zAB.v x46)) w (fun w=>opP Tryz.prog Value.pointer (Instr.indexAt 67 (Sl.v x0) (.int .i64 (IntKind.wrap .i64 (x9 - 1)))) (fun x52=>opU Tryz.prog (Instr.storeAt 72 (.pointer x52) (zAB.v x50)) w (fun w=>zBb x9 Kl2 w)))))))∧(opE Tryz.prog zAB.v (Instr.loadAt 72 (.pointer x49)) w (fun x50_1 w=>opE Tryz.prog zAB.v (Instr.loadAt 72 (.pointer x45)) w (fun x46_1 w=>opP Tryz.prog Value.pointer (Instr.indexAt 67 (Sl.v x0) (.int .i64 x9)) (fun x51_1=>opU Tryz.prog (Instr.storeAt 72 (.pointer x51_1) (zAB.v x46_1)) w (fun w=>opP Tryz.prog Value.pointer (Instr.indexAt 67 (Sl.v x0) (.int .i64 (IntKind.wrap .i64 (x9 - 1)))) (fun x52_1=>opU Tryz.prog (Instr.storeAt 72 (.pointer x52_1) (zAB.v x50_1)) w (fun w=>zBb x9 Kl2 w))))))))))))∧(x34=false→(Kl1 (IntKind.wrap .i64 (x8+1)) w)))
def zCs (x0:Sl) (x1:Int) (x3:Value) (x8:Int) (Kl1:Int→World→Prop) (x9:Int) (w:World) (Kl2:Int→World→Prop):Prop:=
 ((x1<x9)→(opB Tryz.prog Value.pointer (Instr.indexAt 67 (Sl.v x0) (.int .i64 x9)) w (fun x25=>opB Tryz.prog zAB.v (Instr.loadAt 72 (.pointer x25)) w (fun x26=>opB Tryz.prog Value.pointer (Instr.indexAt 67 (Sl.v x0) (.int .i64 (IntKind.wrap .i64 (x9 - 1)))) w (fun x30=>opB Tryz.prog zAB.v (Instr.loadAt 72 (.pointer x30)) w (fun x31=>∃ (r:Int),CallQ Tryz.prog x3 [(zAB.v x26),(zAB.v x31)] w (.int .i64 r)∧(zA0 x0 x8 Kl1 x9 Kl2 (decide (r<0)) w)))))))∧(¬ (x1<x9)→(zA0 x0 x8 Kl1 x9 Kl2 false w))
def zBT (x0:Sl) (x1:Int) (x2:Int) (x3:Value) (Ret:World→Prop) (x8:Int) (w:World) (Kl1:Int→World→Prop):Prop:=
 ((x8<x2)→(∃ (I:Int→World→Prop) (μ:Int→World→Nat),I x8 w∧∀ (x9:Int) w,I x9 w→zCs x0 x1 x3 x8 Kl1 x9 w (fun x9' w'=>I x9' w'∧μ x9' w'<μ x9 w)))∧(¬ (x8<x2)→(Ret w))
def zDb (x0:Sl) (x1:Int) (x2:Int) (x3:Value) (w:World) (Ret:World→Prop):Prop:=
 ∃ (I:Int→World→Prop) (μ:Int→World→Nat),I (IntKind.wrap .i64 (x1+1)) w∧∀ (x8:Int) w,I x8 w→zBT x0 x1 x2 x3 Ret x8 w (fun x8' w'=>I x8' w'∧μ x8' w'<μ x8 w)
set_option maxRecDepth 100000 in
theorem zHO (x0:Sl) (x1:Int) (x2:Int) (x3:Value) (w:World) (Ret:World→Prop) (H:zDb x0 x1 x2 x3 w Ret):Cl Tryz.prog 105 [(Sl.v x0),(.int .i64 x1),(.int .i64 x2),x3].toArray w (fun e w'=>e=.returned (.tuple [].toArray)∧Ret w'):=by
 unfold zDb at H
 refine zAY 53 (zipE 0 [(Sl.v x0),(.int .i64 x1),(.int .i64 x2),x3]) Tryz.func105 rfl rfl (by rfl) rfl ?_
 intro a g
 replace g:Sat [] 53 [(0,(Sl.v x0)),(1,(.int .i64 x1)),(2,(.int .i64 x2)),(3,x3)] a:=g
 refine zAF (zAA (g.mv rfl fun _ g=>(g.pur (zAn g rfl rfl) fun _ g=>(g.as_ rfl fun _ g=>(zAG (tn (zAN ?_)))))))
 obtain ⟨I_l1,μ_l1,h0,hb⟩:=H
 refine zBl (ds:=[]) (N:=53) (σ:=Int) (fun s=>[(8,(.int .i64 s)),(0,(Sl.v x0)),(1,(.int .i64 x1)),(2,(.int .i64 x2)),(3,x3)]) (fun s w=>I_l1 s w) (fun s w=>μ_l1 s w) (IntKind.wrap .i64 (x1+1)) h0 (g.weak ⟨rfl,rfl,rfl,rfl,rfl,trivial⟩) ?_
 intro x8 w a hI g
 try dsimp only at hI g
 obtain ⟨Kl1,hK_l1⟩:∃ K:Int→World→Prop,K=(fun x8' w'=>I_l1 x8' w'∧μ_l1 x8' w'<μ_l1 x8 w):=⟨_,rfl⟩
 have H:zBT x0 x1 x2 x3 Ret x8 w Kl1:=by rw [hK_l1];exact hb x8 w hI
 clear hb h0 hI
 unfold zBT at H
 refine zAF (zAF (zAA (g.mv rfl fun _ g=>(g.mv rfl fun _ g=>(g.pur (zDp g rfl rfl) fun _ g=>(zAG (tn (zAR g rfl (fun hc=>?_) (fun hc=>?_)))))))))
 ·replace H:=H.1 hc
  refine zAP (tn (zAF (zAN (zAF (zAA (g.mv rfl fun _ g=>(g.as_ rfl fun _ g=>(zAG (tn (zAN ?_))))))))))
  obtain ⟨I_l2,μ_l2,h0,hb⟩:=H
  refine zBl (ds:=[]) (N:=53) (σ:=Int) (fun s=>[(9,(.int .i64 s)),(0,(Sl.v x0)),(1,(.int .i64 x1)),(2,(.int .i64 x2)),(3,x3),(8,(.int .i64 x8))]) (fun s w=>I_l2 s w) (fun s w=>μ_l2 s w) x8 h0 (g.weak ⟨rfl,rfl,rfl,rfl,rfl,rfl,trivial⟩) ?_
  intro x9 w a hI g
  try dsimp only at hI g
  obtain ⟨Kl2,hK_l2⟩:∃ K:Int→World→Prop,K=(fun x9' w'=>I_l2 x9' w'∧μ_l2 x9' w'<μ_l2 x9 w):=⟨_,rfl⟩
  have H:zCs x0 x1 x3 x8 Kl1 x9 w Kl2:=by rw [hK_l2];exact hb x9 w hI
  clear hb h0 hI
  unfold zCs at H
  refine zAF (zAF (zEB (by kernel_rfl) (by kernel_rfl) (g.qm rfl fun _ g=>(g.qm rfl fun _ g=>(g.qpur (zIG g rfl rfl) fun _ g=>(g.qm rfl fun _ g=>(WQ.join (ds:=[]) (N:=53) (σ:=Bool) (fun s=>[(34,(.bool s)),(0,(Sl.v x0)),(1,(.int .i64 x1)),(2,(.int .i64 x2)),(3,x3),(8,(.int .i64 x8)),(9,(.int .i64 x9))]) (fun s=>zA0 x0 x8 Kl1 x9 Kl2 s w) 13 ?_ (fun hr3=>?_))))))))
  ·intro x34 a H g
   try dsimp only at H g
   unfold zA0 at H
   refine zED (fun w hB=>?_)
   replace H:=H w hB
   refine (tn (zAV g rfl (fun hc=>?_) (fun hc=>?_)))
   ·replace H:=H.1 hc
    refine zAP (tn (zBG (ds:=[]) (N:=53) (σ:=Unit) (fun s=>[(0,(Sl.v x0)),(1,(.int .i64 x1)),(2,(.int .i64 x2)),(3,x3),(8,(.int .i64 x8)),(9,(.int .i64 x9))]) (fun s w=>zBb x9 Kl2 w) ?_ (fun hj4=>?_)))
    ·rintro ⟨⟩ w a H g
     try dsimp only at H g
     unfold zBb at H
     refine zAA (g.mv rfl fun _ g=>(g.pur (zAv g rfl rfl) fun _ g=>(g.as_ rfl fun _ g=>?_)))
     rw [hK_l2] at H
     exact zAG (tn ⟨(IntKind.wrap .i64 (x9 - 1)),g.weak ⟨rfl,rfl,rfl,rfl,rfl,rfl,trivial⟩,H⟩)
    ·refine zAN (zKK 18 fun w hB=>?_)
     replace H:=H w hB
     refine g.ap 0 rfl (zAL g rfl) fun _ g=>g.ap 1 rfl (zAL g rfl) fun _ g=>g.ap 2 rfl (zAL g rfl) fun _ g=>g.ap 3 rfl (zAL g rfl) fun _ g=>g.ap 4 rfl (zAv g rfl rfl) fun _ g=>g.ap 5 rfl (zAL g rfl) fun _ g=>g.ap 6 rfl (zAL g rfl) fun _ g=>g.ap 7 rfl (zAv g rfl rfl) fun _ g=>g.ao 8 rfl (zAC g rfl rfl) H fun x45 a H g=>g.ap 10 rfl (zAL g rfl) fun _ g=>g.ap 11 rfl (zAL g rfl) fun _ g=>g.ao 12 rfl (zAC g rfl rfl) H fun x49 a H g=>WA.tw 9 13 rfl rfl ?_ ?_
     ·replace H:=H.1
      intro K hK
      exact g.wop (zAI g rfl) H fun x46 w a H g=>hK _ _ (g.o1 13 rfl (zAI g rfl) H fun x50 w a H g=>(g.ao 14 rfl (zAC g rfl rfl) H fun x51 a H g=>(g.o1u 15 rfl (zAM g rfl rfl) H fun w a H g=>(g.ao 16 rfl (zAC g rfl rfl) H fun x52 a H g=>(g.o1u 17 rfl (zAM g rfl rfl) H fun w a H g=>(WA.ni ((bn (tn (hj4 () _ _ H (g.weak ⟨rfl,rfl,rfl,rfl,rfl,rfl,trivial⟩)))))))))))
     ·replace H:=H.2
      intro K hK
      exact g.wop (zAI g rfl) H fun x50_1 w a H g=>hK _ _ (g.o1 9 rfl (zAI g rfl) H fun x46_1 w a H g=>(g.ao 14 rfl (zAC g rfl rfl) H fun x51_1 a H g=>(g.o1u 15 rfl (zAM g rfl rfl) H fun w a H g=>(g.ao 16 rfl (zAC g rfl rfl) H fun x52_1 a H g=>(g.o1u 17 rfl (zAM g rfl rfl) H fun w a H g=>(WA.ni ((bn (tn (hj4 () _ _ H (g.weak ⟨rfl,rfl,rfl,rfl,rfl,rfl,trivial⟩)))))))))))
   ·replace H:=H.2 hc
    refine zBJ (te (te (be (bn (tn (zAA (g.mv rfl fun _ g=>(g.pur (zAn g rfl rfl) fun _ g=>(g.as_ rfl fun _ g=>?_)))))))))
    rw [hK_l1] at H
    exact zAG (tn ⟨(IntKind.wrap .i64 (x8+1)),g.weak ⟨rfl,rfl,rfl,rfl,rfl,trivial⟩,H⟩)
  ·rcases Classical.em ((x1<x9)) with hbr3|hbr3
   ·replace H:=H.1 hbr3
    replace g:=g.bool (b:=true) (t:=21) rfl (decide_eq_true hbr3)
    refine g.qon (by rfl) (by rfl) (g.qm rfl fun _ g=>(g.qon (by rfl) (by rfl) (g.qm rfl fun _ g=>(g.qon (by rfl) (by rfl) (g.qm rfl fun _ g=>(g.qon (by rfl) (by rfl) (g.qop (zAC g rfl rfl) H fun x25 a H g=>(g.qon (by rfl) (by rfl) (g.qop (zAI g rfl) H fun x26 a H g=>(g.qon (by rfl) (by rfl) (g.qm rfl fun _ g=>(g.qon (by rfl) (by rfl) (g.qm rfl fun _ g=>(g.qon (by rfl) (by rfl) (g.qpur (zAv g rfl rfl) fun _ g=>(g.qon (by rfl) (by rfl) (g.qop (zAC g rfl rfl) H fun x30 a H g=>(g.qon (by rfl) (by rfl) (g.qop (zAI g rfl) H fun x31 a H g=>(g.qon (by rfl) (by rfl) ?_))))))))))))))))))))
    obtain ⟨r,hc,H⟩:=H
    exact g.qcallV rfl rfl hc fun _ g=>g.qon (by rfl) (by rfl) (g.qpur (zDp g rfl rfl) fun _ g=>(g.qpur (zAj g rfl rfl) fun _ g=>(hr3 (decide (r<0)) _ H (g.weak ⟨rfl,rfl,rfl,rfl,rfl,rfl,rfl,trivial⟩))))
   ·replace H:=H.2 hbr3
    replace g:=g.bool (b:=false) (t:=21) rfl (decide_eq_false hbr3)
    exact g.qoff (by rfl) (by rfl) (by decide) (fun _ g=>(g.qoff (by rfl) (by rfl) (by decide) (fun _ g=>(g.qoff (by rfl) (by rfl) (by decide) (fun _ g=>(g.qoff (by rfl) (by rfl) (by decide) (fun _ g=>(g.qoff (by rfl) (by rfl) (by decide) (fun _ g=>(g.qoff (by rfl) (by rfl) (by decide) (fun _ g=>(g.qoff (by rfl) (by rfl) (by decide) (fun _ g=>(g.qoff (by rfl) (by rfl) (by decide) (fun _ g=>(g.qoff (by rfl) (by rfl) (by decide) (fun _ g=>(g.qoff (by rfl) (by rfl) (by decide) (fun _ g=>(g.qoff (by rfl) (by rfl) (by decide) (fun _ g=>(g.qoff (by rfl) (by rfl) (by decide) (fun _ g=>(g.qpur (zAi g rfl rfl) fun _ g=>(hr3 false _ H (g.weak ⟨rfl,rfl,rfl,rfl,rfl,rfl,rfl,trivial⟩))))))))))))))))))))))))))
 ·replace H:=H.2 hc
  exact zBJ (te (te (be (zG1 g rfl ⟨rfl,H⟩))))
def zCj (x0:Sl) (x1:Int) (x3:Value) (x12:Int) (Kl2:Int→World→Prop) (w:World):Prop:=
 Cl Tryz.prog 136 [(Sl.v x0),(.int .i64 0),(.int .i64 x12),(.int .i64 x1),x3].toArray w (fun e w=>e=.returned (.tuple [].toArray)∧(Kl2 (IntKind.wrap .i64 (x12 - 1)) w))
def zDk (x0:Sl) (x1:Int) (x3:Value) (Ret:World→Prop) (x12:Int) (w:World) (Kl2:Int→World→Prop):Prop:=
 ((0≤x12)→(nextB w (fun w=>opP Tryz.prog Value.pointer (Instr.indexAt 67 (Sl.v x0) (.int .i64 (IntKind.wrap .i64 (x1+x12)))) (fun x46=>opP Tryz.prog Value.pointer (Instr.indexAt 67 (Sl.v x0) (.int .i64 x1)) (fun x50=>(opE Tryz.prog zAB.v (Instr.loadAt 72 (.pointer x46)) w (fun x47 w=>opE Tryz.prog zAB.v (Instr.loadAt 72 (.pointer x50)) w (fun x51 w=>opP Tryz.prog Value.pointer (Instr.indexAt 67 (Sl.v x0) (.int .i64 x1)) (fun x52=>opU Tryz.prog (Instr.storeAt 72 (.pointer x52) (zAB.v x47)) w (fun w=>opP Tryz.prog Value.pointer (Instr.indexAt 67 (Sl.v x0) (.int .i64 (IntKind.wrap .i64 (x1+x12)))) (fun x53=>opU Tryz.prog (Instr.storeAt 72 (.pointer x53) (zAB.v x51)) w (fun w=>zCj x0 x1 x3 x12 Kl2 w)))))))∧(opE Tryz.prog zAB.v (Instr.loadAt 72 (.pointer x50)) w (fun x51_1 w=>opE Tryz.prog zAB.v (Instr.loadAt 72 (.pointer x46)) w (fun x47_1 w=>opP Tryz.prog Value.pointer (Instr.indexAt 67 (Sl.v x0) (.int .i64 x1)) (fun x52_1=>opU Tryz.prog (Instr.storeAt 72 (.pointer x52_1) (zAB.v x47_1)) w (fun w=>opP Tryz.prog Value.pointer (Instr.indexAt 67 (Sl.v x0) (.int .i64 (IntKind.wrap .i64 (x1+x12)))) (fun x53_1=>opU Tryz.prog (Instr.storeAt 72 (.pointer x53_1) (zAB.v x51_1)) w (fun w=>zCj x0 x1 x3 x12 Kl2 w))))))))))))∧(¬ (0≤x12)→(Ret w))
def zDo (x0:Sl) (x1:Int) (x2:Int) (x3:Value) (Ret:World→Prop) (x11:Int) (w:World) (Kl1:Int→World→Prop):Prop:=
 ((0≤x11)→(Cl Tryz.prog 136 [(Sl.v x0),(.int .i64 x11),(.int .i64 (IntKind.wrap .i64 (x2 - x1))),(.int .i64 x1),x3].toArray w (fun e w=>e=.returned (.tuple [].toArray)∧(Kl1 (IntKind.wrap .i64 (x11 - 1)) w))))∧(¬ (0≤x11)→(∃ (I:Int→World→Prop) (μ:Int→World→Nat),I (IntKind.wrap .i64 ((IntKind.wrap .i64 (x2 - x1)) - 1)) w∧∀ (x12:Int) w,I x12 w→zDk x0 x1 x3 Ret x12 w (fun x12' w'=>I x12' w'∧μ x12' w'<μ x12 w)))
def zEy (x0:Sl) (x1:Int) (x2:Int) (x3:Value) (w:World) (Ret:World→Prop):Prop:=
 opE Tryz.prog (Value.int .i64) (binOp .quo 3 (.int .i64 (IntKind.wrap .i64 ((IntKind.wrap .i64 (x2 - x1)) - 1))) (.int .i64 2)) w (fun x19 w=>∃ (I:Int→World→Prop) (μ:Int→World→Nat),I x19 w∧∀ (x11:Int) w,I x11 w→zDo x0 x1 x2 x3 Ret x11 w (fun x11' w'=>I x11' w'∧μ x11' w'<μ x11 w))
set_option maxRecDepth 100000 in
theorem zIb (x0:Sl) (x1:Int) (x2:Int) (x3:Value) (w:World) (Ret:World→Prop) (H:zEy x0 x1 x2 x3 w Ret):Cl Tryz.prog 106 [(Sl.v x0),(.int .i64 x1),(.int .i64 x2),x3].toArray w (fun e w'=>e=.returned (.tuple [].toArray)∧Ret w'):=by
 unfold zEy at H
 refine zAY 60 (zipE 0 [(Sl.v x0),(.int .i64 x1),(.int .i64 x2),x3]) Tryz.func106 rfl rfl (by rfl) rfl ?_
 intro a g
 replace g:Sat [] 60 [(0,(Sl.v x0)),(1,(.int .i64 x1)),(2,(.int .i64 x2)),(3,x3)] a:=g
 refine zAF (zAA (g.mv rfl fun _ g=>(g.as_ rfl fun _ g=>(zAG (tn (zAF (zAA (g.as_ rfl fun _ g=>(zAG (tn (zAF (zAA (g.mv rfl fun _ g=>(g.mv rfl fun _ g=>(g.pur (zAv g rfl rfl) fun _ g=>(g.as_ rfl fun _ g=>(zAG (tn (zAF (zAF (zAA (g.mv rfl fun _ g=>(g.pur (zAv g rfl rfl) fun _ g=>(g.op (zFD g rfl rfl) H fun x19 w a H g=>(g.as_ rfl fun _ g=>(zAG (tn (zAN ?_))))))))))))))))))))))))))))
 obtain ⟨I_l1,μ_l1,h0,hb⟩:=H
 refine zBl (ds:=[]) (N:=60) (σ:=Int) (fun s=>[(11,(.int .i64 s)),(0,(Sl.v x0)),(3,x3),(8,(.int .i64 x1)),(9,(.int .i64 0)),(10,(.int .i64 (IntKind.wrap .i64 (x2 - x1))))]) (fun s w=>I_l1 s w) (fun s w=>μ_l1 s w) x19 h0 (g.weak ⟨rfl,rfl,rfl,rfl,rfl,rfl,trivial⟩) ?_
 intro x11 w a hI g
 try dsimp only at hI g
 obtain ⟨Kl1,hK_l1⟩:∃ K:Int→World→Prop,K=(fun x11' w'=>I_l1 x11' w'∧μ_l1 x11' w'<μ_l1 x11 w):=⟨_,rfl⟩
 have H:zDo x0 x1 x2 x3 Ret x11 w Kl1:=by rw [hK_l1];exact hb x11 w hI
 clear hb h0 hI
 unfold zDo at H
 refine zAF (zAF (zAA (g.mv rfl fun _ g=>(g.pur (zF7 g rfl rfl) fun _ g=>(zAG (tn (zAR g rfl (fun hc=>?_) (fun hc=>?_))))))))
 ·replace H:=H.1 hc
  refine zAP (tn (zAF (zAN (zAA (g.mv rfl fun _ g=>(g.mv rfl fun _ g=>(g.mv rfl fun _ g=>(g.mv rfl fun _ g=>(g.mv rfl fun _ g=>(g.call (zAQ g zSk rfl rfl) H fun e w H=>?_))))))))))
  obtain ⟨rfl,H⟩:=H
  refine ⟨_,rfl,fun _ g=>(zAG (bn (tn (zAA (g.mv rfl fun _ g=>(g.pur (zAv g rfl rfl) fun _ g=>(g.as_ rfl fun _ g=>?_)))))))⟩
  rw [hK_l1] at H
  exact zAG (tn ⟨(IntKind.wrap .i64 (x11 - 1)),g.weak ⟨rfl,rfl,rfl,rfl,rfl,rfl,trivial⟩,H⟩)
 ·replace H:=H.2 hc
  refine zBJ (te (te (be (tn (zAF (zAA (g.mv rfl fun _ g=>(g.pur (zAv g rfl rfl) fun _ g=>(g.as_ rfl fun _ g=>(zAG (tn (zAN ?_))))))))))))
  obtain ⟨I_l2,μ_l2,h0,hb⟩:=H
  refine zBl (ds:=[]) (N:=60) (σ:=Int) (fun s=>[(12,(.int .i64 s)),(0,(Sl.v x0)),(3,x3),(8,(.int .i64 x1)),(9,(.int .i64 0))]) (fun s w=>I_l2 s w) (fun s w=>μ_l2 s w) (IntKind.wrap .i64 ((IntKind.wrap .i64 (x2 - x1)) - 1)) h0 (g.weak ⟨rfl,rfl,rfl,rfl,rfl,trivial⟩) ?_
  intro x12 w a hI g
  try dsimp only at hI g
  obtain ⟨Kl2,hK_l2⟩:∃ K:Int→World→Prop,K=(fun x12' w'=>I_l2 x12' w'∧μ_l2 x12' w'<μ_l2 x12 w):=⟨_,rfl⟩
  have H:zDk x0 x1 x3 Ret x12 w Kl2:=by rw [hK_l2];exact hb x12 w hI
  clear hb h0 hI
  unfold zDk at H
  refine zAF (zAF (zAA (g.mv rfl fun _ g=>(g.pur (zF7 g rfl rfl) fun _ g=>(zAG (tn (zAR g rfl (fun hc=>?_) (fun hc=>?_))))))))
  ·replace H:=H.1 hc
   refine zAP (tn (zAF (zAN (zBG (ds:=[]) (N:=60) (σ:=Unit) (fun s=>[(0,(Sl.v x0)),(3,x3),(8,(.int .i64 x1)),(9,(.int .i64 0)),(12,(.int .i64 x12))]) (fun s w=>zCj x0 x1 x3 x12 Kl2 w) ?_ (fun hj3=>?_)))))
   ·rintro ⟨⟩ w a H g
    try dsimp only at H g
    unfold zCj at H
    refine zAA (g.mv rfl fun _ g=>(g.mv rfl fun _ g=>(g.mv rfl fun _ g=>(g.mv rfl fun _ g=>(g.mv rfl fun _ g=>(g.call (zAQ g zSk rfl rfl) H fun e w H=>?_))))))
    obtain ⟨rfl,H⟩:=H
    refine ⟨_,rfl,fun _ g=>(zAG (bn (tn (zAA (g.mv rfl fun _ g=>(g.pur (zAv g rfl rfl) fun _ g=>(g.as_ rfl fun _ g=>?_)))))))⟩
    rw [hK_l2] at H
    exact zAG (tn ⟨(IntKind.wrap .i64 (x12 - 1)),g.weak ⟨rfl,rfl,rfl,rfl,rfl,trivial⟩,H⟩)
   ·refine zKK 20 fun w hB=>?_
    replace H:=H w hB
    refine g.ap 0 rfl (zAL g rfl) fun _ g=>g.ap 1 rfl (zAL g rfl) fun _ g=>g.ap 2 rfl (zAL g rfl) fun _ g=>g.ap 3 rfl (zAL g rfl) fun _ g=>g.ap 4 rfl (zAL g rfl) fun _ g=>g.ap 5 rfl (zAn g rfl rfl) fun _ g=>g.ap 6 rfl (zAL g rfl) fun _ g=>g.ap 7 rfl (zAL g rfl) fun _ g=>g.ap 8 rfl (zAL g rfl) fun _ g=>g.ap 9 rfl (zAn g rfl rfl) fun _ g=>g.ao 10 rfl (zAC g rfl rfl) H fun x46 a H g=>g.ap 12 rfl (zAL g rfl) fun _ g=>g.ap 13 rfl (zAL g rfl) fun _ g=>g.ao 14 rfl (zAC g rfl rfl) H fun x50 a H g=>WA.tw 11 15 rfl rfl ?_ ?_
    ·replace H:=H.1
     intro K hK
     exact g.wop (zAI g rfl) H fun x47 w a H g=>hK _ _ (g.o1 15 rfl (zAI g rfl) H fun x51 w a H g=>(g.ao 16 rfl (zAC g rfl rfl) H fun x52 a H g=>(g.o1u 17 rfl (zAM g rfl rfl) H fun w a H g=>(g.ao 18 rfl (zAC g rfl rfl) H fun x53 a H g=>(g.o1u 19 rfl (zAM g rfl rfl) H fun w a H g=>(WA.ni ((tn (hj3 () _ _ H (g.weak ⟨rfl,rfl,rfl,rfl,rfl,trivial⟩))))))))))
    ·replace H:=H.2
     intro K hK
     exact g.wop (zAI g rfl) H fun x51_1 w a H g=>hK _ _ (g.o1 11 rfl (zAI g rfl) H fun x47_1 w a H g=>(g.ao 16 rfl (zAC g rfl rfl) H fun x52_1 a H g=>(g.o1u 17 rfl (zAM g rfl rfl) H fun w a H g=>(g.ao 18 rfl (zAC g rfl rfl) H fun x53_1 a H g=>(g.o1u 19 rfl (zAM g rfl rfl) H fun w a H g=>(WA.ni ((tn (hj3 () _ _ H (g.weak ⟨rfl,rfl,rfl,rfl,rfl,trivial⟩))))))))))
  ·replace H:=H.2 hc
   exact zBJ (te (te (be (zG1 g rfl ⟨rfl,H⟩))))
def zA7 (Ret:Int→Int→World→Prop) (x11:Option Addr) (x13:Int) (w:World):Prop:=
 opE Tryz.prog (Value.int .i64) (Instr.loadAt 3 (.pointer x11)) w (fun x55 w=>((x55=0)→(Ret x13 1 w))∧(¬ (x55=0)→(((x55=12)→(Ret x13 2 w))∧(¬ (x55=12)→(Ret x13 0 w)))))
def zA8 (x0:Sl) (x3:Value) (Ret:Int→Int→World→Prop) (x11:Option Addr) (x12:Int) (x13_1:Int) (x14:Int) (w:World):Prop:=
 Cl Tryz.prog 138 [(Sl.v x0),(.int .i64 x12),(.int .i64 x13_1),(.int .i64 x14),(.pointer x11),x3].toArray w (fun e w=>∃ (r:Int),e=.returned (.int .i64 r)∧(zA7 Ret x11 r w))
def zEZ (x0:Sl) (x1:Int) (x2:Int) (x3:Value) (w:World) (Ret:Int→Int→World→Prop):Prop:=
 opE Tryz.prog Value.pointer (Instr.alloc 3 true (.tuple #[])) w (fun x11 w=>opE Tryz.prog (Value.int .i64) (binOp .quo 3 (.int .i64 (IntKind.wrap .i64 (x2 - x1))) (.int .i64 4)) w (fun x20 w=>opE Tryz.prog (Value.int .i64) (binOp .quo 3 (.int .i64 (IntKind.wrap .i64 (x2 - x1))) (.int .i64 4)) w (fun x25 w=>opE Tryz.prog (Value.int .i64) (binOp .quo 3 (.int .i64 (IntKind.wrap .i64 (x2 - x1))) (.int .i64 4)) w (fun x30 w=>((8≤(IntKind.wrap .i64 (x2 - x1)))→(((50≤(IntKind.wrap .i64 (x2 - x1)))→(Cl Tryz.prog 137 [(Sl.v x0),(.int .i64 (IntKind.wrap .i64 (x1+(IntKind.wrap .i64 (x20*1))))),(.pointer x11),x3].toArray w (fun e w=>∃ (r_1:Int),e=.returned (.int .i64 r_1)∧(Cl Tryz.prog 137 [(Sl.v x0),(.int .i64 (IntKind.wrap .i64 (x1+(IntKind.wrap .i64 (x25*2))))),(.pointer x11),x3].toArray w (fun e w=>∃ (r_2:Int),e=.returned (.int .i64 r_2)∧(Cl Tryz.prog 137 [(Sl.v x0),(.int .i64 (IntKind.wrap .i64 (x1+(IntKind.wrap .i64 (x30*3))))),(.pointer x11),x3].toArray w (fun e w=>∃ (r_3:Int),e=.returned (.int .i64 r_3)∧(zA8 x0 x3 Ret x11 r_1 r_2 r_3 w))))))))∧(¬ (50≤(IntKind.wrap .i64 (x2 - x1)))→(zA8 x0 x3 Ret x11 (IntKind.wrap .i64 (x1+(IntKind.wrap .i64 (x20*1)))) (IntKind.wrap .i64 (x1+(IntKind.wrap .i64 (x25*2)))) (IntKind.wrap .i64 (x1+(IntKind.wrap .i64 (x30*3)))) w))))∧(¬ (8≤(IntKind.wrap .i64 (x2 - x1)))→(zA7 Ret x11 (IntKind.wrap .i64 (x1+(IntKind.wrap .i64 (x25*2)))) w))))))
set_option maxRecDepth 100000 in
theorem zHt (x0:Sl) (x1:Int) (x2:Int) (x3:Value) (w:World) (Ret:Int→Int→World→Prop) (H:zEZ x0 x1 x2 x3 w Ret):Cl Tryz.prog 108 [(Sl.v x0),(.int .i64 x1),(.int .i64 x2),x3].toArray w (fun e w'=>∃ (r0:Int) (r1:Int),e=.returned (.tuple [(.int .i64 r0),(.int .i64 r1)].toArray)∧Ret r0 r1 w'):=by
 unfold zEZ at H
 refine zAY 63 (zipE 0 [(Sl.v x0),(.int .i64 x1),(.int .i64 x2),x3]) Tryz.func108 rfl rfl (by rfl) rfl ?_
 intro a g
 replace g:Sat [] 63 [(0,(Sl.v x0)),(1,(.int .i64 x1)),(2,(.int .i64 x2)),(3,x3)] a:=g
 refine zAF (zAA (g.as_ rfl fun _ g=>(g.as_ rfl fun _ g=>(zAG (tn (zAF (zAA (g.mv rfl fun _ g=>(g.mv rfl fun _ g=>(g.pur (zAv g rfl rfl) fun _ g=>(g.as_ rfl fun _ g=>(zAG (tn (zAF (zAA (g.op (zEH) H fun x11 w a H g=>(zAG (tn (zAF (zAA (g.mv rfl fun _ g=>(g.mv rfl fun _ g=>(g.op (zFD g rfl rfl) H fun x20 w a H g=>(g.pur (zLJ g rfl rfl) fun _ g=>(g.pur (zAn g rfl rfl) fun _ g=>(g.as_ rfl fun _ g=>(zAG (tn (zAF (zAA (g.mv rfl fun _ g=>(g.mv rfl fun _ g=>(g.op (zFD g rfl rfl) H fun x25 w a H g=>(g.pur (zLJ g rfl rfl) fun _ g=>(g.pur (zAn g rfl rfl) fun _ g=>(g.as_ rfl fun _ g=>(zAG (tn (zAF (zAA (g.mv rfl fun _ g=>(g.mv rfl fun _ g=>(g.op (zFD g rfl rfl) H fun x30 w a H g=>(g.pur (zLJ g rfl rfl) fun _ g=>(g.pur (zAn g rfl rfl) fun _ g=>(g.as_ rfl fun _ g=>(zAG (tn (zBG (ds:=[]) (N:=63) (σ:=Int) (fun s=>[(13,(.int .i64 s)),(11,(.pointer x11))]) (fun s w=>zA7 Ret x11 s w) ?_ (fun hj1=>?_))))))))))))))))))))))))))))))))))))))))))))))))))
 ·intro x13 w a H g
  try dsimp only at H g
  unfold zA7 at H
  refine zAF (zAA (g.op (zAI g rfl) H fun x55 w a H g=>(zAG (tn (zAN (zAF (zAA (g.pur (zGX g rfl rfl) fun _ g=>(g.as_ rfl fun _ g=>(zAG (tn (zAR g rfl (fun hc=>?_) (fun hc=>?_)))))))))))))
  ·replace H:=H.1 hc
   exact zAF (zAA (g.mv rfl fun _ g=>(g.as_ rfl fun _ g=>(g.as_ rfl fun _ g=>(zAG (tn (zAf (br (zFz g rfl rfl rfl ⟨_,_,rfl,H⟩)))))))))
  ·replace H:=H.2 hc
   refine zAF (zAA (g.pur (zGX g rfl rfl) fun _ g=>(g.as_ rfl fun _ g=>(zAG (tn (zAR g rfl (fun hc=>?_) (fun hc=>?_)))))))
   ·replace H:=H.1 hc
    exact zAF (zAA (g.mv rfl fun _ g=>(g.as_ rfl fun _ g=>(g.as_ rfl fun _ g=>(zAG (tn (zAf (br (zFz g rfl rfl rfl ⟨_,_,rfl,H⟩)))))))))
   ·replace H:=H.2 hc
    exact zAF (zAA (g.mv rfl fun _ g=>(g.as_ rfl fun _ g=>(g.as_ rfl fun _ g=>(zAG (tn (zAf (br (zFz g rfl rfl rfl ⟨_,_,rfl,H⟩)))))))))
 ·refine zAF (zAA (g.mv rfl fun _ g=>(g.pur (zF7 g rfl rfl) fun _ g=>(zAG (tn (zAR g rfl (fun hc=>?_) (fun hc=>?_)))))))
  ·replace H:=H.1 hc
   refine zBG (ds:=[]) (N:=63) (σ:=Int × Int × Int) (fun s=>[(12,(.int .i64 s.1)),(13,(.int .i64 s.2.1)),(14,(.int .i64 s.2.2)),(0,(Sl.v x0)),(3,x3),(11,(.pointer x11))]) (fun s w=>zA8 x0 x3 Ret x11 s.1 s.2.1 s.2.2 w) ?_ (fun hj2=>?_)
   ·rintro ⟨x12,x13_1,x14⟩ w a H g
    try dsimp only at H g
    unfold zA8 at H
    refine zAA (g.mv rfl fun _ g=>(g.mv rfl fun _ g=>(g.mv rfl fun _ g=>(g.mv rfl fun _ g=>(g.mv rfl fun _ g=>(g.call (zAQ g zSh rfl rfl) H fun e w H=>?_))))))
    obtain ⟨r,rfl,H⟩:=H
    exact ⟨_,rfl,fun _ g=>(g.as_ rfl fun _ g=>(zAG (tn (hj1 r _ _ H (g.weak ⟨rfl,rfl,trivial⟩)))))⟩
   ·refine zAF (zAA (g.mv rfl fun _ g=>(g.pur (zF7 g rfl rfl) fun _ g=>(zAG (tn (zAR g rfl (fun hc=>?_) (fun hc=>?_)))))))
    ·replace H:=H.1 hc
     refine zAF (zAA (g.mv rfl fun _ g=>(g.mv rfl fun _ g=>(g.mv rfl fun _ g=>(g.call (zAQ g zRM rfl rfl) H fun e w H=>?_)))))
     obtain ⟨r_1,rfl,H⟩:=H
     refine ⟨_,rfl,fun _ g=>(g.as_ rfl fun _ g=>(zAG (tn (zAF (zAA (g.mv rfl fun _ g=>(g.mv rfl fun _ g=>(g.mv rfl fun _ g=>(g.call (zAQ g zRM rfl rfl) H fun e w H=>?_)))))))))⟩
     obtain ⟨r_2,rfl,H⟩:=H
     refine ⟨_,rfl,fun _ g=>(g.as_ rfl fun _ g=>(zAG (tn (zAA (g.mv rfl fun _ g=>(g.mv rfl fun _ g=>(g.mv rfl fun _ g=>(g.call (zAQ g zRM rfl rfl) H fun e w H=>?_))))))))⟩
     obtain ⟨r_3,rfl,H⟩:=H
     exact ⟨_,rfl,fun _ g=>(g.as_ rfl fun _ g=>(zAG (tn (hj2 (r_1,r_2,r_3) _ _ H (g.weak ⟨rfl,rfl,rfl,rfl,rfl,rfl,trivial⟩)))))⟩
    ·replace H:=H.2 hc
     exact zAP (tn (hj2 ((IntKind.wrap .i64 (x1+(IntKind.wrap .i64 (x20*1)))),(IntKind.wrap .i64 (x1+(IntKind.wrap .i64 (x25*2)))),(IntKind.wrap .i64 (x1+(IntKind.wrap .i64 (x30*3))))) _ _ H (g.weak ⟨rfl,rfl,rfl,rfl,rfl,rfl,trivial⟩)))
  ·replace H:=H.2 hc
   exact zAP (tn (hj1 (IntKind.wrap .i64 (x1+(IntKind.wrap .i64 (x25*2)))) _ _ H (g.weak ⟨rfl,rfl,trivial⟩)))
def zBt (x8:Int) (x9:Int) (Kl1:Int→Int→World→Prop) (w:World):Prop:=
 Kl1 (IntKind.wrap .i64 (x8+1)) (IntKind.wrap .i64 (x9 - 1)) w
def zC5 (x0:Sl) (Ret:World→Prop) (x8:Int) (x9:Int) (w:World) (Kl1:Int→Int→World→Prop):Prop:=
 ((x8<x9)→(nextB w (fun w=>opP Tryz.prog Value.pointer (Instr.indexAt 67 (Sl.v x0) (.int .i64 x9)) (fun x22=>opP Tryz.prog Value.pointer (Instr.indexAt 67 (Sl.v x0) (.int .i64 x8)) (fun x26=>(opE Tryz.prog zAB.v (Instr.loadAt 72 (.pointer x22)) w (fun x23 w=>opE Tryz.prog zAB.v (Instr.loadAt 72 (.pointer x26)) w (fun x27 w=>opP Tryz.prog Value.pointer (Instr.indexAt 67 (Sl.v x0) (.int .i64 x8)) (fun x28=>opU Tryz.prog (Instr.storeAt 72 (.pointer x28) (zAB.v x23)) w (fun w=>opP Tryz.prog Value.pointer (Instr.indexAt 67 (Sl.v x0) (.int .i64 x9)) (fun x29=>opU Tryz.prog (Instr.storeAt 72 (.pointer x29) (zAB.v x27)) w (fun w=>zBt x8 x9 Kl1 w)))))))∧(opE Tryz.prog zAB.v (Instr.loadAt 72 (.pointer x26)) w (fun x27_1 w=>opE Tryz.prog zAB.v (Instr.loadAt 72 (.pointer x22)) w (fun x23_1 w=>opP Tryz.prog Value.pointer (Instr.indexAt 67 (Sl.v x0) (.int .i64 x8)) (fun x28_1=>opU Tryz.prog (Instr.storeAt 72 (.pointer x28_1) (zAB.v x23_1)) w (fun w=>opP Tryz.prog Value.pointer (Instr.indexAt 67 (Sl.v x0) (.int .i64 x9)) (fun x29_1=>opU Tryz.prog (Instr.storeAt 72 (.pointer x29_1) (zAB.v x27_1)) w (fun w=>zBt x8 x9 Kl1 w))))))))))))∧(¬ (x8<x9)→(Ret w))
def zEU (x0:Sl) (x1:Int) (x2:Int) (x3:Value) (w:World) (Ret:World→Prop):Prop:=
 ∃ (I:Int→Int→World→Prop) (μ:Int→Int→World→Nat),I x1 (IntKind.wrap .i64 (x2 - 1)) w∧∀ (x8:Int) (x9:Int) w,I x8 x9 w→zC5 x0 Ret x8 x9 w (fun x8' x9' w'=>I x8' x9' w'∧μ x8' x9' w'<μ x8 x9 w)
set_option maxRecDepth 100000 in
theorem zHb (x0:Sl) (x1:Int) (x2:Int) (x3:Value) (w:World) (Ret:World→Prop) (H:zEU x0 x1 x2 x3 w Ret):Cl Tryz.prog 109 [(Sl.v x0),(.int .i64 x1),(.int .i64 x2),x3].toArray w (fun e w'=>e=.returned (.tuple [].toArray)∧Ret w'):=by
 unfold zEU at H
 refine zAY 34 (zipE 0 [(Sl.v x0),(.int .i64 x1),(.int .i64 x2),x3]) Tryz.func109 rfl rfl (by rfl) rfl ?_
 intro a g
 replace g:Sat [] 34 [(0,(Sl.v x0)),(1,(.int .i64 x1)),(2,(.int .i64 x2)),(3,x3)] a:=g
 refine zAF (zAA (g.mv rfl fun _ g=>(g.as_ rfl fun _ g=>(zAG (tn (zAF (zAA (g.mv rfl fun _ g=>(g.pur (zAv g rfl rfl) fun _ g=>(g.as_ rfl fun _ g=>(zAG (tn (zAN ?_)))))))))))))
 obtain ⟨I_l1,μ_l1,h0,hb⟩:=H
 refine zBl (ds:=[]) (N:=34) (σ:=Int × Int) (fun s=>[(8,(.int .i64 s.1)),(9,(.int .i64 s.2)),(0,(Sl.v x0))]) (fun s w=>I_l1 s.1 s.2 w) (fun s w=>μ_l1 s.1 s.2 w) (x1,(IntKind.wrap .i64 (x2 - 1))) h0 (g.weak ⟨rfl,rfl,rfl,trivial⟩) ?_
 rintro ⟨x8,x9⟩ w a hI g
 try dsimp only at hI g
 obtain ⟨Kl1,hK_l1⟩:∃ K:Int→Int→World→Prop,K=(fun x8' x9' w'=>I_l1 x8' x9' w'∧μ_l1 x8' x9' w'<μ_l1 x8 x9 w):=⟨_,rfl⟩
 have H:zC5 x0 Ret x8 x9 w Kl1:=by rw [hK_l1];exact hb x8 x9 w hI
 clear hb h0 hI
 unfold zC5 at H
 refine zAF (zAF (zAA (g.mv rfl fun _ g=>(g.mv rfl fun _ g=>(g.pur (zDp g rfl rfl) fun _ g=>(zAG (tn (zAR g rfl (fun hc=>?_) (fun hc=>?_)))))))))
 ·replace H:=H.1 hc
  refine zAP (tn (zAN (zBG (ds:=[]) (N:=34) (σ:=Unit) (fun s=>[(0,(Sl.v x0)),(8,(.int .i64 x8)),(9,(.int .i64 x9))]) (fun s w=>zBt x8 x9 Kl1 w) ?_ (fun hj2=>?_))))
  ·rintro ⟨⟩ w a H g
   try dsimp only at H g
   unfold zBt at H
   refine zAF (zAA (g.mv rfl fun _ g=>(g.pur (zAn g rfl rfl) fun _ g=>(g.as_ rfl fun _ g=>(zAG (tn (zAA (g.mv rfl fun _ g=>(g.pur (zAv g rfl rfl) fun _ g=>(g.as_ rfl fun _ g=>?_))))))))))
   rw [hK_l1] at H
   exact zAG (bn (tn ⟨((IntKind.wrap .i64 (x8+1)),(IntKind.wrap .i64 (x9 - 1))),g.weak ⟨rfl,rfl,rfl,trivial⟩,H⟩))
  ·refine zKK 16 fun w hB=>?_
   replace H:=H w hB
   refine g.ap 0 rfl (zAL g rfl) fun _ g=>g.ap 1 rfl (zAL g rfl) fun _ g=>g.ap 2 rfl (zAL g rfl) fun _ g=>g.ap 3 rfl (zAL g rfl) fun _ g=>g.ap 4 rfl (zAL g rfl) fun _ g=>g.ap 5 rfl (zAL g rfl) fun _ g=>g.ao 6 rfl (zAC g rfl rfl) H fun x22 a H g=>g.ap 8 rfl (zAL g rfl) fun _ g=>g.ap 9 rfl (zAL g rfl) fun _ g=>g.ao 10 rfl (zAC g rfl rfl) H fun x26 a H g=>WA.tw 7 11 rfl rfl ?_ ?_
   ·replace H:=H.1
    intro K hK
    exact g.wop (zAI g rfl) H fun x23 w a H g=>hK _ _ (g.o1 11 rfl (zAI g rfl) H fun x27 w a H g=>(g.ao 12 rfl (zAC g rfl rfl) H fun x28 a H g=>(g.o1u 13 rfl (zAM g rfl rfl) H fun w a H g=>(g.ao 14 rfl (zAC g rfl rfl) H fun x29 a H g=>(g.o1u 15 rfl (zAM g rfl rfl) H fun w a H g=>(WA.ni ((tn (hj2 () _ _ H (g.weak ⟨rfl,rfl,rfl,trivial⟩))))))))))
   ·replace H:=H.2
    intro K hK
    exact g.wop (zAI g rfl) H fun x27_1 w a H g=>hK _ _ (g.o1 7 rfl (zAI g rfl) H fun x23_1 w a H g=>(g.ao 12 rfl (zAC g rfl rfl) H fun x28_1 a H g=>(g.o1u 13 rfl (zAM g rfl rfl) H fun w a H g=>(g.ao 14 rfl (zAC g rfl rfl) H fun x29_1 a H g=>(g.o1u 15 rfl (zAM g rfl rfl) H fun w a H g=>(WA.ni ((tn (hj2 () _ _ H (g.weak ⟨rfl,rfl,rfl,trivial⟩))))))))))
 ·replace H:=H.2 hc
  exact zBJ (te (te (be (zG1 g rfl ⟨rfl,H⟩))))
def zAb (x10:Int) (Kl1:Int→Int→World→Prop) (x9_1:Int) (w:World):Prop:=
 Kl1 x9_1 (IntKind.wrap .i64 (x10+1)) w
def zAw (x12:Int) (Kl7:Int→World→Prop) (w:World):Prop:=
 Kl7 (IntKind.wrap .i64 (x12+1)) w
def zBk (x0:Sl) (x2:Int) (x3:Value) (x10:Int) (Kl1:Int→Int→World→Prop) (x9_2:Int) (x12:Int) (w:World) (Kl7:Int→World→Prop):Prop:=
 ((x12<x2)→(opB Tryz.prog Value.pointer (Instr.indexAt 67 (Sl.v x0) (.int .i64 x12)) w (fun x115=>opB Tryz.prog zAB.v (Instr.loadAt 72 (.pointer x115)) w (fun x116=>opB Tryz.prog Value.pointer (Instr.indexAt 67 (Sl.v x0) (.int .i64 (IntKind.wrap .i64 (x12 - 1)))) w (fun x120=>opB Tryz.prog zAB.v (Instr.loadAt 72 (.pointer x120)) w (fun x121=>∃ (r:Int),CallQ Tryz.prog x3 [(zAB.v x116),(zAB.v x121)] w (.int .i64 r)∧(nextB w (fun w=>((!(decide (r<0)))=true→(zAb x10 Kl1 x9_2 w))∧((!(decide (r<0)))=false→(nextB w (fun w=>opP Tryz.prog Value.pointer (Instr.indexAt 67 (Sl.v x0) (.int .i64 (IntKind.wrap .i64 (x12 - 1)))) (fun x133=>opP Tryz.prog Value.pointer (Instr.indexAt 67 (Sl.v x0) (.int .i64 x12)) (fun x137=>(opE Tryz.prog zAB.v (Instr.loadAt 72 (.pointer x133)) w (fun x134 w=>opE Tryz.prog zAB.v (Instr.loadAt 72 (.pointer x137)) w (fun x138 w=>opP Tryz.prog Value.pointer (Instr.indexAt 67 (Sl.v x0) (.int .i64 x12)) (fun x139=>opU Tryz.prog (Instr.storeAt 72 (.pointer x139) (zAB.v x134)) w (fun w=>opP Tryz.prog Value.pointer (Instr.indexAt 67 (Sl.v x0) (.int .i64 (IntKind.wrap .i64 (x12 - 1)))) (fun x140=>opU Tryz.prog (Instr.storeAt 72 (.pointer x140) (zAB.v x138)) w (fun w=>zAw x12 Kl7 w)))))))∧(opE Tryz.prog zAB.v (Instr.loadAt 72 (.pointer x137)) w (fun x138_1 w=>opE Tryz.prog zAB.v (Instr.loadAt 72 (.pointer x133)) w (fun x134_1 w=>opP Tryz.prog Value.pointer (Instr.indexAt 67 (Sl.v x0) (.int .i64 x12)) (fun x139_1=>opU Tryz.prog (Instr.storeAt 72 (.pointer x139_1) (zAB.v x134_1)) w (fun w=>opP Tryz.prog Value.pointer (Instr.indexAt 67 (Sl.v x0) (.int .i64 (IntKind.wrap .i64 (x12 - 1)))) (fun x140_1=>opU Tryz.prog (Instr.storeAt 72 (.pointer x140_1) (zAB.v x138_1)) w (fun w=>zAw x12 Kl7 w))))))))))))))))))))∧(¬ (x12<x2)→(zAb x10 Kl1 x9_2 w))
def zAU (x0:Sl) (x2:Int) (x3:Value) (x10:Int) (Kl1:Int→Int→World→Prop) (x9_2:Int) (w:World):Prop:=
 ((2≤(IntKind.wrap .i64 (x2 - x9_2)))→(∃ (I:Int→World→Prop) (μ:Int→World→Nat),I (IntKind.wrap .i64 (x9_2+1)) w∧∀ (x12:Int) w,I x12 w→zBk x0 x2 x3 x10 Kl1 x9_2 x12 w (fun x12' w'=>I x12' w'∧μ x12' w'<μ x12 w)))∧(¬ (2≤(IntKind.wrap .i64 (x2 - x9_2)))→(zAb x10 Kl1 x9_2 w))
def zAu (x11:Int) (Kl9:Int→World→Prop) (w:World):Prop:=
 Kl9 (IntKind.wrap .i64 (x11 - 1)) w
def zBi (x0:Sl) (x2:Int) (x3:Value) (x10:Int) (Kl1:Int→Int→World→Prop) (x9_2:Int) (x11:Int) (w:World) (Kl9:Int→World→Prop):Prop:=
 ((1≤x11)→(opB Tryz.prog Value.pointer (Instr.indexAt 67 (Sl.v x0) (.int .i64 x11)) w (fun x75=>opB Tryz.prog zAB.v (Instr.loadAt 72 (.pointer x75)) w (fun x76=>opB Tryz.prog Value.pointer (Instr.indexAt 67 (Sl.v x0) (.int .i64 (IntKind.wrap .i64 (x11 - 1)))) w (fun x80=>opB Tryz.prog zAB.v (Instr.loadAt 72 (.pointer x80)) w (fun x81=>∃ (r_1:Int),CallQ Tryz.prog x3 [(zAB.v x76),(zAB.v x81)] w (.int .i64 r_1)∧(nextB w (fun w=>((!(decide (r_1<0)))=true→(zAU x0 x2 x3 x10 Kl1 x9_2 w))∧((!(decide (r_1<0)))=false→(nextB w (fun w=>opP Tryz.prog Value.pointer (Instr.indexAt 67 (Sl.v x0) (.int .i64 (IntKind.wrap .i64 (x11 - 1)))) (fun x93=>opP Tryz.prog Value.pointer (Instr.indexAt 67 (Sl.v x0) (.int .i64 x11)) (fun x97=>(opE Tryz.prog zAB.v (Instr.loadAt 72 (.pointer x93)) w (fun x94 w=>opE Tryz.prog zAB.v (Instr.loadAt 72 (.pointer x97)) w (fun x98 w=>opP Tryz.prog Value.pointer (Instr.indexAt 67 (Sl.v x0) (.int .i64 x11)) (fun x99=>opU Tryz.prog (Instr.storeAt 72 (.pointer x99) (zAB.v x94)) w (fun w=>opP Tryz.prog Value.pointer (Instr.indexAt 67 (Sl.v x0) (.int .i64 (IntKind.wrap .i64 (x11 - 1)))) (fun x100=>opU Tryz.prog (Instr.storeAt 72 (.pointer x100) (zAB.v x98)) w (fun w=>zAu x11 Kl9 w)))))))∧(opE Tryz.prog zAB.v (Instr.loadAt 72 (.pointer x97)) w (fun x98_1 w=>opE Tryz.prog zAB.v (Instr.loadAt 72 (.pointer x93)) w (fun x94_1 w=>opP Tryz.prog Value.pointer (Instr.indexAt 67 (Sl.v x0) (.int .i64 x11)) (fun x99_1=>opU Tryz.prog (Instr.storeAt 72 (.pointer x99_1) (zAB.v x94_1)) w (fun w=>opP Tryz.prog Value.pointer (Instr.indexAt 67 (Sl.v x0) (.int .i64 (IntKind.wrap .i64 (x11 - 1)))) (fun x100_1=>opU Tryz.prog (Instr.storeAt 72 (.pointer x100_1) (zAB.v x98_1)) w (fun w=>zAu x11 Kl9 w))))))))))))))))))))∧(¬ (1≤x11)→(zAU x0 x2 x3 x10 Kl1 x9_2 w))
def zAy (x0:Sl) (x1:Int) (x2:Int) (x3:Value) (x10:Int) (Kl1:Int→Int→World→Prop) (x9_2:Int) (w:World):Prop:=
 ((2≤(IntKind.wrap .i64 (x9_2 - x1)))→(∃ (I:Int→World→Prop) (μ:Int→World→Nat),I (IntKind.wrap .i64 (x9_2 - 1)) w∧∀ (x11:Int) w,I x11 w→zBi x0 x2 x3 x10 Kl1 x9_2 x11 w (fun x11' w'=>I x11' w'∧μ x11' w'<μ x11 w)))∧(¬ (2≤(IntKind.wrap .i64 (x9_2 - x1)))→(zAU x0 x2 x3 x10 Kl1 x9_2 w))
def zAz (x0:Sl) (x1:Int) (x2:Int) (x3:Value) (Ret:Bool→World→Prop) (x10:Int) (Kl1:Int→Int→World→Prop) (x9_2:Int) (Kl3:Int→World→Prop) (x36:Bool) (w:World):Prop:=
 nextB w (fun w=>(x36=true→(Kl3 (IntKind.wrap .i64 (x9_2+1)) w))∧(x36=false→(((x9_2=x2)→(Ret true w))∧(¬ (x9_2=x2)→((((IntKind.wrap .i64 (x2 - x1))<50)→(Ret false w))∧(¬ ((IntKind.wrap .i64 (x2 - x1))<50)→(nextB w (fun w=>opP Tryz.prog Value.pointer (Instr.indexAt 67 (Sl.v x0) (.int .i64 (IntKind.wrap .i64 (x9_2 - 1)))) (fun x54=>opP Tryz.prog Value.pointer (Instr.indexAt 67 (Sl.v x0) (.int .i64 x9_2)) (fun x58=>(opE Tryz.prog zAB.v (Instr.loadAt 72 (.pointer x54)) w (fun x55 w=>opE Tryz.prog zAB.v (Instr.loadAt 72 (.pointer x58)) w (fun x59 w=>opP Tryz.prog Value.pointer (Instr.indexAt 67 (Sl.v x0) (.int .i64 x9_2)) (fun x60=>opU Tryz.prog (Instr.storeAt 72 (.pointer x60) (zAB.v x55)) w (fun w=>opP Tryz.prog Value.pointer (Instr.indexAt 67 (Sl.v x0) (.int .i64 (IntKind.wrap .i64 (x9_2 - 1)))) (fun x61=>opU Tryz.prog (Instr.storeAt 72 (.pointer x61) (zAB.v x59)) w (fun w=>zAy x0 x1 x2 x3 x10 Kl1 x9_2 w)))))))∧(opE Tryz.prog zAB.v (Instr.loadAt 72 (.pointer x58)) w (fun x59_1 w=>opE Tryz.prog zAB.v (Instr.loadAt 72 (.pointer x54)) w (fun x55_1 w=>opP Tryz.prog Value.pointer (Instr.indexAt 67 (Sl.v x0) (.int .i64 x9_2)) (fun x60_1=>opU Tryz.prog (Instr.storeAt 72 (.pointer x60_1) (zAB.v x55_1)) w (fun w=>opP Tryz.prog Value.pointer (Instr.indexAt 67 (Sl.v x0) (.int .i64 (IntKind.wrap .i64 (x9_2 - 1)))) (fun x61_1=>opU Tryz.prog (Instr.storeAt 72 (.pointer x61_1) (zAB.v x59_1)) w (fun w=>zAy x0 x1 x2 x3 x10 Kl1 x9_2 w)))))))))))))))))
def zBj (x0:Sl) (x1:Int) (x2:Int) (x3:Value) (Ret:Bool→World→Prop) (x10:Int) (Kl1:Int→Int→World→Prop) (x9_2:Int) (w:World) (Kl3:Int→World→Prop):Prop:=
 ((x9_2<x2)→(opB Tryz.prog Value.pointer (Instr.indexAt 67 (Sl.v x0) (.int .i64 x9_2)) w (fun x26=>opB Tryz.prog zAB.v (Instr.loadAt 72 (.pointer x26)) w (fun x27=>opB Tryz.prog Value.pointer (Instr.indexAt 67 (Sl.v x0) (.int .i64 (IntKind.wrap .i64 (x9_2 - 1)))) w (fun x31=>opB Tryz.prog zAB.v (Instr.loadAt 72 (.pointer x31)) w (fun x32=>∃ (r_2:Int),CallQ Tryz.prog x3 [(zAB.v x27),(zAB.v x32)] w (.int .i64 r_2)∧(zAz x0 x1 x2 x3 Ret x10 Kl1 x9_2 Kl3 (!(decide (r_2<0))) w)))))))∧(¬ (x9_2<x2)→(zAz x0 x1 x2 x3 Ret x10 Kl1 x9_2 Kl3 false w))
def zBc (x0:Sl) (x1:Int) (x2:Int) (x3:Value) (Ret:Bool→World→Prop) (x9:Int) (x10:Int) (w:World) (Kl1:Int→Int→World→Prop):Prop:=
 ((x10<5)→(∃ (I:Int→World→Prop) (μ:Int→World→Nat),I x9 w∧∀ (x9_2:Int) w,I x9_2 w→zBj x0 x1 x2 x3 Ret x10 Kl1 x9_2 w (fun x9_2' w'=>I x9_2' w'∧μ x9_2' w'<μ x9_2 w)))∧(¬ (x10<5)→(Ret false w))
def zDt (x0:Sl) (x1:Int) (x2:Int) (x3:Value) (w:World) (Ret:Bool→World→Prop):Prop:=
 ∃ (I:Int→Int→World→Prop) (μ:Int→Int→World→Nat),I (IntKind.wrap .i64 (x1+1)) 0 w∧∀ (x9:Int) (x10:Int) w,I x9 x10 w→zBc x0 x1 x2 x3 Ret x9 x10 w (fun x9' x10' w'=>I x9' x10' w'∧μ x9' x10' w'<μ x9 x10 w)
set_option maxRecDepth 100000 in
theorem zGR (x0:Sl) (x1:Int) (x2:Int) (x3:Value) (w:World) (Ret:Bool→World→Prop) (H:zDt x0 x1 x2 x3 w Ret):Cl Tryz.prog 110 [(Sl.v x0),(.int .i64 x1),(.int .i64 x2),x3].toArray w (fun e w'=>∃ (r0:Bool),e=.returned (.bool r0)∧Ret r0 w'):=by
 unfold zDt at H
 refine zAY 141 (zipE 0 [(Sl.v x0),(.int .i64 x1),(.int .i64 x2),x3]) Tryz.func110 rfl rfl (by rfl) rfl ?_
 intro a g
 replace g:Sat [] 141 [(0,(Sl.v x0)),(1,(.int .i64 x1)),(2,(.int .i64 x2)),(3,x3)] a:=g
 refine zAF (zAA (g.as_ rfl fun _ g=>(zAG (tn (zAF (zAA (g.mv rfl fun _ g=>(g.pur (zAn g rfl rfl) fun _ g=>(g.as_ rfl fun _ g=>(zAG (tn (zAF (zAF (zAA (g.as_ rfl fun _ g=>(zAG (tn (zAN ?_))))))))))))))))))
 obtain ⟨I_l1,μ_l1,h0,hb⟩:=H
 refine zBl (ds:=[]) (N:=141) (σ:=Int × Int) (fun s=>[(9,(.int .i64 s.1)),(10,(.int .i64 s.2)),(0,(Sl.v x0)),(1,(.int .i64 x1)),(2,(.int .i64 x2)),(3,x3)]) (fun s w=>I_l1 s.1 s.2 w) (fun s w=>μ_l1 s.1 s.2 w) ((IntKind.wrap .i64 (x1+1)),0) h0 (g.weak ⟨rfl,rfl,rfl,rfl,rfl,rfl,trivial⟩) ?_
 rintro ⟨x9,x10⟩ w a hI g
 try dsimp only at hI g
 obtain ⟨Kl1,hK_l1⟩:∃ K:Int→Int→World→Prop,K=(fun x9' x10' w'=>I_l1 x9' x10' w'∧μ_l1 x9' x10' w'<μ_l1 x9 x10 w):=⟨_,rfl⟩
 have H:zBc x0 x1 x2 x3 Ret x9 x10 w Kl1:=by rw [hK_l1];exact hb x9 x10 w hI
 clear hb h0 hI
 unfold zBc at H
 refine zAF (zAF (zAA (g.mv rfl fun _ g=>(g.pur (zDp g rfl rfl) fun _ g=>(zAG (tn (zAR g rfl (fun hc=>?_) (fun hc=>?_))))))))
 ·replace H:=H.1 hc
  refine zAP (tn (zBG (ds:=[]) (N:=141) (σ:=Int) (fun s=>[(9,(.int .i64 s)),(0,(Sl.v x0)),(1,(.int .i64 x1)),(2,(.int .i64 x2)),(3,x3),(10,(.int .i64 x10))]) (fun s w=>zAb x10 Kl1 s w) ?_ (fun hj2=>?_)))
  ·intro x9_1 w a H g
   try dsimp only at H g
   unfold zAb at H
   refine zAA (g.mv rfl fun _ g=>(g.pur (zAn g rfl rfl) fun _ g=>(g.as_ rfl fun _ g=>?_)))
   rw [hK_l1] at H
   exact zAG (tn ⟨(x9_1,(IntKind.wrap .i64 (x10+1))),g.weak ⟨rfl,rfl,rfl,rfl,rfl,rfl,trivial⟩,H⟩)
  ·refine zAN (zAF (zAN ?_))
   obtain ⟨I_l3,μ_l3,h0,hb⟩:=H
   refine zBl (ds:=[]) (N:=141) (σ:=Int) (fun s=>[(9,(.int .i64 s)),(0,(Sl.v x0)),(1,(.int .i64 x1)),(2,(.int .i64 x2)),(3,x3),(10,(.int .i64 x10))]) (fun s w=>I_l3 s w) (fun s w=>μ_l3 s w) x9 h0 (g.weak ⟨rfl,rfl,rfl,rfl,rfl,rfl,trivial⟩) ?_
   intro x9_2 w a hI g
   try dsimp only at hI g
   obtain ⟨Kl3,hK_l3⟩:∃ K:Int→World→Prop,K=(fun x9_2' w'=>I_l3 x9_2' w'∧μ_l3 x9_2' w'<μ_l3 x9_2 w):=⟨_,rfl⟩
   have H:zBj x0 x1 x2 x3 Ret x10 Kl1 x9_2 w Kl3:=by rw [hK_l3];exact hb x9_2 w hI
   clear hb h0 hI
   unfold zBj at H
   refine zAF (zAF (zEB (by kernel_rfl) (by kernel_rfl) (g.qm rfl fun _ g=>(g.qm rfl fun _ g=>(g.qpur (zDp g rfl rfl) fun _ g=>(g.qm rfl fun _ g=>(WQ.join (ds:=[]) (N:=141) (σ:=Bool) (fun s=>[(36,(.bool s)),(0,(Sl.v x0)),(1,(.int .i64 x1)),(2,(.int .i64 x2)),(3,x3),(9,(.int .i64 x9_2)),(10,(.int .i64 x10))]) (fun s=>zAz x0 x1 x2 x3 Ret x10 Kl1 x9_2 Kl3 s w) 14 ?_ (fun hr4=>?_))))))))
   ·intro x36 a H g
    try dsimp only at H g
    unfold zAz at H
    refine zED (fun w hB=>?_)
    replace H:=H w hB
    refine (tn (zAV g rfl (fun hc=>?_) (fun hc=>?_)))
    ·replace H:=H.1 hc
     refine zAP (tn (zAN (zAA (g.mv rfl fun _ g=>(g.pur (zAn g rfl rfl) fun _ g=>(g.as_ rfl fun _ g=>?_))))))
     rw [hK_l3] at H
     exact zAG (bn (tn ⟨(IntKind.wrap .i64 (x9_2+1)),g.weak ⟨rfl,rfl,rfl,rfl,rfl,rfl,trivial⟩,H⟩))
    ·replace H:=H.2 hc
     refine zBJ (te (te (be (tn (zAF (zAF (zAA (g.mv rfl fun _ g=>(g.mv rfl fun _ g=>(g.pur (zGX g rfl rfl) fun _ g=>(zAG (tn (zAR g rfl (fun hc=>?_) (fun hc=>?_))))))))))))))
     ·replace H:=H.1 hc
      exact zAF (zAA (g.as_ rfl fun _ g=>(zAG (tn (zAf (tr (br (tr (tr (br (tr (zAt g rfl rfl ⟨_,rfl,H⟩))))))))))))
     ·replace H:=H.2 hc
      refine zAP (tn (zAF (zAF (zAA (g.mv rfl fun _ g=>(g.mv rfl fun _ g=>(g.pur (zAv g rfl rfl) fun _ g=>(g.pur (zDp g rfl rfl) fun _ g=>(zAG (tn (zAR g rfl (fun hc=>?_) (fun hc=>?_))))))))))))
      ·replace H:=H.1 hc
       exact zAF (zAA (g.as_ rfl fun _ g=>(zAG (tn (zAf (tr (br (tr (tr (br (tr (zAt g rfl rfl ⟨_,rfl,H⟩))))))))))))
      ·replace H:=H.2 hc
       refine zAP (tn (zBG (ds:=[]) (N:=141) (σ:=Unit) (fun s=>[(0,(Sl.v x0)),(1,(.int .i64 x1)),(2,(.int .i64 x2)),(3,x3),(9,(.int .i64 x9_2)),(10,(.int .i64 x10))]) (fun s w=>zAy x0 x1 x2 x3 x10 Kl1 x9_2 w) ?_ (fun hj5=>?_)))
       ·rintro ⟨⟩ w a H g
        try dsimp only at H g
        unfold zAy at H
        refine zBG (ds:=[]) (N:=141) (σ:=Unit) (fun s=>[(0,(Sl.v x0)),(1,(.int .i64 x1)),(2,(.int .i64 x2)),(3,x3),(9,(.int .i64 x9_2)),(10,(.int .i64 x10))]) (fun s w=>zAU x0 x2 x3 x10 Kl1 x9_2 w) ?_ (fun hj6=>?_)
        ·rintro ⟨⟩ w a H g
         try dsimp only at H g
         unfold zAU at H
         refine zAF (zAA (g.mv rfl fun _ g=>(g.mv rfl fun _ g=>(g.pur (zAv g rfl rfl) fun _ g=>(g.pur (zF7 g rfl rfl) fun _ g=>(zAG (tn (zAR g rfl (fun hc=>?_) (fun hc=>?_)))))))))
         ·replace H:=H.1 hc
          refine zAF (zAA (g.mv rfl fun _ g=>(g.pur (zAn g rfl rfl) fun _ g=>(g.as_ rfl fun _ g=>(zAG (tn (zAN ?_)))))))
          obtain ⟨I_l7,μ_l7,h0,hb⟩:=H
          refine zBl (ds:=[]) (N:=141) (σ:=Int) (fun s=>[(12,(.int .i64 s)),(0,(Sl.v x0)),(1,(.int .i64 x1)),(2,(.int .i64 x2)),(3,x3),(9,(.int .i64 x9_2)),(10,(.int .i64 x10))]) (fun s w=>I_l7 s w) (fun s w=>μ_l7 s w) (IntKind.wrap .i64 (x9_2+1)) h0 (g.weak ⟨rfl,rfl,rfl,rfl,rfl,rfl,rfl,trivial⟩) ?_
          intro x12 w a hI g
          try dsimp only at hI g
          obtain ⟨Kl7,hK_l7⟩:∃ K:Int→World→Prop,K=(fun x12' w'=>I_l7 x12' w'∧μ_l7 x12' w'<μ_l7 x12 w):=⟨_,rfl⟩
          have H:zBk x0 x2 x3 x10 Kl1 x9_2 x12 w Kl7:=by rw [hK_l7];exact hb x12 w hI
          clear hb h0 hI
          unfold zBk at H
          refine zAF (zAF (zAA (g.mv rfl fun _ g=>(g.mv rfl fun _ g=>(g.pur (zDp g rfl rfl) fun _ g=>(zAG (tn (zAR g rfl (fun hc=>?_) (fun hc=>?_)))))))))
          ·replace H:=H.1 hc
           refine zAP (tn (zBG (ds:=[]) (N:=141) (σ:=Unit) (fun s=>[(0,(Sl.v x0)),(1,(.int .i64 x1)),(2,(.int .i64 x2)),(3,x3),(9,(.int .i64 x9_2)),(10,(.int .i64 x10)),(12,(.int .i64 x12))]) (fun s w=>zAw x12 Kl7 w) ?_ (fun hj8=>?_)))
           ·rintro ⟨⟩ w a H g
            try dsimp only at H g
            unfold zAw at H
            refine zAA (g.mv rfl fun _ g=>(g.pur (zAn g rfl rfl) fun _ g=>(g.as_ rfl fun _ g=>?_)))
            rw [hK_l7] at H
            exact zAG (tn ⟨(IntKind.wrap .i64 (x12+1)),g.weak ⟨rfl,rfl,rfl,rfl,rfl,rfl,rfl,trivial⟩,H⟩)
           ·refine zAN (zAF (zAF (zEB (by kernel_rfl) (by kernel_rfl) (g.qm rfl fun _ g=>(g.qm rfl fun _ g=>(g.qm rfl fun _ g=>(g.qop (zAC g rfl rfl) H fun x115 a H g=>(g.qop (zAI g rfl) H fun x116 a H g=>(g.qm rfl fun _ g=>(g.qm rfl fun _ g=>(g.qpur (zAv g rfl rfl) fun _ g=>(g.qop (zAC g rfl rfl) H fun x120 a H g=>(g.qop (zAI g rfl) H fun x121 a H g=>?_)))))))))))))
            obtain ⟨r,hc,H⟩:=H
            refine g.qcallV rfl rfl hc fun _ g=>g.qpur (zDp g rfl rfl) fun _ g=>g.qpur (zGp g rfl) fun _ g=>zED (fun w hB=>?_)
            replace H:=H w hB
            refine (tn (zAV g rfl (fun hc=>?_) (fun hc=>?_)))
            ·replace H:=H.1 hc
             exact zBJ (te (bo (te (te (be (bn (tn (hj2 x9_2 _ _ H (g.weak ⟨rfl,rfl,rfl,rfl,rfl,rfl,trivial⟩)))))))))
            ·replace H:=H.2 hc
             refine zAP (tn (zKK 18 fun w hB=>?_))
             replace H:=H w hB
             refine g.ap 0 rfl (zAL g rfl) fun _ g=>g.ap 1 rfl (zAL g rfl) fun _ g=>g.ap 2 rfl (zAL g rfl) fun _ g=>g.ap 3 rfl (zAL g rfl) fun _ g=>g.ap 4 rfl (zAv g rfl rfl) fun _ g=>g.ap 5 rfl (zAL g rfl) fun _ g=>g.ap 6 rfl (zAL g rfl) fun _ g=>g.ap 7 rfl (zAv g rfl rfl) fun _ g=>g.ao 8 rfl (zAC g rfl rfl) H fun x133 a H g=>g.ap 10 rfl (zAL g rfl) fun _ g=>g.ap 11 rfl (zAL g rfl) fun _ g=>g.ao 12 rfl (zAC g rfl rfl) H fun x137 a H g=>WA.tw 9 13 rfl rfl ?_ ?_
             ·replace H:=H.1
              intro K hK
              exact g.wop (zAI g rfl) H fun x134 w a H g=>hK _ _ (g.o1 13 rfl (zAI g rfl) H fun x138 w a H g=>(g.ao 14 rfl (zAC g rfl rfl) H fun x139 a H g=>(g.o1u 15 rfl (zAM g rfl rfl) H fun w a H g=>(g.ao 16 rfl (zAC g rfl rfl) H fun x140 a H g=>(g.o1u 17 rfl (zAM g rfl rfl) H fun w a H g=>(WA.ni ((bn (tn (hj8 () _ _ H (g.weak ⟨rfl,rfl,rfl,rfl,rfl,rfl,rfl,trivial⟩)))))))))))
             ·replace H:=H.2
              intro K hK
              exact g.wop (zAI g rfl) H fun x138_1 w a H g=>hK _ _ (g.o1 9 rfl (zAI g rfl) H fun x134_1 w a H g=>(g.ao 14 rfl (zAC g rfl rfl) H fun x139_1 a H g=>(g.o1u 15 rfl (zAM g rfl rfl) H fun w a H g=>(g.ao 16 rfl (zAC g rfl rfl) H fun x140_1 a H g=>(g.o1u 17 rfl (zAM g rfl rfl) H fun w a H g=>(WA.ni ((bn (tn (hj8 () _ _ H (g.weak ⟨rfl,rfl,rfl,rfl,rfl,rfl,rfl,trivial⟩)))))))))))
          ·replace H:=H.2 hc
           exact zBJ (te (te (be (bn (tn (hj2 x9_2 _ _ H (g.weak ⟨rfl,rfl,rfl,rfl,rfl,rfl,trivial⟩)))))))
         ·replace H:=H.2 hc
          exact zAP (bn (tn (hj2 x9_2 _ _ H (g.weak ⟨rfl,rfl,rfl,rfl,rfl,rfl,trivial⟩))))
        ·refine zAF (zAA (g.mv rfl fun _ g=>(g.mv rfl fun _ g=>(g.pur (zAv g rfl rfl) fun _ g=>(g.pur (zF7 g rfl rfl) fun _ g=>(zAG (tn (zAR g rfl (fun hc=>?_) (fun hc=>?_)))))))))
         ·replace H:=H.1 hc
          refine zAF (zAA (g.mv rfl fun _ g=>(g.pur (zAv g rfl rfl) fun _ g=>(g.as_ rfl fun _ g=>(zAG (tn (zAN ?_)))))))
          obtain ⟨I_l9,μ_l9,h0,hb⟩:=H
          refine zBl (ds:=[]) (N:=141) (σ:=Int) (fun s=>[(11,(.int .i64 s)),(0,(Sl.v x0)),(1,(.int .i64 x1)),(2,(.int .i64 x2)),(3,x3),(9,(.int .i64 x9_2)),(10,(.int .i64 x10))]) (fun s w=>I_l9 s w) (fun s w=>μ_l9 s w) (IntKind.wrap .i64 (x9_2 - 1)) h0 (g.weak ⟨rfl,rfl,rfl,rfl,rfl,rfl,rfl,trivial⟩) ?_
          intro x11 w a hI g
          try dsimp only at hI g
          obtain ⟨Kl9,hK_l9⟩:∃ K:Int→World→Prop,K=(fun x11' w'=>I_l9 x11' w'∧μ_l9 x11' w'<μ_l9 x11 w):=⟨_,rfl⟩
          have H:zBi x0 x2 x3 x10 Kl1 x9_2 x11 w Kl9:=by rw [hK_l9];exact hb x11 w hI
          clear hb h0 hI
          unfold zBi at H
          refine zAF (zAF (zAA (g.mv rfl fun _ g=>(g.pur (zF7 g rfl rfl) fun _ g=>(zAG (tn (zAR g rfl (fun hc=>?_) (fun hc=>?_))))))))
          ·replace H:=H.1 hc
           refine zAP (tn (zBG (ds:=[]) (N:=141) (σ:=Unit) (fun s=>[(0,(Sl.v x0)),(1,(.int .i64 x1)),(2,(.int .i64 x2)),(3,x3),(9,(.int .i64 x9_2)),(10,(.int .i64 x10)),(11,(.int .i64 x11))]) (fun s w=>zAu x11 Kl9 w) ?_ (fun hj10=>?_)))
           ·rintro ⟨⟩ w a H g
            try dsimp only at H g
            unfold zAu at H
            refine zAA (g.mv rfl fun _ g=>(g.pur (zAv g rfl rfl) fun _ g=>(g.as_ rfl fun _ g=>?_)))
            rw [hK_l9] at H
            exact zAG (tn ⟨(IntKind.wrap .i64 (x11 - 1)),g.weak ⟨rfl,rfl,rfl,rfl,rfl,rfl,rfl,trivial⟩,H⟩)
           ·refine zAN (zAF (zAF (zEB (by kernel_rfl) (by kernel_rfl) (g.qm rfl fun _ g=>(g.qm rfl fun _ g=>(g.qm rfl fun _ g=>(g.qop (zAC g rfl rfl) H fun x75 a H g=>(g.qop (zAI g rfl) H fun x76 a H g=>(g.qm rfl fun _ g=>(g.qm rfl fun _ g=>(g.qpur (zAv g rfl rfl) fun _ g=>(g.qop (zAC g rfl rfl) H fun x80 a H g=>(g.qop (zAI g rfl) H fun x81 a H g=>?_)))))))))))))
            obtain ⟨r_1,hc,H⟩:=H
            refine g.qcallV rfl rfl hc fun _ g=>g.qpur (zDp g rfl rfl) fun _ g=>g.qpur (zGp g rfl) fun _ g=>zED (fun w hB=>?_)
            replace H:=H w hB
            refine (tn (zAV g rfl (fun hc=>?_) (fun hc=>?_)))
            ·replace H:=H.1 hc
             exact zBJ (te (bo (te (te (be (tn (hj6 () _ _ H (g.weak ⟨rfl,rfl,rfl,rfl,rfl,rfl,trivial⟩))))))))
            ·replace H:=H.2 hc
             refine zAP (tn (zKK 18 fun w hB=>?_))
             replace H:=H w hB
             refine g.ap 0 rfl (zAL g rfl) fun _ g=>g.ap 1 rfl (zAL g rfl) fun _ g=>g.ap 2 rfl (zAL g rfl) fun _ g=>g.ap 3 rfl (zAL g rfl) fun _ g=>g.ap 4 rfl (zAv g rfl rfl) fun _ g=>g.ap 5 rfl (zAL g rfl) fun _ g=>g.ap 6 rfl (zAL g rfl) fun _ g=>g.ap 7 rfl (zAv g rfl rfl) fun _ g=>g.ao 8 rfl (zAC g rfl rfl) H fun x93 a H g=>g.ap 10 rfl (zAL g rfl) fun _ g=>g.ap 11 rfl (zAL g rfl) fun _ g=>g.ao 12 rfl (zAC g rfl rfl) H fun x97 a H g=>WA.tw 9 13 rfl rfl ?_ ?_
             ·replace H:=H.1
              intro K hK
              exact g.wop (zAI g rfl) H fun x94 w a H g=>hK _ _ (g.o1 13 rfl (zAI g rfl) H fun x98 w a H g=>(g.ao 14 rfl (zAC g rfl rfl) H fun x99 a H g=>(g.o1u 15 rfl (zAM g rfl rfl) H fun w a H g=>(g.ao 16 rfl (zAC g rfl rfl) H fun x100 a H g=>(g.o1u 17 rfl (zAM g rfl rfl) H fun w a H g=>(WA.ni ((bn (tn (hj10 () _ _ H (g.weak ⟨rfl,rfl,rfl,rfl,rfl,rfl,rfl,trivial⟩)))))))))))
             ·replace H:=H.2
              intro K hK
              exact g.wop (zAI g rfl) H fun x98_1 w a H g=>hK _ _ (g.o1 9 rfl (zAI g rfl) H fun x94_1 w a H g=>(g.ao 14 rfl (zAC g rfl rfl) H fun x99_1 a H g=>(g.o1u 15 rfl (zAM g rfl rfl) H fun w a H g=>(g.ao 16 rfl (zAC g rfl rfl) H fun x100_1 a H g=>(g.o1u 17 rfl (zAM g rfl rfl) H fun w a H g=>(WA.ni ((bn (tn (hj10 () _ _ H (g.weak ⟨rfl,rfl,rfl,rfl,rfl,rfl,rfl,trivial⟩)))))))))))
          ·replace H:=H.2 hc
           exact zBJ (te (te (be (tn (hj6 () _ _ H (g.weak ⟨rfl,rfl,rfl,rfl,rfl,rfl,trivial⟩))))))
         ·replace H:=H.2 hc
          exact zAP (tn (hj6 () _ _ H (g.weak ⟨rfl,rfl,rfl,rfl,rfl,rfl,trivial⟩)))
       ·refine zKK 18 fun w hB=>?_
        replace H:=H w hB
        refine g.ap 0 rfl (zAL g rfl) fun _ g=>g.ap 1 rfl (zAL g rfl) fun _ g=>g.ap 2 rfl (zAL g rfl) fun _ g=>g.ap 3 rfl (zAL g rfl) fun _ g=>g.ap 4 rfl (zAv g rfl rfl) fun _ g=>g.ap 5 rfl (zAL g rfl) fun _ g=>g.ap 6 rfl (zAL g rfl) fun _ g=>g.ap 7 rfl (zAv g rfl rfl) fun _ g=>g.ao 8 rfl (zAC g rfl rfl) H fun x54 a H g=>g.ap 10 rfl (zAL g rfl) fun _ g=>g.ap 11 rfl (zAL g rfl) fun _ g=>g.ao 12 rfl (zAC g rfl rfl) H fun x58 a H g=>WA.tw 9 13 rfl rfl ?_ ?_
        ·replace H:=H.1
         intro K hK
         exact g.wop (zAI g rfl) H fun x55 w a H g=>hK _ _ (g.o1 13 rfl (zAI g rfl) H fun x59 w a H g=>(g.ao 14 rfl (zAC g rfl rfl) H fun x60 a H g=>(g.o1u 15 rfl (zAM g rfl rfl) H fun w a H g=>(g.ao 16 rfl (zAC g rfl rfl) H fun x61 a H g=>(g.o1u 17 rfl (zAM g rfl rfl) H fun w a H g=>(WA.ni ((tn (hj5 () _ _ H (g.weak ⟨rfl,rfl,rfl,rfl,rfl,rfl,trivial⟩))))))))))
        ·replace H:=H.2
         intro K hK
         exact g.wop (zAI g rfl) H fun x59_1 w a H g=>hK _ _ (g.o1 9 rfl (zAI g rfl) H fun x55_1 w a H g=>(g.ao 14 rfl (zAC g rfl rfl) H fun x60_1 a H g=>(g.o1u 15 rfl (zAM g rfl rfl) H fun w a H g=>(g.ao 16 rfl (zAC g rfl rfl) H fun x61_1 a H g=>(g.o1u 17 rfl (zAM g rfl rfl) H fun w a H g=>(WA.ni ((tn (hj5 () _ _ H (g.weak ⟨rfl,rfl,rfl,rfl,rfl,rfl,trivial⟩))))))))))
   ·rcases Classical.em ((x9_2<x2)) with hbr4|hbr4
    ·replace H:=H.1 hbr4
     replace g:=g.bool (b:=true) (t:=22) rfl (decide_eq_true hbr4)
     refine g.qon (by rfl) (by rfl) (g.qm rfl fun _ g=>(g.qon (by rfl) (by rfl) (g.qm rfl fun _ g=>(g.qon (by rfl) (by rfl) (g.qm rfl fun _ g=>(g.qon (by rfl) (by rfl) (g.qop (zAC g rfl rfl) H fun x26 a H g=>(g.qon (by rfl) (by rfl) (g.qop (zAI g rfl) H fun x27 a H g=>(g.qon (by rfl) (by rfl) (g.qm rfl fun _ g=>(g.qon (by rfl) (by rfl) (g.qm rfl fun _ g=>(g.qon (by rfl) (by rfl) (g.qpur (zAv g rfl rfl) fun _ g=>(g.qon (by rfl) (by rfl) (g.qop (zAC g rfl rfl) H fun x31 a H g=>(g.qon (by rfl) (by rfl) (g.qop (zAI g rfl) H fun x32 a H g=>(g.qon (by rfl) (by rfl) ?_))))))))))))))))))))
     obtain ⟨r_2,hc,H⟩:=H
     exact g.qcallV rfl rfl hc fun _ g=>g.qon (by rfl) (by rfl) (g.qpur (zDp g rfl rfl) fun _ g=>(g.qon (by rfl) (by rfl) (g.qpur (zGp g rfl) fun _ g=>(g.qpur (zAj g rfl rfl) fun _ g=>(hr4 (!(decide (r_2<0))) _ H (g.weak ⟨rfl,rfl,rfl,rfl,rfl,rfl,rfl,trivial⟩))))))
    ·replace H:=H.2 hbr4
     replace g:=g.bool (b:=false) (t:=22) rfl (decide_eq_false hbr4)
     exact g.qoff (by rfl) (by rfl) (by decide) (fun _ g=>(g.qoff (by rfl) (by rfl) (by decide) (fun _ g=>(g.qoff (by rfl) (by rfl) (by decide) (fun _ g=>(g.qoff (by rfl) (by rfl) (by decide) (fun _ g=>(g.qoff (by rfl) (by rfl) (by decide) (fun _ g=>(g.qoff (by rfl) (by rfl) (by decide) (fun _ g=>(g.qoff (by rfl) (by rfl) (by decide) (fun _ g=>(g.qoff (by rfl) (by rfl) (by decide) (fun _ g=>(g.qoff (by rfl) (by rfl) (by decide) (fun _ g=>(g.qoff (by rfl) (by rfl) (by decide) (fun _ g=>(g.qoff (by rfl) (by rfl) (by decide) (fun _ g=>(g.qoff (by rfl) (by rfl) (by decide) (fun _ g=>(g.qoff (by rfl) (by rfl) (by decide) (fun _ g=>(g.qpur (zAi g rfl rfl) fun _ g=>(hr4 false _ H (g.weak ⟨rfl,rfl,rfl,rfl,rfl,rfl,rfl,trivial⟩))))))))))))))))))))))))))))
 ·replace H:=H.2 hc
  exact zBJ (te (te (be (tn (zAF (zAA (g.as_ rfl fun _ g=>(zAG (tn (zAf (zAt g rfl rfl ⟨_,rfl,H⟩)))))))))))
def zBS (Kl2:Int→Int→World→Prop) (x11_1:Int) (x12_1:Int) (w:World):Prop:=
 Kl2 (IntKind.wrap .i64 (x11_1+1)) (IntKind.wrap .i64 (x12_1 - 1)) w
def zBX (x0:Sl) (Ret:Int→World→Prop) (Kl2:Int→Int→World→Prop) (x11_1:Int) (x12_1:Int) (Kl5:Int→World→Prop) (x65:Bool) (w:World):Prop:=
 nextB w (fun w=>(x65=true→(Kl5 (IntKind.wrap .i64 (x12_1 - 1)) w))∧(x65=false→(((x12_1<x11_1)→(Ret x11_1 w))∧(¬ (x12_1<x11_1)→(nextB w (fun w=>opP Tryz.prog Value.pointer (Instr.indexAt 67 (Sl.v x0) (.int .i64 x12_1)) (fun x77=>opP Tryz.prog Value.pointer (Instr.indexAt 67 (Sl.v x0) (.int .i64 x11_1)) (fun x81=>(opE Tryz.prog zAB.v (Instr.loadAt 72 (.pointer x77)) w (fun x78 w=>opE Tryz.prog zAB.v (Instr.loadAt 72 (.pointer x81)) w (fun x82 w=>opP Tryz.prog Value.pointer (Instr.indexAt 67 (Sl.v x0) (.int .i64 x11_1)) (fun x83=>opU Tryz.prog (Instr.storeAt 72 (.pointer x83) (zAB.v x78)) w (fun w=>opP Tryz.prog Value.pointer (Instr.indexAt 67 (Sl.v x0) (.int .i64 x12_1)) (fun x84=>opU Tryz.prog (Instr.storeAt 72 (.pointer x84) (zAB.v x82)) w (fun w=>zBS Kl2 x11_1 x12_1 w)))))))∧(opE Tryz.prog zAB.v (Instr.loadAt 72 (.pointer x81)) w (fun x82_1 w=>opE Tryz.prog zAB.v (Instr.loadAt 72 (.pointer x77)) w (fun x78_1 w=>opP Tryz.prog Value.pointer (Instr.indexAt 67 (Sl.v x0) (.int .i64 x11_1)) (fun x83_1=>opU Tryz.prog (Instr.storeAt 72 (.pointer x83_1) (zAB.v x78_1)) w (fun w=>opP Tryz.prog Value.pointer (Instr.indexAt 67 (Sl.v x0) (.int .i64 x12_1)) (fun x84_1=>opU Tryz.prog (Instr.storeAt 72 (.pointer x84_1) (zAB.v x82_1)) w (fun w=>zBS Kl2 x11_1 x12_1 w)))))))))))))))
def zCo (x0:Sl) (x1:Int) (x4:Value) (Ret:Int→World→Prop) (Kl2:Int→Int→World→Prop) (x11_1:Int) (x12_1:Int) (w:World) (Kl5:Int→World→Prop):Prop:=
 ((x11_1≤x12_1)→(opB Tryz.prog Value.pointer (Instr.indexAt 67 (Sl.v x0) (.int .i64 x1)) w (fun x57=>opB Tryz.prog zAB.v (Instr.loadAt 72 (.pointer x57)) w (fun x58=>opB Tryz.prog Value.pointer (Instr.indexAt 67 (Sl.v x0) (.int .i64 x12_1)) w (fun x61=>opB Tryz.prog zAB.v (Instr.loadAt 72 (.pointer x61)) w (fun x62=>∃ (r:Int),CallQ Tryz.prog x4 [(zAB.v x58),(zAB.v x62)] w (.int .i64 r)∧(zBX x0 Ret Kl2 x11_1 x12_1 Kl5 (decide (r<0)) w)))))))∧(¬ (x11_1≤x12_1)→(zBX x0 Ret Kl2 x11_1 x12_1 Kl5 false w))
def zBV (x0:Sl) (x1:Int) (x4:Value) (Ret:Int→World→Prop) (x12:Int) (Kl2:Int→Int→World→Prop) (x11_1:Int) (Kl3:Int→World→Prop) (x47:Bool) (w:World):Prop:=
 nextB w (fun w=>(x47=true→(Kl3 (IntKind.wrap .i64 (x11_1+1)) w))∧(x47=false→(∃ (I:Int→World→Prop) (μ:Int→World→Nat),I x12 w∧∀ (x12_1:Int) w,I x12_1 w→zCo x0 x1 x4 Ret Kl2 x11_1 x12_1 w (fun x12_1' w'=>I x12_1' w'∧μ x12_1' w'<μ x12_1 w))))
def zCn (x0:Sl) (x1:Int) (x4:Value) (Ret:Int→World→Prop) (x12:Int) (Kl2:Int→Int→World→Prop) (x11_1:Int) (w:World) (Kl3:Int→World→Prop):Prop:=
 ((x11_1≤x12)→(opB Tryz.prog Value.pointer (Instr.indexAt 67 (Sl.v x0) (.int .i64 x1)) w (fun x38=>opB Tryz.prog zAB.v (Instr.loadAt 72 (.pointer x38)) w (fun x39=>opB Tryz.prog Value.pointer (Instr.indexAt 67 (Sl.v x0) (.int .i64 x11_1)) w (fun x42=>opB Tryz.prog zAB.v (Instr.loadAt 72 (.pointer x42)) w (fun x43=>∃ (r_1:Int),CallQ Tryz.prog x4 [(zAB.v x39),(zAB.v x43)] w (.int .i64 r_1)∧(zBV x0 x1 x4 Ret x12 Kl2 x11_1 Kl3 (!(decide (r_1<0))) w)))))))∧(¬ (x11_1≤x12)→(zBV x0 x1 x4 Ret x12 Kl2 x11_1 Kl3 false w))
def zCm (x0:Sl) (x1:Int) (x4:Value) (Ret:Int→World→Prop) (x11:Int) (x12:Int) (w:World) (Kl2:Int→Int→World→Prop):Prop:=
 ∃ (I:Int→World→Prop) (μ:Int→World→Nat),I x11 w∧∀ (x11_1:Int) w,I x11_1 w→zCn x0 x1 x4 Ret x12 Kl2 x11_1 w (fun x11_1' w'=>I x11_1' w'∧μ x11_1' w'<μ x11_1 w)
def zBQ (x0:Sl) (x1:Int) (x2:Int) (x4:Value) (Ret:Int→World→Prop) (w:World):Prop:=
 ∃ (I:Int→Int→World→Prop) (μ:Int→Int→World→Nat),I (IntKind.wrap .i64 (x1+1)) (IntKind.wrap .i64 (x2 - 1)) w∧∀ (x11:Int) (x12:Int) w,I x11 x12 w→zCm x0 x1 x4 Ret x11 x12 w (fun x11' x12' w'=>I x11' x12' w'∧μ x11' x12' w'<μ x11 x12 w)
def zEJ (x0:Sl) (x1:Int) (x2:Int) (x3:Int) (x4:Value) (w:World) (Ret:Int→World→Prop):Prop:=
 nextB w (fun w=>opP Tryz.prog Value.pointer (Instr.indexAt 67 (Sl.v x0) (.int .i64 x3)) (fun x19=>opP Tryz.prog Value.pointer (Instr.indexAt 67 (Sl.v x0) (.int .i64 x1)) (fun x23=>(opE Tryz.prog zAB.v (Instr.loadAt 72 (.pointer x19)) w (fun x20 w=>opE Tryz.prog zAB.v (Instr.loadAt 72 (.pointer x23)) w (fun x24 w=>opP Tryz.prog Value.pointer (Instr.indexAt 67 (Sl.v x0) (.int .i64 x1)) (fun x25=>opU Tryz.prog (Instr.storeAt 72 (.pointer x25) (zAB.v x20)) w (fun w=>opP Tryz.prog Value.pointer (Instr.indexAt 67 (Sl.v x0) (.int .i64 x3)) (fun x26=>opU Tryz.prog (Instr.storeAt 72 (.pointer x26) (zAB.v x24)) w (fun w=>zBQ x0 x1 x2 x4 Ret w)))))))∧(opE Tryz.prog zAB.v (Instr.loadAt 72 (.pointer x23)) w (fun x24_1 w=>opE Tryz.prog zAB.v (Instr.loadAt 72 (.pointer x19)) w (fun x20_1 w=>opP Tryz.prog Value.pointer (Instr.indexAt 67 (Sl.v x0) (.int .i64 x1)) (fun x25_1=>opU Tryz.prog (Instr.storeAt 72 (.pointer x25_1) (zAB.v x20_1)) w (fun w=>opP Tryz.prog Value.pointer (Instr.indexAt 67 (Sl.v x0) (.int .i64 x3)) (fun x26_1=>opU Tryz.prog (Instr.storeAt 72 (.pointer x26_1) (zAB.v x24_1)) w (fun w=>zBQ x0 x1 x2 x4 Ret w))))))))))
set_option maxRecDepth 100000 in
theorem zHF (x0:Sl) (x1:Int) (x2:Int) (x3:Int) (x4:Value) (w:World) (Ret:Int→World→Prop) (H:zEJ x0 x1 x2 x3 x4 w Ret):Cl Tryz.prog 111 [(Sl.v x0),(.int .i64 x1),(.int .i64 x2),(.int .i64 x3),x4].toArray w (fun e w'=>∃ (r0:Int),e=.returned (.int .i64 r0)∧Ret r0 w'):=by
 unfold zEJ at H
 refine zAY 90 (zipE 0 [(Sl.v x0),(.int .i64 x1),(.int .i64 x2),(.int .i64 x3),x4]) Tryz.func111 rfl rfl (by rfl) rfl ?_
 intro a g
 replace g:Sat [] 90 [(0,(Sl.v x0)),(1,(.int .i64 x1)),(2,(.int .i64 x2)),(3,(.int .i64 x3)),(4,x4)] a:=g
 refine zAF (zAA (g.as_ rfl fun _ g=>(zAG (tn (zBG (ds:=[]) (N:=90) (σ:=Unit) (fun s=>[(0,(Sl.v x0)),(1,(.int .i64 x1)),(2,(.int .i64 x2)),(4,x4)]) (fun s w=>zBQ x0 x1 x2 x4 Ret w) ?_ (fun hj1=>?_))))))
 ·rintro ⟨⟩ w a H g
  try dsimp only at H g
  unfold zBQ at H
  refine zAF (zAA (g.mv rfl fun _ g=>(g.pur (zAn g rfl rfl) fun _ g=>(g.mv rfl fun _ g=>(g.pur (zAv g rfl rfl) fun _ g=>(g.as_ rfl fun _ g=>(g.as_ rfl fun _ g=>(zAG (tn (zAF (zAN ?_)))))))))))
  obtain ⟨I_l2,μ_l2,h0,hb⟩:=H
  refine zBl (ds:=[]) (N:=90) (σ:=Int × Int) (fun s=>[(11,(.int .i64 s.1)),(12,(.int .i64 s.2)),(0,(Sl.v x0)),(1,(.int .i64 x1)),(4,x4)]) (fun s w=>I_l2 s.1 s.2 w) (fun s w=>μ_l2 s.1 s.2 w) ((IntKind.wrap .i64 (x1+1)),(IntKind.wrap .i64 (x2 - 1))) h0 (g.weak ⟨rfl,rfl,rfl,rfl,rfl,trivial⟩) ?_
  rintro ⟨x11,x12⟩ w a hI g
  try dsimp only at hI g
  obtain ⟨Kl2,hK_l2⟩:∃ K:Int→Int→World→Prop,K=(fun x11' x12' w'=>I_l2 x11' x12' w'∧μ_l2 x11' x12' w'<μ_l2 x11 x12 w):=⟨_,rfl⟩
  have H:zCm x0 x1 x4 Ret x11 x12 w Kl2:=by rw [hK_l2];exact hb x11 x12 w hI
  clear hb h0 hI
  unfold zCm at H
  refine zAN (zAF (zAN ?_))
  obtain ⟨I_l3,μ_l3,h0,hb⟩:=H
  refine zBl (ds:=[]) (N:=90) (σ:=Int) (fun s=>[(11,(.int .i64 s)),(0,(Sl.v x0)),(1,(.int .i64 x1)),(4,x4),(12,(.int .i64 x12))]) (fun s w=>I_l3 s w) (fun s w=>μ_l3 s w) x11 h0 (g.weak ⟨rfl,rfl,rfl,rfl,rfl,trivial⟩) ?_
  intro x11_1 w a hI g
  try dsimp only at hI g
  obtain ⟨Kl3,hK_l3⟩:∃ K:Int→World→Prop,K=(fun x11_1' w'=>I_l3 x11_1' w'∧μ_l3 x11_1' w'<μ_l3 x11_1 w):=⟨_,rfl⟩
  have H:zCn x0 x1 x4 Ret x12 Kl2 x11_1 w Kl3:=by rw [hK_l3];exact hb x11_1 w hI
  clear hb h0 hI
  unfold zCn at H
  refine zAF (zAF (zEB (by kernel_rfl) (by kernel_rfl) (g.qm rfl fun _ g=>(g.qm rfl fun _ g=>(g.qpur (zJn g rfl rfl) fun _ g=>(g.qm rfl fun _ g=>(WQ.join (ds:=[]) (N:=90) (σ:=Bool) (fun s=>[(47,(.bool s)),(0,(Sl.v x0)),(1,(.int .i64 x1)),(4,x4),(11,(.int .i64 x11_1)),(12,(.int .i64 x12))]) (fun s=>zBV x0 x1 x4 Ret x12 Kl2 x11_1 Kl3 s w) 13 ?_ (fun hr4=>?_))))))))
  ·intro x47 a H g
   try dsimp only at H g
   unfold zBV at H
   refine zED (fun w hB=>?_)
   replace H:=H w hB
   refine (tn (zAV g rfl (fun hc=>?_) (fun hc=>?_)))
   ·replace H:=H.1 hc
    refine zAP (tn (zAN (zAA (g.mv rfl fun _ g=>(g.pur (zAn g rfl rfl) fun _ g=>(g.as_ rfl fun _ g=>?_))))))
    rw [hK_l3] at H
    exact zAG (bn (tn ⟨(IntKind.wrap .i64 (x11_1+1)),g.weak ⟨rfl,rfl,rfl,rfl,rfl,trivial⟩,H⟩))
   ·replace H:=H.2 hc
    refine zBJ (te (te (be (tn (zAF (zAN ?_))))))
    obtain ⟨I_l5,μ_l5,h0,hb⟩:=H
    refine zBl (ds:=[]) (N:=90) (σ:=Int) (fun s=>[(12,(.int .i64 s)),(0,(Sl.v x0)),(1,(.int .i64 x1)),(4,x4),(11,(.int .i64 x11_1))]) (fun s w=>I_l5 s w) (fun s w=>μ_l5 s w) x12 h0 (g.weak ⟨rfl,rfl,rfl,rfl,rfl,trivial⟩) ?_
    intro x12_1 w a hI g
    try dsimp only at hI g
    obtain ⟨Kl5,hK_l5⟩:∃ K:Int→World→Prop,K=(fun x12_1' w'=>I_l5 x12_1' w'∧μ_l5 x12_1' w'<μ_l5 x12_1 w):=⟨_,rfl⟩
    have H:zCo x0 x1 x4 Ret Kl2 x11_1 x12_1 w Kl5:=by rw [hK_l5];exact hb x12_1 w hI
    clear hb h0 hI
    unfold zCo at H
    refine zAF (zAF (zEB (by kernel_rfl) (by kernel_rfl) (g.qm rfl fun _ g=>(g.qm rfl fun _ g=>(g.qpur (zJn g rfl rfl) fun _ g=>(g.qm rfl fun _ g=>(WQ.join (ds:=[]) (N:=90) (σ:=Bool) (fun s=>[(65,(.bool s)),(0,(Sl.v x0)),(1,(.int .i64 x1)),(4,x4),(11,(.int .i64 x11_1)),(12,(.int .i64 x12_1))]) (fun s=>zBX x0 Ret Kl2 x11_1 x12_1 Kl5 s w) 12 ?_ (fun hr6=>?_))))))))
    ·intro x65 a H g
     try dsimp only at H g
     unfold zBX at H
     refine zED (fun w hB=>?_)
     replace H:=H w hB
     refine (tn (zAV g rfl (fun hc=>?_) (fun hc=>?_)))
     ·replace H:=H.1 hc
      refine zAP (tn (zAN (zAA (g.mv rfl fun _ g=>(g.pur (zAv g rfl rfl) fun _ g=>(g.as_ rfl fun _ g=>?_))))))
      rw [hK_l5] at H
      exact zAG (bn (tn ⟨(IntKind.wrap .i64 (x12_1 - 1)),g.weak ⟨rfl,rfl,rfl,rfl,rfl,trivial⟩,H⟩))
     ·replace H:=H.2 hc
      refine zBJ (te (te (be (tn (zAF (zAF (zAA (g.mv rfl fun _ g=>(g.mv rfl fun _ g=>(g.pur (zIG g rfl rfl) fun _ g=>(zAG (tn (zAR g rfl (fun hc=>?_) (fun hc=>?_))))))))))))))
      ·replace H:=H.1 hc
       exact zBJ (te (bo (te (be (tn (zAF (zAA (g.mv rfl fun _ g=>(g.as_ rfl fun _ g=>(zAG (tn (zAf (zAt g rfl rfl ⟨_,rfl,H⟩)))))))))))))
      ·replace H:=H.2 hc
       refine zAP (tn (zBG (ds:=[]) (N:=90) (σ:=Unit) (fun s=>[(0,(Sl.v x0)),(1,(.int .i64 x1)),(4,x4),(11,(.int .i64 x11_1)),(12,(.int .i64 x12_1))]) (fun s w=>zBS Kl2 x11_1 x12_1 w) ?_ (fun hj7=>?_)))
       ·rintro ⟨⟩ w a H g
        try dsimp only at H g
        unfold zBS at H
        refine zAF (zAA (g.mv rfl fun _ g=>(g.pur (zAn g rfl rfl) fun _ g=>(g.as_ rfl fun _ g=>(zAG (tn (zAA (g.mv rfl fun _ g=>(g.pur (zAv g rfl rfl) fun _ g=>(g.as_ rfl fun _ g=>?_))))))))))
        rw [hK_l2] at H
        exact zAG (bn (tn ⟨((IntKind.wrap .i64 (x11_1+1)),(IntKind.wrap .i64 (x12_1 - 1))),g.weak ⟨rfl,rfl,rfl,rfl,rfl,trivial⟩,H⟩))
       ·refine zKK 16 fun w hB=>?_
        replace H:=H w hB
        refine g.ap 0 rfl (zAL g rfl) fun _ g=>g.ap 1 rfl (zAL g rfl) fun _ g=>g.ap 2 rfl (zAL g rfl) fun _ g=>g.ap 3 rfl (zAL g rfl) fun _ g=>g.ap 4 rfl (zAL g rfl) fun _ g=>g.ap 5 rfl (zAL g rfl) fun _ g=>g.ao 6 rfl (zAC g rfl rfl) H fun x77 a H g=>g.ap 8 rfl (zAL g rfl) fun _ g=>g.ap 9 rfl (zAL g rfl) fun _ g=>g.ao 10 rfl (zAC g rfl rfl) H fun x81 a H g=>WA.tw 7 11 rfl rfl ?_ ?_
        ·replace H:=H.1
         intro K hK
         exact g.wop (zAI g rfl) H fun x78 w a H g=>hK _ _ (g.o1 11 rfl (zAI g rfl) H fun x82 w a H g=>(g.ao 12 rfl (zAC g rfl rfl) H fun x83 a H g=>(g.o1u 13 rfl (zAM g rfl rfl) H fun w a H g=>(g.ao 14 rfl (zAC g rfl rfl) H fun x84 a H g=>(g.o1u 15 rfl (zAM g rfl rfl) H fun w a H g=>(WA.ni ((tn (hj7 () _ _ H (g.weak ⟨rfl,rfl,rfl,rfl,rfl,trivial⟩))))))))))
        ·replace H:=H.2
         intro K hK
         exact g.wop (zAI g rfl) H fun x82_1 w a H g=>hK _ _ (g.o1 7 rfl (zAI g rfl) H fun x78_1 w a H g=>(g.ao 12 rfl (zAC g rfl rfl) H fun x83_1 a H g=>(g.o1u 13 rfl (zAM g rfl rfl) H fun w a H g=>(g.ao 14 rfl (zAC g rfl rfl) H fun x84_1 a H g=>(g.o1u 15 rfl (zAM g rfl rfl) H fun w a H g=>(WA.ni ((tn (hj7 () _ _ H (g.weak ⟨rfl,rfl,rfl,rfl,rfl,trivial⟩))))))))))
    ·rcases Classical.em ((x11_1≤x12_1)) with hbr6|hbr6
     ·replace H:=H.1 hbr6
      replace g:=g.bool (b:=true) (t:=53) rfl (decide_eq_true hbr6)
      refine g.qon (by rfl) (by rfl) (g.qm rfl fun _ g=>(g.qon (by rfl) (by rfl) (g.qm rfl fun _ g=>(g.qon (by rfl) (by rfl) (g.qm rfl fun _ g=>(g.qon (by rfl) (by rfl) (g.qop (zAC g rfl rfl) H fun x57 a H g=>(g.qon (by rfl) (by rfl) (g.qop (zAI g rfl) H fun x58 a H g=>(g.qon (by rfl) (by rfl) (g.qm rfl fun _ g=>(g.qon (by rfl) (by rfl) (g.qm rfl fun _ g=>(g.qon (by rfl) (by rfl) (g.qop (zAC g rfl rfl) H fun x61 a H g=>(g.qon (by rfl) (by rfl) (g.qop (zAI g rfl) H fun x62 a H g=>(g.qon (by rfl) (by rfl) ?_))))))))))))))))))
      obtain ⟨r,hc,H⟩:=H
      exact g.qcallV rfl rfl hc fun _ g=>g.qon (by rfl) (by rfl) (g.qpur (zDp g rfl rfl) fun _ g=>(g.qpur (zAj g rfl rfl) fun _ g=>(hr6 (decide (r<0)) _ H (g.weak ⟨rfl,rfl,rfl,rfl,rfl,rfl,trivial⟩))))
     ·replace H:=H.2 hbr6
      replace g:=g.bool (b:=false) (t:=53) rfl (decide_eq_false hbr6)
      exact g.qoff (by rfl) (by rfl) (by decide) (fun _ g=>(g.qoff (by rfl) (by rfl) (by decide) (fun _ g=>(g.qoff (by rfl) (by rfl) (by decide) (fun _ g=>(g.qoff (by rfl) (by rfl) (by decide) (fun _ g=>(g.qoff (by rfl) (by rfl) (by decide) (fun _ g=>(g.qoff (by rfl) (by rfl) (by decide) (fun _ g=>(g.qoff (by rfl) (by rfl) (by decide) (fun _ g=>(g.qoff (by rfl) (by rfl) (by decide) (fun _ g=>(g.qoff (by rfl) (by rfl) (by decide) (fun _ g=>(g.qoff (by rfl) (by rfl) (by decide) (fun _ g=>(g.qoff (by rfl) (by rfl) (by decide) (fun _ g=>(g.qpur (zAi g rfl rfl) fun _ g=>(hr6 false _ H (g.weak ⟨rfl,rfl,rfl,rfl,rfl,rfl,trivial⟩))))))))))))))))))))))))
  ·rcases Classical.em ((x11_1≤x12)) with hbr4|hbr4
   ·replace H:=H.1 hbr4
    replace g:=g.bool (b:=true) (t:=34) rfl (decide_eq_true hbr4)
    refine g.qon (by rfl) (by rfl) (g.qm rfl fun _ g=>(g.qon (by rfl) (by rfl) (g.qm rfl fun _ g=>(g.qon (by rfl) (by rfl) (g.qm rfl fun _ g=>(g.qon (by rfl) (by rfl) (g.qop (zAC g rfl rfl) H fun x38 a H g=>(g.qon (by rfl) (by rfl) (g.qop (zAI g rfl) H fun x39 a H g=>(g.qon (by rfl) (by rfl) (g.qm rfl fun _ g=>(g.qon (by rfl) (by rfl) (g.qm rfl fun _ g=>(g.qon (by rfl) (by rfl) (g.qop (zAC g rfl rfl) H fun x42 a H g=>(g.qon (by rfl) (by rfl) (g.qop (zAI g rfl) H fun x43 a H g=>(g.qon (by rfl) (by rfl) ?_))))))))))))))))))
    obtain ⟨r_1,hc,H⟩:=H
    exact g.qcallV rfl rfl hc fun _ g=>g.qon (by rfl) (by rfl) (g.qpur (zDp g rfl rfl) fun _ g=>(g.qon (by rfl) (by rfl) (g.qpur (zGp g rfl) fun _ g=>(g.qpur (zAj g rfl rfl) fun _ g=>(hr4 (!(decide (r_1<0))) _ H (g.weak ⟨rfl,rfl,rfl,rfl,rfl,rfl,trivial⟩))))))
   ·replace H:=H.2 hbr4
    replace g:=g.bool (b:=false) (t:=34) rfl (decide_eq_false hbr4)
    exact g.qoff (by rfl) (by rfl) (by decide) (fun _ g=>(g.qoff (by rfl) (by rfl) (by decide) (fun _ g=>(g.qoff (by rfl) (by rfl) (by decide) (fun _ g=>(g.qoff (by rfl) (by rfl) (by decide) (fun _ g=>(g.qoff (by rfl) (by rfl) (by decide) (fun _ g=>(g.qoff (by rfl) (by rfl) (by decide) (fun _ g=>(g.qoff (by rfl) (by rfl) (by decide) (fun _ g=>(g.qoff (by rfl) (by rfl) (by decide) (fun _ g=>(g.qoff (by rfl) (by rfl) (by decide) (fun _ g=>(g.qoff (by rfl) (by rfl) (by decide) (fun _ g=>(g.qoff (by rfl) (by rfl) (by decide) (fun _ g=>(g.qoff (by rfl) (by rfl) (by decide) (fun _ g=>(g.qpur (zAi g rfl rfl) fun _ g=>(hr4 false _ H (g.weak ⟨rfl,rfl,rfl,rfl,rfl,rfl,trivial⟩))))))))))))))))))))))))))
 ·refine zKK 16 fun w hB=>?_
  replace H:=H w hB
  refine g.ap 0 rfl (zAL g rfl) fun _ g=>g.ap 1 rfl (zAL g rfl) fun _ g=>g.ap 2 rfl (zAL g rfl) fun _ g=>g.ap 3 rfl (zAL g rfl) fun _ g=>g.ap 4 rfl (zAL g rfl) fun _ g=>g.ap 5 rfl (zAL g rfl) fun _ g=>g.ao 6 rfl (zAC g rfl rfl) H fun x19 a H g=>g.ap 8 rfl (zAL g rfl) fun _ g=>g.ap 9 rfl (zAL g rfl) fun _ g=>g.ao 10 rfl (zAC g rfl rfl) H fun x23 a H g=>WA.tw 7 11 rfl rfl ?_ ?_
  ·replace H:=H.1
   intro K hK
   exact g.wop (zAI g rfl) H fun x20 w a H g=>hK _ _ (g.o1 11 rfl (zAI g rfl) H fun x24 w a H g=>(g.ao 12 rfl (zAC g rfl rfl) H fun x25 a H g=>(g.o1u 13 rfl (zAM g rfl rfl) H fun w a H g=>(g.ao 14 rfl (zAC g rfl rfl) H fun x26 a H g=>(g.o1u 15 rfl (zAM g rfl rfl) H fun w a H g=>(WA.ni ((tn (hj1 () _ _ H (g.weak ⟨rfl,rfl,rfl,rfl,trivial⟩))))))))))
  ·replace H:=H.2
   intro K hK
   exact g.wop (zAI g rfl) H fun x24_1 w a H g=>hK _ _ (g.o1 7 rfl (zAI g rfl) H fun x20_1 w a H g=>(g.ao 12 rfl (zAC g rfl rfl) H fun x25_1 a H g=>(g.o1u 13 rfl (zAM g rfl rfl) H fun w a H g=>(g.ao 14 rfl (zAC g rfl rfl) H fun x26_1 a H g=>(g.o1u 15 rfl (zAM g rfl rfl) H fun w a H g=>(WA.ni ((tn (hj1 () _ _ H (g.weak ⟨rfl,rfl,rfl,rfl,trivial⟩))))))))))
def zCd (Ret:Int→Bool→World→Prop) (x13:Int) (w:World):Prop:=
 Ret x13 true w
def zCS (Ret:Int→Bool→World→Prop) (x13_2:Int) (w:World):Prop:=
 Ret x13_2 false w
def zCQ (Kl8:Int→Int→World→Prop) (x12_2:Int) (x13_2:Int) (w:World):Prop:=
 Kl8 (IntKind.wrap .i64 (x12_2+1)) (IntKind.wrap .i64 (x13_2 - 1)) w
def zCP (x0:Sl) (x1:Int) (Ret:Int→Bool→World→Prop) (Kl8:Int→Int→World→Prop) (x12_2:Int) (x13_2:Int) (Kl11:Int→World→Prop) (x139:Bool) (w:World):Prop:=
 nextB w (fun w=>(x139=true→(Kl11 (IntKind.wrap .i64 (x13_2 - 1)) w))∧(x139=false→(((x13_2<x12_2)→(nextB w (fun w=>opP Tryz.prog Value.pointer (Instr.indexAt 67 (Sl.v x0) (.int .i64 x1)) (fun x169=>opP Tryz.prog Value.pointer (Instr.indexAt 67 (Sl.v x0) (.int .i64 x13_2)) (fun x173=>(opE Tryz.prog zAB.v (Instr.loadAt 72 (.pointer x169)) w (fun x170 w=>opE Tryz.prog zAB.v (Instr.loadAt 72 (.pointer x173)) w (fun x174 w=>opP Tryz.prog Value.pointer (Instr.indexAt 67 (Sl.v x0) (.int .i64 x13_2)) (fun x175=>opU Tryz.prog (Instr.storeAt 72 (.pointer x175) (zAB.v x170)) w (fun w=>opP Tryz.prog Value.pointer (Instr.indexAt 67 (Sl.v x0) (.int .i64 x1)) (fun x176=>opU Tryz.prog (Instr.storeAt 72 (.pointer x176) (zAB.v x174)) w (fun w=>zCS Ret x13_2 w)))))))∧(opE Tryz.prog zAB.v (Instr.loadAt 72 (.pointer x173)) w (fun x174_1 w=>opE Tryz.prog zAB.v (Instr.loadAt 72 (.pointer x169)) w (fun x170_1 w=>opP Tryz.prog Value.pointer (Instr.indexAt 67 (Sl.v x0) (.int .i64 x13_2)) (fun x175_1=>opU Tryz.prog (Instr.storeAt 72 (.pointer x175_1) (zAB.v x170_1)) w (fun w=>opP Tryz.prog Value.pointer (Instr.indexAt 67 (Sl.v x0) (.int .i64 x1)) (fun x176_1=>opU Tryz.prog (Instr.storeAt 72 (.pointer x176_1) (zAB.v x174_1)) w (fun w=>zCS Ret x13_2 w))))))))))))∧(¬ (x13_2<x12_2)→(nextB w (fun w=>opP Tryz.prog Value.pointer (Instr.indexAt 67 (Sl.v x0) (.int .i64 x13_2)) (fun x151=>opP Tryz.prog Value.pointer (Instr.indexAt 67 (Sl.v x0) (.int .i64 x12_2)) (fun x155=>(opE Tryz.prog zAB.v (Instr.loadAt 72 (.pointer x151)) w (fun x152 w=>opE Tryz.prog zAB.v (Instr.loadAt 72 (.pointer x155)) w (fun x156 w=>opP Tryz.prog Value.pointer (Instr.indexAt 67 (Sl.v x0) (.int .i64 x12_2)) (fun x157=>opU Tryz.prog (Instr.storeAt 72 (.pointer x157) (zAB.v x152)) w (fun w=>opP Tryz.prog Value.pointer (Instr.indexAt 67 (Sl.v x0) (.int .i64 x13_2)) (fun x158=>opU Tryz.prog (Instr.storeAt 72 (.pointer x158) (zAB.v x156)) w (fun w=>zCQ Kl8 x12_2 x13_2 w)))))))∧(opE Tryz.prog zAB.v (Instr.loadAt 72 (.pointer x155)) w (fun x156_1 w=>opE Tryz.prog zAB.v (Instr.loadAt 72 (.pointer x151)) w (fun x152_1 w=>opP Tryz.prog Value.pointer (Instr.indexAt 67 (Sl.v x0) (.int .i64 x12_2)) (fun x157_1=>opU Tryz.prog (Instr.storeAt 72 (.pointer x157_1) (zAB.v x152_1)) w (fun w=>opP Tryz.prog Value.pointer (Instr.indexAt 67 (Sl.v x0) (.int .i64 x13_2)) (fun x158_1=>opU Tryz.prog (Instr.storeAt 72 (.pointer x158_1) (zAB.v x156_1)) w (fun w=>zCQ Kl8 x12_2 x13_2 w)))))))))))))))
def zDS (x0:Sl) (x1:Int) (x4:Value) (Ret:Int→Bool→World→Prop) (Kl8:Int→Int→World→Prop) (x12_2:Int) (x13_2:Int) (w:World) (Kl11:Int→World→Prop):Prop:=
 ((x12_2≤x13_2)→(opB Tryz.prog Value.pointer (Instr.indexAt 67 (Sl.v x0) (.int .i64 x13_2)) w (fun x130=>opB Tryz.prog zAB.v (Instr.loadAt 72 (.pointer x130)) w (fun x131=>opB Tryz.prog Value.pointer (Instr.indexAt 67 (Sl.v x0) (.int .i64 x1)) w (fun x134=>opB Tryz.prog zAB.v (Instr.loadAt 72 (.pointer x134)) w (fun x135=>∃ (r:Int),CallQ Tryz.prog x4 [(zAB.v x131),(zAB.v x135)] w (.int .i64 r)∧(zCP x0 x1 Ret Kl8 x12_2 x13_2 Kl11 (!(decide (r<0))) w)))))))∧(¬ (x12_2≤x13_2)→(zCP x0 x1 Ret Kl8 x12_2 x13_2 Kl11 false w))
def zCM (x0:Sl) (x1:Int) (x4:Value) (Ret:Int→Bool→World→Prop) (x13_1:Int) (Kl8:Int→Int→World→Prop) (x12_2:Int) (Kl9:Int→World→Prop) (x120:Bool) (w:World):Prop:=
 nextB w (fun w=>(x120=true→(Kl9 (IntKind.wrap .i64 (x12_2+1)) w))∧(x120=false→(∃ (I:Int→World→Prop) (μ:Int→World→Nat),I x13_1 w∧∀ (x13_2:Int) w,I x13_2 w→zDS x0 x1 x4 Ret Kl8 x12_2 x13_2 w (fun x13_2' w'=>I x13_2' w'∧μ x13_2' w'<μ x13_2 w))))
def zDg (x0:Sl) (x1:Int) (x4:Value) (Ret:Int→Bool→World→Prop) (x13_1:Int) (Kl8:Int→Int→World→Prop) (x12_2:Int) (w:World) (Kl9:Int→World→Prop):Prop:=
 ((x12_2≤x13_1)→(opB Tryz.prog Value.pointer (Instr.indexAt 67 (Sl.v x0) (.int .i64 x12_2)) w (fun x112=>opB Tryz.prog zAB.v (Instr.loadAt 72 (.pointer x112)) w (fun x113=>opB Tryz.prog Value.pointer (Instr.indexAt 67 (Sl.v x0) (.int .i64 x1)) w (fun x116=>opB Tryz.prog zAB.v (Instr.loadAt 72 (.pointer x116)) w (fun x117=>∃ (r_1:Int),CallQ Tryz.prog x4 [(zAB.v x113),(zAB.v x117)] w (.int .i64 r_1)∧(zCM x0 x1 x4 Ret x13_1 Kl8 x12_2 Kl9 (decide (r_1<0)) w)))))))∧(¬ (x12_2≤x13_1)→(zCM x0 x1 x4 Ret x13_1 Kl8 x12_2 Kl9 false w))
def zCO (x0:Sl) (x1:Int) (x4:Value) (Ret:Int→Bool→World→Prop) (x12_1:Int) (x13_1:Int) (w:World) (Kl8:Int→Int→World→Prop):Prop:=
 ∃ (I:Int→World→Prop) (μ:Int→World→Nat),I x12_1 w∧∀ (x12_2:Int) w,I x12_2 w→zDg x0 x1 x4 Ret x13_1 Kl8 x12_2 w (fun x12_2' w'=>I x12_2' w'∧μ x12_2' w'<μ x12_2 w)
def zCa (x0:Sl) (x1:Int) (x4:Value) (Ret:Int→Bool→World→Prop) (x12:Int) (x13:Int) (w:World):Prop:=
 ∃ (I:Int→Int→World→Prop) (μ:Int→Int→World→Nat),I (IntKind.wrap .i64 (x12+1)) (IntKind.wrap .i64 (x13 - 1)) w∧∀ (x12_1:Int) (x13_1:Int) w,I x12_1 x13_1 w→zCO x0 x1 x4 Ret x12_1 x13_1 w (fun x12_1' x13_1' w'=>I x12_1' x13_1' w'∧μ x12_1' x13_1' w'<μ x12_1 x13_1 w)
def zCc (x0:Sl) (x1:Int) (x4:Value) (Ret:Int→Bool→World→Prop) (x12:Int) (x13:Int) (Kl4:Int→World→Prop) (x66:Bool) (w:World):Prop:=
 nextB w (fun w=>(x66=true→(Kl4 (IntKind.wrap .i64 (x13 - 1)) w))∧(x66=false→(((x13<x12)→(nextB w (fun w=>opP Tryz.prog Value.pointer (Instr.indexAt 67 (Sl.v x0) (.int .i64 x1)) (fun x78=>opP Tryz.prog Value.pointer (Instr.indexAt 67 (Sl.v x0) (.int .i64 x13)) (fun x82=>(opE Tryz.prog zAB.v (Instr.loadAt 72 (.pointer x78)) w (fun x79 w=>opE Tryz.prog zAB.v (Instr.loadAt 72 (.pointer x82)) w (fun x83 w=>opP Tryz.prog Value.pointer (Instr.indexAt 67 (Sl.v x0) (.int .i64 x13)) (fun x84=>opU Tryz.prog (Instr.storeAt 72 (.pointer x84) (zAB.v x79)) w (fun w=>opP Tryz.prog Value.pointer (Instr.indexAt 67 (Sl.v x0) (.int .i64 x1)) (fun x85=>opU Tryz.prog (Instr.storeAt 72 (.pointer x85) (zAB.v x83)) w (fun w=>zCd Ret x13 w)))))))∧(opE Tryz.prog zAB.v (Instr.loadAt 72 (.pointer x82)) w (fun x83_1 w=>opE Tryz.prog zAB.v (Instr.loadAt 72 (.pointer x78)) w (fun x79_1 w=>opP Tryz.prog Value.pointer (Instr.indexAt 67 (Sl.v x0) (.int .i64 x13)) (fun x84_1=>opU Tryz.prog (Instr.storeAt 72 (.pointer x84_1) (zAB.v x79_1)) w (fun w=>opP Tryz.prog Value.pointer (Instr.indexAt 67 (Sl.v x0) (.int .i64 x1)) (fun x85_1=>opU Tryz.prog (Instr.storeAt 72 (.pointer x85_1) (zAB.v x83_1)) w (fun w=>zCd Ret x13 w))))))))))))∧(¬ (x13<x12)→(nextB w (fun w=>opP Tryz.prog Value.pointer (Instr.indexAt 67 (Sl.v x0) (.int .i64 x13)) (fun x93=>opP Tryz.prog Value.pointer (Instr.indexAt 67 (Sl.v x0) (.int .i64 x12)) (fun x97=>(opE Tryz.prog zAB.v (Instr.loadAt 72 (.pointer x93)) w (fun x94 w=>opE Tryz.prog zAB.v (Instr.loadAt 72 (.pointer x97)) w (fun x98 w=>opP Tryz.prog Value.pointer (Instr.indexAt 67 (Sl.v x0) (.int .i64 x12)) (fun x99=>opU Tryz.prog (Instr.storeAt 72 (.pointer x99) (zAB.v x94)) w (fun w=>opP Tryz.prog Value.pointer (Instr.indexAt 67 (Sl.v x0) (.int .i64 x13)) (fun x100=>opU Tryz.prog (Instr.storeAt 72 (.pointer x100) (zAB.v x98)) w (fun w=>zCa x0 x1 x4 Ret x12 x13 w)))))))∧(opE Tryz.prog zAB.v (Instr.loadAt 72 (.pointer x97)) w (fun x98_1 w=>opE Tryz.prog zAB.v (Instr.loadAt 72 (.pointer x93)) w (fun x94_1 w=>opP Tryz.prog Value.pointer (Instr.indexAt 67 (Sl.v x0) (.int .i64 x12)) (fun x99_1=>opU Tryz.prog (Instr.storeAt 72 (.pointer x99_1) (zAB.v x94_1)) w (fun w=>opP Tryz.prog Value.pointer (Instr.indexAt 67 (Sl.v x0) (.int .i64 x13)) (fun x100_1=>opU Tryz.prog (Instr.storeAt 72 (.pointer x100_1) (zAB.v x98_1)) w (fun w=>zCa x0 x1 x4 Ret x12 x13 w)))))))))))))))
def zDd (x0:Sl) (x1:Int) (x4:Value) (Ret:Int→Bool→World→Prop) (x12:Int) (x13:Int) (w:World) (Kl4:Int→World→Prop):Prop:=
 ((x12≤x13)→(opB Tryz.prog Value.pointer (Instr.indexAt 67 (Sl.v x0) (.int .i64 x13)) w (fun x57=>opB Tryz.prog zAB.v (Instr.loadAt 72 (.pointer x57)) w (fun x58=>opB Tryz.prog Value.pointer (Instr.indexAt 67 (Sl.v x0) (.int .i64 x1)) w (fun x61=>opB Tryz.prog zAB.v (Instr.loadAt 72 (.pointer x61)) w (fun x62=>∃ (r_2:Int),CallQ Tryz.prog x4 [(zAB.v x58),(zAB.v x62)] w (.int .i64 r_2)∧(zCc x0 x1 x4 Ret x12 x13 Kl4 (!(decide (r_2<0))) w)))))))∧(¬ (x12≤x13)→(zCc x0 x1 x4 Ret x12 x13 Kl4 false w))
def zBL (x0:Sl) (x1:Int) (x2:Int) (x4:Value) (Ret:Int→Bool→World→Prop) (x12:Int) (Kl2:Int→World→Prop) (x47:Bool) (w:World):Prop:=
 nextB w (fun w=>(x47=true→(Kl2 (IntKind.wrap .i64 (x12+1)) w))∧(x47=false→(∃ (I:Int→World→Prop) (μ:Int→World→Nat),I (IntKind.wrap .i64 (x2 - 1)) w∧∀ (x13:Int) w,I x13 w→zDd x0 x1 x4 Ret x12 x13 w (fun x13' w'=>I x13' w'∧μ x13' w'<μ x13 w))))
def zDf (x0:Sl) (x1:Int) (x2:Int) (x4:Value) (Ret:Int→Bool→World→Prop) (x12:Int) (w:World) (Kl2:Int→World→Prop):Prop:=
 ((x12≤(IntKind.wrap .i64 (x2 - 1)))→(opB Tryz.prog Value.pointer (Instr.indexAt 67 (Sl.v x0) (.int .i64 x12)) w (fun x39=>opB Tryz.prog zAB.v (Instr.loadAt 72 (.pointer x39)) w (fun x40=>opB Tryz.prog Value.pointer (Instr.indexAt 67 (Sl.v x0) (.int .i64 x1)) w (fun x43=>opB Tryz.prog zAB.v (Instr.loadAt 72 (.pointer x43)) w (fun x44=>∃ (r_3:Int),CallQ Tryz.prog x4 [(zAB.v x40),(zAB.v x44)] w (.int .i64 r_3)∧(zBL x0 x1 x2 x4 Ret x12 Kl2 (decide (r_3<0)) w)))))))∧(¬ (x12≤(IntKind.wrap .i64 (x2 - 1)))→(zBL x0 x1 x2 x4 Ret x12 Kl2 false w))
def zCb (x0:Sl) (x1:Int) (x2:Int) (x4:Value) (Ret:Int→Bool→World→Prop) (w:World):Prop:=
 ∃ (I:Int→World→Prop) (μ:Int→World→Nat),I (IntKind.wrap .i64 (x1+1)) w∧∀ (x12:Int) w,I x12 w→zDf x0 x1 x2 x4 Ret x12 w (fun x12' w'=>I x12' w'∧μ x12' w'<μ x12 w)
def zEs (x0:Sl) (x1:Int) (x2:Int) (x3:Int) (x4:Value) (w:World) (Ret:Int→Bool→World→Prop):Prop:=
 nextB w (fun w=>opP Tryz.prog Value.pointer (Instr.indexAt 67 (Sl.v x0) (.int .i64 x3)) (fun x20=>opP Tryz.prog Value.pointer (Instr.indexAt 67 (Sl.v x0) (.int .i64 x1)) (fun x24=>(opE Tryz.prog zAB.v (Instr.loadAt 72 (.pointer x20)) w (fun x21 w=>opE Tryz.prog zAB.v (Instr.loadAt 72 (.pointer x24)) w (fun x25 w=>opP Tryz.prog Value.pointer (Instr.indexAt 67 (Sl.v x0) (.int .i64 x1)) (fun x26=>opU Tryz.prog (Instr.storeAt 72 (.pointer x26) (zAB.v x21)) w (fun w=>opP Tryz.prog Value.pointer (Instr.indexAt 67 (Sl.v x0) (.int .i64 x3)) (fun x27=>opU Tryz.prog (Instr.storeAt 72 (.pointer x27) (zAB.v x25)) w (fun w=>zCb x0 x1 x2 x4 Ret w)))))))∧(opE Tryz.prog zAB.v (Instr.loadAt 72 (.pointer x24)) w (fun x25_1 w=>opE Tryz.prog zAB.v (Instr.loadAt 72 (.pointer x20)) w (fun x21_1 w=>opP Tryz.prog Value.pointer (Instr.indexAt 67 (Sl.v x0) (.int .i64 x1)) (fun x26_1=>opU Tryz.prog (Instr.storeAt 72 (.pointer x26_1) (zAB.v x21_1)) w (fun w=>opP Tryz.prog Value.pointer (Instr.indexAt 67 (Sl.v x0) (.int .i64 x3)) (fun x27_1=>opU Tryz.prog (Instr.storeAt 72 (.pointer x27_1) (zAB.v x25_1)) w (fun w=>zCb x0 x1 x2 x4 Ret w))))))))))
set_option maxRecDepth 100000 in
theorem zIK (x0:Sl) (x1:Int) (x2:Int) (x3:Int) (x4:Value) (w:World) (Ret:Int→Bool→World→Prop) (H:zEs x0 x1 x2 x3 x4 w Ret):Cl Tryz.prog 112 [(Sl.v x0),(.int .i64 x1),(.int .i64 x2),(.int .i64 x3),x4].toArray w (fun e w'=>∃ (r0:Int) (r1:Bool),e=.returned (.tuple [(.int .i64 r0),(.bool r1)].toArray)∧Ret r0 r1 w'):=by
 unfold zEs at H
 refine zAY 178 (zipE 0 [(Sl.v x0),(.int .i64 x1),(.int .i64 x2),(.int .i64 x3),x4]) Tryz.func112 rfl rfl (by rfl) rfl ?_
 intro a g
 replace g:Sat [] 178 [(0,(Sl.v x0)),(1,(.int .i64 x1)),(2,(.int .i64 x2)),(3,(.int .i64 x3)),(4,x4)] a:=g
 refine zAF (zAA (g.as_ rfl fun _ g=>(g.as_ rfl fun _ g=>(zAG (tn (zBG (ds:=[]) (N:=178) (σ:=Unit) (fun s=>[(0,(Sl.v x0)),(1,(.int .i64 x1)),(2,(.int .i64 x2)),(4,x4)]) (fun s w=>zCb x0 x1 x2 x4 Ret w) ?_ (fun hj1=>?_)))))))
 ·rintro ⟨⟩ w a H g
  try dsimp only at H g
  unfold zCb at H
  refine zAF (zAA (g.mv rfl fun _ g=>(g.pur (zAn g rfl rfl) fun _ g=>(g.mv rfl fun _ g=>(g.pur (zAv g rfl rfl) fun _ g=>(g.as_ rfl fun _ g=>(g.as_ rfl fun _ g=>(zAG (tn (zAF (zAN ?_)))))))))))
  obtain ⟨I_l2,μ_l2,h0,hb⟩:=H
  refine zBl (ds:=[]) (N:=178) (σ:=Int) (fun s=>[(12,(.int .i64 s)),(0,(Sl.v x0)),(1,(.int .i64 x1)),(4,x4),(13,(.int .i64 (IntKind.wrap .i64 (x2 - 1))))]) (fun s w=>I_l2 s w) (fun s w=>μ_l2 s w) (IntKind.wrap .i64 (x1+1)) h0 (g.weak ⟨rfl,rfl,rfl,rfl,rfl,trivial⟩) ?_
  intro x12 w a hI g
  try dsimp only at hI g
  obtain ⟨Kl2,hK_l2⟩:∃ K:Int→World→Prop,K=(fun x12' w'=>I_l2 x12' w'∧μ_l2 x12' w'<μ_l2 x12 w):=⟨_,rfl⟩
  have H:zDf x0 x1 x2 x4 Ret x12 w Kl2:=by rw [hK_l2];exact hb x12 w hI
  clear hb h0 hI
  unfold zDf at H
  refine zAF (zAF (zEB (by kernel_rfl) (by kernel_rfl) (g.qm rfl fun _ g=>(g.qm rfl fun _ g=>(g.qpur (zJn g rfl rfl) fun _ g=>(g.qm rfl fun _ g=>(WQ.join (ds:=[]) (N:=178) (σ:=Bool) (fun s=>[(47,(.bool s)),(0,(Sl.v x0)),(1,(.int .i64 x1)),(4,x4),(12,(.int .i64 x12)),(13,(.int .i64 (IntKind.wrap .i64 (x2 - 1))))]) (fun s=>zBL x0 x1 x2 x4 Ret x12 Kl2 s w) 12 ?_ (fun hr3=>?_))))))))
  ·intro x47 a H g
   try dsimp only at H g
   unfold zBL at H
   refine zED (fun w hB=>?_)
   replace H:=H w hB
   refine (tn (zAV g rfl (fun hc=>?_) (fun hc=>?_)))
   ·replace H:=H.1 hc
    refine zAP (tn (zAN (zAA (g.mv rfl fun _ g=>(g.pur (zAn g rfl rfl) fun _ g=>(g.as_ rfl fun _ g=>?_))))))
    rw [hK_l2] at H
    exact zAG (bn (tn ⟨(IntKind.wrap .i64 (x12+1)),g.weak ⟨rfl,rfl,rfl,rfl,rfl,trivial⟩,H⟩))
   ·replace H:=H.2 hc
    refine zBJ (te (te (be (tn (zAF (zAN ?_))))))
    obtain ⟨I_l4,μ_l4,h0,hb⟩:=H
    refine zBl (ds:=[]) (N:=178) (σ:=Int) (fun s=>[(13,(.int .i64 s)),(0,(Sl.v x0)),(1,(.int .i64 x1)),(4,x4),(12,(.int .i64 x12))]) (fun s w=>I_l4 s w) (fun s w=>μ_l4 s w) (IntKind.wrap .i64 (x2 - 1)) h0 (g.weak ⟨rfl,rfl,rfl,rfl,rfl,trivial⟩) ?_
    intro x13 w a hI g
    try dsimp only at hI g
    obtain ⟨Kl4,hK_l4⟩:∃ K:Int→World→Prop,K=(fun x13' w'=>I_l4 x13' w'∧μ_l4 x13' w'<μ_l4 x13 w):=⟨_,rfl⟩
    have H:zDd x0 x1 x4 Ret x12 x13 w Kl4:=by rw [hK_l4];exact hb x13 w hI
    clear hb h0 hI
    unfold zDd at H
    refine zAF (zAF (zEB (by kernel_rfl) (by kernel_rfl) (g.qm rfl fun _ g=>(g.qm rfl fun _ g=>(g.qpur (zJn g rfl rfl) fun _ g=>(g.qm rfl fun _ g=>(WQ.join (ds:=[]) (N:=178) (σ:=Bool) (fun s=>[(66,(.bool s)),(0,(Sl.v x0)),(1,(.int .i64 x1)),(4,x4),(12,(.int .i64 x12)),(13,(.int .i64 x13))]) (fun s=>zCc x0 x1 x4 Ret x12 x13 Kl4 s w) 13 ?_ (fun hr5=>?_))))))))
    ·intro x66 a H g
     try dsimp only at H g
     unfold zCc at H
     refine zED (fun w hB=>?_)
     replace H:=H w hB
     refine (tn (zAV g rfl (fun hc=>?_) (fun hc=>?_)))
     ·replace H:=H.1 hc
      refine zAP (tn (zAN (zAA (g.mv rfl fun _ g=>(g.pur (zAv g rfl rfl) fun _ g=>(g.as_ rfl fun _ g=>?_))))))
      rw [hK_l4] at H
      exact zAG (bn (tn ⟨(IntKind.wrap .i64 (x13 - 1)),g.weak ⟨rfl,rfl,rfl,rfl,rfl,trivial⟩,H⟩))
     ·replace H:=H.2 hc
      refine zBJ (te (te (be (tn (zAF (zAF (zAA (g.mv rfl fun _ g=>(g.mv rfl fun _ g=>(g.pur (zIG g rfl rfl) fun _ g=>(zAG (tn (zAR g rfl (fun hc=>?_) (fun hc=>?_))))))))))))))
      ·replace H:=H.1 hc
       refine zBG (ds:=[]) (N:=178) (σ:=Unit) (fun s=>[(13,(.int .i64 x13))]) (fun s w=>zCd Ret x13 w) ?_ (fun hj6=>?_)
       ·rintro ⟨⟩ w a H g
        try dsimp only at H g
        unfold zCd at H
        exact zAF (zAA (g.mv rfl fun _ g=>(g.as_ rfl fun _ g=>(g.as_ rfl fun _ g=>(zAG (tn (zAf (tr (zFz g rfl rfl rfl ⟨_,_,rfl,H⟩)))))))))
       ·refine zKK 16 fun w hB=>?_
        replace H:=H w hB
        refine g.ap 0 rfl (zAL g rfl) fun _ g=>g.ap 1 rfl (zAL g rfl) fun _ g=>g.ap 2 rfl (zAL g rfl) fun _ g=>g.ap 3 rfl (zAL g rfl) fun _ g=>g.ap 4 rfl (zAL g rfl) fun _ g=>g.ap 5 rfl (zAL g rfl) fun _ g=>g.ao 6 rfl (zAC g rfl rfl) H fun x78 a H g=>g.ap 8 rfl (zAL g rfl) fun _ g=>g.ap 9 rfl (zAL g rfl) fun _ g=>g.ao 10 rfl (zAC g rfl rfl) H fun x82 a H g=>WA.tw 7 11 rfl rfl ?_ ?_
        ·replace H:=H.1
         intro K hK
         exact g.wop (zAI g rfl) H fun x79 w a H g=>hK _ _ (g.o1 11 rfl (zAI g rfl) H fun x83 w a H g=>(g.ao 12 rfl (zAC g rfl rfl) H fun x84 a H g=>(g.o1u 13 rfl (zAM g rfl rfl) H fun w a H g=>(g.ao 14 rfl (zAC g rfl rfl) H fun x85 a H g=>(g.o1u 15 rfl (zAM g rfl rfl) H fun w a H g=>(WA.ni ((tn (hj6 () _ _ H (g.weak ⟨rfl,trivial⟩))))))))))
        ·replace H:=H.2
         intro K hK
         exact g.wop (zAI g rfl) H fun x83_1 w a H g=>hK _ _ (g.o1 7 rfl (zAI g rfl) H fun x79_1 w a H g=>(g.ao 12 rfl (zAC g rfl rfl) H fun x84_1 a H g=>(g.o1u 13 rfl (zAM g rfl rfl) H fun w a H g=>(g.ao 14 rfl (zAC g rfl rfl) H fun x85_1 a H g=>(g.o1u 15 rfl (zAM g rfl rfl) H fun w a H g=>(WA.ni ((tn (hj6 () _ _ H (g.weak ⟨rfl,trivial⟩))))))))))
      ·replace H:=H.2 hc
       refine zAP (tn (zBG (ds:=[]) (N:=178) (σ:=Unit) (fun s=>[(0,(Sl.v x0)),(1,(.int .i64 x1)),(4,x4),(12,(.int .i64 x12)),(13,(.int .i64 x13))]) (fun s w=>zCa x0 x1 x4 Ret x12 x13 w) ?_ (fun hj7=>?_)))
       ·rintro ⟨⟩ w a H g
        try dsimp only at H g
        unfold zCa at H
        refine zAF (zAA (g.mv rfl fun _ g=>(g.pur (zAn g rfl rfl) fun _ g=>(g.as_ rfl fun _ g=>(zAG (tn (zAF (zAA (g.mv rfl fun _ g=>(g.pur (zAv g rfl rfl) fun _ g=>(g.as_ rfl fun _ g=>(zAG (tn (zAF (zAN ?_)))))))))))))))
        obtain ⟨I_l8,μ_l8,h0,hb⟩:=H
        refine zBl (ds:=[]) (N:=178) (σ:=Int × Int) (fun s=>[(12,(.int .i64 s.1)),(13,(.int .i64 s.2)),(0,(Sl.v x0)),(1,(.int .i64 x1)),(4,x4)]) (fun s w=>I_l8 s.1 s.2 w) (fun s w=>μ_l8 s.1 s.2 w) ((IntKind.wrap .i64 (x12+1)),(IntKind.wrap .i64 (x13 - 1))) h0 (g.weak ⟨rfl,rfl,rfl,rfl,rfl,trivial⟩) ?_
        rintro ⟨x12_1,x13_1⟩ w a hI g
        try dsimp only at hI g
        obtain ⟨Kl8,hK_l8⟩:∃ K:Int→Int→World→Prop,K=(fun x12_1' x13_1' w'=>I_l8 x12_1' x13_1' w'∧μ_l8 x12_1' x13_1' w'<μ_l8 x12_1 x13_1 w):=⟨_,rfl⟩
        have H:zCO x0 x1 x4 Ret x12_1 x13_1 w Kl8:=by rw [hK_l8];exact hb x12_1 x13_1 w hI
        clear hb h0 hI
        unfold zCO at H
        refine zAN (zAF (zAN ?_))
        obtain ⟨I_l9,μ_l9,h0,hb⟩:=H
        refine zBl (ds:=[]) (N:=178) (σ:=Int) (fun s=>[(12,(.int .i64 s)),(0,(Sl.v x0)),(1,(.int .i64 x1)),(4,x4),(13,(.int .i64 x13_1))]) (fun s w=>I_l9 s w) (fun s w=>μ_l9 s w) x12_1 h0 (g.weak ⟨rfl,rfl,rfl,rfl,rfl,trivial⟩) ?_
        intro x12_2 w a hI g
        try dsimp only at hI g
        obtain ⟨Kl9,hK_l9⟩:∃ K:Int→World→Prop,K=(fun x12_2' w'=>I_l9 x12_2' w'∧μ_l9 x12_2' w'<μ_l9 x12_2 w):=⟨_,rfl⟩
        have H:zDg x0 x1 x4 Ret x13_1 Kl8 x12_2 w Kl9:=by rw [hK_l9];exact hb x12_2 w hI
        clear hb h0 hI
        unfold zDg at H
        refine zAF (zAF (zEB (by kernel_rfl) (by kernel_rfl) (g.qm rfl fun _ g=>(g.qm rfl fun _ g=>(g.qpur (zJn g rfl rfl) fun _ g=>(g.qm rfl fun _ g=>(WQ.join (ds:=[]) (N:=178) (σ:=Bool) (fun s=>[(120,(.bool s)),(0,(Sl.v x0)),(1,(.int .i64 x1)),(4,x4),(12,(.int .i64 x12_2)),(13,(.int .i64 x13_1))]) (fun s=>zCM x0 x1 x4 Ret x13_1 Kl8 x12_2 Kl9 s w) 12 ?_ (fun hr10=>?_))))))))
        ·intro x120 a H g
         try dsimp only at H g
         unfold zCM at H
         refine zED (fun w hB=>?_)
         replace H:=H w hB
         refine (tn (zAV g rfl (fun hc=>?_) (fun hc=>?_)))
         ·replace H:=H.1 hc
          refine zAP (tn (zAN (zAA (g.mv rfl fun _ g=>(g.pur (zAn g rfl rfl) fun _ g=>(g.as_ rfl fun _ g=>?_))))))
          rw [hK_l9] at H
          exact zAG (bn (tn ⟨(IntKind.wrap .i64 (x12_2+1)),g.weak ⟨rfl,rfl,rfl,rfl,rfl,trivial⟩,H⟩))
         ·replace H:=H.2 hc
          refine zBJ (te (te (be (tn (zAF (zAN ?_))))))
          obtain ⟨I_l11,μ_l11,h0,hb⟩:=H
          refine zBl (ds:=[]) (N:=178) (σ:=Int) (fun s=>[(13,(.int .i64 s)),(0,(Sl.v x0)),(1,(.int .i64 x1)),(4,x4),(12,(.int .i64 x12_2))]) (fun s w=>I_l11 s w) (fun s w=>μ_l11 s w) x13_1 h0 (g.weak ⟨rfl,rfl,rfl,rfl,rfl,trivial⟩) ?_
          intro x13_2 w a hI g
          try dsimp only at hI g
          obtain ⟨Kl11,hK_l11⟩:∃ K:Int→World→Prop,K=(fun x13_2' w'=>I_l11 x13_2' w'∧μ_l11 x13_2' w'<μ_l11 x13_2 w):=⟨_,rfl⟩
          have H:zDS x0 x1 x4 Ret Kl8 x12_2 x13_2 w Kl11:=by rw [hK_l11];exact hb x13_2 w hI
          clear hb h0 hI
          unfold zDS at H
          refine zAF (zAF (zEB (by kernel_rfl) (by kernel_rfl) (g.qm rfl fun _ g=>(g.qm rfl fun _ g=>(g.qpur (zJn g rfl rfl) fun _ g=>(g.qm rfl fun _ g=>(WQ.join (ds:=[]) (N:=178) (σ:=Bool) (fun s=>[(139,(.bool s)),(0,(Sl.v x0)),(1,(.int .i64 x1)),(4,x4),(12,(.int .i64 x12_2)),(13,(.int .i64 x13_2))]) (fun s=>zCP x0 x1 Ret Kl8 x12_2 x13_2 Kl11 s w) 13 ?_ (fun hr12=>?_))))))))
          ·intro x139 a H g
           try dsimp only at H g
           unfold zCP at H
           refine zED (fun w hB=>?_)
           replace H:=H w hB
           refine (tn (zAV g rfl (fun hc=>?_) (fun hc=>?_)))
           ·replace H:=H.1 hc
            refine zAP (tn (zAN (zAA (g.mv rfl fun _ g=>(g.pur (zAv g rfl rfl) fun _ g=>(g.as_ rfl fun _ g=>?_))))))
            rw [hK_l11] at H
            exact zAG (bn (tn ⟨(IntKind.wrap .i64 (x13_2 - 1)),g.weak ⟨rfl,rfl,rfl,rfl,rfl,trivial⟩,H⟩))
           ·replace H:=H.2 hc
            refine zBJ (te (te (be (tn (zAF (zAF (zAA (g.mv rfl fun _ g=>(g.mv rfl fun _ g=>(g.pur (zIG g rfl rfl) fun _ g=>(zAG (tn (zAR g rfl (fun hc=>?_) (fun hc=>?_))))))))))))))
            ·replace H:=H.1 hc
             refine zBJ (te (bo (te (be (tn (zBG (ds:=[]) (N:=178) (σ:=Unit) (fun s=>[(13,(.int .i64 x13_2))]) (fun s w=>zCS Ret x13_2 w) ?_ (fun hj13=>?_)))))))
             ·rintro ⟨⟩ w a H g
              try dsimp only at H g
              unfold zCS at H
              exact zAF (zAA (g.mv rfl fun _ g=>(g.as_ rfl fun _ g=>(g.as_ rfl fun _ g=>(zAG (tn (zAf (zFz g rfl rfl rfl ⟨_,_,rfl,H⟩))))))))
             ·refine zKK 16 fun w hB=>?_
              replace H:=H w hB
              refine g.ap 0 rfl (zAL g rfl) fun _ g=>g.ap 1 rfl (zAL g rfl) fun _ g=>g.ap 2 rfl (zAL g rfl) fun _ g=>g.ap 3 rfl (zAL g rfl) fun _ g=>g.ap 4 rfl (zAL g rfl) fun _ g=>g.ap 5 rfl (zAL g rfl) fun _ g=>g.ao 6 rfl (zAC g rfl rfl) H fun x169 a H g=>g.ap 8 rfl (zAL g rfl) fun _ g=>g.ap 9 rfl (zAL g rfl) fun _ g=>g.ao 10 rfl (zAC g rfl rfl) H fun x173 a H g=>WA.tw 7 11 rfl rfl ?_ ?_
              ·replace H:=H.1
               intro K hK
               exact g.wop (zAI g rfl) H fun x170 w a H g=>hK _ _ (g.o1 11 rfl (zAI g rfl) H fun x174 w a H g=>(g.ao 12 rfl (zAC g rfl rfl) H fun x175 a H g=>(g.o1u 13 rfl (zAM g rfl rfl) H fun w a H g=>(g.ao 14 rfl (zAC g rfl rfl) H fun x176 a H g=>(g.o1u 15 rfl (zAM g rfl rfl) H fun w a H g=>(WA.ni ((tn (hj13 () _ _ H (g.weak ⟨rfl,trivial⟩))))))))))
              ·replace H:=H.2
               intro K hK
               exact g.wop (zAI g rfl) H fun x174_1 w a H g=>hK _ _ (g.o1 7 rfl (zAI g rfl) H fun x170_1 w a H g=>(g.ao 12 rfl (zAC g rfl rfl) H fun x175_1 a H g=>(g.o1u 13 rfl (zAM g rfl rfl) H fun w a H g=>(g.ao 14 rfl (zAC g rfl rfl) H fun x176_1 a H g=>(g.o1u 15 rfl (zAM g rfl rfl) H fun w a H g=>(WA.ni ((tn (hj13 () _ _ H (g.weak ⟨rfl,trivial⟩))))))))))
            ·replace H:=H.2 hc
             refine zAP (tn (zBG (ds:=[]) (N:=178) (σ:=Unit) (fun s=>[(0,(Sl.v x0)),(1,(.int .i64 x1)),(4,x4),(12,(.int .i64 x12_2)),(13,(.int .i64 x13_2))]) (fun s w=>zCQ Kl8 x12_2 x13_2 w) ?_ (fun hj14=>?_)))
             ·rintro ⟨⟩ w a H g
              try dsimp only at H g
              unfold zCQ at H
              refine zAF (zAA (g.mv rfl fun _ g=>(g.pur (zAn g rfl rfl) fun _ g=>(g.as_ rfl fun _ g=>(zAG (tn (zAA (g.mv rfl fun _ g=>(g.pur (zAv g rfl rfl) fun _ g=>(g.as_ rfl fun _ g=>?_))))))))))
              rw [hK_l8] at H
              exact zAG (bn (tn ⟨((IntKind.wrap .i64 (x12_2+1)),(IntKind.wrap .i64 (x13_2 - 1))),g.weak ⟨rfl,rfl,rfl,rfl,rfl,trivial⟩,H⟩))
             ·refine zKK 16 fun w hB=>?_
              replace H:=H w hB
              refine g.ap 0 rfl (zAL g rfl) fun _ g=>g.ap 1 rfl (zAL g rfl) fun _ g=>g.ap 2 rfl (zAL g rfl) fun _ g=>g.ap 3 rfl (zAL g rfl) fun _ g=>g.ap 4 rfl (zAL g rfl) fun _ g=>g.ap 5 rfl (zAL g rfl) fun _ g=>g.ao 6 rfl (zAC g rfl rfl) H fun x151 a H g=>g.ap 8 rfl (zAL g rfl) fun _ g=>g.ap 9 rfl (zAL g rfl) fun _ g=>g.ao 10 rfl (zAC g rfl rfl) H fun x155 a H g=>WA.tw 7 11 rfl rfl ?_ ?_
              ·replace H:=H.1
               intro K hK
               exact g.wop (zAI g rfl) H fun x152 w a H g=>hK _ _ (g.o1 11 rfl (zAI g rfl) H fun x156 w a H g=>(g.ao 12 rfl (zAC g rfl rfl) H fun x157 a H g=>(g.o1u 13 rfl (zAM g rfl rfl) H fun w a H g=>(g.ao 14 rfl (zAC g rfl rfl) H fun x158 a H g=>(g.o1u 15 rfl (zAM g rfl rfl) H fun w a H g=>(WA.ni ((tn (hj14 () _ _ H (g.weak ⟨rfl,rfl,rfl,rfl,rfl,trivial⟩))))))))))
              ·replace H:=H.2
               intro K hK
               exact g.wop (zAI g rfl) H fun x156_1 w a H g=>hK _ _ (g.o1 7 rfl (zAI g rfl) H fun x152_1 w a H g=>(g.ao 12 rfl (zAC g rfl rfl) H fun x157_1 a H g=>(g.o1u 13 rfl (zAM g rfl rfl) H fun w a H g=>(g.ao 14 rfl (zAC g rfl rfl) H fun x158_1 a H g=>(g.o1u 15 rfl (zAM g rfl rfl) H fun w a H g=>(WA.ni ((tn (hj14 () _ _ H (g.weak ⟨rfl,rfl,rfl,rfl,rfl,trivial⟩))))))))))
          ·rcases Classical.em ((x12_2≤x13_2)) with hbr12|hbr12
           ·replace H:=H.1 hbr12
            replace g:=g.bool (b:=true) (t:=126) rfl (decide_eq_true hbr12)
            refine g.qon (by rfl) (by rfl) (g.qm rfl fun _ g=>(g.qon (by rfl) (by rfl) (g.qm rfl fun _ g=>(g.qon (by rfl) (by rfl) (g.qm rfl fun _ g=>(g.qon (by rfl) (by rfl) (g.qop (zAC g rfl rfl) H fun x130 a H g=>(g.qon (by rfl) (by rfl) (g.qop (zAI g rfl) H fun x131 a H g=>(g.qon (by rfl) (by rfl) (g.qm rfl fun _ g=>(g.qon (by rfl) (by rfl) (g.qm rfl fun _ g=>(g.qon (by rfl) (by rfl) (g.qop (zAC g rfl rfl) H fun x134 a H g=>(g.qon (by rfl) (by rfl) (g.qop (zAI g rfl) H fun x135 a H g=>(g.qon (by rfl) (by rfl) ?_))))))))))))))))))
            obtain ⟨r,hc,H⟩:=H
            exact g.qcallV rfl rfl hc fun _ g=>g.qon (by rfl) (by rfl) (g.qpur (zDp g rfl rfl) fun _ g=>(g.qon (by rfl) (by rfl) (g.qpur (zGp g rfl) fun _ g=>(g.qpur (zAj g rfl rfl) fun _ g=>(hr12 (!(decide (r<0))) _ H (g.weak ⟨rfl,rfl,rfl,rfl,rfl,rfl,trivial⟩))))))
           ·replace H:=H.2 hbr12
            replace g:=g.bool (b:=false) (t:=126) rfl (decide_eq_false hbr12)
            exact g.qoff (by rfl) (by rfl) (by decide) (fun _ g=>(g.qoff (by rfl) (by rfl) (by decide) (fun _ g=>(g.qoff (by rfl) (by rfl) (by decide) (fun _ g=>(g.qoff (by rfl) (by rfl) (by decide) (fun _ g=>(g.qoff (by rfl) (by rfl) (by decide) (fun _ g=>(g.qoff (by rfl) (by rfl) (by decide) (fun _ g=>(g.qoff (by rfl) (by rfl) (by decide) (fun _ g=>(g.qoff (by rfl) (by rfl) (by decide) (fun _ g=>(g.qoff (by rfl) (by rfl) (by decide) (fun _ g=>(g.qoff (by rfl) (by rfl) (by decide) (fun _ g=>(g.qoff (by rfl) (by rfl) (by decide) (fun _ g=>(g.qoff (by rfl) (by rfl) (by decide) (fun _ g=>(g.qpur (zAi g rfl rfl) fun _ g=>(hr12 false _ H (g.weak ⟨rfl,rfl,rfl,rfl,rfl,rfl,trivial⟩))))))))))))))))))))))))))
        ·rcases Classical.em ((x12_2≤x13_1)) with hbr10|hbr10
         ·replace H:=H.1 hbr10
          replace g:=g.bool (b:=true) (t:=108) rfl (decide_eq_true hbr10)
          refine g.qon (by rfl) (by rfl) (g.qm rfl fun _ g=>(g.qon (by rfl) (by rfl) (g.qm rfl fun _ g=>(g.qon (by rfl) (by rfl) (g.qm rfl fun _ g=>(g.qon (by rfl) (by rfl) (g.qop (zAC g rfl rfl) H fun x112 a H g=>(g.qon (by rfl) (by rfl) (g.qop (zAI g rfl) H fun x113 a H g=>(g.qon (by rfl) (by rfl) (g.qm rfl fun _ g=>(g.qon (by rfl) (by rfl) (g.qm rfl fun _ g=>(g.qon (by rfl) (by rfl) (g.qop (zAC g rfl rfl) H fun x116 a H g=>(g.qon (by rfl) (by rfl) (g.qop (zAI g rfl) H fun x117 a H g=>(g.qon (by rfl) (by rfl) ?_))))))))))))))))))
          obtain ⟨r_1,hc,H⟩:=H
          exact g.qcallV rfl rfl hc fun _ g=>g.qon (by rfl) (by rfl) (g.qpur (zDp g rfl rfl) fun _ g=>(g.qpur (zAj g rfl rfl) fun _ g=>(hr10 (decide (r_1<0)) _ H (g.weak ⟨rfl,rfl,rfl,rfl,rfl,rfl,trivial⟩))))
         ·replace H:=H.2 hbr10
          replace g:=g.bool (b:=false) (t:=108) rfl (decide_eq_false hbr10)
          exact g.qoff (by rfl) (by rfl) (by decide) (fun _ g=>(g.qoff (by rfl) (by rfl) (by decide) (fun _ g=>(g.qoff (by rfl) (by rfl) (by decide) (fun _ g=>(g.qoff (by rfl) (by rfl) (by decide) (fun _ g=>(g.qoff (by rfl) (by rfl) (by decide) (fun _ g=>(g.qoff (by rfl) (by rfl) (by decide) (fun _ g=>(g.qoff (by rfl) (by rfl) (by decide) (fun _ g=>(g.qoff (by rfl) (by rfl) (by decide) (fun _ g=>(g.qoff (by rfl) (by rfl) (by decide) (fun _ g=>(g.qoff (by rfl) (by rfl) (by decide) (fun _ g=>(g.qoff (by rfl) (by rfl) (by decide) (fun _ g=>(g.qpur (zAi g rfl rfl) fun _ g=>(hr10 false _ H (g.weak ⟨rfl,rfl,rfl,rfl,rfl,rfl,trivial⟩))))))))))))))))))))))))
       ·refine zKK 16 fun w hB=>?_
        replace H:=H w hB
        refine g.ap 0 rfl (zAL g rfl) fun _ g=>g.ap 1 rfl (zAL g rfl) fun _ g=>g.ap 2 rfl (zAL g rfl) fun _ g=>g.ap 3 rfl (zAL g rfl) fun _ g=>g.ap 4 rfl (zAL g rfl) fun _ g=>g.ap 5 rfl (zAL g rfl) fun _ g=>g.ao 6 rfl (zAC g rfl rfl) H fun x93 a H g=>g.ap 8 rfl (zAL g rfl) fun _ g=>g.ap 9 rfl (zAL g rfl) fun _ g=>g.ao 10 rfl (zAC g rfl rfl) H fun x97 a H g=>WA.tw 7 11 rfl rfl ?_ ?_
        ·replace H:=H.1
         intro K hK
         exact g.wop (zAI g rfl) H fun x94 w a H g=>hK _ _ (g.o1 11 rfl (zAI g rfl) H fun x98 w a H g=>(g.ao 12 rfl (zAC g rfl rfl) H fun x99 a H g=>(g.o1u 13 rfl (zAM g rfl rfl) H fun w a H g=>(g.ao 14 rfl (zAC g rfl rfl) H fun x100 a H g=>(g.o1u 15 rfl (zAM g rfl rfl) H fun w a H g=>(WA.ni ((tn (hj7 () _ _ H (g.weak ⟨rfl,rfl,rfl,rfl,rfl,trivial⟩))))))))))
        ·replace H:=H.2
         intro K hK
         exact g.wop (zAI g rfl) H fun x98_1 w a H g=>hK _ _ (g.o1 7 rfl (zAI g rfl) H fun x94_1 w a H g=>(g.ao 12 rfl (zAC g rfl rfl) H fun x99_1 a H g=>(g.o1u 13 rfl (zAM g rfl rfl) H fun w a H g=>(g.ao 14 rfl (zAC g rfl rfl) H fun x100_1 a H g=>(g.o1u 15 rfl (zAM g rfl rfl) H fun w a H g=>(WA.ni ((tn (hj7 () _ _ H (g.weak ⟨rfl,rfl,rfl,rfl,rfl,trivial⟩))))))))))
    ·rcases Classical.em ((x12≤x13)) with hbr5|hbr5
     ·replace H:=H.1 hbr5
      replace g:=g.bool (b:=true) (t:=53) rfl (decide_eq_true hbr5)
      refine g.qon (by rfl) (by rfl) (g.qm rfl fun _ g=>(g.qon (by rfl) (by rfl) (g.qm rfl fun _ g=>(g.qon (by rfl) (by rfl) (g.qm rfl fun _ g=>(g.qon (by rfl) (by rfl) (g.qop (zAC g rfl rfl) H fun x57 a H g=>(g.qon (by rfl) (by rfl) (g.qop (zAI g rfl) H fun x58 a H g=>(g.qon (by rfl) (by rfl) (g.qm rfl fun _ g=>(g.qon (by rfl) (by rfl) (g.qm rfl fun _ g=>(g.qon (by rfl) (by rfl) (g.qop (zAC g rfl rfl) H fun x61 a H g=>(g.qon (by rfl) (by rfl) (g.qop (zAI g rfl) H fun x62 a H g=>(g.qon (by rfl) (by rfl) ?_))))))))))))))))))
      obtain ⟨r_2,hc,H⟩:=H
      exact g.qcallV rfl rfl hc fun _ g=>g.qon (by rfl) (by rfl) (g.qpur (zDp g rfl rfl) fun _ g=>(g.qon (by rfl) (by rfl) (g.qpur (zGp g rfl) fun _ g=>(g.qpur (zAj g rfl rfl) fun _ g=>(hr5 (!(decide (r_2<0))) _ H (g.weak ⟨rfl,rfl,rfl,rfl,rfl,rfl,trivial⟩))))))
     ·replace H:=H.2 hbr5
      replace g:=g.bool (b:=false) (t:=53) rfl (decide_eq_false hbr5)
      exact g.qoff (by rfl) (by rfl) (by decide) (fun _ g=>(g.qoff (by rfl) (by rfl) (by decide) (fun _ g=>(g.qoff (by rfl) (by rfl) (by decide) (fun _ g=>(g.qoff (by rfl) (by rfl) (by decide) (fun _ g=>(g.qoff (by rfl) (by rfl) (by decide) (fun _ g=>(g.qoff (by rfl) (by rfl) (by decide) (fun _ g=>(g.qoff (by rfl) (by rfl) (by decide) (fun _ g=>(g.qoff (by rfl) (by rfl) (by decide) (fun _ g=>(g.qoff (by rfl) (by rfl) (by decide) (fun _ g=>(g.qoff (by rfl) (by rfl) (by decide) (fun _ g=>(g.qoff (by rfl) (by rfl) (by decide) (fun _ g=>(g.qoff (by rfl) (by rfl) (by decide) (fun _ g=>(g.qpur (zAi g rfl rfl) fun _ g=>(hr5 false _ H (g.weak ⟨rfl,rfl,rfl,rfl,rfl,rfl,trivial⟩))))))))))))))))))))))))))
  ·rcases Classical.em ((x12≤(IntKind.wrap .i64 (x2 - 1)))) with hbr3|hbr3
   ·replace H:=H.1 hbr3
    replace g:=g.bool (b:=true) (t:=35) rfl (decide_eq_true hbr3)
    refine g.qon (by rfl) (by rfl) (g.qm rfl fun _ g=>(g.qon (by rfl) (by rfl) (g.qm rfl fun _ g=>(g.qon (by rfl) (by rfl) (g.qm rfl fun _ g=>(g.qon (by rfl) (by rfl) (g.qop (zAC g rfl rfl) H fun x39 a H g=>(g.qon (by rfl) (by rfl) (g.qop (zAI g rfl) H fun x40 a H g=>(g.qon (by rfl) (by rfl) (g.qm rfl fun _ g=>(g.qon (by rfl) (by rfl) (g.qm rfl fun _ g=>(g.qon (by rfl) (by rfl) (g.qop (zAC g rfl rfl) H fun x43 a H g=>(g.qon (by rfl) (by rfl) (g.qop (zAI g rfl) H fun x44 a H g=>(g.qon (by rfl) (by rfl) ?_))))))))))))))))))
    obtain ⟨r_3,hc,H⟩:=H
    exact g.qcallV rfl rfl hc fun _ g=>g.qon (by rfl) (by rfl) (g.qpur (zDp g rfl rfl) fun _ g=>(g.qpur (zAj g rfl rfl) fun _ g=>(hr3 (decide (r_3<0)) _ H (g.weak ⟨rfl,rfl,rfl,rfl,rfl,rfl,trivial⟩))))
   ·replace H:=H.2 hbr3
    replace g:=g.bool (b:=false) (t:=35) rfl (decide_eq_false hbr3)
    exact g.qoff (by rfl) (by rfl) (by decide) (fun _ g=>(g.qoff (by rfl) (by rfl) (by decide) (fun _ g=>(g.qoff (by rfl) (by rfl) (by decide) (fun _ g=>(g.qoff (by rfl) (by rfl) (by decide) (fun _ g=>(g.qoff (by rfl) (by rfl) (by decide) (fun _ g=>(g.qoff (by rfl) (by rfl) (by decide) (fun _ g=>(g.qoff (by rfl) (by rfl) (by decide) (fun _ g=>(g.qoff (by rfl) (by rfl) (by decide) (fun _ g=>(g.qoff (by rfl) (by rfl) (by decide) (fun _ g=>(g.qoff (by rfl) (by rfl) (by decide) (fun _ g=>(g.qoff (by rfl) (by rfl) (by decide) (fun _ g=>(g.qpur (zAi g rfl rfl) fun _ g=>(hr3 false _ H (g.weak ⟨rfl,rfl,rfl,rfl,rfl,rfl,trivial⟩))))))))))))))))))))))))
 ·refine zKK 16 fun w hB=>?_
  replace H:=H w hB
  refine g.ap 0 rfl (zAL g rfl) fun _ g=>g.ap 1 rfl (zAL g rfl) fun _ g=>g.ap 2 rfl (zAL g rfl) fun _ g=>g.ap 3 rfl (zAL g rfl) fun _ g=>g.ap 4 rfl (zAL g rfl) fun _ g=>g.ap 5 rfl (zAL g rfl) fun _ g=>g.ao 6 rfl (zAC g rfl rfl) H fun x20 a H g=>g.ap 8 rfl (zAL g rfl) fun _ g=>g.ap 9 rfl (zAL g rfl) fun _ g=>g.ao 10 rfl (zAC g rfl rfl) H fun x24 a H g=>WA.tw 7 11 rfl rfl ?_ ?_
  ·replace H:=H.1
   intro K hK
   exact g.wop (zAI g rfl) H fun x21 w a H g=>hK _ _ (g.o1 11 rfl (zAI g rfl) H fun x25 w a H g=>(g.ao 12 rfl (zAC g rfl rfl) H fun x26 a H g=>(g.o1u 13 rfl (zAM g rfl rfl) H fun w a H g=>(g.ao 14 rfl (zAC g rfl rfl) H fun x27 a H g=>(g.o1u 15 rfl (zAM g rfl rfl) H fun w a H g=>(WA.ni ((tn (hj1 () _ _ H (g.weak ⟨rfl,rfl,rfl,rfl,trivial⟩))))))))))
  ·replace H:=H.2
   intro K hK
   exact g.wop (zAI g rfl) H fun x25_1 w a H g=>hK _ _ (g.o1 7 rfl (zAI g rfl) H fun x21_1 w a H g=>(g.ao 12 rfl (zAC g rfl rfl) H fun x26_1 a H g=>(g.o1u 13 rfl (zAM g rfl rfl) H fun w a H g=>(g.ao 14 rfl (zAC g rfl rfl) H fun x27_1 a H g=>(g.o1u 15 rfl (zAM g rfl rfl) H fun w a H g=>(WA.ni ((tn (hj1 () _ _ H (g.weak ⟨rfl,rfl,rfl,rfl,trivial⟩))))))))))
def zCg (Kl1:Int→World→Prop) (x11:Int) (w:World):Prop:=
 Kl1 x11 w
def zBZ (x0:Sl) (x3:Int) (x4:Value) (Ret:World→Prop) (x10:Int) (Kl1:Int→World→Prop) (x11:Int) (w:World):Prop:=
 opB Tryz.prog Value.pointer (Instr.indexAt 67 (Sl.v x0) (.int .i64 (IntKind.wrap .i64 (x3+x10)))) w (fun x48=>opB Tryz.prog zAB.v (Instr.loadAt 72 (.pointer x48)) w (fun x49=>opB Tryz.prog Value.pointer (Instr.indexAt 67 (Sl.v x0) (.int .i64 (IntKind.wrap .i64 (x3+x11)))) w (fun x54=>opB Tryz.prog zAB.v (Instr.loadAt 72 (.pointer x54)) w (fun x55=>∃ (r:Int),CallQ Tryz.prog x4 [(zAB.v x49),(zAB.v x55)] w (.int .i64 r)∧(nextB w (fun w=>((!(decide (r<0)))=true→(Ret w))∧((!(decide (r<0)))=false→(nextB w (fun w=>opP Tryz.prog Value.pointer (Instr.indexAt 67 (Sl.v x0) (.int .i64 (IntKind.wrap .i64 (x3+x11)))) (fun x71=>opP Tryz.prog Value.pointer (Instr.indexAt 67 (Sl.v x0) (.int .i64 (IntKind.wrap .i64 (x3+x10)))) (fun x77=>(opE Tryz.prog zAB.v (Instr.loadAt 72 (.pointer x71)) w (fun x72 w=>opE Tryz.prog zAB.v (Instr.loadAt 72 (.pointer x77)) w (fun x78 w=>opP Tryz.prog Value.pointer (Instr.indexAt 67 (Sl.v x0) (.int .i64 (IntKind.wrap .i64 (x3+x10)))) (fun x79=>opU Tryz.prog (Instr.storeAt 72 (.pointer x79) (zAB.v x72)) w (fun w=>opP Tryz.prog Value.pointer (Instr.indexAt 67 (Sl.v x0) (.int .i64 (IntKind.wrap .i64 (x3+x11)))) (fun x80=>opU Tryz.prog (Instr.storeAt 72 (.pointer x80) (zAB.v x78)) w (fun w=>zCg Kl1 x11 w)))))))∧(opE Tryz.prog zAB.v (Instr.loadAt 72 (.pointer x77)) w (fun x78_1 w=>opE Tryz.prog zAB.v (Instr.loadAt 72 (.pointer x71)) w (fun x72_1 w=>opP Tryz.prog Value.pointer (Instr.indexAt 67 (Sl.v x0) (.int .i64 (IntKind.wrap .i64 (x3+x10)))) (fun x79_1=>opU Tryz.prog (Instr.storeAt 72 (.pointer x79_1) (zAB.v x72_1)) w (fun w=>opP Tryz.prog Value.pointer (Instr.indexAt 67 (Sl.v x0) (.int .i64 (IntKind.wrap .i64 (x3+x11)))) (fun x80_1=>opU Tryz.prog (Instr.storeAt 72 (.pointer x80_1) (zAB.v x78_1)) w (fun w=>zCg Kl1 x11 w))))))))))))))))))
def zBR (x0:Sl) (x3:Int) (x4:Value) (Ret:World→Prop) (x10:Int) (Kl1:Int→World→Prop) (x40:Bool) (w:World):Prop:=
 nextB w (fun w=>(x40=true→(zBZ x0 x3 x4 Ret x10 Kl1 (IntKind.wrap .i64 ((IntKind.wrap .i64 ((IntKind.wrap .i64 (2*x10))+1))+1)) w))∧(x40=false→(zBZ x0 x3 x4 Ret x10 Kl1 (IntKind.wrap .i64 ((IntKind.wrap .i64 (2*x10))+1)) w)))
def zDn (x0:Sl) (x2:Int) (x3:Int) (x4:Value) (Ret:World→Prop) (x10:Int) (w:World) (Kl1:Int→World→Prop):Prop:=
 ((x2≤(IntKind.wrap .i64 ((IntKind.wrap .i64 (2*x10))+1)))→(Ret w))∧(¬ (x2≤(IntKind.wrap .i64 ((IntKind.wrap .i64 (2*x10))+1)))→((((IntKind.wrap .i64 ((IntKind.wrap .i64 ((IntKind.wrap .i64 (2*x10))+1))+1))<x2)→(opB Tryz.prog Value.pointer (Instr.indexAt 67 (Sl.v x0) (.int .i64 (IntKind.wrap .i64 (x3+(IntKind.wrap .i64 ((IntKind.wrap .i64 (2*x10))+1)))))) w (fun x29=>opB Tryz.prog zAB.v (Instr.loadAt 72 (.pointer x29)) w (fun x30=>opB Tryz.prog Value.pointer (Instr.indexAt 67 (Sl.v x0) (.int .i64 (IntKind.wrap .i64 ((IntKind.wrap .i64 (x3+(IntKind.wrap .i64 ((IntKind.wrap .i64 (2*x10))+1))))+1)))) w (fun x36=>opB Tryz.prog zAB.v (Instr.loadAt 72 (.pointer x36)) w (fun x37=>∃ (r_1:Int),CallQ Tryz.prog x4 [(zAB.v x30),(zAB.v x37)] w (.int .i64 r_1)∧(zBR x0 x3 x4 Ret x10 Kl1 (decide (r_1<0)) w)))))))∧(¬ ((IntKind.wrap .i64 ((IntKind.wrap .i64 ((IntKind.wrap .i64 (2*x10))+1))+1))<x2)→(zBR x0 x3 x4 Ret x10 Kl1 false w))))
def zE6 (x0:Sl) (x1:Int) (x2:Int) (x3:Int) (x4:Value) (w:World) (Ret:World→Prop):Prop:=
 ∃ (I:Int→World→Prop) (μ:Int→World→Nat),I x1 w∧∀ (x10:Int) w,I x10 w→zDn x0 x2 x3 x4 Ret x10 w (fun x10' w'=>I x10' w'∧μ x10' w'<μ x10 w)
set_option maxRecDepth 100000 in
theorem zIl (x0:Sl) (x1:Int) (x2:Int) (x3:Int) (x4:Value) (w:World) (Ret:World→Prop) (H:zE6 x0 x1 x2 x3 x4 w Ret):Cl Tryz.prog 136 [(Sl.v x0),(.int .i64 x1),(.int .i64 x2),(.int .i64 x3),x4].toArray w (fun e w'=>e=.returned (.tuple [].toArray)∧Ret w'):=by
 unfold zE6 at H
 refine zAY 82 (zipE 0 [(Sl.v x0),(.int .i64 x1),(.int .i64 x2),(.int .i64 x3),x4]) Tryz.func136 rfl rfl (by rfl) rfl ?_
 intro a g
 replace g:Sat [] 82 [(0,(Sl.v x0)),(1,(.int .i64 x1)),(2,(.int .i64 x2)),(3,(.int .i64 x3)),(4,x4)] a:=g
 refine zAF (zAA (g.mv rfl fun _ g=>(g.as_ rfl fun _ g=>(zAG (tn (zAN ?_))))))
 obtain ⟨I_l1,μ_l1,h0,hb⟩:=H
 refine zBl (ds:=[]) (N:=82) (σ:=Int) (fun s=>[(10,(.int .i64 s)),(0,(Sl.v x0)),(2,(.int .i64 x2)),(3,(.int .i64 x3)),(4,x4)]) (fun s w=>I_l1 s w) (fun s w=>μ_l1 s w) x1 h0 (g.weak ⟨rfl,rfl,rfl,rfl,rfl,trivial⟩) ?_
 intro x10 w a hI g
 try dsimp only at hI g
 obtain ⟨Kl1,hK_l1⟩:∃ K:Int→World→Prop,K=(fun x10' w'=>I_l1 x10' w'∧μ_l1 x10' w'<μ_l1 x10 w):=⟨_,rfl⟩
 have H:zDn x0 x2 x3 x4 Ret x10 w Kl1:=by rw [hK_l1];exact hb x10 w hI
 clear hb h0 hI
 unfold zDn at H
 refine zAN (zAF (zAA (g.mv rfl fun _ g=>(g.pur (zLJ g rfl rfl) fun _ g=>(g.pur (zAn g rfl rfl) fun _ g=>(g.as_ rfl fun _ g=>(zAG (tn (zAF (zAF (zAA (g.mv rfl fun _ g=>(g.mv rfl fun _ g=>(g.pur (zF7 g rfl rfl) fun _ g=>(zAG (tn (zAR g rfl (fun hc=>?_) (fun hc=>?_))))))))))))))))))
 ·replace H:=H.1 hc
  exact zBJ (te (bo (te (be (zG1 g rfl ⟨rfl,H⟩)))))
 ·replace H:=H.2 hc
  refine zAP (tn (zBG (ds:=[]) (N:=82) (σ:=Int) (fun s=>[(11,(.int .i64 s)),(0,(Sl.v x0)),(2,(.int .i64 x2)),(3,(.int .i64 x3)),(4,x4),(10,(.int .i64 x10))]) (fun s w=>zBZ x0 x3 x4 Ret x10 Kl1 s w) ?_ (fun hj2=>?_)))
  ·intro x11 w a H g
   try dsimp only at H g
   unfold zBZ at H
   refine zAF (zAF (zEB (by kernel_rfl) (by kernel_rfl) (g.qm rfl fun _ g=>(g.qm rfl fun _ g=>(g.qm rfl fun _ g=>(g.qm rfl fun _ g=>(g.qpur (zAn g rfl rfl) fun _ g=>(g.qop (zAC g rfl rfl) H fun x48 a H g=>(g.qop (zAI g rfl) H fun x49 a H g=>(g.qm rfl fun _ g=>(g.qm rfl fun _ g=>(g.qm rfl fun _ g=>(g.qpur (zAn g rfl rfl) fun _ g=>(g.qop (zAC g rfl rfl) H fun x54 a H g=>(g.qop (zAI g rfl) H fun x55 a H g=>?_)))))))))))))))
   obtain ⟨r,hc,H⟩:=H
   refine g.qcallV rfl rfl hc fun _ g=>g.qpur (zDp g rfl rfl) fun _ g=>g.qpur (zGp g rfl) fun _ g=>zED (fun w hB=>?_)
   replace H:=H w hB
   refine (tn (zAV g rfl (fun hc=>?_) (fun hc=>?_)))
   ·replace H:=H.1 hc
    exact zAf (tr (br (tr (br (zKH g rfl ⟨rfl,H⟩)))))
   ·replace H:=H.2 hc
    refine zAP (tn (zBG (ds:=[]) (N:=82) (σ:=Unit) (fun s=>[(0,(Sl.v x0)),(2,(.int .i64 x2)),(3,(.int .i64 x3)),(4,x4),(11,(.int .i64 x11))]) (fun s w=>zCg Kl1 x11 w) ?_ (fun hj3=>?_)))
    ·rintro ⟨⟩ w a H g
     try dsimp only at H g
     unfold zCg at H
     refine zAA (g.mv rfl fun _ g=>(g.as_ rfl fun _ g=>?_))
     rw [hK_l1] at H
     exact zAG (bn (tn ⟨x11,g.weak ⟨rfl,rfl,rfl,rfl,rfl,trivial⟩,H⟩))
    ·refine zKK 24 fun w hB=>?_
     replace H:=H w hB
     refine g.ap 0 rfl (zAL g rfl) fun _ g=>g.ap 1 rfl (zAL g rfl) fun _ g=>g.ap 2 rfl (zAL g rfl) fun _ g=>g.ap 3 rfl (zAn g rfl rfl) fun _ g=>g.ap 4 rfl (zAL g rfl) fun _ g=>g.ap 5 rfl (zAL g rfl) fun _ g=>g.ap 6 rfl (zAL g rfl) fun _ g=>g.ap 7 rfl (zAn g rfl rfl) fun _ g=>g.ap 8 rfl (zAL g rfl) fun _ g=>g.ap 9 rfl (zAL g rfl) fun _ g=>g.ap 10 rfl (zAL g rfl) fun _ g=>g.ap 11 rfl (zAn g rfl rfl) fun _ g=>g.ao 12 rfl (zAC g rfl rfl) H fun x71 a H g=>g.ap 14 rfl (zAL g rfl) fun _ g=>g.ap 15 rfl (zAL g rfl) fun _ g=>g.ap 16 rfl (zAL g rfl) fun _ g=>g.ap 17 rfl (zAn g rfl rfl) fun _ g=>g.ao 18 rfl (zAC g rfl rfl) H fun x77 a H g=>WA.tw 13 19 rfl rfl ?_ ?_
     ·replace H:=H.1
      intro K hK
      exact g.wop (zAI g rfl) H fun x72 w a H g=>hK _ _ (g.o1 19 rfl (zAI g rfl) H fun x78 w a H g=>(g.ao 20 rfl (zAC g rfl rfl) H fun x79 a H g=>(g.o1u 21 rfl (zAM g rfl rfl) H fun w a H g=>(g.ao 22 rfl (zAC g rfl rfl) H fun x80 a H g=>(g.o1u 23 rfl (zAM g rfl rfl) H fun w a H g=>(WA.ni ((tn (hj3 () _ _ H (g.weak ⟨rfl,rfl,rfl,rfl,rfl,trivial⟩))))))))))
     ·replace H:=H.2
      intro K hK
      exact g.wop (zAI g rfl) H fun x78_1 w a H g=>hK _ _ (g.o1 13 rfl (zAI g rfl) H fun x72_1 w a H g=>(g.ao 20 rfl (zAC g rfl rfl) H fun x79_1 a H g=>(g.o1u 21 rfl (zAM g rfl rfl) H fun w a H g=>(g.ao 22 rfl (zAC g rfl rfl) H fun x80_1 a H g=>(g.o1u 23 rfl (zAM g rfl rfl) H fun w a H g=>(WA.ni ((tn (hj3 () _ _ H (g.weak ⟨rfl,rfl,rfl,rfl,rfl,trivial⟩))))))))))
  ·refine zAF (zEB (by kernel_rfl) (by kernel_rfl) (g.qm rfl fun _ g=>(g.qpur (zAn g rfl rfl) fun _ g=>(g.qm rfl fun _ g=>(g.qpur (zDp g rfl rfl) fun _ g=>(g.qm rfl fun _ g=>(WQ.join (ds:=[]) (N:=82) (σ:=Bool) (fun s=>[(40,(.bool s)),(0,(Sl.v x0)),(2,(.int .i64 x2)),(3,(.int .i64 x3)),(4,x4),(10,(.int .i64 x10)),(11,(.int .i64 (IntKind.wrap .i64 ((IntKind.wrap .i64 (2*x10))+1))))]) (fun s=>zBR x0 x3 x4 Ret x10 Kl1 s w) 17 ?_ (fun hr4=>?_))))))))
   ·intro x40 a H g
    try dsimp only at H g
    unfold zBR at H
    refine zED (fun w hB=>?_)
    replace H:=H w hB
    refine (tn (zAV g rfl (fun hc=>?_) (fun hc=>?_)))
    ·replace H:=H.1 hc
     exact zAA (g.mv rfl fun _ g=>(g.pur (zAn g rfl rfl) fun _ g=>(g.as_ rfl fun _ g=>(zAG (tn (hj2 (IntKind.wrap .i64 ((IntKind.wrap .i64 ((IntKind.wrap .i64 (2*x10))+1))+1)) _ _ H (g.weak ⟨rfl,rfl,rfl,rfl,rfl,rfl,trivial⟩)))))))
    ·replace H:=H.2 hc
     exact zAP (tn (hj2 (IntKind.wrap .i64 ((IntKind.wrap .i64 (2*x10))+1)) _ _ H (g.weak ⟨rfl,rfl,rfl,rfl,rfl,rfl,trivial⟩)))
   ·rcases Classical.em (((IntKind.wrap .i64 ((IntKind.wrap .i64 ((IntKind.wrap .i64 (2*x10))+1))+1))<x2)) with hbr4|hbr4
    ·replace H:=H.1 hbr4
     replace g:=g.bool (b:=true) (t:=23) rfl (decide_eq_true hbr4)
     refine g.qon (by rfl) (by rfl) (g.qm rfl fun _ g=>(g.qon (by rfl) (by rfl) (g.qm rfl fun _ g=>(g.qon (by rfl) (by rfl) (g.qm rfl fun _ g=>(g.qon (by rfl) (by rfl) (g.qm rfl fun _ g=>(g.qon (by rfl) (by rfl) (g.qpur (zAn g rfl rfl) fun _ g=>(g.qon (by rfl) (by rfl) (g.qop (zAC g rfl rfl) H fun x29 a H g=>(g.qon (by rfl) (by rfl) (g.qop (zAI g rfl) H fun x30 a H g=>(g.qon (by rfl) (by rfl) (g.qm rfl fun _ g=>(g.qon (by rfl) (by rfl) (g.qm rfl fun _ g=>(g.qon (by rfl) (by rfl) (g.qm rfl fun _ g=>(g.qon (by rfl) (by rfl) (g.qpur (zAn g rfl rfl) fun _ g=>(g.qon (by rfl) (by rfl) (g.qpur (zAn g rfl rfl) fun _ g=>(g.qon (by rfl) (by rfl) (g.qop (zAC g rfl rfl) H fun x36 a H g=>(g.qon (by rfl) (by rfl) (g.qop (zAI g rfl) H fun x37 a H g=>(g.qon (by rfl) (by rfl) ?_))))))))))))))))))))))))))))
     obtain ⟨r_1,hc,H⟩:=H
     exact g.qcallV rfl rfl hc fun _ g=>g.qon (by rfl) (by rfl) (g.qpur (zDp g rfl rfl) fun _ g=>(g.qpur (zAj g rfl rfl) fun _ g=>(hr4 (decide (r_1<0)) _ H (g.weak ⟨rfl,rfl,rfl,rfl,rfl,rfl,rfl,trivial⟩))))
    ·replace H:=H.2 hbr4
     replace g:=g.bool (b:=false) (t:=23) rfl (decide_eq_false hbr4)
     exact g.qoff (by rfl) (by rfl) (by decide) (fun _ g=>(g.qoff (by rfl) (by rfl) (by decide) (fun _ g=>(g.qoff (by rfl) (by rfl) (by decide) (fun _ g=>(g.qoff (by rfl) (by rfl) (by decide) (fun _ g=>(g.qoff (by rfl) (by rfl) (by decide) (fun _ g=>(g.qoff (by rfl) (by rfl) (by decide) (fun _ g=>(g.qoff (by rfl) (by rfl) (by decide) (fun _ g=>(g.qoff (by rfl) (by rfl) (by decide) (fun _ g=>(g.qoff (by rfl) (by rfl) (by decide) (fun _ g=>(g.qoff (by rfl) (by rfl) (by decide) (fun _ g=>(g.qoff (by rfl) (by rfl) (by decide) (fun _ g=>(g.qoff (by rfl) (by rfl) (by decide) (fun _ g=>(g.qoff (by rfl) (by rfl) (by decide) (fun _ g=>(g.qoff (by rfl) (by rfl) (by decide) (fun _ g=>(g.qoff (by rfl) (by rfl) (by decide) (fun _ g=>(g.qoff (by rfl) (by rfl) (by decide) (fun _ g=>(g.qpur (zAi g rfl rfl) fun _ g=>(hr4 false _ H (g.weak ⟨rfl,rfl,rfl,rfl,rfl,rfl,rfl,trivial⟩))))))))))))))))))))))))))))))))))
def zEI (x0:Sl) (x1:Int) (x2:Option Addr) (x3:Value) (w:World) (Ret:Int→World→Prop):Prop:=
 Cl Tryz.prog 138 [(Sl.v x0),(.int .i64 (IntKind.wrap .i64 (x1 - 1))),(.int .i64 x1),(.int .i64 (IntKind.wrap .i64 (x1+1))),(.pointer x2),x3].toArray w (fun e w=>∃ (r:Int),e=.returned (.int .i64 r)∧(Ret r w))
set_option maxRecDepth 100000 in
theorem zHB (x0:Sl) (x1:Int) (x2:Option Addr) (x3:Value) (w:World) (Ret:Int→World→Prop) (H:zEI x0 x1 x2 x3 w Ret):Cl Tryz.prog 137 [(Sl.v x0),(.int .i64 x1),(.pointer x2),x3].toArray w (fun e w'=>∃ (r0:Int),e=.returned (.int .i64 r0)∧Ret r0 w'):=by
 unfold zEI at H
 refine zAY 18 (zipE 0 [(Sl.v x0),(.int .i64 x1),(.pointer x2),x3]) Tryz.func137 rfl rfl (by rfl) rfl ?_
 intro a g
 replace g:Sat [] 18 [(0,(Sl.v x0)),(1,(.int .i64 x1)),(2,(.pointer x2)),(3,x3)] a:=g
 refine zAF (zAA (g.as_ rfl fun _ g=>(zAG (tn (zAF (zAA (g.mv rfl fun _ g=>(g.mv rfl fun _ g=>(g.pur (zAv g rfl rfl) fun _ g=>(g.mv rfl fun _ g=>(g.mv rfl fun _ g=>(g.pur (zAn g rfl rfl) fun _ g=>(g.mv rfl fun _ g=>(g.mv rfl fun _ g=>(g.call (zAQ g zSh rfl rfl) H fun e w H=>?_)))))))))))))))
 obtain ⟨r,rfl,H⟩:=H
 exact ⟨_,rfl,fun _ g=>(g.as_ rfl fun _ g=>(zAG (tn (zAf (zAt g rfl rfl ⟨_,rfl,H⟩)))))⟩
def zFM (x0:Sl) (x1:Int) (x2:Int) (x3:Int) (x4:Option Addr) (x5:Value) (w:World) (Ret:Int→World→Prop):Prop:=
 Cl Tryz.prog 147 [(Sl.v x0),(.int .i64 x1),(.int .i64 x2),(.pointer x4),x5].toArray w (fun e w=>∃ (r:Int) (r_1:Int),e=.returned (.tuple [(.int .i64 r),(.int .i64 r_1)].toArray)∧(Cl Tryz.prog 147 [(Sl.v x0),(.int .i64 r_1),(.int .i64 x3),(.pointer x4),x5].toArray w (fun e w=>∃ (r_2:Int) (r_3:Int),e=.returned (.tuple [(.int .i64 r_2),(.int .i64 r_3)].toArray)∧(Cl Tryz.prog 147 [(Sl.v x0),(.int .i64 r),(.int .i64 r_2),(.pointer x4),x5].toArray w (fun e w=>∃ (r_4:Int) (r_5:Int),e=.returned (.tuple [(.int .i64 r_4),(.int .i64 r_5)].toArray)∧(Ret r_5 w))))))
set_option maxRecDepth 100000 in
theorem zJB (x0:Sl) (x1:Int) (x2:Int) (x3:Int) (x4:Option Addr) (x5:Value) (w:World) (Ret:Int→World→Prop) (H:zFM x0 x1 x2 x3 x4 x5 w Ret):Cl Tryz.prog 138 [(Sl.v x0),(.int .i64 x1),(.int .i64 x2),(.int .i64 x3),(.pointer x4),x5].toArray w (fun e w'=>∃ (r0:Int),e=.returned (.int .i64 r0)∧Ret r0 w'):=by
 unfold zFM at H
 refine zAY 41 (zipE 0 [(Sl.v x0),(.int .i64 x1),(.int .i64 x2),(.int .i64 x3),(.pointer x4),x5]) Tryz.func138 rfl rfl (by rfl) rfl ?_
 intro a g
 replace g:Sat [] 41 [(0,(Sl.v x0)),(1,(.int .i64 x1)),(2,(.int .i64 x2)),(3,(.int .i64 x3)),(4,(.pointer x4)),(5,x5)] a:=g
 refine zAF (zAA (g.as_ rfl fun _ g=>(zAG (tn (zAF (zAA (g.mv rfl fun _ g=>(g.mv rfl fun _ g=>(g.mv rfl fun _ g=>(g.mv rfl fun _ g=>(g.mv rfl fun _ g=>(g.call (zAQ g zRP rfl rfl) H fun e w H=>?_))))))))))))
 obtain ⟨r,r_1,rfl,H⟩:=H
 refine ⟨_,rfl,fun _ g=>(g.mv rfl fun _ g=>(g.pur (zAO g rfl rfl) fun _ g=>(g.pur (zAO g rfl rfl) fun _ g=>(g.as_ rfl fun _ g=>(g.as_ rfl fun _ g=>(zAG (tn (zAF (zAA (g.mv rfl fun _ g=>(g.mv rfl fun _ g=>(g.mv rfl fun _ g=>(g.mv rfl fun _ g=>(g.mv rfl fun _ g=>(g.call (zAQ g zRP rfl rfl) H fun e w H=>?_)))))))))))))))⟩
 obtain ⟨r_2,r_3,rfl,H⟩:=H
 refine ⟨_,rfl,fun _ g=>(g.mv rfl fun _ g=>(g.pur (zAO g rfl rfl) fun _ g=>(g.pur (zAO g rfl rfl) fun _ g=>(g.as_ rfl fun _ g=>(g.as_ rfl fun _ g=>(zAG (tn (zAF (zAA (g.mv rfl fun _ g=>(g.mv rfl fun _ g=>(g.mv rfl fun _ g=>(g.mv rfl fun _ g=>(g.mv rfl fun _ g=>(g.call (zAQ g zRP rfl rfl) H fun e w H=>?_)))))))))))))))⟩
 obtain ⟨r_4,r_5,rfl,H⟩:=H
 exact ⟨_,rfl,fun _ g=>(g.mv rfl fun _ g=>(g.pur (zAO g rfl rfl) fun _ g=>(g.pur (zAO g rfl rfl) fun _ g=>(g.as_ rfl fun _ g=>(g.as_ rfl fun _ g=>(zAG (tn (zAF (zAA (g.mv rfl fun _ g=>(g.as_ rfl fun _ g=>(zAG (tn (zAf (zAt g rfl rfl ⟨_,rfl,H⟩)))))))))))))))⟩
def zFL (x0:Sl) (x1:Int) (x2:Int) (x3:Option Addr) (x4:Value) (w:World) (Ret:Int→Int→World→Prop):Prop:=
 opB Tryz.prog Value.pointer (Instr.indexAt 67 (Sl.v x0) (.int .i64 x2)) w (fun x15=>opB Tryz.prog zAB.v (Instr.loadAt 72 (.pointer x15)) w (fun x16=>opB Tryz.prog Value.pointer (Instr.indexAt 67 (Sl.v x0) (.int .i64 x1)) w (fun x19=>opB Tryz.prog zAB.v (Instr.loadAt 72 (.pointer x19)) w (fun x20=>∃ (r:Int),CallQ Tryz.prog x4 [(zAB.v x16),(zAB.v x20)] w (.int .i64 r)∧(nextB w (fun w=>((r<0)→(nilOk (.pointer x3)∧(opE Tryz.prog (Value.int .i64) (Instr.loadAt 3 (.pointer x3)) w (fun x25 w=>nilOk (.pointer x3)∧(opU Tryz.prog (Instr.storeAt 3 (.pointer x3) (.int .i64 (IntKind.wrap .i64 (x25+1)))) w (fun w=>Ret x2 x1 w))))))∧(¬ (r<0)→(Ret x1 x2 w))))))))
set_option maxRecDepth 100000 in
theorem zJF (x0:Sl) (x1:Int) (x2:Int) (x3:Option Addr) (x4:Value) (w:World) (Ret:Int→Int→World→Prop) (H:zFL x0 x1 x2 x3 x4 w Ret):Cl Tryz.prog 147 [(Sl.v x0),(.int .i64 x1),(.int .i64 x2),(.pointer x3),x4].toArray w (fun e w'=>∃ (r0:Int) (r1:Int),e=.returned (.tuple [(.int .i64 r0),(.int .i64 r1)].toArray)∧Ret r0 r1 w'):=by
 unfold zFL at H
 refine zAY 32 (zipE 0 [(Sl.v x0),(.int .i64 x1),(.int .i64 x2),(.pointer x3),x4]) Tryz.func147 rfl rfl (by rfl) rfl ?_
 intro a g
 replace g:Sat [] 32 [(0,(Sl.v x0)),(1,(.int .i64 x1)),(2,(.int .i64 x2)),(3,(.pointer x3)),(4,x4)] a:=g
 refine zAF (zAA (g.as_ rfl fun _ g=>(g.as_ rfl fun _ g=>(zAG (tn (zAF (zAF (zEB (by kernel_rfl) (by kernel_rfl) (g.qm rfl fun _ g=>(g.qm rfl fun _ g=>(g.qm rfl fun _ g=>(g.qop (zAC g rfl rfl) H fun x15 a H g=>(g.qop (zAI g rfl) H fun x16 a H g=>(g.qm rfl fun _ g=>(g.qm rfl fun _ g=>(g.qop (zAC g rfl rfl) H fun x19 a H g=>(g.qop (zAI g rfl) H fun x20 a H g=>?_)))))))))))))))))
 obtain ⟨r,hc,H⟩:=H
 refine g.qcallV rfl rfl hc fun _ g=>g.qpur (zDp g rfl rfl) fun _ g=>zED (fun w hB=>?_)
 replace H:=H w hB
 refine (tn (zAR g rfl (fun hc=>?_) (fun hc=>?_)))
 ·replace H:=H.1 hc
  refine zAF (zAA (g.mv rfl fun _ g=>(g.pur (zAS g rfl H.1) fun _ g=>?_)))
  replace H:=H.2
  refine g.op (zAI g rfl) H fun x25 w a H g=>g.pur (zAn g rfl rfl) fun _ g=>g.pur (zAS g rfl H.1) fun _ g=>?_
  replace H:=H.2
  exact g.opu (zAM g rfl rfl) H fun w a H g=>zAG (tn (zAF (zAA (g.mv rfl fun _ g=>(g.mv rfl fun _ g=>(g.as_ rfl fun _ g=>(g.as_ rfl fun _ g=>(zAG (tn (zAf (tr (zFz g rfl rfl rfl ⟨_,_,rfl,H⟩))))))))))))
 ·replace H:=H.2 hc
  exact zAP (tn (zAF (zAA (g.mv rfl fun _ g=>(g.mv rfl fun _ g=>(g.as_ rfl fun _ g=>(g.as_ rfl fun _ g=>(zAG (tn (zAf (zFz g rfl rfl rfl ⟨_,_,rfl,H⟩)))))))))))
end Go.Proofs.YtealcoghiaeiiaaGreat.VG
