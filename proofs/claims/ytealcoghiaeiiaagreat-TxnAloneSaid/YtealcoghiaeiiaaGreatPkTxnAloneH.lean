/- Texts by which the law's calls are walked (part 8): rules, printed conditions, contracts; no condition. -/
import Derived.TacticsIn
import Derived.TacticsInMore
import Derived.Deep.LoopGhost
import Derived.Sort.QuietThIn
import Derived.RangeFuncCalls
import Derived.RangeFuncNested
import Derived.RangeFuncLeaves
import Derived.WalkKit
import Derived.StillTail
import Derived.Test.YtealcoghiaeiiaaGreatProg
import Derived.KernelRfl
import Derived.Deep.WholeRow
import Derived.Laws.StructEq
import Derived.MapFrom
import Derived.Laws.CopyRow
import Derived.Maps.RangeRun
import Derived.Sort.Walk0
import Derived.RangeFuncBound
import Derived.Test.YtealcoghiaeiiaaGreatPkTxnAloneG
open Go.Proofs.Tryz renaming prog → zA
open Go.IntKind renaming wrap → zB
open Go.Value renaming pointer → zC, int → zU, string → za, bool → QQ
open Go.Instr renaming loadAt → zD, storeAt → zJ, indexAt → zF, fieldAt → zN, alloc → ze, build → QP, buildSlice → zq
open Nat renaming le_refl → zV, le_trans → zj, lt_of_lt_of_le → xh
open List renaming length_append → yO
set_option linter.unusedVariables false
namespace Go.Proofs.YtealcoghiaeiiaaGreat.VG
open Go.VB Go.Proofs Go.RowKit
abbrev Spn:=z7
structure Tx where
 began:Int
 reads:List Spn
 wr:ByteArray->Option Wri
structure St where
 l:List Ver
 low:Int
 now:Int
 given:Int
 tx:Int->Option Tx
inductive Role where
 |mg
 |om
 |ve
 |tb (n:Int)
 |wb (n:Int)
 |rb (n:Int)
structure Gh where
 tb:Nat
 wb:Nat
 rs:Sl
abbrev Own:=Nat->Option Role
structure TxAt (ρ:Own) (w:World) (n:Int) (t:Tx) (g:Gh):Prop where
 row:Row w g.tb [.int .u64 t.began,Sl.v g.rs,.map (some g.wb)] zA9
 rtb:ρ g.tb=some (.tb n)
 rd:OwnS z7.cells 3 zJF 0 w g.rs t.reads
 rrd:∀ k,(Sl.v g.rs).ownBlock=some k->ρ k=some (.rb n)
 wr:Zv za zI.v w g.wb t.wr
 rwb:ρ g.wb=some (.wb n)
structure zCa (ρ:Own) (w:World) (b:Nat) (s:St) (vs:Sl) (mb:Nat) (g:Int->Gh):Prop where
 row:Row w b [Sl.v vs,.int .u64 s.low,.int .u64 s.now,.int .i64 s.given,.map (some mb)] Zy
 rmg:ρ b=some .mg
 vers:zEc w vs s.l
 rve:∀ k,(Sl.v vs).ownBlock=some k->ρ k=some .ve
 mp:Zv (zU .i64) zC w mb (λn=>(s.tx n).map λ_=>some ⟨(g n).tb,0,none⟩)
 rom:ρ mb=some .om
 tx:∀ n t,s.tx n=some t->TxAt ρ w n t (g n)
 lt:∀ k,ρ k≠none->k<w.heap.size
def Mgr (ρ:Own) (w:World) (b:Nat) (s:St):Prop:=∃ vs mb g,zCa ρ w b s vs mb g
structure Ext (ρ:Own) (w:World) (ρ':Own) (w':World):Prop where
 out:Out (λk=>ρ k≠none) w w'
 same:∀ k,k<w.heap.size->ρ' k=ρ k
section
variable {ρ ρ' ρ'':Own} {w w' w'':World} {b:Nat} {s:St} {n:Int} {t:Tx} {g:Gh}
theorem Ext.refl (ρ:Own) (w:World):Ext ρ w ρ w:=⟨Out.refl _ w,λ_ _=>rfl⟩
theorem Ext.bel (h:Bel w w'):Ext ρ w ρ w':=⟨h.out,λ_ _=>rfl⟩
theorem Ext.grown {k:Nat} {r:Role} (h:w.grownBy w' (some k)) (hk:ρ k=some r):Ext ρ w ρ w':=
 ⟨Out.row h λi hi=>by injection hi with hi;subst hi;exact .inl (by rw [hk];simp),λ_ _=>rfl⟩
theorem Ext.trans (h:Ext ρ w ρ' w') (k:Ext ρ' w' ρ'' w''):Ext ρ w ρ'' w'':=
 ⟨h.out.trans k.out λi hi hr=>by rw [h.same i hi] at hr;exact hr,λi hi=>(k.same i (xh hi h.out.size)).trans (h.same i hi)⟩
theorem Ext.base {w0:World} (hb:Bel w0 w) (h:Ext ρ w ρ' w') (hr:∀ k,k<w0.heap.size->ρ k=none):Bel w0 w':=h.out.bel hb λi hi h1=>h1 (hr i hi)
theorem Ext.clear {n0:Nat} (h:Ext ρ w ρ' w') (hn:n0<=w.heap.size) (hr:∀ k,k<n0->ρ k=none):∀ k,k<n0->ρ' k=none:=λk hk=>(h.same k (xh hk hn)).trans (hr k hk)
theorem Ext.blk (h:Ext ρ w ρ' w') {k:Nat} (hk:k<w.heap.size) (hr:ρ k=none):w'.heap[k]?=w.heap[k]?:=h.out.block k hk λh1=>h1 hr
theorem TxAt.lt (h:TxAt ρ w n t g) {k:Nat} {r:Role}:g.tb<w.heap.size:=h.row.lt
theorem TxAt.keep (h:TxAt ρ w n t g) (hlt:∀ k,ρ k≠none->k<w.heap.size) (hρ:∀ k,k<w.heap.size->ρ' k=ρ k) (h1:∀ k,ρ k=some (.tb n)->w'.heap[k]?=w.heap[k]?) (h2:∀ k,ρ k=some (.wb n)->w'.heap[k]?=w.heap[k]?) (h3:∀ k,ρ k=some (.rb n)->w'.heap[k]?=w.heap[k]?):TxAt ρ' w' n t g where
 row:=h.row.keep (h1 _ h.rtb)
 rtb:=(hρ _ (hlt _ (by rw [h.rtb];simp))).trans h.rtb
 rd:=h.rd.keep λk hk=>h3 k (h.rrd k hk)
 rrd k hk:=(hρ _ (hlt _ (by rw [h.rrd k hk];simp))).trans (h.rrd k hk)
 wr:=h.wr.keep (h2 _ h.rwb)
 rwb:=(hρ _ (hlt _ (by rw [h.rwb];simp))).trans h.rwb
theorem zCa.keep {vs:Sl} {mb:Nat} {gh:Int->Gh} (h:zCa ρ w b s vs mb gh) (hs:w.heap.size<=w'.heap.size) (hk:∀ k,ρ k≠none->w'.heap[k]?=w.heap[k]?):zCa ρ w' b s vs mb gh where
 row:=h.row.keep (hk _ (by rw [h.rmg];simp))
 rmg:=h.rmg
 vers:=h.vers.keep λk h1=>hk k (by rw [h.rve k h1];simp)
 rve:=h.rve
 mp:=h.mp.keep (hk _ (by rw [h.rom];simp))
 rom:=h.rom
 tx n t ht:=(h.tx n t ht).keep h.lt (λ_ _=>rfl) (λk h1=>hk k (by rw [h1];simp)) (λk h1=>hk k (by rw [h1];simp)) (λk h1=>hk k (by rw [h1];simp))
 lt k h1:=xh (h.lt k h1) hs
theorem zCa.bel {vs:Sl} {mb:Nat} {gh:Int->Gh} (h:zCa ρ w b s vs mb gh) (hb:Bel w w'):zCa ρ w' b s vs mb gh:=h.keep hb.size λk h1=>hb.block k (h.lt k h1)
theorem zCa.out {S:Nat->Prop} {vs:Sl} {mb:Nat} {gh:Int->Gh} (h:zCa ρ w b s vs mb gh) (hb:Out S w w') (hS:∀ k,S k->ρ k=none):zCa ρ w' b s vs mb gh:=
 h.keep hb.size λk h1=>hb.block k (h.lt k h1) λh2=>h1 (hS k h2)
theorem Mgr.bel (h:Mgr ρ w b s) (hb:Bel w w'):Mgr ρ w' b s:=let ⟨vs,mb,g,m⟩:=h;⟨vs,mb,g,m.bel hb⟩
theorem Mgr.out {S:Nat->Prop} (h:Mgr ρ w b s) (hb:Out S w w') (hS:∀ k,S k->ρ k=none):Mgr ρ w' b s:=let ⟨vs,mb,g,m⟩:=h;⟨vs,mb,g,m.out hb hS⟩
theorem Mgr.lt (h:Mgr ρ w b s):∀ k,ρ k≠none->k<w.heap.size:=let ⟨_,_,_,m⟩:=h;m.lt
end
theorem zKm:zE3 zA Zc (zU .i64):=zE3.int (q:=.i64) (by kernel_rfl)
theorem zJX (x y:Int) (h:zU .i64 x=zU .i64 y):x=y:=by injection h
theorem zH6 (x y:ByteArray) (h:za x=za y):x=y:=by injection h
theorem zJh (x:Option Addr) {w:World} {o1 o2:Operand} {k:Bool->World->Prop} (H:k x.isNone w):opE zA QQ (do eqGuard .eql zGv o1 o2 (.pointer x) (.pointer none);binOp .eql zGv (.pointer x) (.pointer none)) w k:=by
 refine ⟨_,w,?_,H⟩
 cases x<;>kernel_rfl
theorem zPe (x:Option Addr) {w:World} {o1 o2:Operand} {k:Bool->World->Prop} (H:k x.isNone w):opE zA QQ (do eqGuard .eql zE4 o1 o2 (.pointer x) (.pointer none);binOp .eql zE4 (.pointer x) (.pointer none)) w k:=by
 refine ⟨_,w,?_,H⟩
 cases x<;>kernel_rfl
end Go.Proofs.YtealcoghiaeiiaaGreat.VG
set_option linter.unusedVariables false
namespace Go.Proofs.YtealcoghiaeiiaaGreat.VG
open Go.VB Go.Proofs Go.RowKit
abbrev ptrA (x:Nat):Option Addr:=some ⟨x,0,none⟩
theorem zRW {κ ν:Type} {ek:κ->Value} {ev:ν->Value} {P:Program} {kt et mt:TypeId} {b:Nat} {f:κ->Option ν} {C:World->Prop} (h:∀ w,C w->Zv ek ev w b f) (K:zE3 P kt ek) (hm:P.underlying mt=some (.map kt et)) {z:ν} (hz:∀ w,(zeroValue et).run P w=.ok (ev z) w) (x:κ) {k:ν->Prop} (H:k ((f x).getD z)):
  opC C P ev (Instr.lookup mt (.map (some b)) (ek x) false) k:=⟨_,λw' hb=>(h w' hb).run_look K hm hz x,H⟩
section
variable {ρ:Own} {w:World} {b:Nat} {s:St} {vs:Sl} {mb:Nat} {g:Int->Gh}
theorem zLp (h:zCa ρ w b s vs mb g) (n:Int) {k:Option Addr->Int->World->Prop} (H0:s.tx n=none->k none 11 w) (H1:∀ t,s.tx n=some t->k (ptrA (g n).tb) 0 w):
  Cl zA zIY [.pointer (ptrA b),.int .i64 n].toArray w (λe w'=>∃ (r0:Option Addr) (r1:Int),e=.returned (.tuple [.pointer r0,.int .i64 r1].toArray)/\k r0 r1 w'):=by
 refine zIr (ptrA b) n w k ?_
 unfold zFh
 refine zJh _ ⟨λh=>(nomatch h),λ_=>⟨trivial,?_⟩⟩
 refine yI zBY zBX h.row.at (some mb) rfl ?_
 refine zQU h.mp zKm zBV zL4 n ?_
 cases ht:s.tx n with
 |none=>exact zPe _ ⟨λ_=>H0 ht,λh=>(nomatch h)⟩
 |some t=>exact zPe _ ⟨λh=>(nomatch h),λ_=>H1 t ht⟩
theorem zQQ (h:zCa ρ w b s vs mb g) {k:Int->World->Prop} (H:k s.now w):Cl zA zIK [.pointer (ptrA b)].toArray w (λe w'=>∃ r0:Int,e=.returned (.int .u64 r0)/\k r0 w'):=by
 refine zIN (ptrA b) w k ?_
 unfold zFP
 refine zJh _ ⟨λh=>(nomatch h),λ_=>⟨trivial,?_⟩⟩
 exact yI Za yL h.row.at s.now rfl H
end
def zGK (s:St):Tx:=⟨s.now,[],λ_=>none⟩
open Classical in
noncomputable def zFG (s:St):St:={s with given:=s.given+1,tx:=upd s.tx (s.given+1) (zGK s)}
def zKU (ρ:Own) (n:Int) (tb wb:Nat):Own:=λk=>if k=tb then some (.tb n) else if k=wb then some (.wb n) else ρ k
theorem zJ7 {ρ:Own} {w:World} {b:Nat} {s:St} (h:Mgr ρ w b s) (hg0:0<=s.given) (hg:s.given<4611686018427387904) (hfree:s.tx (s.given+1)=none) {k:Int->Int->World->Prop}
  (H0:∀ ks,Doms s.tx ks->16<=ks.length->k 0 3 w)
  (H1:∀ ks ρ' w',Doms s.tx ks->ks.length<16->Mgr ρ' w' b (zFG s)->Ext ρ w ρ' w'->k (s.given+1) 0 w'):
  Cl zA zFq [.pointer (ptrA b)].toArray w (λe w'=>∃ (r0 r1:Int),e=.returned (.tuple [.int .i64 r0,.int .i64 r1].toArray)/\k r0 r1 w'):=by
 obtain ⟨vs,mb,g,m⟩:=h
 refine zHt (ptrA b) w k ?_
 unfold zET
 refine zJh _ ⟨λh=>(nomatch h),λ_=>⟨trivial,?_⟩⟩
 refine yI zBY zBX m.row.at (some mb) rfl ?_
 refine zMf m.mp zJX zBV λks hks=>?_
 have hks':Doms s.tx ks:=⟨hks.1,λn=>by
  rw [hks.2]
  show (∃ v,(s.tx n).map (λ_=>(some ⟨(g n).tb,0,none⟩:Option Addr))=some v)↔_
  constructor
  ·rintro ⟨v,hv⟩
   cases ht:s.tx n with
   |none=>rw [ht] at hv;cases hv
   |some t=>exact ⟨t,rfl⟩
  ·rintro ⟨t,ht⟩;rw [ht];exact ⟨_,rfl⟩⟩
 refine ⟨λhc=>H0 ks hks' (by omega),λhc=>⟨trivial,?_⟩⟩
 refine yI zBz zA2 m.row.at s.given rfl ⟨trivial,?_⟩
 rw [wr64 (by omega) (by omega)]
 refine ⟨_,w,zBz _ _,?_⟩
 refine zHO zA2 m.row rfl (by simp) rfl λw1 hR g1=>?_
 replace hR:Row w1 b [Sl.v vs,.int .u64 s.low,.int .u64 s.now,.int .i64 (s.given+1),.map (some mb)] Zy:=hR
 have hb1:=Ext.grown g1 m.rmg
 have m1:w.heap.size<=w1.heap.size:=g1.size
 refine ⟨λW=>Row W b [Sl.v vs,.int .u64 s.low,.int .u64 s.now,.int .i64 (s.given+1),.map (some mb)] Zy,λw2 b2=>⟨hR.bel b2,trivial,?_⟩⟩
 refine zFZ zBY ⟨trivial,?_⟩
 refine zFZ zBz ⟨trivial,?_⟩
 refine zFZ Za ?_
 refine zCz zBX (some mb) (λW hW=>hW.at.fld rfl) ?_
 refine zCz zA2 (s.given+1) (λW hW=>hW.at.fld rfl) ?_
 refine zCz yL s.now (λW hW=>hW.at.fld rfl) ?_
 refine zMn (ek:=za) (ev:=zI.v) λhM=>?_
 have b3:=Bel.alloc w2 (.map #[] 0)
 generalize hw3:w2.alloc (.map #[] 0)=w3 at hM b3 ⊢
 have s3:w3.heap.size=w2.heap.size+1:=by rw [← hw3];exact size_alloc' _ _
 refine ⟨(hR.bel b2).bel b3,?_⟩
 refine ⟨⟨s.now,Sl.none,some w2.heap.size⟩,λW _=>by kernel_rfl,?_⟩
 refine zJe (cs:=[.int .u64 s.now,Sl.v Sl.none,.map (some w2.heap.size)]) rfl ?_
 have hT:Row (w3.alloc (.cells [.int .u64 s.now,Sl.v Sl.none,.map (some w2.heap.size)].toArray zA9)) w3.heap.size [.int .u64 s.now,Sl.v Sl.none,.map (some w2.heap.size)] zA9:=Row.new _ _ _
 have b4:=Bel.alloc w3 (.cells [.int .u64 s.now,Sl.v Sl.none,.map (some w2.heap.size)].toArray zA9)
 generalize hw4:w3.alloc (.cells [.int .u64 s.now,Sl.v Sl.none,.map (some w2.heap.size)].toArray zA9)=w4 at hT b4 ⊢
 have s4:w4.heap.size=w3.heap.size+1:=by rw [← hw4];exact size_alloc' _ _
 have hR4:=((hR.bel b2).bel b3).bel b4
 refine ⟨hR4,?_⟩
 have b24:=(b2.trans b3).trans b4
 have hlt:=m.lt
 have s2:=b2.le
 have hmne:mb≠b:=λe=>by have:=m.rom;rw [e,m.rmg] at this;cases this
 have hmp4:Zv (zU .i64) zC w4 mb (λn=>(s.tx n).map λ_=>some ⟨(g n).tb,0,none⟩):=(m.mp.grown g1 (by simpa using hmne.symm)).bel b24
 refine zNp hmp4 zKm zBV (s.given+1) (ptrA w3.heap.size) λw5 hM5 g5=>?_
 have hR5:=hR4.grown g5 (by simpa using hmne)
 refine ⟨hR5,trivial,?_⟩
 have hE:Ext ρ w ρ w5:=(hb1.trans (Ext.bel b24)).trans (Ext.grown g5 m.rom)
 have s5:=g5.size
 have hlow:∀ k,ρ k≠none->k≠w3.heap.size/\k≠w2.heap.size:=λk hk=>by have:=hlt k hk;omega
 have hρ:∀ k,k<w.heap.size->zKU ρ (s.given+1) w3.heap.size w2.heap.size k=ρ k:=λk hk=>by
  unfold zKU;rw [if_neg (by omega),if_neg (by omega)]
 have hkeep:∀ k r,ρ k=some r->r≠.mg->r≠.om->w5.heap[k]?=w.heap[k]?:=λk r hk h1 h2=>by
  have hkl:=hlt k (by rw [hk];simp)
  have e1:k≠b:=λe=>by rw [e,m.rmg] at hk;cases hk;exact h1 rfl
  have e2:k≠mb:=λe=>by rw [e,m.rom] at hk;cases hk;exact h2 rfl
  rw [g5.block k (by have:=b24.le;omega) (by simpa using e2),b24.block k (by omega),g1.block k hkl (by simpa using e1)]
 refine yI zBz zA2 hR5.at (s.given+1) rfl ?_
 refine H1 ks (zKU ρ (s.given+1) w3.heap.size w2.heap.size) w5 hks' (by omega) ⟨vs,mb,λn=>if n=s.given+1 then ⟨w3.heap.size,w2.heap.size,Sl.none⟩ else g n,?_⟩ ⟨hE.out,hρ⟩
 exact {
  row:=hR5
  rmg:=(hρ b (hlt b (by rw [m.rmg];simp))).trans m.rmg
  vers:=m.vers.keep λk hk=>hkeep k .ve (m.rve k hk) (by simp) (by simp)
  rve:=λk hk=>(hρ k (hlt k (by rw [m.rve k hk];simp))).trans (m.rve k hk)
  mp:=by
   have:(λn=>((zFG s).tx n).map λ_=>(some ⟨(if n=s.given+1 then ⟨w3.heap.size,w2.heap.size,Sl.none⟩ else g n:Gh).tb,0,none⟩:Option Addr))=upd (λn=>(s.tx n).map λ_=>(some ⟨(g n).tb,0,none⟩:Option Addr)) (s.given+1) (ptrA w3.heap.size):=by
    funext n
    unfold zFG
    by_cases hn:n=s.given+1
    ·subst hn;simp [QS]
    ·simp [yx _ _ hn,hn]
   rw [this];exact hM5
  rom:=(hρ mb (hlt mb (by rw [m.rom];simp))).trans m.rom
  tx:=λn t ht=>by
   unfold zFG at ht
   by_cases hn:n=s.given+1
   ·subst hn
    simp only [QS] at ht
    cases ht
    simp only [if_true]
    have e3:w3.heap.size≠mb:=by have:=hlt mb (by rw [m.rom];simp);omega
    have e2:w2.heap.size≠mb:=by have:=hlt mb (by rw [m.rom];simp);omega
    exact {
     row:=hT.grown g5 (by simpa using e3.symm)
     rtb:=by simp [zKU]
     rd:=OwnS.nil _ _ _ _ _
     rrd:=λk hk=>by cases hk
     wr:=(hM.bel b4).grown g5 (by simpa using e2.symm)
     rwb:=by simp only [zKU];rw [if_neg (by omega),if_pos trivial]}
   ·simp only [yx _ _ hn] at ht
    simp only [if_neg hn]
    exact (m.tx n t ht).keep hlt hρ (λk hk=>hkeep k _ hk (by simp) (by simp)) (λk hk=>hkeep k _ hk (by simp) (by simp)) (λk hk=>hkeep k _ hk (by simp) (by simp))
  lt:=λk hk=>by
   unfold zKU at hk
   split at hk
   ·rename_i e;subst e;omega
   ·split at hk
    ·rename_i e;subst e;omega
    ·have:=hlt k hk;have:=b24.le;omega}
end Go.Proofs.YtealcoghiaeiiaaGreat.VG
set_option linter.unusedVariables false
namespace Go.Proofs.YtealcoghiaeiiaaGreat.VG
open Go.VB Go.Proofs Go.RowKit
theorem zLh {κ ν:Type} {ek:κ->Value} {ev:ν->Value} {P:Program} {kt et mt:TypeId} {b:Nat} {f:κ->Option ν} {C:World->Prop} (h:∀ w,C w->Zv ek ev w b f) (K:zE3 P kt ek) (hm:P.underlying mt=some (.map kt et)) {z:ν} (hz:∀ w,(zeroValue et).run P w=.ok (ev z) w) (x:κ) {k:ν × Bool->Prop} (H:k ((f x).getD z,(f x).isSome)):
  opC C P (λp:ν × Bool=>.tuple [ev p.1,.bool p.2].toArray) (Instr.lookup mt (.map (some b)) (ek x) true) k:=⟨_,λw' hb=>(h w' hb).run_lookOk K hm hz x,H⟩
theorem zN2 {κ ν:Type} {ek:κ->Value} {ev:ν->Value} {P:Program} {kt et mt:TypeId} {b:Nat} {f:κ->Option ν} {w:World} (h:Zv ek ev w b f) (K:zE3 P kt ek) (hm:P.underlying mt=some (.map kt et)) {z:ν} (hz:∀ w,(zeroValue et).run P w=.ok (ev z) w) (x:κ) {k:ν × Bool->World->Prop} (H:k ((f x).getD z,(f x).isSome) w):
  opE P (λp:ν × Bool=>.tuple [ev p.1,.bool p.2].toArray) (Instr.lookup mt (.map (some b)) (ek x) true) w k:=⟨_,w,h.run_lookOk K hm hz x,H⟩
abbrev zLs:Wri:=⟨noB,noB,false⟩
open Classical in
noncomputable def setTx (s:St) (n:Int) (t:Tx):St:={s with tx:=upd s.tx n t}
open Classical in
theorem zCa.setTx {ρ ρ':Own} {w w':World} {b:Nat} {s:St} {vs:Sl} {mb:Nat} {g:Int->Gh} (h:zCa ρ w b s vs mb g) {n:Int} {t t':Tx} (ht:s.tx n=some t) {g':Gh} (hg:g'.tb=(g n).tb)
  (hρ:∀ k,k<w.heap.size->ρ' k=ρ k) (hlt:∀ k,ρ' k≠none->k<w'.heap.size) (hk:∀ k r,ρ k=some r->r≠.tb n->r≠.wb n->r≠.rb n->w'.heap[k]?=w.heap[k]?) (ht':TxAt ρ' w' n t' g'):
  zCa ρ' w' b (setTx s n t') vs mb (λm=>if m=n then g' else g m) where
 row:=h.row.keep (hk b _ h.rmg (by simp) (by simp) (by simp))
 rmg:=(hρ b (h.lt b (by rw [h.rmg];simp))).trans h.rmg
 vers:=h.vers.keep λk h1=>hk k _ (h.rve k h1) (by simp) (by simp) (by simp)
 rve k h1:=(hρ k (h.lt k (by rw [h.rve k h1];simp))).trans (h.rve k h1)
 mp:=by
  have:(λm=>((VG.setTx s n t').tx m).map λ_=>(some ⟨(if m=n then g' else g m:Gh).tb,0,none⟩:Option Addr))=(λm=>(s.tx m).map λ_=>(some ⟨(g m).tb,0,none⟩:Option Addr)):=by
   funext m
   unfold VG.setTx
   by_cases hm:m=n
   ·subst hm;simp [QS,ht,hg]
   ·simp [yx _ _ hm,hm]
  rw [this]
  exact h.mp.keep (hk mb _ h.rom (by simp) (by simp) (by simp))
 rom:=(hρ mb (h.lt mb (by rw [h.rom];simp))).trans h.rom
 tx m u hu:=by
  by_cases hm:m=n
  ·subst hm
   simp only [VG.setTx,QS] at hu;cases hu
   simp only [if_true];exact ht'
  ·simp only [VG.setTx,yx _ _ hm] at hu
   simp only [if_neg hm]
   exact (h.tx m u hu).keep h.lt hρ (λk h1=>hk k _ h1 (by simp [hm]) (by simp) (by simp)) (λk h1=>hk k _ h1 (by simp) (by simp [hm]) (by simp)) (λk h1=>hk k _ h1 (by simp) (by simp) (by simp [hm]))
 lt:=hlt
noncomputable def putW (t:Tx) (x:Wri):Tx:={t with wr:=upd t.wr x.Key x}
theorem zJj {ρ:Own} {w:World} {b:Nat} {s:St} (h:Mgr ρ w b s) (n:Int) (x:Wri) {k:Int->World->Prop}
  (H0:s.tx n=none->∀ w',Bel w w'->k 11 w')
  (H1:∀ t,s.tx n=some t->zBG x->∀ w',Bel w w'->k 4 w')
  (H2:∀ t ks,s.tx n=some t->¬ zBG x->t.wr x.Key=none->Doms t.wr ks->256<=ks.length->∀ w',Bel w w'->k 3 w')
  (H3:∀ t w',s.tx n=some t->¬ zBG x->(t.wr x.Key=none->∃ ks,Doms t.wr ks/\ks.length<256)->Mgr ρ w' b (setTx s n (putW t x))->Ext ρ w ρ w'->k 0 w'):
  Cl zA zCN [.pointer (ptrA b),.int .i64 n,zI.v x].toArray w (λe w'=>∃ r0:Int,e=.returned (.int .i64 r0)/\k r0 w'):=by
 obtain ⟨vs,mb,g,m⟩:=h
 refine zHv (ptrA b) n x w k ?_
 unfold zEX
 refine zBD (cs:=x.cells) rfl λB w1 b1 hX hB=>?_
 refine zLp (m.bel b1) n (λht=>⟨λ_=>H0 ht w1 b1,λh=>absurd (by decide) h⟩) λt ht=>⟨λh=>absurd rfl h,λ_=>?_⟩
 have mt:=m.tx n t ht
 have hrow:=mt.row.bel b1
 have hwr:=mt.wr.bel b1
 refine ⟨Bel w1,λu bu=>⟨bu,trivial,?_⟩⟩
 refine zFZ zAL ?_
 refine zFZ Yt ?_
 refine zCz Qd (some (g n).wb) (λW hW=>(hrow.bel hW).at.fld rfl) ?_
 refine zCz zo x.Key (λW hW=>(hX.bel hW).at.fld rfl) ?_
 refine zLh (z:=zLs) (λW hW=>hwr.bel hW) zH7 YR zG7 x.Key ?_
 refine zEu zBp λC w2 b2 hZ hC=>?_
 refine ⟨bu.trans b2,?_⟩
 refine zHa YT hZ rfl rfl rfl λw3 hZ3 g3=>?_
 have b13:Bel w1 w3:=(bu.trans b2).grown g3 λr hr=>by cases hr;have:=bu.le;omega
 refine ⟨b13,?_⟩
 have hX3:=hX.bel b13
 refine yI Yt zo hX3.at x.Key rfl ?_
 have b03:=b1.trans b13
 have J3:∀ W (c:Bool),Bel w W->Row W B x.cells Z8->¬ zBG x->(c=true->∃ ks,t.wr x.Key=none/\Doms t.wr ks/\256<=ks.length)->(c=false->t.wr x.Key=none->∃ ks,Doms t.wr ks/\ks.length<256)->Z2 k (ptrA B) (ptrA (g n).tb) c W:=by
  intro W c hb hXW hl hc1 hc0
  unfold Z2
  refine ⟨λhc=>?_,λhc=>?_⟩
  ·obtain ⟨ks,h1,h2,h3⟩:=hc1 hc
   exact H2 t ks ht hl h1 h2 h3 W hb
  ·refine ⟨λW'=>Row W' (g n).tb [.int .u64 t.began,Sl.v (g n).rs,.map (some (g n).wb)] zA9/\Row W' B x.cells Z8,λu bu2=>?_⟩
   have hbu:=hb.trans bu2
   have hT:=mt.row.bel hbu
   refine ⟨⟨hT,hXW.bel bu2⟩,trivial,?_⟩
   refine zFZ zAL ?_
   refine zFZ Yt ?_
   refine zCz Qd (some (g n).wb) (λW hW=>hW.1.at.fld rfl) ?_
   refine zCz zo x.Key (λW hW=>hW.2.at.fld rfl) ?_
   refine zNS YT x rfl (λW hW=>hW.2.at) rfl ?_
   refine zNp (mt.wr.bel hbu) zH7 YR x.Key x λw5 hM5 g5=>?_
   have htw:(g n).tb≠(g n).wb:=λe=>by have:=mt.rtb;rw [e,mt.rwb] at this;cases this
   have hltw:=m.lt (g n).wb (by rw [mt.rwb];simp)
   have hBw:B≠(g n).wb:=by omega
   have hT5:=hT.grown g5 (by simpa using htw.symm)
   refine ⟨⟨hT5,(hXW.bel bu2).grown g5 (by simpa using hBw.symm)⟩,?_⟩
   have hE:=(Ext.bel hbu).trans (Ext.grown g5 mt.rwb)
   have hkeep:∀ k,ρ k≠none->k≠(g n).wb->w5.heap[k]?=w.heap[k]?:=λk hk hne=>by
    have:=m.lt k hk
    rw [g5.block k (by have:=hbu.le;omega) (by simpa using hne),hbu.block k this]
   refine H3 t w5 ht hl (hc0 hc) ⟨vs,mb,_,m.setTx ht (g':=g n) rfl (λ_ _=>rfl) (λk hk=>by have:=m.lt k hk;have:=hE.out.size;omega) (λk r hk h1 h2 h3=>hkeep k (by rw [hk];simp) λe=>?_) ?_⟩ hE
   ·rw [e,mt.rwb] at hk;cases hk;exact h2 rfl
   ·exact {
     row:=hT5
     rtb:=mt.rtb
     rd:=mt.rd.keep λk hk=>hkeep k (by rw [mt.rrd k hk];simp) λe=>by have:=mt.rrd k hk;rw [e,mt.rwb] at this;cases this
     rrd:=mt.rrd
     wr:=hM5
     rwb:=mt.rwb}
 have J2:∀ W (c:Bool),Bel w W->Row W B x.cells Z8->(c=true↔zBG x)->Z1 k (ptrA B) (ptrA (g n).tb) ((t.wr x.Key).getD zLs,(t.wr x.Key).isSome) c W:=by
  intro W c hb hXW hc
  unfold Z1
  refine ⟨λh1=>H1 t ht (hc.1 h1) W hb,λh1=>?_⟩
  have hl:¬ zBG x:=λh2=>by rw [hc.2 h2] at h1;cases h1
  refine ⟨λh2=>⟨trivial,?_⟩,λh2=>?_⟩
  ·have hno:t.wr x.Key=none:=by
    cases hx:t.wr x.Key with
    |none=>rfl
    |some y=>rw [hx] at h2;simp at h2
   refine yI zAL Qd (mt.row.bel hb).at (some (g n).wb) rfl ?_
   refine zMf (mt.wr.bel hb) zH6 YR λks hks=>?_
   refine J3 W _ hb hXW hl (λh3=>⟨ks,hno,hks,by have:=of_decide_eq_true h3;omega⟩) λh3 _=>⟨ks,hks,by have:=of_decide_eq_false h3;omega⟩
  ·refine J3 W false hb hXW hl (λh=>(nomatch h)) λ_ hno=>?_
   rw [hno] at h2;simp at h2
 refine ⟨λhc=>J2 w3 true b03 hX3 ⟨λ_=>.inl (by omega),λ_=>rfl⟩,λhc=>?_⟩
 refine yI zCM zo hX3.at x.Val rfl ?_
 refine J2 w3 _ b03 hX3 ?_
 unfold zBG
 simp only [decide_eq_true_eq]
 omega
section
variable {ρ:Own} {w:World} {b:Nat} {s:St}
theorem zMe (n:Int) (key val:ByteArray) {p:Option Addr} {k:Int->World->Prop} (H:Cl zA zCN [.pointer p,.int .i64 n,zI.v ⟨key,val,false⟩].toArray w (λe w'=>∃ r0:Int,e=.returned (.int .i64 r0)/\k r0 w')):
  Cl zA zGE [.pointer p,.int .i64 n,.string key,.string val].toArray w (λe w'=>∃ r0:Int,e=.returned (.int .i64 r0)/\k r0 w'):=by
 refine zIH p n key val w k ?_
 unfold zFQ
 exact ⟨⟨key,val,false⟩,w,by kernel_rfl,H⟩
theorem zNZ (n:Int) (key:ByteArray) {p:Option Addr} {k:Int->World->Prop} (H:Cl zA zCN [.pointer p,.int .i64 n,zI.v ⟨key,noB,true⟩].toArray w (λe w'=>∃ r0:Int,e=.returned (.int .i64 r0)/\k r0 w')):
  Cl zA zFY [.pointer p,.int .i64 n,.string key].toArray w (λe w'=>∃ r0:Int,e=.returned (.int .i64 r0)/\k r0 w'):=by
 refine zHU p n key w k ?_
 unfold zD1
 exact ⟨⟨key,noB,true⟩,w,by kernel_rfl,H⟩
end
end Go.Proofs.YtealcoghiaeiiaaGreat.VG
set_option linter.unusedVariables false
namespace Go.Proofs.YtealcoghiaeiiaaGreat.VG
open Go.VB Go.Proofs Go.RowKit
def addR (t:Tx) (x:Spn):Tx:={t with reads:=t.reads++[x]}
theorem zNU {ρ:Own} {w:World} {b:Nat} {s:St} {vs:Sl} {mb:Nat} {g:Int->Gh} (m:zCa ρ w b s vs mb g) {n:Int} {t:Tx} (ht:s.tx n=some t) (hroom:t.reads.length<1000) (x:Spn) {k:World->Prop}
  (H:∀ ρ' w' g',(g' n).tb=(g n).tb->(g' n).wb=(g n).wb->zCa ρ' w' b (setTx s n (addR t x)) vs mb g'->Ext ρ w ρ' w'->k w'):
  opE zA Sl.v (zq zEf 1 [(0,z7.v x)].toArray) w (λy w=>opE zA Sl.v (Builtin.append_ #[zEf,zEf] zEf [Sl.v (g n).rs,Sl.v y].toArray) w (λz w=>
   QU (.pointer (ptrA (g n).tb))/\opE zA zC (zN zA9 (.pointer (ptrA (g n).tb)) 1) w (λq w=>opU zA (zJ zEf (.pointer q) (Sl.v z)) w k))):=by
 have mt:=m.tx n t ht
 refine zM8 mt.rd (λ_=>rfl) (λ_=>rfl) (by decide) zGR zHK rfl (by decide) (zHk x) (Nat.zero_le _) (by omega) λz w1 hO g1 hq=>⟨trivial,?_⟩
 have hrow1:Row w1 (g n).tb [.int .u64 t.began,Sl.v (g n).rs,.map (some (g n).wb)] zA9:=mt.row.grown g1 λe=>by
  have:=mt.rrd _ e;rw [mt.rtb] at this;cases this
 refine ⟨_,w1,zBN _ _,?_⟩
 refine zHO zBx hrow1 (by cases z with|mk a l c=>cases a<;>rfl) (by simp) (by cases z with|mk a l c=>cases a<;>rfl) λw2 hR g2=>?_
 replace hR:Row w2 (g n).tb [.int .u64 t.began,Sl.v z,.map (some (g n).wb)] zA9:=hR
 have hzt:(Sl.v z).ownBlock≠some (g n).tb:=OwnS.ne_row hO hrow1 (by decide)
 have hO2:=hO.kept g2 (.inr hzt)
 let ρ':Own:=λk=>if (Sl.v z).ownBlock=some k then some (.rb n) else ρ k
 have hρ:∀ k,k<w.heap.size->ρ' k=ρ k:=λk hk=>by
  show (if (Sl.v z).ownBlock=some k then _ else _)=_
  split
  ·rename_i e
   rcases hq k e with h1|h1
   ·exact (mt.rrd k h1).symm
   ·omega
  ·rfl
 have hs1:=g1.size
 have hs2:=g2.size
 have hkeep:∀ k r,ρ k=some r->r≠.tb n->r≠.rb n->w2.heap[k]?=w.heap[k]?:=λk r hk h1 h2=>by
  have hkl:=m.lt k (by rw [hk];simp)
  rw [g2.block k (by omega) λe=>by injection e with e;rw [e,mt.rtb] at hk;cases hk;exact h1 rfl,g1.block k hkl λe=>by
   have:=mt.rrd k e.symm;rw [hk] at this;cases this;exact h2 rfl]
 have hE:Ext ρ w ρ' w2:=⟨(Out.row (S:=λk=>ρ k≠none) g1 λk hk=>.inl (by show ρ k≠none;rw [mt.rrd k hk];simp)).trans (Out.row (S:=λk=>ρ k≠none) g2 λk hk=>by cases hk;exact .inl (by show ρ _≠none;rw [mt.rtb];simp)) λ_ _ h=>h,hρ⟩
 refine H ρ' w2 (λm=>if m=n then ⟨(g n).tb,(g n).wb,z⟩ else g m) (by simp) (by simp) (m.setTx ht rfl hρ (λk hk=>?_) (λk r hk h1 h2 h3=>hkeep k r hk h1 h3) ?_) hE
 ·by_cases e:(Sl.v z).ownBlock=some k
  ·exact hO2.lt e
  ·have:ρ k≠none:=by
    have h1:(if (Sl.v z).ownBlock=some k then some (Role.rb n) else ρ k)≠none:=hk
    rw [if_neg e] at h1;exact h1
   have:=m.lt k this;omega
 ·exact {
   row:=hR
   rtb:=(hρ _ (m.lt _ (by rw [mt.rtb];simp))).trans mt.rtb
   rd:=hO2
   rrd:=λk hk=>by show (if (Sl.v z).ownBlock=some k then _ else _)=_;rw [if_pos hk]
   wr:=mt.wr.keep (hkeep _ _ mt.rwb (by simp) (by simp))
   rwb:=(hρ _ (m.lt _ (by rw [mt.rwb];simp))).trans mt.rwb}
noncomputable def tget (s:St) (t:Tx) (key:ByteArray):ByteArray × Bool × Int:=match t.wr key with
 |some x=>(x.Val,!x.Gone,0)
 |none=>vget s.l s.low key t.began
abbrev zBr (key:ByteArray):Spn:=⟨key,noB,true⟩
theorem zMM {ρ:Own} {w:World} {b:Nat} {s:St} (h:Mgr ρ w b s) (n:Int) (key:ByteArray) {k:ByteArray->Bool->Int->World->Prop}
  (H0:s.tx n=none->k noB false 11 w)
  (H1:∀ t,s.tx n=some t->256<key.size->k noB false 4 w)
  (H2:∀ t,s.tx n=some t->¬ 256<key.size->256<=t.reads.length->k noB false 3 w)
  (H3:∀ t ρ' w',s.tx n=some t->¬ 256<key.size->t.reads.length<256->Mgr ρ' w' b (setTx s n (addR t (zBr key)))->Ext ρ w ρ' w'->k (tget s t key).1 (tget s t key).2.1 (tget s t key).2.2 w'):
  Cl zA zGG [.pointer (ptrA b),.int .i64 n,.string key].toArray w (λe w'=>∃ (r0:ByteArray) (r1:Bool) (r2:Int),e=.returned (.tuple [.string r0,.bool r1,.int .i64 r2].toArray)/\k r0 r1 r2 w'):=by
 obtain ⟨vs,mb,g,m⟩:=h
 refine zIM (ptrA b) n key w k ?_
 unfold zFE
 refine zLp m n (λht=>⟨λ_=>H0 ht,λh=>absurd (by decide) h⟩) λt ht=>⟨λh=>absurd rfl h,λ_=>⟨λhl=>H1 t ht (by omega),λhl=>⟨trivial,?_⟩⟩⟩
 have mt:=m.tx n t ht
 have hrl:=mt.rd.len
 refine yI zBN zBx mt.row.at (g n).rs rfl ?_
 refine ⟨λhc=>H2 t ht (by omega) (by omega),λhc=>⟨trivial,?_⟩⟩
 refine yI zBN zBx mt.row.at (g n).rs rfl ?_
 refine ⟨zBr key,w,by kernel_rfl,?_⟩
 refine zNU m ht (by omega) (zBr key) λρ' w1 g' eg ew m1 hE=>⟨trivial,?_⟩
 have ht1:(setTx s n (addR t (zBr key))).tx n=some (addR t (zBr key)):=by simp [setTx,QS]
 have mt1:=m1.tx n _ ht1
 have fin:∀ W,Bel w1 W->k (tget s t key).1 (tget s t key).2.1 (tget s t key).2.2 W:=λW hW=>H3 t ρ' W ht (by omega) (by omega) ⟨vs,mb,g',m1.bel hW⟩ (hE.trans (Ext.bel hW))
 have hT1:Row w1 (g n).tb [.int .u64 t.began,Sl.v (g' n).rs,.map (some (g n).wb)] zA9:=by have:=mt1.row;rw [eg,ew] at this;exact this
 have hM1:Zv za zI.v w1 (g n).wb t.wr:=by have:=mt1.wr;rw [ew] at this;exact this
 refine yI zAL Qd hT1.at (some (g n).wb) rfl ?_
 refine zN2 (z:=zLs) hM1 zH7 YR zG7 key ?_
 refine zCd zBp rfl YT (cs:=((t.wr key).getD zLs).cells) rfl rfl rfl λC w2 b2 hX _=>?_
 refine ⟨λhi=>?_,λhi=>⟨trivial,?_⟩⟩
 ·obtain ⟨x,hx⟩:=Option.isSome_iff_exists.1 hi
  have hv:tget s t key=(x.Val,!x.Gone,0):=by unfold tget;rw [hx]
  rw [hx] at hX
  refine zGQ zCM zo hX.at x.Val rfl ?_
  refine zGQ zCn zD3 hX.at x.Gone rfl ?_
  intro w3 b3
  have:=fin w3 (b2.trans b3)
  rw [hv] at this;exact this
 ·have hno:t.wr key=none:=by
   cases hx:t.wr key with
   |none=>rfl
   |some y=>rw [hx] at hi;simp at hi
  have hv:tget s t key=vget s.l s.low key t.began:=by unfold tget;rw [hno]
  have m2:=m1.bel b2
  refine ⟨_,λW hW=>xV _ _,?_⟩
  refine zIq z5 (cs:=[Sl.v vs,.int .u64 s.low]) ⟨vs,s.low⟩ rfl (λj v hj=>by
   have h1:=m2.row.at
   rw [zF6]
   refine h1 (0+j) v ?_
   match j,hj with
   |0,hj=>exact hj
   |1,hj=>exact hj) rfl ⟨trivial,?_⟩
  refine zGQ zEK yL (hT1.bel b2).at t.began rfl ?_
  refine ⟨(vget s.l s.low key t.began).1,(vget s.l s.low key t.began).2.1,(vget s.l s.low key t.began).2.2,λW hW=>?_,?_⟩
  ·refine (zO7 (x0:=⟨vs,s.low⟩) (m2.vers.bel hW) key t.began (k:=λa c d w'=>a=(vget s.l s.low key t.began).1/\c=(vget s.l s.low key t.began).2.1/\d=(vget s.l s.low key t.began).2.2/\Bel W w') λw' hb=>⟨rfl,rfl,rfl,hb⟩).mono λe w' ⟨a,c,d,he,h1,h2,h3,h4⟩=>?_
   subst h1;subst h2;subst h3
   exact ⟨he,h4⟩
  ·intro w3 b3
   have:=fin w3 (b2.trans b3)
   rw [hv] at this;exact this
end Go.Proofs.YtealcoghiaeiiaaGreat.VG
set_option linter.unusedVariables false
namespace Go.Proofs.YtealcoghiaeiiaaGreat.VG
open Go.VB Go.Proofs Go.RowKit
theorem zFn {α:Type}:∀ {l m:List α},l.Nodup->(∀ x∈l,x∈m)->l.length<=m.length:=by
 intro l m hl h
 classical
 induction l generalizing m with
 |nil=>simp
 |cons a l ih=>
  obtain ⟨h1,h2⟩:=List.nodup_cons.1 hl
  have ha:a∈m:=h a (by simp)
  have:=ih (m:=m.erase a) h2 λx hx=>(List.mem_erase_of_ne (λe=>h1 (by rw [← e];exact hx))).2 (h x (by simp [hx]))
  rw [List.length_erase_of_mem ha] at this
  have:0<m.length:=List.length_pos_of_mem ha
  simp only [List.length_cons];omega
noncomputable def delTx (s:St) (n:Int):St:={s with tx:=del s.tx n}
structure zGc (s:St) (lo:Int):Prop where
 now:lo<=s.now
 all:∀ n t,s.tx n=some t->lo<=t.began
 hit:lo=s.now∨∃ n t,s.tx n=some t/\lo=t.began
theorem zGc.le {s:St} {a c:Int} (h:zGc s a) (k:zGc s c):a<=c:=by
 rcases k.hit with e|⟨n,t,h1,e⟩
 ·rw [e];exact h.now
 ·rw [e];exact h.all n t h1
theorem zGc.one {s:St} {a c:Int} (h:zGc s a) (k:zGc s c):a=c:=Int.le_antisymm (h.le k) (k.le h)
open Classical in
noncomputable def zJ2 (s:St):Int:=if h:∃ lo,zGc s lo then h.choose else 0
theorem zGc.eq {s:St} {lo:Int} (h:zGc s lo):lo=zJ2 s:=by
 have:∃ lo,zGc s lo:=⟨lo,h⟩
 unfold zJ2;rw [dif_pos this]
 exact h.one this.choose_spec
noncomputable def zKb (s:St):St:=if (zDI s.l s.low (zJ2 s)).2.2=0 then {s with l:=(zDI s.l s.low (zJ2 s)).1,low:=(zDI s.l s.low (zJ2 s)).2.1} else s
noncomputable def zBq (s:St) (n:Int):St:=zKb (delTx s n)
section
variable {ρ:Own} {w w':World} {b:Nat} {s:St} {vs:Sl} {mb:Nat} {g:Int->Gh}
theorem zCa.versAt (m:zCa ρ w b s vs mb g):At w ((⟨b,0,none⟩:Addr).add 0) [Sl.v vs,.int .u64 s.low]:=λj v hj=>by
 have h1:=m.row.at
 rw [zF6]
 refine h1 (0+j) v ?_
 match j,hj with
 |0,hj=>exact hj
 |1,hj=>exact hj
theorem zCa.delTx (m:zCa ρ w b s vs mb g) (n:Int) (hM:Zv (zU .i64) zC w' mb (del (λn=>(s.tx n).map λ_=>(some ⟨(g n).tb,0,none⟩:Option Addr)) n)) (hg:w.grownBy w' (some mb)):zCa ρ w' b (delTx s n) vs mb g:=by
 have hkeep:∀ k r,ρ k=some r->r≠.om->w'.heap[k]?=w.heap[k]?:=λk r hk h1=>hg.block k (m.lt k (by rw [hk];simp)) λe=>by injection e with e;rw [e,m.rom] at hk;cases hk;exact h1 rfl
 exact {
  row:=m.row.keep (hkeep _ _ m.rmg (by simp))
  rmg:=m.rmg
  vers:=m.vers.keep λk hk=>hkeep k _ (m.rve k hk) (by simp)
  rve:=m.rve
  mp:=by
   have:(λk=>((VG.delTx s n).tx k).map λ_=>(some ⟨(g k).tb,0,none⟩:Option Addr))=del (λn=>(s.tx n).map λ_=>(some ⟨(g n).tb,0,none⟩:Option Addr)) n:=by
    funext k
    unfold VG.delTx
    by_cases hk:k=n
    ·subst hk;simp [zFp]
    ·simp [zB5 _ hk]
   rw [this];exact hM
  rom:=m.rom
  tx:=λk t ht=>by
   have hk:k≠n:=λe=>by subst e;simp [VG.delTx,zFp] at ht
   have ht':s.tx k=some t:=by simpa [VG.delTx,zB5 _ hk] using ht
   exact (m.tx k t ht').keep m.lt (λ_ _=>rfl) (λj h1=>hkeep j _ h1 (by simp)) (λj h1=>hkeep j _ h1 (by simp)) (λj h1=>hkeep j _ h1 (by simp))
  lt:=λk hk=>xh (m.lt k hk) hg.size}
theorem zCa.setVers (m:zCa ρ w b s vs mb g) {r:Sl} {l:List Ver} {low now:Int} (hr:zEc w r l) (hnew:∀ k,(Sl.v r).ownBlock=some k->k<w.heap.size/\ρ k=none) (hg:w.grownBy w' (some b))
  (hR:Row w' b [Sl.v r,.int .u64 low,.int .u64 now,.int .i64 s.given,.map (some mb)] Zy):
  zCa (λk=>if (Sl.v r).ownBlock=some k then some .ve else ρ k) w' b {s with l:=l,low:=low,now:=now} r mb g:=by
 have hsz:=hg.size
 have hold:∀ k r',ρ k=some r'->(if (Sl.v r).ownBlock=some k then some Role.ve else ρ k)=some r':=λk r' hk=>by
  split
  ·rename_i e;rw [(hnew k e).2] at hk;cases hk
  ·exact hk
 have hkeep:∀ k r,ρ k=some r->r≠.mg->w'.heap[k]?=w.heap[k]?:=λk r hk h1=>hg.block k (m.lt k (by rw [hk];simp)) λe=>by injection e with e;rw [e,m.rmg] at hk;cases hk;exact h1 rfl
 exact {
  row:=hR
  rmg:=hold _ _ m.rmg
  vers:=hr.keep λk hk=>hg.block k (hnew k hk).1 λe=>by injection e with e;have:=(hnew k hk).2;rw [e,m.rmg] at this;cases this
  rve:=λk hk=>if_pos hk
  mp:=m.mp.keep (hkeep _ _ m.rom (by simp))
  rom:=hold _ _ m.rom
  tx:=λk t ht=>by
   have h:=m.tx k t ht
   exact {
    row:=h.row.keep (hkeep _ _ h.rtb (by simp))
    rtb:=hold _ _ h.rtb
    rd:=h.rd.keep λj hj=>hkeep j _ (h.rrd j hj) (by simp)
    rrd:=λj hj=>hold _ _ (h.rrd j hj)
    wr:=h.wr.keep (hkeep _ _ h.rwb (by simp))
    rwb:=hold _ _ h.rwb}
  lt:=λk hk=>by
   by_cases e:(Sl.v r).ownBlock=some k
   ·have:=(hnew k e).1;omega
   ·have h1:(if (Sl.v r).ownBlock=some k then some Role.ve else ρ k)≠none:=hk
    rw [if_neg e] at h1
    have:=m.lt k h1;omega}
theorem zOs (h:Mgr ρ w b s) (n:Int) {Ret:World->Prop} (H:∀ ρ' w',Mgr ρ' w' b (zBq s n)->Ext ρ w ρ' w'->Ret w'):zBL (ptrA b) n w Ret:=by
 obtain ⟨vs,mb,g,m⟩:=h
 unfold zBL
 refine ⟨trivial,?_⟩
 refine yI zBY zBX m.row.at (some mb) rfl ?_
 refine zQ0 m.mp zKm zBV n λw1 hM g1=>?_
 have m1:=m.delTx n hM g1
 have hE1:Ext ρ w ρ w1:=Ext.grown g1 m.rom
 unfold zBq at H
 generalize VG.delTx s n=s1 at m1 H
 refine ⟨trivial,?_⟩
 refine yI Za yL m1.row.at s1.now rfl ⟨trivial,?_⟩
 refine yI zBY zBX m1.row.at (some mb) rfl ?_
 obtain ⟨es,c,mAt⟩:=m1.mp
 obtain ⟨dom,hdom,_⟩:=mAt.doms zJX
 clear mAt
 refine zOz m1.mp zBV λw2 hi b2=>?_
 have hmb:mb<w1.heap.size:=m1.mp.lt
 generalize hR:w1.heap.size=R at hi hmb ⊢
 refine ⟨λx W=>∃ ks,zAp (zU .i64) zC W mb R (λn=>(s1.tx n).map λ_=>some ⟨(g n).tb,0,none⟩) ks/\Bel w1 W/\x<=s1.now/\(∀ k∈ks,∀ t,s1.tx k=some t->x<=t.began)/\(x=s1.now∨∃ k t,k∈ks/\s1.tx k=some t/\x=t.began),λ_ W=>dom.length - zHG W R,⟨[],hi,b2,Int.le_refl _,by simp,.inl rfl⟩,?_⟩
 rintro x W ⟨ks,hi1,hb1,hx1,hx2,hx3⟩
 unfold zAA
 refine zMq hi1 (by omega) zJX (λhall=>?_) λy v W2 hy hn hi2 hg=>?_
 ·refine ⟨λ_=>⟨trivial,?_⟩,λk v e=>by cases e⟩
  have hlow:x=zJ2 s1:=zGc.eq ⟨hx1,λk t ht=>hx2 k (hall k (some ⟨(g k).tb,0,none⟩) (by rw [ht];rfl)) t ht,by
   rcases hx3 with h|⟨k,t,_,h1,h2⟩
   ·exact .inl h
   ·exact .inr ⟨k,t,h1,h2⟩⟩
  have mW:=m1.bel hb1
  have hEW:=hE1.trans (Ext.bel hb1)
  refine ⟨_,W,xV _ _,?_⟩
  refine zBc z5 (cs:=[Sl.v vs,.int .u64 s1.low]) ⟨vs,s1.low⟩ rfl mW.versAt rfl ?_
  refine zNY (x0:=⟨vs,s1.low⟩) mW.vers x λr W3 base h1 hO b3=>?_
  refine zCd zAf rfl z5 (cs:=[Sl.v r,.int .u64 (zDI s1.l s1.low x).2.1]) rfl (by cases r with|mk a l c=>cases a<;>rfl) rfl λC W4 b4 hX _=>?_
  have m4:=(mW.bel b3).bel b4
  have hE4:=hEW.trans (Ext.bel (b3.trans b4))
  unfold zKb at H
  rw [← hlow] at H
  refine ⟨λhz=>?_,λhz=>?_⟩
  ·rw [if_pos hz] at H
   refine zBc z5 (cs:=[Sl.v r,.int .u64 (zDI s1.l s1.low x).2.1]) ⟨r,(zDI s1.l s1.low x).2.1⟩ rfl hX.at rfl ⟨trivial,?_⟩
   refine ⟨_,W4,xV _ _,?_⟩
   refine zPo z5 (vs:=[Sl.v r,.int .u64 (zDI s1.l s1.low x).2.1]) (off:=0) m4.row rfl (by simp) (by cases r with|mk a l c=>cases a<;>rfl) λW5 hR5 g5=>?_
   have hO4:=hO.bel b4
   have hnew:∀ k,(Sl.v r).ownBlock=some k->k<W4.heap.size/\ρ k=none:=λk hk=>by
    refine ⟨hO4.lt hk,?_⟩
    have h2:=hO.lo hk
    cases hρ:ρ k with
    |none=>rfl
    |some r0=>
     have h3:=m.lt k (by rw [hρ];simp)
     have h4:=hEW.out.size
     omega
   have m5:=m4.setVers (Zl.rd hO4) hnew g5 hR5
   refine H _ W5 ⟨_,_,_,m5⟩ ⟨hE4.out.trans (Out.row (S:=λk=>ρ k≠none) g5 λk hk=>by cases hk;exact .inl (by show ρ _≠none;rw [m.rmg];simp)) λ_ _ h=>h,λk hk=>if_neg λe=>?_⟩
   have h2:=hO.lo e
   have h4:=hEW.out.size
   omega
  ·rw [if_neg hz] at H
   exact H ρ W4 ⟨_,_,_,m4⟩ hE4
 ·refine ⟨λe=>(nomatch e),λk v' e=>?_⟩
  cases e
  have hb2:Bel w1 W2:=hb1.grown hg λr e=>by cases e;omega
  cases ht:s1.tx y with
  |none=>rw [ht] at hy;cases hy
  |some t=>
   have hv:v=ptrA (g y).tb:=by rw [ht] at hy;simpa using hy.symm
   subst hv
   have hcl:(ks++[y]).length<=dom.length:=zFn hi2.nd λz hz=>(hdom.2 z).2 (hi2.dom z hz)
   rw [yO,List.length_singleton] at hcl
   have hl1:=hi1.size
   have hl2:=hi2.size
   rw [yO,List.length_singleton] at hl2
   refine zHZ hi2 hy zJX ⟨trivial,?_⟩
   refine yI zEK yL ((m1.bel hb2).tx y t ht).row.at t.began rfl ?_
   refine ⟨⟨ks++[y],hi2,hb2,?_,λk hk u hu=>?_,?_⟩,by dsimp only;omega⟩
   ·split<;>omega
   ·rcases List.mem_append.1 hk with hk|hk
    ·have:=hx2 k hk u hu
     split<;>omega
    ·simp at hk;subst hk
     rw [ht] at hu;cases hu
     split<;>omega
   ·split
    ·exact .inr ⟨y,t,by simp,ht,rfl⟩
    ·rcases hx3 with h|⟨k,u,h1,h2,h3⟩
     ·exact .inl h
     ·exact .inr ⟨k,u,by simp [h1],h2,h3⟩
theorem zPM (h:Mgr ρ w b s) (n:Int) {k:World->Prop} (H:∀ ρ' w',Mgr ρ' w' b (zBq s n)->Ext ρ w ρ' w'->k w'):
  Cl zA zF1 [.pointer (ptrA b),.int .i64 n].toArray w (λe w'=>e=.returned (.tuple [].toArray)/\k w'):=zIB (ptrA b) n w k (zOs h n H)
theorem zKo (h:Mgr ρ w b s) (n:Int) {k:World->Prop} (H:∀ ρ' w',Mgr ρ' w' b (zBq s n)->Ext ρ w ρ' w'->k w'):
  opD zA zF1 [.pointer (ptrA b),.int .i64 n] w k:=ClD.mono (zH2 (ptrA b) n w k (zOs h n H)) λe w' h=>⟨⟨_,h.1⟩,h.2⟩
end
end Go.Proofs.YtealcoghiaeiiaaGreat.VG
set_option linter.unusedVariables false
namespace Go.Proofs.YtealcoghiaeiiaaGreat.VG
open Go.VB Go.Proofs Go.RowKit
theorem getE {α:Type} {l:List α} {n:Nat} (h:n<l.length):∃ x,l[n]?=some x:=⟨l[n]'h,by simp⟩
theorem zIp {α:Type} {l:List α} {n:Nat} {x:α} (h:l[n]?=some x) (p:α->Bool) (hn:(l.take n).any p=false):(l.take (n+1)).any p=p x:=by
 rw [zCy h,List.any_append,hn];simp
theorem zKr {α:Type} {l:List α} {n:Nat} {x:α} (h:l[n]?=some x) (p:α->Bool) (hp:p x=true):l.any p=true:=List.any_eq_true.2 ⟨x,List.mem_of_getElem? h,hp⟩
def zIn (fv:Value) (p:zG->Bool) (l:List zG) (w:World):Prop:=∀ d∈l,∀ w' (k:Bool->World->Prop),Bel w w'->(∀ w'',Bel w' w''->k (p d) w'')->zGN zA fv [zG.v d] w' (λe w''=>∃ r:Bool,e=.returned (.bool r)/\k r w'')
theorem zIP {w:World} {x:Sl} {l:List zG} (hd:Rd zG.cells 4 w x l) {fv:Value} {p:zG->Bool} (hp:zIn fv p l w) {k:Bool->World->Prop} (H:∀ w',Bel w w'->k (l.any p) w'):
  Cl zA zAU [Sl.v x,fv].toArray w (λe w'=>∃ r0:Bool,e=.returned (.bool r0)/\k r0 w'):=by
 have dbig:=hd.big;have dcap:=hd.cap;have dlen:=hd.len
 refine zAQ x _ w k ?_
 unfold Qu
 refine zAj x _ w _ ?_
 unfold YP
 refine ⟨λi w1=>∃ n:Nat,i=(n:Int)/\n<=l.length/\Bel w w1/\(l.take n).any p=false,λi _=>(x.len - i).toNat,⟨0,rfl,by omega,Bel.refl _,by simp⟩,?_⟩
 rintro i w1 ⟨n,rfl,hn,hb,hno⟩
 unfold yr
 refine ⟨λhc=>?_,λhc=>?_⟩
 ·obtain ⟨d,hdn⟩:=getE (l:=l) (n:=n) (by omega)
  refine zFX (hd.bel hb) ym QO (by omega) (x:=d) (by simpa using hdn) λad hA=>?_
  refine zBc yM d rfl hA rfl ?_
  refine hp d (List.mem_of_getElem? hdn) w1 _ hb λw2 b2=>⟨λht=>?_,λhf=>?_⟩
  ·dsimp only
   rw [decide_eq_true (p:=0<=(n:Int)) (by omega),← zKr hdn p ht]
   exact H w2 (hb.trans b2)
  ·rw [wr64 (by omega) (by omega)]
   exact ⟨⟨n+1,by omega,by omega,hb.trans b2,by rw [zIp hdn p hno];exact hf⟩,by dsimp only;omega⟩
 ·obtain rfl:n=l.length:=by omega
  rw [List.take_length] at hno
  have:=H w1 hb
  rw [hno] at this
  exact this
def zJw (fv:Value) (p:z7->Bool) (l:List z7) (w:World):Prop:=∀ d∈l,∀ w' (k:Bool->World->Prop),Bel w w'->(∀ w'',Bel w' w''->k (p d) w'')->zGN zA fv [z7.v d] w' (λe w''=>∃ r:Bool,e=.returned (.bool r)/\k r w'')
theorem zJM {w:World} {x:Sl} {l:List z7} (hd:Rd z7.cells 3 w x l) {fv:Value} {p:z7->Bool} (hp:zJw fv p l w) {k:Bool->World->Prop} (H:∀ w',Bel w w'->k (l.any p) w'):
  Cl zA zDK [Sl.v x,fv].toArray w (λe w'=>∃ r0:Bool,e=.returned (.bool r0)/\k r0 w'):=by
 have dbig:=hd.big;have dcap:=hd.cap;have dlen:=hd.len
 refine zDQ x _ w k ?_
 unfold Zn
 refine zEB x _ w _ ?_
 unfold zAH
 refine ⟨λi w1=>∃ n:Nat,i=(n:Int)/\n<=l.length/\Bel w w1/\(l.take n).any p=false,λi _=>(x.len - i).toNat,⟨0,rfl,by omega,Bel.refl _,by simp⟩,?_⟩
 rintro i w1 ⟨n,rfl,hn,hb,hno⟩
 unfold Ye
 refine ⟨λhc=>?_,λhc=>?_⟩
 ·obtain ⟨d,hdn⟩:=getE (l:=l) (n:=n) (by omega)
  refine zFX (hd.bel hb) zGR zJy (by omega) (x:=d) (by simpa using hdn) λad hA=>?_
  refine zBc zFS d rfl hA rfl ?_
  refine hp d (List.mem_of_getElem? hdn) w1 _ hb λw2 b2=>⟨λht=>?_,λhf=>?_⟩
  ·dsimp only
   rw [decide_eq_true (p:=0<=(n:Int)) (by omega),← zKr hdn p ht]
   exact H w2 (hb.trans b2)
  ·rw [wr64 (by omega) (by omega)]
   exact ⟨⟨n+1,by omega,by omega,hb.trans b2,by rw [zIp hdn p hno];exact hf⟩,by dsimp only;omega⟩
 ·obtain rfl:n=l.length:=by omega
  rw [List.take_length] at hno
  have:=H w1 hb
  rw [hno] at this
  exact this
def zGL (fv:Value) (p:zM->Bool) (l:List zM) (w:World):Prop:=∀ d∈l,∀ w' (k:Bool->World->Prop),Bel w w'->(∀ w'',Bel w' w''->k (p d) w'')->zGN zA fv [zM.v d] w' (λe w''=>∃ r:Bool,e=.returned (.bool r)/\k r w'')
theorem zJN {w:World} {x:Sl} {l:List zM} (hd:Rd zM.cells 2 w x l) {fv:Value} {p:zM->Bool} (hp:zGL fv p l w) {k:Bool->World->Prop} (H:∀ w',Bel w w'->k (l.any p) w'):
  Cl zA zDV [Sl.v x,fv].toArray w (λe w'=>∃ r0:Bool,e=.returned (.bool r0)/\k r0 w'):=by
 have dbig:=hd.big;have dcap:=hd.cap;have dlen:=hd.len
 refine zDR x _ w k ?_
 unfold Zo
 refine zBb x _ w _ ?_
 unfold Y6
 refine ⟨λi w1=>∃ n:Nat,i=(n:Int)/\n<=l.length/\Bel w w1/\(l.take n).any p=false,λi _=>(x.len - i).toNat,⟨0,rfl,by omega,Bel.refl _,by simp⟩,?_⟩
 rintro i w1 ⟨n,rfl,hn,hb,hno⟩
 unfold QL
 refine ⟨λhc=>?_,λhc=>?_⟩
 ·obtain ⟨d,hdn⟩:=getE (l:=l) (n:=n) (by omega)
  refine zFX (hd.bel hb) zAT zBw (by omega) (x:=d) (by simpa using hdn) λad hA=>?_
  refine zBc zBS d rfl hA rfl ?_
  refine hp d (List.mem_of_getElem? hdn) w1 _ hb λw2 b2=>⟨λht=>?_,λhf=>?_⟩
  ·dsimp only
   rw [decide_eq_true (p:=0<=(n:Int)) (by omega),← zKr hdn p ht]
   exact H w2 (hb.trans b2)
  ·rw [wr64 (by omega) (by omega)]
   exact ⟨⟨n+1,by omega,by omega,hb.trans b2,by rw [zIp hdn p hno];exact hf⟩,by dsimp only;omega⟩
 ·obtain rfl:n=l.length:=by omega
  rw [List.take_length] at hno
  have:=H w1 hb
  rw [hno] at this
  exact this
def zBy (x:Spn) (key:ByteArray):Bool:=if x.only=true then decide (key=x.from_) else (!sLt key x.from_)&&(decide (x.to_=noB)||sLt key x.to_)
theorem zM0 (x:Spn) (key:ByteArray) (w:World) {k:Bool->World->Prop} (H:∀ w',Bel w w'->k (zBy x key) w'):
  Cl zA zJQ [z7.v x,.string key].toArray w (λe w'=>∃ r0:Bool,e=.returned (.bool r0)/\k r0 w'):=by
 refine zJK x key w k ?_
 unfold zGH zCL zCJ
 refine zBD (cs:=x.cells) rfl λB w1 b1 hX _=>?_
 refine yI zIW zD3 hX.at x.only rfl ?_
 have h:=H w1 b1
 unfold zBy at h
 refine ⟨λho=>?_,λho=>?_⟩
 ·rw [if_pos ho] at h
  exact yI zGY zo hX.at x.from_ rfl h
 ·rw [if_neg (by simp [ho])] at h
  refine yI zGY zo hX.at x.from_ rfl ⟨λh1=>?_,λh1=>?_⟩
  ·rw [h1] at h
   refine yI zHL zo hX.at x.to_ rfl ⟨λh2=>?_,λh2=>?_⟩
   ·rw [show decide (x.to_=noB)=true from decide_eq_true h2] at h
    exact h
   ·rw [show decide (x.to_=noB)=false from decide_eq_false h2] at h
    exact yI zHL zo hX.at x.to_ rfl h
  ·rw [h1] at h
   exact h
def conf (t:Tx) (v:Ver):Bool:=decide (t.began<v.At)&&t.reads.any (λx=>zBy x v.Key)
theorem zNX (x:Spn) {w:World} {B:Nat} {v:Ver} (hB:Row w B v.cells yE) {k:Bool->World->Prop} (H:∀ w',Bel w w'->k (zBy x v.Key) w'):
  Cl zA zC9 [z7.v x,.pointer (ptrA B)].toArray w (λe w'=>∃ r0:Bool,e=.returned (.bool r0)/\k r0 w'):=by
 refine zFy x (ptrA B) w k ?_
 unfold zBo
 refine zBD (cs:=x.cells) rfl λC w1 b1 hX _=>?_
 refine zBc zFS x rfl hX.at rfl ?_
 refine yI Y5 zo (hB.bel b1).at v.Key rfl ?_
 exact zM0 x v.Key w1 λw2 b2=>H w2 (b1.trans b2)
theorem zN1 (v:Ver) {w:World} {B tb wb:Nat} {rs:Sl} {t:Tx} (hB:Row w B [.pointer (ptrA tb)] zE4) (hT:Row w tb [.int .u64 t.began,Sl.v rs,.map (some wb)] zA9) (hR:Rd z7.cells 3 w rs t.reads) {k:Bool->World->Prop} (H:∀ w',Bel w w'->k (conf t v) w'):
  Cl zA zDo [zG.v v,.pointer (ptrA B)].toArray w (λe w'=>∃ r0:Bool,e=.returned (.bool r0)/\k r0 w'):=by
 refine zGO v (ptrA B) w k ?_
 unfold zB3 ZR
 refine zBD (cs:=v.cells) rfl λC w1 b1 hX _=>?_
 have hB1:=hB.bel b1
 have hT1:=hT.bel b1
 refine zGQ zAY yL hX.at v.At rfl ?_
 refine zLd zBT (ptrA tb) hB1.cell ⟨trivial,?_⟩
 refine zGQ zEK yL hT1.at t.began rfl ⟨λhc=>?_,λhc=>?_⟩
 ·refine zLd zBT (ptrA tb) hB1.cell ⟨trivial,?_⟩
  refine zGQ zBN zBx hT1.at rs rfl ?_
  refine ⟨t.reads.any (λx=>zBy x v.Key),λW hW=>?_,λW hW=>?_⟩
  ·refine (zJM (hR.bel (b1.trans hW)) (p:=λx=>zBy x v.Key) (λd _ w' k' hb hk=>.inl ⟨zC9,[],[.pointer (ptrA C)],rfl,zQl,zNX d ((hX.bel hW).bel hb) hk⟩) (k:=λr w'=>r=t.reads.any (λx=>zBy x v.Key)/\Bel W w') λw' hb=>⟨rfl,hb⟩).mono λe w' ⟨r,he,hr,hb⟩=>⟨by rw [he,hr],hb⟩
  ·have:=H W (b1.trans hW)
   unfold conf at this
   rw [decide_eq_true hc,Bool.true_and] at this
   exact this
 ·intro W hW
  have:=H W (b1.trans hW)
  unfold conf at this
  rw [decide_eq_false hc,Bool.false_and] at this
  exact this
theorem zLC {ρ:Own} {w:World} {b:Nat} {s:St} {vs:Sl} {mb:Nat} {g:Int->Gh} (m:zCa ρ w b s vs mb g) {n:Int} {t:Tx} (ht:s.tx n=some t) {k:Bool->World->Prop} (H:∀ w',Bel w w'->k (s.l.any (conf t)) w'):
  Cl zA zGd [.pointer (ptrA b),.pointer (ptrA (g n).tb)].toArray w (λe w'=>∃ r0:Bool,e=.returned (.bool r0)/\k r0 w'):=by
 refine zGm (ptrA b) (ptrA (g n).tb) w k ?_
 unfold zCU
 refine zBD (cs:=[.pointer (ptrA (g n).tb)]) rfl λB w1 b1 hB _=>⟨trivial,?_⟩
 have m1:=m.bel b1
 have mt:=m1.tx n t ht
 refine ⟨_,w1,xV _ _,?_⟩
 refine yI yC yB m1.versAt vs rfl ?_
 exact zIP m1.vers (p:=conf t) (λd _ w' k' hb hk=>.inl ⟨zDo,[],[.pointer (ptrA B)],rfl,zQg,zN1 d (hB.bel hb) (mt.row.bel hb) ((mt.rd.rd λ_=>rfl).bel hb) hk⟩) λw2 b2=>H w2 (b1.trans b2)
end Go.Proofs.YtealcoghiaeiiaaGreat.VG
set_option linter.unusedVariables false
namespace Go.Proofs.YtealcoghiaeiiaaGreat.VG
open Go.VB Go.VB.Srt Go.Proofs Go.RowKit
abbrev zD2 (base:Nat) (w:World) (s:Sl) (l:List Wri):Prop:=OwnS zI.cells 3 Z8 base w s l
theorem zD2.rd {base:Nat} {w:World} {s:Sl} {l:List Wri} (h:zD2 base w s l):zIl w s l:=OwnS.rd h (λ_=>rfl)
abbrev encW (x:Wri):List Value:=[zI.v x]
theorem zLv {κ ν:Type} {w w':World} {ek:κ->Value} {ev:ν->Value} {b r:Nat} {f:κ->Option ν} {ks:List κ} (h:zAp ek ev w b r f ks) (hk:KeepsWalks w w'):zAp ek ev w' b r f ks:=by
 obtain ⟨c,sb,h1⟩:=h.blk
 obtain ⟨es,c',h2⟩:=h.mapLt
 exact h.keep ((hk.same b _ h2 rfl).trans h2.symm) ((hk.same r _ h1 rfl).trans h1.symm)
theorem KeepsWalks.row {w w':World} {row:Option Nat} (hg:w.grownBy w' row) (hr:∀ r,row=some r->∃ cs t fr,w.heap[r]?=some (.cells cs t fr)):KeepsWalks w w':=
 ⟨hg.size,λk o hk ho=>(hg.block k (Array.getElem?_eq_some_iff.1 hk).1 (λe=>by
  obtain ⟨cs,t,fr,h⟩:=hr k e.symm
  rw [h] at hk;cases hk;cases ho)).trans hk⟩
def zLG (f:ByteArray->Option Wri) (xs:List Wri):Prop:=∃ ks,Doms f ks/\xs=ks.filterMap f
theorem zGl {α β:Type} (f:α->Option β) (ks:List α) (h:∀ k∈ks,∃ v,f k=some v):(ks.filterMap f).length=ks.length:=by
 induction ks with
 |nil=>rfl
 |cons a ks ih=>
  obtain ⟨v,hv⟩:=h a (by simp)
  rw [List.filterMap_cons_some hv,List.length_cons,List.length_cons,ih λk hk=>h k (by simp [hk])]
theorem zMV {w:World} {f:ByteArray->Option Wri} {b b1:Nat} (h:Zv za zI.v w b f) (h1:Row w b1 [.map (some b)] zGo) {dom:List ByteArray} (hd:Doms f dom):
  SeqStopsK (FW none) 0 zA ZS [.pointer (some ⟨b1,0,none⟩)].toArray (λx=>(encW x).toArray) KeepsWalks (zLG f) (λ_=>True) dom.length w:=by
 intro l' J Jx W hW hJ hJx hY h0
 have C:=zBg (.func (.yield l') #[] #[]) (some ⟨b1,0,none⟩) W (λw'=>(∃ xs,zLG f xs/\J xs w')∨(∃ pre,True/\Jx pre w')) ?_
 ·exact CallsIn.mono C λe w' hr=>⟨⟨_,hr.1⟩,hr.2⟩
 unfold YI
 refine zBA Qd (some b) (h1.bel hW).cell ?_
 refine zOz (h.bel hW) YR λW1 hi hb1=>?_
 have hblt:b<W.heap.size:=(h.bel hW).lt
 have hj0:J [] W1:=hJ _ _ _ none h0 (zf hb1 none) (λr e=>by cases e)
 generalize hR:W.heap.size=R at hi hblt ⊢
 refine ⟨λw1=>∃ ks,zAp za zI.v w1 b R f ks/\J (ks.filterMap f) w1,λw1=>dom.length - zHG w1 R,⟨[],hi,hj0⟩,?_⟩
 rintro w1 ⟨ks,hi1,hj1⟩
 unfold yh
 refine zMq hi1 (by omega) zH6 (λhall=>?_) λx v w2 hx hn hi2 hg=>?_
 ·exact ⟨λ_=>.inl ⟨_,⟨ks,⟨hi1.nd,λx=>⟨hi1.dom x,λ⟨v,hv⟩=>hall x v hv⟩⟩,rfl⟩,hj1⟩,λk v e=>by cases e⟩
 ·refine ⟨λe=>(nomatch e),λk v' e=>?_⟩
  cases e
  have hj2:J (ks.filterMap f) w2:=hJ _ _ _ (some R) hj1 hg (λr e=>by
   cases e
   obtain ⟨c,sb,hb⟩:=hi1.blk
   exact ⟨by omega,_,hb,rfl⟩)
  have hcl:(ks++[x]).length<=dom.length:=zFn hi2.nd λy hy=>(hd.2 y).2 (hi2.dom y hy)
  have hl1:=hi1.size
  rw [yO,List.length_singleton] at hcl
  have hfl:=zGl f ks hi1.dom
  refine zHZ hi2 hx zH6 ?_
  refine zCd zBp rfl YT (cs:=v.cells) rfl rfl rfl λC w3 b3 hX _=>?_
  have hj3:J (ks.filterMap f) w3:=hJ _ _ _ none hj2 (zf b3 none) (λr e=>by cases e)
  have hi3:=hi2.bel b3
  refine zBc YT v rfl hX.at rfl ?_
  refine .inr ⟨l',rfl,YieldAt.mono (hY _ v w3 hj3 (by omega)) λe' w4 hr=>?_⟩
  rcases hr with ⟨rfl,hj4,hk⟩|⟨rfl,hj4⟩
  ·refine ⟨true,rfl,λh=>(nomatch h),λ_=>?_⟩
   have hi4:=zLv hi3 hk
   refine ⟨⟨_,hi4,by rw [List.filterMap_append,List.filterMap_cons_some hx];exact hj4⟩,?_⟩
   have hl3:=hi4.size
   rw [yO,List.length_singleton] at hl3
   dsimp only
   omega
  ·exact ⟨false,rfl,λ_=>.inr ⟨_,trivial,hj4⟩,λh=>(nomatch h)⟩
theorem zNa {w:World} {f:ByteArray->Option Wri} {b:Nat} (h:Zv za zI.v w b f) {dom:List ByteArray} (hd:Doms f dom) {k:Value->World->Prop}
  (H:∀ v w',zIm zA v encW KeepsWalks (zLG f) (λ_=>True) dom.length w'->Bel w w'->k v w'):
  Cl zA zBl [.map (some b)].toArray w (λe w'=>∃ v:Value,e=.returned v/\k v w'):=by
 refine zBm (some b) w k ?_
 unfold YW
 refine zBD (cs:=[.map (some b)]) rfl λB w1 b1 hr1 _=>?_
 exact H _ _ ⟨ZS,_,rfl,zQZ,zMV (h.bel b1) hr1 hd⟩ b1
theorem zO2 {base:Nat} {w0 w:World} {s:Sl} {l:List Wri} {x:Wri} {k:Sl->World->Prop} (hO:zD2 base w s l) (hB:Bel w0 w) (hb:w0.heap.size<=base) (hbw:base<=w.heap.size) (room:l.length+1<=1000000000)
  (H:∀ s' w',zD2 base w' s' (l++[x])->Bel w0 w'->w.grownBy w' (Sl.v s).ownBlock->k s' w'):
  opE zA Sl.v (zq zAR 1 [(0,zI.v x)].toArray) w (λy w=>opE zA Sl.v (Builtin.append_ #[zAR,zAR] zAR [Sl.v s,Sl.v y].toArray) w k):=
 zMo hO (λ_=>rfl) (λ_=>rfl) (by decide) zBf zI2 rfl (by decide) (zJR x) hB hb hbw (by omega) H
theorem zLR {v:Value} {Sq Sp:List Wri->Prop} {Num:Nat} {w:World} (hs:zIm zA v encW KeepsWalks Sq Sp Num w) (hN:Num<=100000000) {k:Sl->World->Prop}
  (H:∀ r w' xs base,w.heap.size<=base->Sq xs->zD2 base w' r xs->Bel w w'->k r w'):Cl zA zF7 [v].toArray w (λe w'=>∃ r0:Sl,e=.returned (Sl.v r0)/\k r0 w'):=by
 refine zF8 v w k ?_
 unfold zBu
 refine zDZ Sl.none v w k ?_
 unfold Z0
 refine zQ3 rfl ?_
 have hb0:Bel w (w.alloc (.cells [Sl.v Sl.none].toArray zAR)):=Bel.alloc _ _
 have hr0:=Row.new w [Sl.v Sl.none] zAR
 have hsz:(w.alloc (.cells [Sl.v Sl.none].toArray zAR)).heap.size=w.heap.size+1:=size_alloc' _ _
 have hlo0:=hr0.lt
 generalize hB:w.heap.size=B at hr0 hsz hlo0 ⊢
 generalize (w.alloc (.cells [Sl.v Sl.none].toArray zAR))=w1 at hb0 hr0 hsz hlo0 ⊢
 refine ⟨zI.cells,KeepsWalks,Sq,Sp,Num,λpre W=>∃ sl,Row W B [Sl.v sl] zAR/\zD2 w1.heap.size W sl pre/\Bel w W/\w1.heap.size<=W.heap.size,λ_ _=>False,
  ⟨hs.later hb0,λ_ _ _=>KeepsWalks.trans,λW l o o' h1 h2 h3 h4=>KeepsWalks.putObj o' h2 h4,λpre W o _=>KeepsWalks.alloc W o,λs W W' row hi hg hr=>?_,λs W W' row hi hg hr=>hi,λpre W hi=>hi.elim λ_ h=>h.2.2.2,⟨Sl.none,hr0,OwnS.nil _ _ _ _ _,hb0,zV _⟩⟩,
  λx W k hk=>zPg zBp rfl YT (cs:=x.cells) rfl rfl rfl hk,?_,?_,?_⟩
 ·obtain ⟨sl,h1,h2,h3,h4⟩:=hi
  exact ⟨sl,h1.notwalk hg hr,h2.notwalk hg hr,h3.notwalk (by omega) hg hr,zj h4 hg.size⟩
 ·rintro pre x Bx W hBx hx ⟨sl,h1,h2,h3,h4⟩ hlen
  unfold ZO
  have hx':Row W Bx x.cells Z8:=hx
  refine zBA zEq sl h1.cell ?_
  refine zBc YT x rfl hx'.at rfl ?_
  refine zO2 (w0:=w) (w:=W) h2 h3 (by omega) h4 (by omega) λs' w' h5 h6 h7=>?_
  have hne:(Sl.v sl).ownBlock≠some B:=λe=>by have:=h2.lo e;omega
  have hr1:=h1.grown h7 hne
  refine zHj zEq hr1 (by cases s' with|mk a l c=>cases a<;>rfl) (by cases s' with|mk a l c=>cases a<;>rfl) λw'' hr2 hg2=>?_
  refine ⟨(KeepsFrom.row h7 λr hr=>h2.isRow hr).trans (KeepsFrom.row hg2 λr hr=>by cases hr;exact ⟨_,_,_,hr1⟩),(KeepsWalks.row h7 λr hr=>h2.isRow hr).trans (KeepsWalks.row hg2 λr hr=>by cases hr;exact ⟨_,_,_,hr1⟩),s',hr2,h5.kept hg2 ?_,?_,zj h4 (zj h7.size hg2.size)⟩
  ·cases hq:(Sl.v s').ownBlock with
   |none=>exact .inl rfl
   |some q=>
    refine .inr λe=>?_
    have h8:=h5.lo hq
    have h9:=Option.some.inj e
    omega
  ·exact h6.grown hg2 λr hr=>by cases hr;omega
 ·rintro D xs W hD hS ⟨sl,h1,h2,h3,h4⟩ hK
  refine zBA zEq sl h1.cell ?_
  refine ⟨hK,?_⟩
  have hg:=zIV W D
  have hr:∀ r,some D=some r->w1.heap.size<=r/\∃ o:Obj,W.heap[r]?=some o/\o.isCells=false:=λr e=>by cases e;exact ⟨hD,_,hK,rfl⟩
  exact H sl _ xs _ (by omega) hS (h2.notwalk hg hr) (h3.notwalk (by omega) hg hr)
 ·exact λD pre W h1 h2 h3 h4=>trivial
def kltB (a b:Wri):Bool:=sLt a.Key b.Key
theorem zOE:Srt.SWO kltB where
 irr x:=by
  cases h:kltB x x with
  |false=>rfl
  |true=>exact absurd h (zA8 x.Key)
 neg x y z h:=by
  unfold kltB at*
  by_cases h1:sLt x.Key y.Key=true
  ·exact .inl h1
  ·right
   by_cases h2:x.Key=y.Key
   ·rw [← h2];exact h
   ·exact zHw (zEr h1 h2) h
 asy x y h:=by
  cases h1:kltB y x with
  |false=>rfl
  |true=>exact absurd h1 (zG9 h)
theorem zMU (a b:Wri) (w:World) {k:Int->World->Prop} (H:∀ w',Bel w w'->k (cmpS a.Key b.Key) w'):Cl zA zE1 [zI.v a,zI.v b].toArray w (λe w'=>∃ r0:Int,e=.returned (.int .i64 r0)/\k r0 w'):=by
 refine zII a b w k ?_
 unfold zFN
 refine zBD (cs:=a.cells) rfl λB w1 b1 hA _=>?_
 refine zBD (cs:=b.cells) rfl λC w2 b2 hB _=>?_
 refine yI Yt zo (hA.bel b2).at a.Key rfl ?_
 refine yI Yt zo hB.at b.Key rfl ?_
 exact zHu a.Key b.Key w2 (H w2 (b1.trans b2))
theorem zKw:SoCmpFunc_api_Write.Cmps (.func (.func zE1) #[] #[]) kltB:=λw x y=>
 ⟨cmpS x.Key y.Key,⟨zE1,[],[],rfl,zRI,λw' _=>(zMU x y w' (k:=λr W=>r=cmpS x.Key y.Key/\Bel w' W) λW hb=>⟨rfl,hb⟩).mono λe W ⟨r,he,hr,hb⟩=>⟨by rw [he,hr],hb⟩⟩,by rw [zKx];exact Iff.rfl⟩
def zFF (f:ByteArray->Option Wri) (ys:List Wri):Prop:=ys.Pairwise (λa b=>sLt a.Key b.Key=true)/\∀ x,x∈ys↔f x.Key=some x
theorem zFF.one {f:ByteArray->Option Wri} {xs ys:List Wri} (h:zFF f xs) (k:zFF f ys):xs=ys:=by
 have hm:∀ x,x∈xs↔x∈ys:=λx=>by rw [h.2,k.2]
 have h1:=h.1
 have k1:=k.1
 clear h k
 induction xs generalizing ys with
 |nil=>cases ys with
  |nil=>rfl
  |cons b ys=>exact absurd ((hm b).2 (by simp)) (by simp)
 |cons a xs ih=>
  cases ys with
  |nil=>exact absurd ((hm a).1 (by simp)) (by simp)
  |cons b ys=>
   obtain ⟨h2,h3⟩:=List.pairwise_cons.1 h1
   obtain ⟨k2,k3⟩:=List.pairwise_cons.1 k1
   have hab:a=b:=by
    rcases List.mem_cons.1 ((hm a).1 (by simp)) with e|e
    ·exact e
    ·rcases List.mem_cons.1 ((hm b).2 (by simp)) with e'|e'
     ·exact e'.symm
     ·exact absurd (h2 b e') (zG9 (k2 a e))
   subst hab
   rw [ih (λx=>?_) h3 k3]
   constructor
   ·intro hx
    rcases List.mem_cons.1 ((hm x).1 (by simp [hx])) with e|e
    ·subst e;exact absurd (h2 x hx) (zA8 _)
    ·exact e
   ·intro hx
    rcases List.mem_cons.1 ((hm x).2 (by simp [hx])) with e|e
    ·subst e;exact absurd (k2 x hx) (zA8 _)
    ·exact e
theorem zOk {f:ByteArray->Option Wri} (hk:∀ k x,f k=some x->x.Key=k) {xs ys:List Wri} (hx:zLG f xs) (hp:ys.Perm xs) (hl:ys.Pairwise (λx y=>Le kltB x y)):zFF f ys/\∃ ks,Doms f ks/\ks.length=ys.length:=by
 obtain ⟨ks,hd,rfl⟩:=hx
 have hmem:∀ x,x∈ys↔f x.Key=some x:=λx=>by
  rw [hp.mem_iff,List.mem_filterMap]
  constructor
  ·rintro ⟨k,_,h⟩
   rw [hk k x h];exact h
  ·exact λh=>⟨x.Key,(hd.2 _).2 ⟨x,h⟩,h⟩
 have hnd:(ks.filterMap f).Pairwise (λx y=>x.Key≠y.Key):=by
  rw [List.pairwise_filterMap]
  refine hd.1.imp λ{a b} hab x hx y hy e=>hab ?_
  rw [← hk a x hx,← hk b y hy,e]
 have hnd':ys.Pairwise (λx y=>x.Key≠y.Key):=(hp.pairwise_iff (λ{x y} h=>h.symm)).2 hnd
 have hstr:ys.Pairwise (λa b=>sLt a.Key b.Key=true):=(hl.and hnd').imp λ{x y} h12=>by
  cases h:sLt x.Key y.Key with
  |true=>rfl
  |false=>
   have h3:sLt y.Key x.Key=true:=zEr (by rw [h];decide) h12.2
   have h4:sLt y.Key x.Key=false:=h12.1
   rw [h3] at h4;cases h4
 exact ⟨⟨hstr,hmem⟩,ks,hd,by rw [hp.length_eq,zGl f ks λk hk'=>(hd.2 k).1 hk']⟩
theorem zMb {ρ:Own} {w:World} {n:Int} {t:Tx} {g:Gh} (mt:TxAt ρ w n t g) (hk:∀ k x,t.wr k=some x->x.Key=k) {dom:List ByteArray} (hd:Doms t.wr dom) (hN:dom.length<=100000000) {k:Sl->World->Prop}
  (H:∀ r w' ys base,w.heap.size<=base->zFF t.wr ys->zD2 base w' r ys->Bel w w'->k r w'):
  Cl zA zI7 [.pointer (ptrA g.tb)].toArray w (λe w'=>∃ r0:Sl,e=.returned (Sl.v r0)/\k r0 w'):=by
 refine zI9 (ptrA g.tb) w k ?_
 unfold zFx
 refine ⟨trivial,?_⟩
 refine yI zAL Qd mt.row.at (some g.wb) rfl ?_
 refine zNa mt.wr hd λv w1 hs b1=>?_
 refine zFj v _ w1 k ?_
 unfold zBZ
 refine zLR hs hN λr w2 xs base hb hS hO hbel=>?_
 refine SoCmpFunc_api_Write.sort_ok zOE zKw hO λys w3 hp hpw hO2 hg=>?_
 exact H r w3 ys base (zj b1.le hb) (zOk hk hS hp hpw).1 hO2 ((b1.trans hbel).grown hg λq hq=>zj (zj b1.le hb) (hO.lo hq))
end Go.Proofs.YtealcoghiaeiiaaGreat.VG
set_option linter.unusedVariables false
namespace Go.Proofs.YtealcoghiaeiiaaGreat.VG
open Go.VB Go.Proofs Go.RowKit
def putS (s:St) (p:List Ver × Int × Int):St:={s with l:=p.1,low:=p.2.1,now:=s.now+1}
theorem _root_.Go.VB.OwnS.low {α:Type} {c:α->List Value} {n e base base':Nat} {w:World} {s:Sl} {xs:List α} (h:OwnS c n e base w s xs) (hb:base'<=base):OwnS c n e base' w s xs:=by
 refine ⟨h.len,h.small,h.row.1,?_⟩
 rcases h.row.2 with h1|⟨g,cap,cur,h1,h2,h3⟩
 ·exact .inl h1
 ·exact .inr ⟨g,cap,cur,h1,zj hb h2,h3⟩
def Few (t:Tx):Prop:=∃ ks,Doms t.wr ks/\ks.length<=256
def zNB (t:Tx):Prop:=∀ k x,t.wr k=some x->x.Key=k
theorem wu64 {n:Int} (h0:0<=n) (h1:n<=18446744073709551615):zB .u64 n=n:=IntWalk.u64_in _ ⟨h0,h1⟩
section
variable {ρ:Own} {w:World} {b:Nat} {s:St}
theorem zOB (h:Mgr ρ w b s) (n:Int) {k:Int->World->Prop} (H0:s.tx n=none->k 11 w) (H1:∀ t ρ' w',s.tx n=some t->Mgr ρ' w' b (zBq s n)->Ext ρ w ρ' w'->k 0 w'):
  Cl zA zFr [.pointer (ptrA b),.int .i64 n].toArray w (λe w'=>∃ r0:Int,e=.returned (.int .i64 r0)/\k r0 w'):=by
 have h':=h
 obtain ⟨vs,mb,g,m⟩:=h
 refine zHm (ptrA b) n w k ?_
 unfold zEU
 refine zLp m n (λht=>⟨λ_=>H0 ht,λh=>absurd (by decide) h⟩) λt ht=>⟨λh=>absurd rfl h,λ_=>?_⟩
 exact zPM h' n λρ' w' hM hE=>H1 t ρ' w' ht hM hE
theorem zJB (h:Mgr ρ w b s) (n:Int) (hF:∀ t,s.tx n=some t->Few t/\zNB t) (hn0:0<=s.now) (hn1:s.now<4611686018427387904) {k:Sl->Int->Int->World->Prop}
  (H0:s.tx n=none->k Sl.none 0 11 w)
  (H1:∀ t ρ' w',s.tx n=some t->s.l.any (conf t)=true->Mgr ρ' w' b (zBq s n)->Ext ρ w ρ' w'->k Sl.none 0 10 w')
  (H2:∀ t ρ' w',s.tx n=some t->s.l.any (conf t)=false->(∀ x,t.wr x=none)->Mgr ρ' w' b (zBq s n)->Ext ρ w ρ' w'->k Sl.none s.now 0 w')
  (H3:∀ t ys ρ' w',s.tx n=some t->s.l.any (conf t)=false->zFF t.wr ys->(∃ x,t.wr x≠none)->(vput s.l s.low ys (s.now+1)).2.2≠0->Mgr ρ' w' b (zBq s n)->Ext ρ w ρ' w'->k Sl.none 0 (vput s.l s.low ys (s.now+1)).2.2 w')
  (H4:∀ t ys r ρ' w',s.tx n=some t->s.l.any (conf t)=false->zFF t.wr ys->(∃ x,t.wr x≠none)->(vput s.l s.low ys (s.now+1)).2.2=0->Mgr ρ' w' b (zBq (putS s (vput s.l s.low ys (s.now+1))) n)->Ext ρ w ρ' w'->
   zD2 w.heap.size w' r ys->(∀ q,(Sl.v r).ownBlock=some q->w.heap.size<=q/\q<w'.heap.size/\ρ' q=none)->k r (s.now+1) 0 w'):
  Cl zA zFV [.pointer (ptrA b),.int .i64 n].toArray w (λe w'=>∃ (r0:Sl) (r1:Int) (r2:Int),e=.returned (.tuple [Sl.v r0,.int .u64 r1,.int .i64 r2].toArray)/\k r0 r1 r2 w'):=by
 obtain ⟨vs,mb,g,m⟩:=h
 refine zHW (ptrA b) n w k ?_
 unfold zD4
 refine zLp m n (λht=>⟨λ_=>H0 ht,λh=>absurd (by decide) h⟩) λt ht=>⟨λh=>absurd rfl h,λ_=>?_⟩
 refine zLC m ht λw1 b1=>?_
 have m1:=m.bel b1
 refine ⟨λhc=>zKo ⟨_,_,_,m1⟩ n λρ' w' hM hE=>H1 t ρ' w' ht hc hM ((Ext.bel b1).trans hE),λhc=>⟨trivial,?_⟩⟩
 have mt1:=m1.tx n t ht
 refine yI zAL Qd mt1.row.at (some (g n).wb) rfl ?_
 refine zMf mt1.wr zH6 YR λks hks=>⟨λhz=>⟨trivial,?_⟩,λhz=>?_⟩
 ·have hks0:ks=[]:=List.eq_nil_of_length_eq_zero (by omega)
  have hno:∀ x,t.wr x=none:=λx=>by
   cases hx:t.wr x with
   |none=>rfl
   |some y=>have:=(hks.2 x).2 ⟨y,hx⟩;rw [hks0] at this;cases this
  refine zGQ Za yL m1.row.at s.now rfl λw2 b2=>?_
  exact zKo ⟨_,_,_,m1.bel b2⟩ n λρ' w' hM hE=>H2 t ρ' w' ht hc hno hM ((Ext.bel (b1.trans b2)).trans hE)
 obtain ⟨⟨dom,hd,hl⟩,hk⟩:=hF t ht
 have hex:∃ x,t.wr x≠none:=by
  cases ks with
  |nil=>exact absurd rfl hz
  |cons x ks=>obtain ⟨y,hy⟩:=(hks.2 x).1 (by simp);exact ⟨x,by rw [hy];simp⟩
 refine zMb mt1 hk hd (by omega) λr w2 ys base hb hS hO b2=>?_
 have b02:=b1.trans b2
 have m2:=m1.bel b2
 have J1:∀ W C r4 base4,Bel w2 W->Row W C [Sl.v r4,.int .u64 (vput s.l s.low ys (s.now+1)).2.1] z9->w2.heap.size<=base4->Zl base4 W r4 (vput s.l s.low ys (s.now+1)).1->
   Zp (ptrA b) n k r (vput s.l s.low ys (s.now+1)).2.2 (ptrA C) W:=by
  intro W C r4 base4 hb2 hC hb4 hO4
  unfold Zp
  have b0W:=b02.trans hb2
  have mW:=m.bel b0W
  refine ⟨λhne=>zKo ⟨_,_,_,mW⟩ n λρ' w' hM hE=>H3 t ys ρ' w' ht hc hS hex hne hM ((Ext.bel b0W).trans hE),λhz0=>?_⟩
  have hz0:=Classical.not_not.1 hz0
  refine zBc z5 ⟨r4,(vput s.l s.low ys (s.now+1)).2.1⟩ rfl hC.at rfl ⟨trivial,?_⟩
  refine ⟨_,W,xV _ _,?_⟩
  refine zPo z5 (vs:=[Sl.v r4,.int .u64 (vput s.l s.low ys (s.now+1)).2.1]) (off:=0) mW.row rfl (by simp) (by cases r4 with|mk a l c=>cases a<;>rfl) λW1 hR1 g1=>⟨trivial,?_⟩
  replace hR1:Row W1 b [Sl.v r4,.int .u64 (vput s.l s.low ys (s.now+1)).2.1,.int .u64 s.now,.int .i64 s.given,.map (some mb)] Zy:=hR1
  refine yI Za yL hR1.at s.now rfl ⟨trivial,?_⟩
  rw [wu64 (by omega) (by omega)]
  refine ⟨_,W1,Za _ _,?_⟩
  refine zHO yL hR1 rfl (by simp) rfl λW2 hR2 g2=>⟨trivial,?_⟩
  replace hR2:Row W2 b [Sl.v r4,.int .u64 (vput s.l s.low ys (s.now+1)).2.1,.int .u64 (s.now+1),.int .i64 s.given,.map (some mb)] Zy:=hR2
  have hg:=zS g1 g2
  have hs2:=b02.le
  have hsW:=hb2.le
  have hsg:=hg.size
  have hnew:∀ q,(Sl.v r4).ownBlock=some q->q<W.heap.size/\ρ q=none:=λq hq=>by
   refine ⟨hO4.lt hq,?_⟩
   have h2:=hO4.lo hq
   cases hρ:ρ q with
   |none=>rfl
   |some r0=>have h3:=m.lt q (by rw [hρ];simp);omega
  have m3:=mW.setVers (Zl.rd hO4) hnew hg hR2
  have hE3:Ext ρ w (λq=>if (Sl.v r4).ownBlock=some q then some .ve else ρ q) W2:=⟨(Ext.bel b0W).out.trans (Out.row (S:=λq=>ρ q≠none) hg λq hq=>by cases hq;exact .inl (by show ρ _≠none;rw [m.rmg];simp)) λ_ _ h=>h,λq hq=>if_neg λe=>by have:=hO4.lo e;omega⟩
  refine zGQ Za yL hR2.at (s.now+1) rfl λW3 b3=>?_
  refine zKo (s:=putS s (vput s.l s.low ys (s.now+1))) ⟨_,_,_,m3.bel b3⟩ n λρ' w' hM hE=>?_
  have hrq:∀ q,(Sl.v r).ownBlock=some q->w.heap.size<=q/\q<w2.heap.size/\ρ q=none/\(if (Sl.v r4).ownBlock=some q then some Role.ve else ρ q)=none:=λq hq=>by
   have h1:=hO.lo hq
   have h2:=hO.lt hq
   have h3:ρ q=none:=by
    cases hρ:ρ q with
    |none=>rfl
    |some r0=>have h3:=m.lt q (by rw [hρ];simp);have:=b1.le;omega
   refine ⟨by have:=b1.le;omega,h2,h3,?_⟩
   rw [if_neg λe=>by have:=hO4.lo e;omega];exact h3
  have hs3:=b3.le
  refine H4 t ys r ρ' w' ht hc hS hex hz0 hM ((hE3.trans (Ext.bel b3)).trans hE) ((hO.low (zj b1.le hb)).keep λq hq=>?_) λq hq=>?_
  ·obtain ⟨h1,h2,h3,h4⟩:=hrq q hq
   rw [hE.blk (by omega) h4,b3.block q (by omega),hg.block q (by omega) (λe=>by cases e;rw [m.rmg] at h3;cases h3),hb2.block q h2]
  ·obtain ⟨h1,h2,h3,h4⟩:=hrq q hq
   have:=hE.out.size
   exact ⟨h1,by omega,(hE.same q (by omega)).trans h4⟩
 refine ⟨Bel w2,λu bu=>⟨bu,trivial,?_⟩⟩
 refine zFZ xV ⟨trivial,?_⟩
 refine zFZ Za ?_
 refine zNS z5 (cs:=[Sl.v vs,.int .u64 s.low]) ⟨vs,s.low⟩ rfl (λW hW=>(m2.bel hW).versAt) rfl ?_
 refine zCz yL s.now (λW hW=>(m2.bel hW).row.at.fld rfl) ?_
 rw [wu64 (by omega) (by omega)]
 constructor
 ·refine zNI (x0:=⟨vs,s.low⟩) (m2.bel bu).vers ((zD2.rd hO).bel bu) (s.now+1) λr4 w3 base4 hb4 hO4 b3=>?_
  refine ⟨bu.trans b3,?_⟩
  refine zEu zAf λC w4 b4 hC hC0=>⟨(bu.trans b3).trans b4,?_⟩
  refine zHa z5 (cs':=[Sl.v r4,.int .u64 (vput s.l s.low ys (s.now+1)).2.1]) hC rfl rfl (by cases r4 with|mk a l c=>cases a<;>rfl) λw5 hC5 g5=>?_
  have b3l:=b3.le
  have bul:=bu.le
  have b5:Bel w2 w5:=((bu.trans b3).trans b4).grown g5 λq hq=>by cases hq;omega
  exact ⟨b5,J1 w5 C r4 base4 b5 hC5 (by omega) ((hO4.bel b4).kept g5 (OwnS.ne_row (hO4.bel b4) hC (by decide) |> Or.inr))⟩
 ·refine zEu zAf λC w3 b3 hC hC0=>⟨bu.trans b3,?_⟩
  refine zNI (x0:=⟨vs,s.low⟩) (m2.bel (bu.trans b3)).vers ((zD2.rd hO).bel (bu.trans b3)) (s.now+1) λr4 w4 base4 hb4 hO4 b4=>?_
  refine ⟨(bu.trans b3).trans b4,?_⟩
  refine zHa z5 (cs':=[Sl.v r4,.int .u64 (vput s.l s.low ys (s.now+1)).2.1]) (hC.bel b4) rfl rfl (by cases r4 with|mk a l c=>cases a<;>rfl) λw5 hC5 g5=>?_
  have b3l:=b3.le
  have bul:=bu.le
  have b5:Bel w2 w5:=((bu.trans b3).trans b4).grown g5 λq hq=>by cases hq;omega
  exact ⟨b5,J1 w5 C r4 base4 b5 hC5 (by omega) (hO4.kept g5 (OwnS.ne_row hO4 (hC.bel b4) (by decide) |> Or.inr))⟩
end
end Go.Proofs.YtealcoghiaeiiaaGreat.VG
set_option linter.unusedVariables false
set_option linter.unusedSimpArgs false
namespace Go.Proofs.YtealcoghiaeiiaaGreat.VG
open Go.VB Go.Proofs
def zEG (Ret:(Option Addr)->Int->World->Prop) (x14:Option Addr) (x21:Int) (Kl1:Int->World->Prop) (x6:Option Addr) (x38:Bool) (w:World):Prop:=
 yJ w (λw=>(x38=true->(Ret none 2 w))/\(x38=false->(regC w (λC3 w=>QU (.pointer x14)/\(opC C3 zA zC (zN 87 (.pointer x14) 0) (λx42=>opC C3 zA zC (zN 69 (.pointer x42) 0) (λx43=>opC C3 zA zC (zN 66 (.pointer x6) 0) (λx45=>opC C3 zA zC (zN 66 (.pointer x6) 1) (λx47=>opC C3 zA Sl.v (zD 67 (.pointer x43)) (λx44=>opC C3 zA za (zD 9 (.pointer x45)) (λx46=>opC C3 zA za (zD 9 (.pointer x47)) (λx48=>opC C3 zA zG.v (QP 72 [(0,(.string x46)),(1,(.int .u64 1)),(2,(.string x48))].toArray) (λx49=>opE zA Sl.v (zq 67 1 [(0,(zG.v x49))].toArray) w (λx50 w=>C3 w/\(opE zA Sl.v (Builtin.append_ #[67,67] 67 [(Sl.v x44),(Sl.v x50)].toArray) w (λx51 w=>C3 w/\(QU (.pointer x14)/\(opC C3 zA zC (zN 87 (.pointer x14) 0) (λx53=>opC C3 zA zC (zN 69 (.pointer x53) 0) (λx54=>opU zA (zJ 67 (.pointer x54) (Sl.v x51)) w (λw=>(Kl1 (zB .i64 (x21+1)) w))))))))))))))))))))))
def zFk (x0:Sl) (Ret:(Option Addr)->Int->World->Prop) (x14:Option Addr) (x21:Int) (w:World) (Kl1:Int->World->Prop):Prop:=
 ((x21<(x0.len:Int))->(opE zA zC (zF 22 (Sl.v x0) (.int .i64 x21)) w (λx24 w=>opE zA zM.v (zD 66 (.pointer x24)) w (λx25 w=>opE zA zC (ze 66 true (.tuple #[])) w (λx6 w=>opU zA (zJ 66 (.pointer x6) (zM.v x25)) w (λw=>((0<x21)->(opB zA zC (zF 22 (Sl.v x0) (.int .i64 (zB .i64 (x21 - 1)))) w (λx32=>opB zA zC (zN 66 (.pointer x32) 0) w (λx33=>opB zA za (zD 9 (.pointer x33)) w (λx34=>opB zA zC (zN 66 (.pointer x6) 0) w (λx35=>opB zA za (zD 9 (.pointer x35)) w (λx36=>zEG Ret x14 x21 Kl1 x6 (!sLt x34 x36) w)))))))/\(¬ (0<x21)->(zEG Ret x14 x21 Kl1 x6 false w))))))))/\(¬ (x21<(x0.len:Int))->(Ret x14 0 w))
def zI6 (x0:Sl) (w:World) (Ret:(Option Addr)->Int->World->Prop):Prop:=
 ((4096<(x0.len:Int))->(Ret none 3 w))/\(¬ (4096<(x0.len:Int))->(Cl zA 33 [(Sl.v x0),(.func (.func 34) #[] #[])].toArray w (λe w=>∃ (r:Bool),e=.returned (.bool r)/\((r=true->(Ret none 4 w))/\(r=false->(opE zA Value.map (Instr.makeMap 85 none) w (λx12 w=>opE zA zCR.v (QP 87 [(1,(.int .u64 1)),(3,(.map x12))].toArray) w (λx13 w=>opE zA zC (Instr.box 87 (zCR.v x13)) w (λx14 w=>QU (.pointer x14)/\(opE zA zC (zN 87 (.pointer x14) 0) w (λx17 w=>opE zA zC (zN 69 (.pointer x17) 1) w (λx18 w=>opU zA (zJ 37 (.pointer x18) (.int .u64 1)) w (λw=>∃ (I:Int->World->Prop) (μ:Int->World->Nat),I 0 w/\∀ (x21:Int) w,I x21 w->zFk x0 Ret x14 x21 w (λx21' w'=>I x21' w'/\μ x21' w'<μ x21 w))))))))))))))
set_option maxRecDepth 100000 in
theorem zMp (x0:Sl) (w:World) (Ret:(Option Addr)->Int->World->Prop) (H:zI6 x0 w Ret):Cl zA 11 [(Sl.v x0)].toArray w (λe w'=>∃ (r0:Option Addr) (r1:Int),e=.returned (.tuple [(.pointer r0),(.int .i64 r1)].toArray)/\Ret r0 r1 w'):=by
 unfold zI6 at H
 refine zk 57 (zipE 0 [(Sl.v x0)]) Tryz.func11 rfl rfl (by rfl) rfl ?_
 intro a g
 replace g:Sat [] 57 [(0,(Sl.v x0))] a:=g
 refine zK (zE (g.as_ rfl λ_ g=>g.as_ rfl λ_ g=>zL (tn (zK (zK (zE (g.mv rfl λ_ g=>g.purR (λw=>zAm g Tryz.underlying22 rfl) λ_ g=>g.pur (zBQ g rfl rfl) λ_ g=>zL (tn (zb g rfl (λhc=>?_) (λhc=>?_))))))))))
 ·replace H:=H.1 hc
  exact zK (zE (g.as_ rfl λ_ g=>g.as_ rfl λ_ g=>zL (tn (zg (tr (Zx g rfl rfl rfl ⟨_,_,rfl,H⟩))))))
 ·replace H:=H.2 hc
  refine zX (tn (zK (zK (zE (g.mv rfl λ_ g=>g.call (zZ g zRD rfl rfl) H λe w H=>?_)))))
  obtain ⟨r,rfl,H⟩:=H
  refine ⟨_,rfl,λ_ g=>(zL (tn (zd g rfl (λhc=>?_) (λhc=>?_))))⟩
  ·replace H:=H.1 hc
   exact zK (zE (g.as_ rfl λ_ g=>g.as_ rfl λ_ g=>zL (tn (zg (tr (Zx g rfl rfl rfl ⟨_,_,rfl,H⟩))))))
  ·replace H:=H.2 hc
   refine zX (tn (zK (zE (g.op (zI4) H λx12 w a H g=>g.op (zAy g rfl) H λx13 w a H g=>g.op (zBi g rfl) H λx14 w a H g=>g.as_ rfl λ_ g=>zL (tn (zK (zE (g.mv rfl λ_ g=>g.pur (zc g rfl H.1) λ_ g=>?_))))))))
   replace H:=H.2
   refine g.op (zQ g rfl) H λx17 w a H g=>g.op (zQ g rfl) H λx18 w a H g=>g.opu (zT g rfl rfl) H λw a H g=>zL (tn (zK (zK (zE (g.mv rfl λ_ g=>g.purR (λw=>zAm g Tryz.underlying22 rfl) λ_ g=>g.mv rfl λ_ g=>zL (tn (zW ?_)))))))
   obtain ⟨I_l1,μ_l1,h0,hb⟩:=H
   refine yF (ds:=[]) (N:=57) (σ:=Int) (λs=>[(21,(.int .i64 s)),(0,(Sl.v x0)),(4,(.pointer x14)),(19,(Sl.v x0)),(20,(.int .i64 (x0.len:Int)))]) (λs w=>I_l1 s w) (λs w=>μ_l1 s w) 0 h0 (g.wk) ?_
   intro x21 w a hI g
   try dsimp only at hI g
   obtain ⟨Kl1,hK_l1⟩:∃ K:Int->World->Prop,K=(λx21' w'=>I_l1 x21' w'/\μ_l1 x21' w'<μ_l1 x21 w):=⟨_,rfl⟩
   have H:zFk x0 Ret x14 x21 w Kl1:=by rw [hK_l1];exact hb x21 w hI
   clear hb h0 hI
   unfold zFk at H
   refine zK (zE (g.pur (yj g rfl rfl) λ_ g=>zL (tn (zK (zb g rfl (λhc=>?_) (λhc=>?_))))))
   ·replace H:=H.1 hc
    refine zX (tn (zK (zW (zK (zE (g.mv rfl λ_ g=>g.op (zH g rfl rfl) H λx24 w a H g=>g.op (zO g rfl) H λx25 w a H g=>g.op (YA) H λx6 w a H g=>g.as_ rfl λ_ g=>g.opu (zT g rfl rfl) H λw a H g=>zL (tn (zK (zK (Qc (by kernel_rfl) (by kernel_rfl) (g.qm rfl λ_ g=>g.qpur (zBQ g rfl rfl) λ_ g=>g.qm rfl λ_ g=>WQ.join (ds:=[]) (N:=57) (σ:=Bool) (λs=>[(38,(.bool s)),(0,(Sl.v x0)),(4,(.pointer x14)),(6,(.pointer x6)),(19,(Sl.v x0)),(20,(.int .i64 (x0.len:Int))),(21,(.int .i64 x21))]) (λs=>zEG Ret x14 x21 Kl1 x6 s w) 10 ?_ (λhr2=>?_))))))))))))
    ·intro x38 a H g
     try dsimp only at H g
     unfold zEG at H
     refine Qb (λw hB=>?_)
     replace H:=H w hB
     refine (tn (zd g rfl (λhc=>?_) (λhc=>?_)))
     ·replace H:=H.1 hc
      exact zK (zE (g.as_ rfl λ_ g=>g.as_ rfl λ_ g=>zL (tn (zg (tr (br (tr (tr (br (tr (Zx g rfl rfl rfl ⟨_,_,rfl,H⟩)))))))))))
     ·replace H:=H.2 hc
      refine zX (tn (zNR 16 H 17 (λC3 w hC0 H=>g.kp 0 rfl hC0 (Q7 (zR g rfl)) λ_ g=>g.kp 1 rfl hC0 (Q7 (zR g rfl)) λ_ g=>g.kp 2 rfl hC0 (Q7 (zc g rfl H.1)) λ_ g=>?_)))
      replace H:=H.2
      refine g.ko 3 rfl hC0 (zQ g rfl) H λx42 a H g=>g.ko 4 rfl hC0 (zQ g rfl) H λx43 a H g=>g.ko 6 rfl hC0 (zQ g rfl) H λx45 a H g=>g.ko 8 rfl hC0 (zQ g rfl) H λx47 a H g=>g.ko 5 rfl hC0 (zO g rfl) H λx44 a H g=>g.ko 7 rfl hC0 (zO g rfl) H λx46 a H g=>g.ko 9 rfl hC0 (zO g rfl) H λx48 a H g=>g.ko 10 rfl hC0 (zAy g rfl) H λx49 a H g=>WK.on 11 rfl ?_
      intro K hK
      refine g.wop (Z3 g rfl) H λx50 w a H g=>hK _ _ ⟨H.1,?_⟩
      have hC1:=H.1
      replace H:=H.2
      refine WK.on 12 rfl ?_
      intro K hK
      refine g.wop (zEh g rfl) H λx51 w a H g=>hK _ _ ⟨H.1,?_⟩
      have hC2:=H.1
      replace H:=H.2
      refine g.kp 13 rfl hC2 (Q7 (zc g rfl H.1)) λ_ g=>?_
      replace H:=H.2
      refine g.ko 14 rfl hC2 (zQ g rfl) H λx53 a H g=>g.ko 15 rfl hC2 (zQ g rfl) H λx54 a H g=>WK.la 16 rfl ?_
      intro K hK
      refine g.wopu (zT g rfl rfl) H λw a H g=>hK _ _ (WK.nil (by kernel_rfl) ((bn (tn (zE (g.pur (zn g rfl rfl) λ_ g=>g.mv rfl λ_ g=>?_))))))
      rw [hK_l1] at H
      exact zL (tn ⟨(zB .i64 (x21+1)),g.wk,H⟩)
    ·rcases Classical.em ((0<x21)) with hbr2|hbr2
     ·replace H:=H.1 hbr2
      replace g:=g.bool (b:=true) (t:=28) rfl (decide_eq_true hbr2)
      exact g.qon (by rfl) (by rfl) (g.qm rfl λ_ g=>g.qon (by rfl) (by rfl) (g.qm rfl λ_ g=>g.qon (by rfl) (by rfl) (g.qpur (zt g rfl rfl) λ_ g=>g.qon (by rfl) (by rfl) (g.qop (zH g rfl rfl) H λx32 a H g=>g.qon (by rfl) (by rfl) (g.qop (zQ g rfl) H λx33 a H g=>g.qon (by rfl) (by rfl) (g.qop (zO g rfl) H λx34 a H g=>g.qon (by rfl) (by rfl) (g.qop (zQ g rfl) H λx35 a H g=>g.qon (by rfl) (by rfl) (g.qop (zO g rfl) H λx36 a H g=>g.qon (by rfl) (by rfl) (g.qpur (zOp g rfl rfl) λ_ g=>g.qpur (zl g rfl rfl) λ_ g=>hr2 (!sLt x34 x36) _ H (g.wk))))))))))
     ·replace H:=H.2 hbr2
      replace g:=g.bool (b:=false) (t:=28) rfl (decide_eq_false hbr2)
      exact g.qoff (by rfl) (by rfl) (by decide) (λ_ g=>g.qoff (by rfl) (by rfl) (by decide) (λ_ g=>g.qoff (by rfl) (by rfl) (by decide) (λ_ g=>g.qoff (by rfl) (by rfl) (by decide) (λ_ g=>g.qoff (by rfl) (by rfl) (by decide) (λ_ g=>g.qoff (by rfl) (by rfl) (by decide) (λ_ g=>g.qoff (by rfl) (by rfl) (by decide) (λ_ g=>g.qoff (by rfl) (by rfl) (by decide) (λ_ g=>g.qoff (by rfl) (by rfl) (by decide) (λ_ g=>g.qpur (zm g rfl rfl) λ_ g=>hr2 false _ H (g.wk))))))))))
   ·replace H:=H.2 hc
    exact z8 (te (te (be (tn (zK (zE (g.mv rfl λ_ g=>g.as_ rfl λ_ g=>g.as_ rfl λ_ g=>zL (tn (zg (Zx g rfl rfl rfl ⟨_,_,rfl,H⟩))))))))))
def zDk (Ret:Bool->World->Prop) (x12:Bool) (w:World):Prop:=
 Ret x12 w
def zHg (x0:zM) (w:World) (Ret:Bool->World->Prop):Prop:=
 opE zA zC (Instr.box 66 (zM.v x0)) w (λx1 w=>opE zA zC (zN 66 (.pointer x1) 0) w (λx3 w=>opE zA za (zD 9 (.pointer x3)) w (λx4 w=>((256<(x4.size:Int))->(zDk Ret true w))/\(¬ (256<(x4.size:Int))->(opE zA zC (zN 66 (.pointer x1) 1) w (λx8 w=>opE zA za (zD 9 (.pointer x8)) w (λx9 w=>zDk Ret (decide (512<(x9.size:Int))) w)))))))
set_option maxRecDepth 100000 in
theorem zK9 (x0:zM) (w:World) (Ret:Bool->World->Prop) (H:zHg x0 w Ret):Cl zA 34 [(zM.v x0)].toArray w (λe w'=>∃ (r0:Bool),e=.returned (.bool r0)/\Ret r0 w'):=by
 unfold zHg at H
 refine zk 13 (zipE 0 [(zM.v x0)]) Tryz.func34 rfl rfl (by rfl) rfl ?_
 intro a g
 replace g:Sat [] 13 [(0,(zM.v x0))] a:=g
 refine zK (zE (g.op (zBi g rfl) H λx1 w a H g=>g.as_ rfl λ_ g=>zL (tn (zK (zE (g.op (zQ g rfl) H λx3 w a H g=>g.op (zO g rfl) H λx4 w a H g=>g.purR (λw=>zHJ g Tryz.underlying9 rfl) λ_ g=>g.pur (zBQ g rfl rfl) λ_ g=>g.mv rfl λ_ g=>WL.join (ds:=[]) (N:=13) (σ:=Bool) (λs=>[(12,(.bool s))]) (λs w=>zDk Ret s w) 5 ?_ (λhr1=>?_)))))))
 ·intro x12 w a H g
  try dsimp only at H g
  unfold zDk at H
  exact g.as_ rfl λ_ g=>zL (tn (zg (zw g rfl rfl ⟨_,rfl,H⟩)))
 ·rcases Classical.em ((256<(x4.size:Int))) with hbr1|hbr1
  ·replace H:=H.1 hbr1
   replace g:=g.bool (b:=true) (t:=7) rfl (decide_eq_true hbr1)
   exact g.off (by rfl) (by rfl) (by decide) (λ_ g=>g.off (by rfl) (by rfl) (by decide) (λ_ g=>g.off (by rfl) (by rfl) (by decide) (λ_ g=>g.off (by rfl) (by rfl) (by decide) (λ_ g=>g.pur (zl g rfl rfl) λ_ g=>hr1 true _ _ H (g.wk)))))
  ·replace H:=H.2 hbr1
   replace g:=g.bool (b:=false) (t:=7) rfl (decide_eq_false hbr1)
   exact g.on (by rfl) (by rfl) (g.op (zQ g rfl) H λx8 w a H g=>g.on (by rfl) (by rfl) (g.op (zO g rfl) H λx9 w a H g=>g.on (by rfl) (by rfl) (g.purR (λw=>zHJ g Tryz.underlying9 rfl) λ_ g=>g.on (by rfl) (by rfl) (g.pur (zBQ g rfl rfl) λ_ g=>g.pur (zm g rfl rfl) λ_ g=>hr1 (decide (512<(x9.size:Int))) _ _ H (g.wk)))))
end Go.Proofs.YtealcoghiaeiiaaGreat.VG
set_option linter.unusedVariables false
namespace Go.Proofs.YtealcoghiaeiiaaGreat.VG
open Go.VB Go.Proofs Go.RowKit
def verP (p:Pai):Ver:=⟨p.Key,1,p.Val,false⟩
def newS (l:List Pai):St:=⟨l.map verP,1,1,0,λ_=>none⟩
def zH0 (p:Pai):Bool:=decide (256<(p.Key.size:Int))||decide (512<(p.Val.size:Int))
def zG5 (l:List Pai) (n:Nat):Prop:=∀ j x y,j+1<n->l[j]?=some x->l[j+1]?=some y->sLt x.Key y.Key=true
theorem zPD (p:Pai) (w:World) {k:Bool->World->Prop} (H:∀ w',Bel w w'->k (zH0 p) w'):Cl zA zId [zM.v p].toArray w (λe w'=>∃ r0:Bool,e=.returned (.bool r0)/\k r0 w'):=by
 refine zK9 p w k ?_
 unfold zHg zDk
 refine zBD (cs:=p.cells) rfl λB w1 b1 hX _=>?_
 have h:=H w1 b1
 unfold zH0 at h
 refine yI zBP zo hX.at p.Key rfl ⟨λhc=>?_,λhc=>?_⟩
 ·rw [decide_eq_true hc] at h;exact h
 ·rw [decide_eq_false hc] at h
  exact yI zGz zo hX.at p.Val rfl h
abbrev zJA (sl:Sl) (low:Int) (mb:Nat):List Value:=[Sl.v sl,.int .u64 low,.int .u64 1,.int .i64 0,.map (some mb)]
theorem zOq {w:World} {x:Sl} {l:List Pai} (hd:zLV w x l) {k:Option Addr->Int->World->Prop}
  (H0:4096<l.length->k none 3 w)
  (H1:l.length<=4096->l.any zH0=true->∀ w',Bel w w'->k none 4 w')
  (H2:l.length<=4096->l.any zH0=false->¬ zG5 l l.length->∀ w',Bel w w'->k none 2 w')
  (H3:l.length<=4096->l.any zH0=false->zG5 l l.length->∀ b ρ w',Bel w w'->Mgr ρ w' b (newS l)->(∀ k,k<w.heap.size->ρ k=none)->k (ptrA b) 0 w'):
  Cl zA zMP [Sl.v x].toArray w (λe w'=>∃ (r0:Option Addr) (r1:Int),e=.returned (.tuple [.pointer r0,.int .i64 r1].toArray)/\k r0 r1 w'):=by
 have dbig:=hd.big;have dcap:=hd.cap;have dlen:=hd.len
 refine zMp x w k ?_
 unfold zI6
 refine ⟨λhc=>H0 (by omega),λhc=>?_⟩
 have hl:l.length<=4096:=by omega
 refine zJN hd (p:=zH0) (λd _ w' k' hb hk=>.inl ⟨zId,[],[],rfl,zQ1,zPD d w' hk⟩) λw1 b1=>⟨λhc=>H1 hl hc w1 b1,λhno=>?_⟩
 refine zMn (ek:=zU .i64) (ev:=zC) λhM=>?_
 have hB2:=Bel.alloc w1 (.map #[] 0)
 have s2:=size_alloc' w1 (.map #[] 0)
 generalize hmb:w1.heap.size=mb at hM s2 ⊢
 generalize w1.alloc (.map #[] 0)=w2 at hM hB2 s2 ⊢
 refine ⟨⟨⟨Sl.none,0⟩,1,0,some mb⟩,w2,by kernel_rfl,?_⟩
 refine zBD (cs:=zJA Sl.none 0 mb) rfl λB w3 b3 hR hB0=>⟨trivial,?_⟩
 have hmb2:mb<w2.heap.size:=by omega
 refine ⟨_,w3,xV _ _,?_⟩
 refine ⟨_,w3,zAe _ _,?_⟩
 rw [zF6]
 refine zHO (off:=0+1) yL hR rfl (by simp) rfl λw4 hR4 g4=>?_
 replace hR4:Row w4 B (zJA Sl.none 1 mb) Zy:=hR4
 have s3:=b3.le
 have s4:=g4.size
 have hBm:B≠mb:=by omega
 have hM4:=(hM.bel b3).grown g4 (by simpa using hBm)
 have b12:=b1.trans hB2
 have s12:=b12.le
 have b04:Bel w w4:=(b12.trans b3).grown g4 λr hr=>by cases hr;omega
 have hBl:B<w4.heap.size:=hR4.lt
 refine ⟨λi W=>∃ (n:Nat) (sl:Sl),i=(n:Int)/\n<=l.length/\Row W B (zJA sl 1 mb) Zy/\Zl w4.heap.size W sl ((l.take n).map verP)/\Zv (zU .i64) zC W mb (λ_=>none)/\Bel w W/\w4.heap.size<=W.heap.size/\zG5 l n,λi _=>(x.len - i).toNat,
  ⟨0,Sl.none,rfl,by omega,hR4,OwnS.nil _ _ _ _ _,hM4,b04,zV _,λj _ _ h=>by omega⟩,?_⟩
 rintro i W ⟨n,sl,rfl,hn,hRW,hOW,hMW,hbW,hsW,hrise⟩
 unfold zFk
 refine ⟨λhc=>?_,λhc=>?_⟩
 ·obtain ⟨p,hp⟩:=getE (l:=l) (n:=n) (by omega)
  refine zFX (hd.bel hbW) zAT zBw (by omega) (x:=p) (by simpa using hp) λad hA=>?_
  refine zBc zBS p rfl hA rfl ?_
  refine zCd zIz rfl zBS (cs:=p.cells) rfl rfl rfl λX W1 b5 hX hX0=>?_
  have J:∀ (c:Bool),(c=true->¬ zG5 l l.length)->(c=false->zG5 l (n+1))->zEG k (ptrA B) (n:Int) (λx21' w'=>(∃ (n:Nat) (sl:Sl),x21'=(n:Int)/\n<=l.length/\Row w' B (zJA sl 1 mb) Zy/\Zl w4.heap.size w' sl ((l.take n).map verP)/\Zv (zU .i64) zC w' mb (λ_=>none)/\Bel w w'/\w4.heap.size<=w'.heap.size/\zG5 l n)/\(x.len - x21').toNat<(x.len - (n:Int)).toNat) (ptrA X) c W1:=by
   intro c hc1 hc0
   unfold zEG
   intro W2 b6
   refine ⟨λh1=>H2 hl hno (hc1 h1) W2 ((hbW.trans b5).trans b6),λh1=>?_⟩
   have hR2:=(hRW.bel b5).bel b6
   have hX2:=hX.bel b6
   have b56:=b5.trans b6
   refine ⟨λW'=>Row W' B (zJA sl 1 mb) Zy/\Row W' X p.cells zBs,λW3 b7=>⟨⟨hR2.bel b7,hX2.bel b7⟩,trivial,?_⟩⟩
   refine zFZ xV ?_
   refine zFZ yC ?_
   refine zFZ zBP ?_
   refine zFZ zGz ?_
   refine zCz yB sl (λW hW=>by rw [zF6];exact hW.1.at.fld rfl) ?_
   refine zCz zo p.Key (λW hW=>hW.2.at.fld rfl) ?_
   refine zCz zo p.Val (λW hW=>hW.2.at.fld rfl) ?_
   refine ⟨verP p,λW hW=>by kernel_rfl,?_⟩
   refine ⟨_,_,zGb (verP p) W3,?_⟩
   have b8:=Bel.alloc W3 (.cells (verP p).cells.toArray yE)
   have hlit:zEc (W3.alloc (.cells (verP p).cells.toArray yE)) ⟨some ⟨W3.heap.size,0,none⟩,1,1⟩ [verP p]:=by
    have:=Rd.lit (c:=zG.cells) (n:=4) (λ_=>rfl) [verP p] (by simp) W3 yE
    simpa using this
   have s8:=size_alloc' W3 (.cells (verP p).cells.toArray yE)
   generalize W3.alloc (.cells (verP p).cells.toArray yE)=W4 at b8 hlit s8 ⊢
   have b58:=(b56.trans b7).trans b8
   have hR8:=(hR2.bel b7).bel b8
   have hX8:=(hX2.bel b7).bel b8
   refine ⟨⟨hR8,hX8⟩,?_⟩
   have hO8:=hOW.bel b58
   have hs8:=b58.le
   refine zNL (w0:=w) hO8 hlit (hbW.trans b58) b04.le (by omega) (by simp;omega) λsl' W5 hO9 b9 g9=>?_
   have hne:(Sl.v sl).ownBlock≠some B:=λe=>by have:=hO8.lo e;omega
   have hneX:(Sl.v sl).ownBlock≠some X:=λe=>by have:=hOW.lt e;omega
   have hnem:(Sl.v sl).ownBlock≠some mb:=λe=>by have:=hO8.lo e;omega
   have hR9:=hR8.grown g9 hne
   refine ⟨⟨hR9,hX8.grown g9 hneX⟩,trivial,?_⟩
   refine zFZ xV ?_
   refine zFZ yC ?_
   rw [zF6]
   refine zHO (off:=0+0) yB hR9 (by cases sl' with|mk a l c=>cases a<;>rfl) (by simp) (by cases sl' with|mk a l c=>cases a<;>rfl) λW6 hR10 g10=>?_
   replace hR10:Row W6 B (zJA sl' 1 mb) Zy:=hR10
   rw [wr64 (by omega) (by omega)]
   have hlast:(l.take (n+1)).map verP=(l.take n).map verP++[verP p]:=by rw [zCy hp,List.map_append];rfl
   refine ⟨⟨n+1,sl',by omega,by omega,hR10,?_,((hMW.bel b58).grown g9 hnem).grown g10 (by simpa using hBm),b9.grown g10 λr hr=>by cases hr;omega,by have:=g9.size;have:=g10.size;omega,hc0 h1⟩,by omega⟩
   rw [hlast]
   refine hO9.kept g10 (.inr λe=>?_)
   have:=hO9.lo e;omega
  refine ⟨λh0=>?_,λh0=>?_⟩
  ·obtain ⟨q,hq⟩:=getE (l:=l) (n:=n - 1) (by omega)
   have hdW:=(hd.bel hbW).bel b5
   rw [wr64 (by omega) (by omega)]
   refine zIw hdW zAT zBw (by omega) (x:=q) (by rw [show ((n:Int) - 1).toNat=n - 1 from by omega];exact hq) λad hA=>?_
   refine zGQ zBP zo hA q.Key rfl ?_
   refine zGQ zBP zo hX.at p.Key rfl ?_
   refine J _ (λh1 h2=>?_) λh1=>?_
   ·have:=h2 (n - 1) q p (by omega) hq (by rw [show n - 1+1=n from by omega];exact hp)
    rw [this] at h1;cases h1
   ·intro j y z hj hy hz
    by_cases hjn:j+1<n
    ·exact hrise j y z hjn hy hz
    ·obtain rfl:j=n - 1:=by omega
     rw [hq] at hy;cases hy
     rw [show n - 1+1=n from by omega,hp] at hz;cases hz
     simpa using h1
  ·refine J false (λh=>(nomatch h)) λ_ j y z hj hy hz=>by omega
 ·obtain rfl:n=l.length:=by omega
  rw [List.take_length] at hOW
  have hold:∀ q,q<w.heap.size->q≠B/\q≠mb/\(Sl.v sl).ownBlock≠some q:=λq hq=>by
   have:=b1.le
   have:=b04.le
   exact ⟨by omega,by omega,λe=>by have:=hOW.lo e;omega⟩
  refine H3 hl hno hrise B (λq=>if q=B then some .mg else if q=mb then some .om else if (Sl.v sl).ownBlock=some q then some .ve else none) W hbW ⟨sl,mb,λ_=>⟨0,0,Sl.none⟩,?_⟩ λq hq=>?_
  ·exact {
    row:=hRW
    rmg:=if_pos rfl
    vers:=Zl.rd hOW
    rve:=λq hq=>by
     have:=hOW.lo hq
     rw [if_neg (by omega),if_neg (by omega),if_pos hq]
    mp:=hMW
    rom:=by rw [if_neg hBm.symm,if_pos rfl]
    tx:=λn t ht=>by cases ht
    lt:=λq hq=>by
     split at hq
     ·rename_i e;subst e;exact hRW.lt
     ·split at hq
      ·rename_i e;subst e;exact hMW.lt
      ·split at hq
       ·rename_i e;exact hOW.lt e
       ·exact absurd rfl hq}
  ·obtain ⟨h1,h2,h3⟩:=hold q hq
   rw [if_neg h1,if_neg h2,if_neg h3]
end Go.Proofs.YtealcoghiaeiiaaGreat.VG
set_option linter.unusedVariables false
namespace Go.Proofs.YtealcoghiaeiiaaGreat.VG
open Go.VB Go.Proofs Go.RowKit
theorem zQH {w:World} {x y:Wri} {o1 o2:Operand} {k:Bool->Prop} (H:∀ b:Bool,(b=true↔¬ x=y)->k b):
  opB zA QQ (do eqGuard .neq Z8 o1 o2 (zI.v x) (zI.v y);binOp .neq Z8 (zI.v x) (zI.v y)) w k:=by
 obtain ⟨r,h1,h2⟩:=zKI x y o1 o2
 exact ⟨r,λw' _=>h1 w',H r h2⟩
theorem zOP {w:World} {x0 x1:Sl} {l m:List Wri} (h:zIl w x0 l) (h':zIl w x1 m) {k:Bool->World->Prop} (H:∀ r w',(r=true↔l=m)->Bel w w'->k r w'):
  Cl zA zGT [Sl.v x0,Sl.v x1].toArray w (λe w'=>∃ r0:Bool,e=.returned (.bool r0)/\k r0 w'):=by
 refine zGU x0 x1 w k ?_
 have hbig:=h.big;have hcap:=h.cap;have hlen:=h.len;have hlen':=h'.len
 unfold zCO
 refine ⟨λhc=>H false w ⟨λh=>(nomatch h),λh=>?_⟩ (Bel.refl _),λhc=>?_⟩
 ·subst h;omega
 have hc':(x0.len:Int)=x1.len:=Classical.not_not.1 hc
 refine ⟨λx w1=>∃ n:Nat,x=(n:Int)/\n<=l.length/\Bel w w1/\l.take n=m.take n,λx _=>(x0.len - x).toNat,⟨0,rfl,by omega,Bel.refl _,rfl⟩,?_⟩
 rintro x w1 ⟨n,rfl,hn,hb,hq⟩
 unfold zAV
 refine ⟨λhc=>?_,λhc=>?_⟩
 ·obtain ⟨e,he⟩:∃ e,l[n]?=some e:=⟨l[n]'(by omega),by simp⟩
  obtain ⟨f,hf⟩:∃ f,m[n]?=some f:=⟨m[n]'(by omega),by simp⟩
  refine zIw (h.bel hb) zBf zC0 (by omega) (x:=e) (by simpa using he) λad hA=>?_
  refine zIq YT e rfl hA rfl ?_
  refine zIw (h'.bel hb) zBf zC0 (by omega) (x:=f) (by simpa using hf) λad' hA'=>?_
  refine zIq YT f rfl hA' rfl ?_
  refine zQH λb hbb=>?_
  intro w2 hb2
  refine ⟨λht=>H false w2 ⟨λh=>(nomatch h),λh=>?_⟩ (hb.trans hb2),λhf0=>?_⟩
  ·subst h;rw [he] at hf;exact absurd (Option.some.inj hf) (hbb.1 ht)
  ·have hef:e=f:=Classical.not_not.1 λh=>by rw [hbb.2 h] at hf0;cases hf0
   subst hef
   rw [wr64 (by omega) (by omega)]
   exact ⟨⟨n+1,by omega,by omega,hb.trans hb2,zKs hq he hf⟩,by dsimp only;omega⟩
 ·obtain rfl:n=l.length:=by omega
  refine H true w1 ⟨λ_=>?_,λ_=>rfl⟩ hb
  rw [List.take_length,List.take_of_length_le (by omega)] at hq
  exact hq
structure Ans where
 why:Int
 tx:Int
 val:ByteArray
 is:Bool
 pairs:List Pai
 done:List Wri
 time:Int
def zOK (w:World) (x:yA) (a:Ans):Prop:=x.Why=a.why/\x.Tx=a.tx/\x.Val=a.val/\x.Is=a.is/\zLV w x.Pairs a.pairs/\zIl w x.Done a.done/\x.Time=a.time
theorem zOK.bel {w w':World} {x:yA} {a:Ans} (h:zOK w x a) (hb:Bel w w'):zOK w' x a:=⟨h.1,h.2.1,h.2.2.1,h.2.2.2.1,h.2.2.2.2.1.bel hb,h.2.2.2.2.2.1.bel hb,h.2.2.2.2.2.2⟩
end Go.Proofs.YtealcoghiaeiiaaGreat.VG
set_option linter.unusedVariables false
set_option linter.unusedSimpArgs false
namespace Go.Proofs.YtealcoghiaeiiaaGreat.VG
open Go.VB Go.Proofs
def zAg (Ret:Bool->World->Prop) (x117:Bool) (w:World):Prop:=
 Ret x117 w
def zAc (Ret:Bool->World->Prop) (r:Option Addr) (x112:Bool) (w:World):Prop:=
 (x112=true->(Cl zA 31 [(.pointer r)].toArray w (λe w=>∃ (r_20:Int),e=.returned (.int .u64 r_20)/\(zAg Ret (decide (r_20=2)) w))))/\(x112=false->(zAg Ret false w))
def zAd (Ret:Bool->World->Prop) (r:Option Addr) (r_19:Int) (x108:Bool) (w:World):Prop:=
 (x108=true->(zAc Ret r (decide (r_19=10)) w))/\(x108=false->(zAc Ret r false w))
def zAr (Ret:Bool->World->Prop) (r:Option Addr) (r_16:Int) (r_19:Int) (x104:Bool) (w:World):Prop:=
 (x104=true->(zAd Ret r r_19 (decide (r_16=0)) w))/\(x104=false->(zAd Ret r r_19 false w))
def zA7 (Ret:Bool->World->Prop) (r:Option Addr) (r_15:Int) (r_16:Int) (r_19:Int) (x100:Bool) (w:World):Prop:=
 (x100=true->(zAr Ret r r_16 r_19 (decide (r_15=2)) w))/\(x100=false->(zAr Ret r r_16 r_19 false w))
def zAw (Ret:Bool->World->Prop) (r:Option Addr) (r_14:Sl) (r_15:Int) (r_16:Int) (r_19:Int) (x94:Bool) (w:World):Prop:=
 (x94=true->(opE zA zI.v (QP 34 [(0,(.string (ByteArray.mk #[97]))),(1,(.string (ByteArray.mk #[50])))].toArray) w (λx97 w=>opE zA Sl.v (zq 30 1 [(0,(zI.v x97))].toArray) w (λx98 w=>Cl zA 28 [(Sl.v r_14),(Sl.v x98)].toArray w (λe w=>∃ (r_21:Bool),e=.returned (.bool r_21)/\(zA7 Ret r r_15 r_16 r_19 r_21 w))))))/\(x94=false->(zA7 Ret r r_15 r_16 r_19 false w))
def zA4 (Ret:Bool->World->Prop) (r:Option Addr) (r_13:Int) (r_14:Sl) (r_15:Int) (r_16:Int) (r_19:Int) (x90:Bool) (w:World):Prop:=
 (x90=true->(zAw Ret r r_14 r_15 r_16 r_19 (decide (r_13=0)) w))/\(x90=false->(zAw Ret r r_14 r_15 r_16 r_19 false w))
def zAo (Ret:Bool->World->Prop) (r:Option Addr) (r_12:Int) (r_13:Int) (r_14:Sl) (r_15:Int) (r_16:Int) (r_19:Int) (x86:Bool) (w:World):Prop:=
 (x86=true->(zA4 Ret r r_13 r_14 r_15 r_16 r_19 (decide (r_12=0)) w))/\(x86=false->(zA4 Ret r r_13 r_14 r_15 r_16 r_19 false w))
def zAv (Ret:Bool->World->Prop) (r:Option Addr) (r_8:Int) (r_12:Int) (r_13:Int) (r_14:Sl) (r_15:Int) (r_16:Int) (r_19:Int) (x82:Bool) (w:World):Prop:=
 (x82=true->(zAo Ret r r_12 r_13 r_14 r_15 r_16 r_19 (decide (r_8=0)) w))/\(x82=false->(zAo Ret r r_12 r_13 r_14 r_15 r_16 r_19 false w))
def zA3 (Ret:Bool->World->Prop) (r:Option Addr) (r_7:Bool) (r_8:Int) (r_12:Int) (r_13:Int) (r_14:Sl) (r_15:Int) (r_16:Int) (r_19:Int) (x79:Bool) (w:World):Prop:=
 (x79=true->(zAv Ret r r_8 r_12 r_13 r_14 r_15 r_16 r_19 r_7 w))/\(x79=false->(zAv Ret r r_8 r_12 r_13 r_14 r_15 r_16 r_19 false w))
def zAq (Ret:Bool->World->Prop) (r:Option Addr) (r_6:ByteArray) (r_7:Bool) (r_8:Int) (r_12:Int) (r_13:Int) (r_14:Sl) (r_15:Int) (r_16:Int) (r_19:Int) (x75:Bool) (w:World):Prop:=
 (x75=true->(zA3 Ret r r_7 r_8 r_12 r_13 r_14 r_15 r_16 r_19 (decide (r_6=(ByteArray.mk #[49]))) w))/\(x75=false->(zA3 Ret r r_7 r_8 r_12 r_13 r_14 r_15 r_16 r_19 false w))
def zAn (Ret:Bool->World->Prop) (r:Option Addr) (r_4:Int) (r_6:ByteArray) (r_7:Bool) (r_8:Int) (r_12:Int) (r_13:Int) (r_14:Sl) (r_15:Int) (r_16:Int) (r_19:Int) (x71:Bool) (w:World):Prop:=
 (x71=true->(zAq Ret r r_6 r_7 r_8 r_12 r_13 r_14 r_15 r_16 r_19 (decide (r_4=2)) w))/\(x71=false->(zAq Ret r r_6 r_7 r_8 r_12 r_13 r_14 r_15 r_16 r_19 false w))
def zEW (w:World) (Ret:Bool->World->Prop):Prop:=
 opE zA zM.v (QP 66 [(0,(.string (ByteArray.mk #[97]))),(1,(.string (ByteArray.mk #[49])))].toArray) w (λx19 w=>opE zA Sl.v (zq 22 1 [(0,(zM.v x19))].toArray) w (λx20 w=>Cl zA 11 [(Sl.v x20)].toArray w (λe w=>∃ (r:Option Addr) (r_1:Int),e=.returned (.tuple [(.pointer r),(.int .i64 r_1)].toArray)/\(opE zA QQ (do eqGuard .eql 26 (.tmp 24) (.const (.pointer none)) (.pointer r) (.pointer none);binOp .eql 26 (.pointer r) (.pointer none)) w (λx25 w=>(x25=true->(Ret false w))/\(x25=false->(Cl zA 12 [(.pointer r)].toArray w (λe w=>∃ (r_2:Int) (r_3:Int),e=.returned (.tuple [(.int .i64 r_2),(.int .i64 r_3)].toArray)/\(Cl zA 12 [(.pointer r)].toArray w (λe w=>∃ (r_4:Int) (r_5:Int),e=.returned (.tuple [(.int .i64 r_4),(.int .i64 r_5)].toArray)/\(Cl zA 22 [(.pointer r),(.int .i64 r_2),(.string (ByteArray.mk #[97]))].toArray w (λe w=>∃ (r_6:ByteArray) (r_7:Bool) (r_8:Int),e=.returned (.tuple [(.string r_6),(.bool r_7),(.int .i64 r_8)].toArray)/\(Cl zA 22 [(.pointer r),(.int .i64 r_4),(.string (ByteArray.mk #[97]))].toArray w (λe w=>∃ (r_9:ByteArray) (r_10:Bool) (r_11:Int),e=.returned (.tuple [(.string r_9),(.bool r_10),(.int .i64 r_11)].toArray)/\(Cl zA 14 [(.pointer r),(.int .i64 r_2),(.string (ByteArray.mk #[97])),(.string (ByteArray.mk #[50]))].toArray w (λe w=>∃ (r_12:Int),e=.returned (.int .i64 r_12)/\(Cl zA 14 [(.pointer r),(.int .i64 r_4),(.string (ByteArray.mk #[97])),(.string (ByteArray.mk #[51]))].toArray w (λe w=>∃ (r_13:Int),e=.returned (.int .i64 r_13)/\(Cl zA 15 [(.pointer r),(.int .i64 r_2)].toArray w (λe w=>∃ (r_14:Sl) (r_15:Int) (r_16:Int),e=.returned (.tuple [(Sl.v r_14),(.int .u64 r_15),(.int .i64 r_16)].toArray)/\(Cl zA 15 [(.pointer r),(.int .i64 r_4)].toArray w (λe w=>∃ (r_17:Sl) (r_18:Int) (r_19:Int),e=.returned (.tuple [(Sl.v r_17),(.int .u64 r_18),(.int .i64 r_19)].toArray)/\(((r_1=0)->(zAn Ret r r_4 r_6 r_7 r_8 r_12 r_13 r_14 r_15 r_16 r_19 (decide (r_2=1)) w))/\(¬ (r_1=0)->(zAn Ret r r_4 r_6 r_7 r_8 r_12 r_13 r_14 r_15 r_16 r_19 false w)))))))))))))))))))))))))
set_option maxRecDepth 100000 in
theorem zHr (w:World) (Ret:Bool->World->Prop) (H:zEW w Ret):Cl zA 10 [].toArray w (λe w'=>∃ (r0:Bool),e=.returned (.bool r0)/\Ret r0 w'):=by
 unfold zEW at H
 refine zk 118 (zipE 0 []) Tryz.func10 rfl rfl (by rfl) rfl ?_
 intro a g
 replace g:Sat [] 118 [] a:=g
 refine zK (zE (g.as_ rfl λ_ g=>zL (tn (zK (zE (g.op (zAy g rfl) H λx19 w a H g=>g.op (Z3 g rfl) H λx20 w a H g=>g.call (zZ g zPd rfl rfl) H λe w H=>?_))))))
 obtain ⟨r,r_1,rfl,H⟩:=H
 refine ⟨_,rfl,λ_ g=>(g.mv rfl λ_ g=>g.pur (zY g rfl rfl) λ_ g=>g.pur (zY g rfl rfl) λ_ g=>g.as_ rfl λ_ g=>g.as_ rfl λ_ g=>zL (tn (zK (zK (zE (g.mv rfl λ_ g=>g.op (zCV g rfl rfl) H λx25 w a H g=>zL (tn (zd g rfl (λhc=>?_) (λhc=>?_)))))))))⟩
 ·replace H:=H.1 hc
  exact zK (zE (g.as_ rfl λ_ g=>zL (tn (zg (tr (zw g rfl rfl ⟨_,rfl,H⟩))))))
 ·replace H:=H.2 hc
  refine zX (tn (zK (zE (g.mv rfl λ_ g=>g.call (zZ g zMv rfl rfl) H λe w H=>?_))))
  obtain ⟨r_2,r_3,rfl,H⟩:=H
  refine ⟨_,rfl,λ_ g=>(g.mv rfl λ_ g=>g.pur (zY g rfl rfl) λ_ g=>g.pur (zY g rfl rfl) λ_ g=>g.as_ rfl λ_ g=>g.as_ rfl λ_ g=>zL (tn (zK (zE (g.mv rfl λ_ g=>g.call (zZ g zMv rfl rfl) H λe w H=>?_)))))⟩
  obtain ⟨r_4,r_5,rfl,H⟩:=H
  refine ⟨_,rfl,λ_ g=>(g.mv rfl λ_ g=>g.pur (zY g rfl rfl) λ_ g=>g.pur (zY g rfl rfl) λ_ g=>g.as_ rfl λ_ g=>g.as_ rfl λ_ g=>zL (tn (zK (zE (g.mv rfl λ_ g=>g.mv rfl λ_ g=>g.call (zZ g zLU rfl rfl) H λe w H=>?_)))))⟩
  obtain ⟨r_6,r_7,r_8,rfl,H⟩:=H
  refine ⟨_,rfl,λ_ g=>(g.mv rfl λ_ g=>g.pur (zY g rfl rfl) λ_ g=>g.pur (zY g rfl rfl) λ_ g=>g.pur (zY g rfl rfl) λ_ g=>g.as_ rfl λ_ g=>g.as_ rfl λ_ g=>g.as_ rfl λ_ g=>zL (tn (zK (zE (g.mv rfl λ_ g=>g.mv rfl λ_ g=>g.call (zZ g zLU rfl rfl) H λe w H=>?_)))))⟩
  obtain ⟨r_9,r_10,r_11,rfl,H⟩:=H
  refine ⟨_,rfl,λ_ g=>(zL (tn (zK (zE (g.mv rfl λ_ g=>g.mv rfl λ_ g=>g.call (zZ g zOR rfl rfl) H λe w H=>?_)))))⟩
  obtain ⟨r_12,rfl,H⟩:=H
  refine ⟨_,rfl,λ_ g=>(g.mv rfl λ_ g=>g.mv rfl λ_ g=>g.call (zZ g zOR rfl rfl) H λe w H=>?_)⟩
  obtain ⟨r_13,rfl,H⟩:=H
  refine ⟨_,rfl,λ_ g=>(g.as_ rfl λ_ g=>g.as_ rfl λ_ g=>zL (tn (zK (zE (g.mv rfl λ_ g=>g.mv rfl λ_ g=>g.call (zZ g zNO rfl rfl) H λe w H=>?_)))))⟩
  obtain ⟨r_14,r_15,r_16,rfl,H⟩:=H
  refine ⟨_,rfl,λ_ g=>(g.mv rfl λ_ g=>g.pur (zY g rfl rfl) λ_ g=>g.pur (zY g rfl rfl) λ_ g=>g.pur (zY g rfl rfl) λ_ g=>g.as_ rfl λ_ g=>g.as_ rfl λ_ g=>g.as_ rfl λ_ g=>zL (tn (zK (zE (g.mv rfl λ_ g=>g.mv rfl λ_ g=>g.call (zZ g zNO rfl rfl) H λe w H=>?_)))))⟩
  obtain ⟨r_17,r_18,r_19,rfl,H⟩:=H
  refine ⟨_,rfl,λ_ g=>(g.mv rfl λ_ g=>g.pur (zY g rfl rfl) λ_ g=>g.pur (zY g rfl rfl) λ_ g=>g.pur (zY g rfl rfl) λ_ g=>g.as_ rfl λ_ g=>g.as_ rfl λ_ g=>g.as_ rfl λ_ g=>zL (tn (zK (zE (g.mv rfl λ_ g=>g.pur (ZZ g rfl rfl) λ_ g=>g.mv rfl λ_ g=>WL.join (ds:=[]) (N:=118) (σ:=Bool) (λs=>[(71,(.bool s)),(1,(.pointer r)),(5,(.int .i64 r_4)),(7,(.string r_6)),(8,(.bool r_7)),(9,(.int .i64 r_8)),(10,(.int .i64 r_12)),(11,(.int .i64 r_13)),(12,(Sl.v r_14)),(13,(.int .u64 r_15)),(14,(.int .i64 r_16)),(17,(.int .i64 r_19))]) (λs w=>zAn Ret r r_4 r_6 r_7 r_8 r_12 r_13 r_14 r_15 r_16 r_19 s w) 3 ?_ (λhr1=>?_))))))⟩
  ·intro x71 w a H g
   try dsimp only at H g
   unfold zAn at H
   refine g.mv rfl λ_ g=>WL.join (ds:=[]) (N:=118) (σ:=Bool) (λs=>[(75,(.bool s)),(1,(.pointer r)),(7,(.string r_6)),(8,(.bool r_7)),(9,(.int .i64 r_8)),(10,(.int .i64 r_12)),(11,(.int .i64 r_13)),(12,(Sl.v r_14)),(13,(.int .u64 r_15)),(14,(.int .i64 r_16)),(17,(.int .i64 r_19))]) (λs w=>zAq Ret r r_6 r_7 r_8 r_12 r_13 r_14 r_15 r_16 r_19 s w) 3 ?_ (λhr2=>?_)
   ·intro x75 w a H g
    try dsimp only at H g
    unfold zAq at H
    refine g.mv rfl λ_ g=>WL.join (ds:=[]) (N:=118) (σ:=Bool) (λs=>[(79,(.bool s)),(1,(.pointer r)),(8,(.bool r_7)),(9,(.int .i64 r_8)),(10,(.int .i64 r_12)),(11,(.int .i64 r_13)),(12,(Sl.v r_14)),(13,(.int .u64 r_15)),(14,(.int .i64 r_16)),(17,(.int .i64 r_19))]) (λs w=>zA3 Ret r r_7 r_8 r_12 r_13 r_14 r_15 r_16 r_19 s w) 3 ?_ (λhr3=>?_)
    ·intro x79 w a H g
     try dsimp only at H g
     unfold zA3 at H
     refine g.mv rfl λ_ g=>WL.join (ds:=[]) (N:=118) (σ:=Bool) (λs=>[(82,(.bool s)),(1,(.pointer r)),(9,(.int .i64 r_8)),(10,(.int .i64 r_12)),(11,(.int .i64 r_13)),(12,(Sl.v r_14)),(13,(.int .u64 r_15)),(14,(.int .i64 r_16)),(17,(.int .i64 r_19))]) (λs w=>zAv Ret r r_8 r_12 r_13 r_14 r_15 r_16 r_19 s w) 2 ?_ (λhr4=>?_)
     ·intro x82 w a H g
      try dsimp only at H g
      unfold zAv at H
      refine g.mv rfl λ_ g=>WL.join (ds:=[]) (N:=118) (σ:=Bool) (λs=>[(86,(.bool s)),(1,(.pointer r)),(10,(.int .i64 r_12)),(11,(.int .i64 r_13)),(12,(Sl.v r_14)),(13,(.int .u64 r_15)),(14,(.int .i64 r_16)),(17,(.int .i64 r_19))]) (λs w=>zAo Ret r r_12 r_13 r_14 r_15 r_16 r_19 s w) 3 ?_ (λhr5=>?_)
      ·intro x86 w a H g
       try dsimp only at H g
       unfold zAo at H
       refine g.mv rfl λ_ g=>WL.join (ds:=[]) (N:=118) (σ:=Bool) (λs=>[(90,(.bool s)),(1,(.pointer r)),(11,(.int .i64 r_13)),(12,(Sl.v r_14)),(13,(.int .u64 r_15)),(14,(.int .i64 r_16)),(17,(.int .i64 r_19))]) (λs w=>zA4 Ret r r_13 r_14 r_15 r_16 r_19 s w) 3 ?_ (λhr6=>?_)
       ·intro x90 w a H g
        try dsimp only at H g
        unfold zA4 at H
        refine g.mv rfl λ_ g=>WL.join (ds:=[]) (N:=118) (σ:=Bool) (λs=>[(94,(.bool s)),(1,(.pointer r)),(12,(Sl.v r_14)),(13,(.int .u64 r_15)),(14,(.int .i64 r_16)),(17,(.int .i64 r_19))]) (λs w=>zAw Ret r r_14 r_15 r_16 r_19 s w) 3 ?_ (λhr7=>?_)
        ·intro x94 w a H g
         try dsimp only at H g
         unfold zAw at H
         refine g.mv rfl λ_ g=>WL.join (ds:=[]) (N:=118) (σ:=Bool) (λs=>[(100,(.bool s)),(1,(.pointer r)),(13,(.int .u64 r_15)),(14,(.int .i64 r_16)),(17,(.int .i64 r_19))]) (λs w=>zA7 Ret r r_15 r_16 r_19 s w) 5 ?_ (λhr8=>?_)
         ·intro x100 w a H g
          try dsimp only at H g
          unfold zA7 at H
          refine g.mv rfl λ_ g=>WL.join (ds:=[]) (N:=118) (σ:=Bool) (λs=>[(104,(.bool s)),(1,(.pointer r)),(14,(.int .i64 r_16)),(17,(.int .i64 r_19))]) (λs w=>zAr Ret r r_16 r_19 s w) 3 ?_ (λhr9=>?_)
          ·intro x104 w a H g
           try dsimp only at H g
           unfold zAr at H
           refine g.mv rfl λ_ g=>WL.join (ds:=[]) (N:=118) (σ:=Bool) (λs=>[(108,(.bool s)),(1,(.pointer r)),(17,(.int .i64 r_19))]) (λs w=>zAd Ret r r_19 s w) 3 ?_ (λhr10=>?_)
           ·intro x108 w a H g
            try dsimp only at H g
            unfold zAd at H
            refine g.mv rfl λ_ g=>WL.join (ds:=[]) (N:=118) (σ:=Bool) (λs=>[(112,(.bool s)),(1,(.pointer r))]) (λs w=>zAc Ret r s w) 3 ?_ (λhr11=>?_)
            ·intro x112 w a H g
             try dsimp only at H g
             unfold zAc at H
             refine g.mv rfl λ_ g=>WL.join (ds:=[]) (N:=118) (σ:=Bool) (λs=>[(117,(.bool s))]) (λs w=>zAg Ret s w) 4 ?_ (λhr12=>?_)
             ·intro x117 w a H g
              try dsimp only at H g
              unfold zAg at H
              exact g.as_ rfl λ_ g=>zL (tn (zg (zw g rfl rfl ⟨_,rfl,H⟩)))
             ·rcases Bool.eq_false_or_eq_true (x112) with hbr12|hbr12
              ·replace H:=H.1 hbr12
               replace g:=g.bool (b:=true) (t:=113) rfl (hbr12)
               refine g.on (by rfl) (by rfl) (g.mv rfl λ_ g=>g.on (by rfl) (by rfl) (g.call (zZ g zQo rfl rfl) H λe w H=>?_))
               obtain ⟨r_20,rfl,H⟩:=H
               exact ⟨_,rfl,λ_ g=>(g.on (by rfl) (by rfl) (g.pur (ZZ g rfl rfl) λ_ g=>g.pur (zl g rfl rfl) λ_ g=>hr12 (decide (r_20=2)) _ _ H (g.wk)))⟩
              ·replace H:=H.2 hbr12
               replace g:=g.bool (b:=false) (t:=113) rfl (hbr12)
               exact g.off (by rfl) (by rfl) (by decide) (λ_ g=>g.off (by rfl) (by rfl) (by decide) (λ_ g=>g.off (by rfl) (by rfl) (by decide) (λ_ g=>g.pur (zm g rfl rfl) λ_ g=>hr12 false _ _ H (g.wk))))
            ·rcases Bool.eq_false_or_eq_true (x108) with hbr11|hbr11
             ·replace H:=H.1 hbr11
              replace g:=g.bool (b:=true) (t:=109) rfl (hbr11)
              exact g.on (by rfl) (by rfl) (g.mv rfl λ_ g=>g.on (by rfl) (by rfl) (g.pur (ZZ g rfl rfl) λ_ g=>g.pur (zl g rfl rfl) λ_ g=>hr11 (decide (r_19=10)) _ _ H (g.wk)))
             ·replace H:=H.2 hbr11
              replace g:=g.bool (b:=false) (t:=109) rfl (hbr11)
              exact g.off (by rfl) (by rfl) (by decide) (λ_ g=>g.off (by rfl) (by rfl) (by decide) (λ_ g=>g.pur (zm g rfl rfl) λ_ g=>hr11 false _ _ H (g.wk)))
           ·rcases Bool.eq_false_or_eq_true (x104) with hbr10|hbr10
            ·replace H:=H.1 hbr10
             replace g:=g.bool (b:=true) (t:=105) rfl (hbr10)
             exact g.on (by rfl) (by rfl) (g.mv rfl λ_ g=>g.on (by rfl) (by rfl) (g.pur (ZZ g rfl rfl) λ_ g=>g.pur (zl g rfl rfl) λ_ g=>hr10 (decide (r_16=0)) _ _ H (g.wk)))
            ·replace H:=H.2 hbr10
             replace g:=g.bool (b:=false) (t:=105) rfl (hbr10)
             exact g.off (by rfl) (by rfl) (by decide) (λ_ g=>g.off (by rfl) (by rfl) (by decide) (λ_ g=>g.pur (zm g rfl rfl) λ_ g=>hr10 false _ _ H (g.wk)))
          ·rcases Bool.eq_false_or_eq_true (x100) with hbr9|hbr9
           ·replace H:=H.1 hbr9
            replace g:=g.bool (b:=true) (t:=101) rfl (hbr9)
            exact g.on (by rfl) (by rfl) (g.mv rfl λ_ g=>g.on (by rfl) (by rfl) (g.pur (ZZ g rfl rfl) λ_ g=>g.pur (zl g rfl rfl) λ_ g=>hr9 (decide (r_15=2)) _ _ H (g.wk)))
           ·replace H:=H.2 hbr9
            replace g:=g.bool (b:=false) (t:=101) rfl (hbr9)
            exact g.off (by rfl) (by rfl) (by decide) (λ_ g=>g.off (by rfl) (by rfl) (by decide) (λ_ g=>g.pur (zm g rfl rfl) λ_ g=>hr9 false _ _ H (g.wk)))
         ·rcases Bool.eq_false_or_eq_true (x94) with hbr8|hbr8
          ·replace H:=H.1 hbr8
           replace g:=g.bool (b:=true) (t:=95) rfl (hbr8)
           refine g.on (by rfl) (by rfl) (g.mv rfl λ_ g=>g.on (by rfl) (by rfl) (g.op (zAy g rfl) H λx97 w a H g=>g.on (by rfl) (by rfl) (g.op (Z3 g rfl) H λx98 w a H g=>g.on (by rfl) (by rfl) (g.call (zZ g zQ8 rfl rfl) H λe w H=>?_))))
           obtain ⟨r_21,rfl,H⟩:=H
           exact ⟨_,rfl,λ_ g=>(g.pur (zl g rfl rfl) λ_ g=>hr8 r_21 _ _ H (g.wk))⟩
          ·replace H:=H.2 hbr8
           replace g:=g.bool (b:=false) (t:=95) rfl (hbr8)
           exact g.off (by rfl) (by rfl) (by decide) (λ_ g=>g.off (by rfl) (by rfl) (by decide) (λ_ g=>g.off (by rfl) (by rfl) (by decide) (λ_ g=>g.off (by rfl) (by rfl) (by decide) (λ_ g=>g.pur (zm g rfl rfl) λ_ g=>hr8 false _ _ H (g.wk)))))
        ·rcases Bool.eq_false_or_eq_true (x90) with hbr7|hbr7
         ·replace H:=H.1 hbr7
          replace g:=g.bool (b:=true) (t:=91) rfl (hbr7)
          exact g.on (by rfl) (by rfl) (g.mv rfl λ_ g=>g.on (by rfl) (by rfl) (g.pur (ZZ g rfl rfl) λ_ g=>g.pur (zl g rfl rfl) λ_ g=>hr7 (decide (r_13=0)) _ _ H (g.wk)))
         ·replace H:=H.2 hbr7
          replace g:=g.bool (b:=false) (t:=91) rfl (hbr7)
          exact g.off (by rfl) (by rfl) (by decide) (λ_ g=>g.off (by rfl) (by rfl) (by decide) (λ_ g=>g.pur (zm g rfl rfl) λ_ g=>hr7 false _ _ H (g.wk)))
       ·rcases Bool.eq_false_or_eq_true (x86) with hbr6|hbr6
        ·replace H:=H.1 hbr6
         replace g:=g.bool (b:=true) (t:=87) rfl (hbr6)
         exact g.on (by rfl) (by rfl) (g.mv rfl λ_ g=>g.on (by rfl) (by rfl) (g.pur (ZZ g rfl rfl) λ_ g=>g.pur (zl g rfl rfl) λ_ g=>hr6 (decide (r_12=0)) _ _ H (g.wk)))
        ·replace H:=H.2 hbr6
         replace g:=g.bool (b:=false) (t:=87) rfl (hbr6)
         exact g.off (by rfl) (by rfl) (by decide) (λ_ g=>g.off (by rfl) (by rfl) (by decide) (λ_ g=>g.pur (zm g rfl rfl) λ_ g=>hr6 false _ _ H (g.wk)))
      ·rcases Bool.eq_false_or_eq_true (x82) with hbr5|hbr5
       ·replace H:=H.1 hbr5
        replace g:=g.bool (b:=true) (t:=83) rfl (hbr5)
        exact g.on (by rfl) (by rfl) (g.mv rfl λ_ g=>g.on (by rfl) (by rfl) (g.pur (ZZ g rfl rfl) λ_ g=>g.pur (zl g rfl rfl) λ_ g=>hr5 (decide (r_8=0)) _ _ H (g.wk)))
       ·replace H:=H.2 hbr5
        replace g:=g.bool (b:=false) (t:=83) rfl (hbr5)
        exact g.off (by rfl) (by rfl) (by decide) (λ_ g=>g.off (by rfl) (by rfl) (by decide) (λ_ g=>g.pur (zm g rfl rfl) λ_ g=>hr5 false _ _ H (g.wk)))
     ·rcases Bool.eq_false_or_eq_true (x79) with hbr4|hbr4
      ·replace H:=H.1 hbr4
       replace g:=g.bool (b:=true) (t:=80) rfl (hbr4)
       exact g.on (by rfl) (by rfl) (g.mv rfl λ_ g=>g.pur (zl g rfl rfl) λ_ g=>hr4 r_7 _ _ H (g.wk))
      ·replace H:=H.2 hbr4
       replace g:=g.bool (b:=false) (t:=80) rfl (hbr4)
       exact g.off (by rfl) (by rfl) (by decide) (λ_ g=>g.pur (zm g rfl rfl) λ_ g=>hr4 false _ _ H (g.wk))
    ·rcases Bool.eq_false_or_eq_true (x75) with hbr3|hbr3
     ·replace H:=H.1 hbr3
      replace g:=g.bool (b:=true) (t:=76) rfl (hbr3)
      exact g.on (by rfl) (by rfl) (g.mv rfl λ_ g=>g.on (by rfl) (by rfl) (g.pur (zME g rfl rfl) λ_ g=>g.pur (zl g rfl rfl) λ_ g=>hr3 (decide (r_6=(ByteArray.mk #[49]))) _ _ H (g.wk)))
     ·replace H:=H.2 hbr3
      replace g:=g.bool (b:=false) (t:=76) rfl (hbr3)
      exact g.off (by rfl) (by rfl) (by decide) (λ_ g=>g.off (by rfl) (by rfl) (by decide) (λ_ g=>g.pur (zm g rfl rfl) λ_ g=>hr3 false _ _ H (g.wk)))
   ·rcases Bool.eq_false_or_eq_true (x71) with hbr2|hbr2
    ·replace H:=H.1 hbr2
     replace g:=g.bool (b:=true) (t:=72) rfl (hbr2)
     exact g.on (by rfl) (by rfl) (g.mv rfl λ_ g=>g.on (by rfl) (by rfl) (g.pur (ZZ g rfl rfl) λ_ g=>g.pur (zl g rfl rfl) λ_ g=>hr2 (decide (r_4=2)) _ _ H (g.wk)))
    ·replace H:=H.2 hbr2
     replace g:=g.bool (b:=false) (t:=72) rfl (hbr2)
     exact g.off (by rfl) (by rfl) (by decide) (λ_ g=>g.off (by rfl) (by rfl) (by decide) (λ_ g=>g.pur (zm g rfl rfl) λ_ g=>hr2 false _ _ H (g.wk)))
  ·rcases Classical.em ((r_1=0)) with hbr1|hbr1
   ·replace H:=H.1 hbr1
    replace g:=g.bool (b:=true) (t:=68) rfl (decide_eq_true hbr1)
    exact g.on (by rfl) (by rfl) (g.mv rfl λ_ g=>g.on (by rfl) (by rfl) (g.pur (ZZ g rfl rfl) λ_ g=>g.pur (zl g rfl rfl) λ_ g=>hr1 (decide (r_2=1)) _ _ H (g.wk)))
   ·replace H:=H.2 hbr1
    replace g:=g.bool (b:=false) (t:=68) rfl (decide_eq_false hbr1)
    exact g.off (by rfl) (by rfl) (by decide) (λ_ g=>g.off (by rfl) (by rfl) (by decide) (λ_ g=>g.pur (zm g rfl rfl) λ_ g=>hr1 false _ _ H (g.wk)))
end Go.Proofs.YtealcoghiaeiiaaGreat.VG
set_option linter.unusedVariables false
namespace Go.Proofs.YtealcoghiaeiiaaGreat.VG
open Go.VB Go.Proofs Go.RowKit
theorem zLN {κ ν:Type} {f:κ->Option ν} {ks D:List κ} (h:Doms f ks) (hD:∀ k v,f k=some v->k∈D):ks.length<=D.length:=zFn h.1 λk hk=>by
 obtain ⟨v,hv⟩:=(h.2 k).1 hk;exact hD k v hv
theorem zKc (s:St) (n:Int):(zBq s n).now=s.now:=by unfold zBq zKb;split<;>rfl
theorem zLf (s:St) (n:Int):(zBq s n).tx=del s.tx n:=by unfold zBq zKb;split<;>rfl
abbrev t3:ByteArray:=ByteArray.mk #[51]
abbrev l1:List Pai:=[⟨tA,t1⟩]
abbrev v1:Ver:=⟨tA,1,t1,false⟩
abbrev wX:Wri:=⟨tA,t2,false⟩
theorem zPs:zDt [v1] 1:=zJT (by decide) (by decide) (by intro x hx;simp at hx;subst hx;exact ⟨by decide,by decide,λh=>(nomatch h),by decide,by decide⟩) (by simp)
theorem zPl:pwhy [v1] 1 [wX] 2=0:=zH4.2 ⟨zPs,zE8.2 ⟨by decide,by intro w hw;simp at hw;subst hw;unfold zBG;decide,by simp [zEZ]⟩,by decide,by decide,by decide,by intro x hx;simp at hx;subst hx;decide,by decide⟩
theorem put1:vput [v1] 1 [wX] 2=(putL [v1] 2 [wX],1,0):=by unfold vput;rw [if_neg (by rw [zPl];decide)]
theorem zLx {s:St} {ks:List Int} (hd:Doms s.tx ks):∃ lo,zGc s lo:=by
 have:∀ ks:List Int,∃ lo,lo<=s.now/\(∀ k∈ks,∀ t,s.tx k=some t->lo<=t.began)/\(lo=s.now∨∃ k t,s.tx k=some t/\lo=t.began):=by
  intro ks
  induction ks with
  |nil=>exact ⟨s.now,Int.le_refl _,by simp,.inl rfl⟩
  |cons k ks ih=>
   obtain ⟨lo,h1,h2,h3⟩:=ih
   cases ht:s.tx k with
   |none=>exact ⟨lo,h1,λj hj t hjt=>by
     rcases List.mem_cons.1 hj with e|e
     ·subst e;rw [ht] at hjt;cases hjt
     ·exact h2 j e t hjt,h3⟩
   |some u=>
    by_cases hu:u.began<lo
    ·exact ⟨u.began,by omega,λj hj t hjt=>by
      rcases List.mem_cons.1 hj with e|e
      ·subst e;rw [ht] at hjt;cases hjt;exact Int.le_refl _
      ·have:=h2 j e t hjt;omega,.inr ⟨k,u,ht,rfl⟩⟩
    ·exact ⟨lo,h1,λj hj t hjt=>by
      rcases List.mem_cons.1 hj with e|e
      ·subst e;rw [ht] at hjt;cases hjt;omega
      ·exact h2 j e t hjt,h3⟩
 obtain ⟨lo,h1,h2,h3⟩:=this ks
 exact ⟨lo,h1,λn t ht=>h2 n ((hd.2 n).2 ⟨t,ht⟩) t ht,h3⟩
theorem zOl {s:St} {n:Int} {v:Ver} (hv:v∈s.l) (hs:s.l.Pairwise vlt) {m:Int} {t:Tx} (ht:s.tx m=some t) (hm:m≠n) (ha:t.began<v.At) (hlow:∃ lo,zGc (delTx s n) lo):v∈(zBq s n).l:=by
 unfold zBq zKb
 split
 ·rename_i h
  obtain ⟨h1,h2,h3,h4⟩:=zNW h
  show v∈(zDI (delTx s n).l (delTx s n).low (zJ2 (delTx s n))).1
  rw [h4]
  obtain ⟨lo,hlo⟩:=hlow
  have h5:lo<=t.began:=hlo.all m t (by show del s.tx n m=_;rw [zB5 _ hm];exact ht)
  have h6:=hlo.eq
  exact (zNQ hs).2 ⟨hv,λy _ _ h=>by omega,λh=>by omega⟩
 ·exact hv
theorem zOG (w:World) {k:Bool->World->Prop} (H:∀ w',Bel w w'->k true w'):Cl zA zHp [].toArray w (λe w'=>∃ r0:Bool,e=.returned (.bool r0)/\k r0 w'):=by
 refine zHr w k ?_
 unfold zEW
 refine ⟨⟨tA,t1⟩,w,by kernel_rfl,?_⟩
 have hl1:=Rd.lit (c:=zM.cells) (n:=2) (λ_=>rfl) l1 (by decide) w zBs
 have b1:Bel w (w.alloc (.cells (l1.flatMap zM.cells).toArray zBs)):=Bel.alloc _ _
 refine ⟨⟨some ⟨w.heap.size,0,none⟩,1,1⟩,(w.alloc (.cells (l1.flatMap zM.cells).toArray zBs)),by kernel_rfl,?_⟩
 generalize (w.alloc (.cells (l1.flatMap zM.cells).toArray zBs))=w1 at hl1 b1 ⊢
 have hnl:l1.any zH0=false:=by decide
 refine zOq (l:=l1) hl1 (λh=>absurd h (by decide)) (λ_ h=>absurd h (by rw [hnl];decide)) (λ_ _ h=>absurd (λj x y hj hx hy=>by simp at hj) h) λ_ _ _ b ρ w2 b2 m2 hρ=>?_
 have b02:=b1.trans b2
 have hρ0:∀ q,q<w.heap.size->ρ q=none:=λq hq=>hρ q (xh hq b1.le)
 refine zJh _ ⟨λh=>(nomatch h),λ_=>?_⟩
 have hd0:∀ {ks},Doms (newS l1).tx ks->ks.length<=([]:List Int).length:=λh=>zLN h λq v hv=>by cases hv
 refine zJ7 m2 (by decide) (by decide) rfl (λks hks h=>by exfalso;have:=hd0 hks;simp only [List.length_nil] at this;omega) λks ρ3 w3 _ _ m3 e3=>?_
 let T0:Tx:=zGK (newS l1)
 have tx1:(zFG (newS l1)).tx=upd (λ_=>none) 1 T0:=rfl
 have hd1:∀ {ks},Doms (zFG (newS l1)).tx ks->ks.length<=([1]:List Int).length:=λh=>zLN h λq v hv=>by
  by_cases hq:q=1
  ·subst hq;simp
  ·rw [tx1,yx _ _ hq] at hv;cases hv
 refine zJ7 m3 (by show (0:Int)<=0+1;decide) (by show (0:Int)+1<_;decide) (by rw [tx1];exact yx _ _ (by show (0:Int)+1+1≠1;decide)) (λks hks h=>by exfalso;have:=hd1 hks;simp only [List.length_cons,List.length_nil] at this;omega) λks ρ4 w4 _ _ m4 e4=>?_
 have e24:=e3.trans e4
 generalize hS2:zFG (zFG (newS l1))=S2 at m4
 have n2:S2.now=1:=by rw [← hS2];rfl
 have l2:S2.l=[v1]:=by rw [← hS2];rfl
 have lo2:S2.low=1:=by rw [← hS2];rfl
 have x21:S2.tx 1=some T0:=by rw [← hS2];show upd (zFG (newS l1)).tx 2 _ 1=_;rw [yx _ _ (by decide),tx1,QS]
 have x22:S2.tx 2=some T0:=by rw [← hS2];show upd (zFG (newS l1)).tx 2 _ 2=_;rw [QS];rfl
 have x2o:∀ q,q≠1->q≠2->S2.tx q=none:=λq h1 h2=>by rw [← hS2];show upd (zFG (newS l1)).tx 2 _ q=_;rw [yx _ _ h2,tx1,yx _ _ h1]
 clear hS2
 refine zMM m4 1 tA (λh=>by rw [x21] at h;cases h) (λt _ h=>absurd h (by decide)) (λt ht _ h=>by rw [x21] at ht;cases ht;simp [T0,zGK] at h) λt ρ5 w5 ht _ _ m5 e5=>?_
 rw [x21] at ht;cases ht
 have hget:tget S2 T0 tA=(t1,true,0):=by
  show vget S2.l S2.low tA 1=_
  rw [l2,lo2,zPH zPs (by decide),show ([v1]:List Ver)=[v1] from rfl,zL9,if_pos ⟨rfl,by decide⟩];rfl
 rw [hget]
 let T1:Tx:=addR T0 (zBr tA)
 have x31:(setTx S2 1 T1).tx 1=some T1:=by simp [setTx,QS]
 have x32:(setTx S2 1 T1).tx 2=some T0:=by simp only [setTx];rw [yx _ _ (by decide)];exact x22
 refine zMM m5 2 tA (λh=>by rw [x32] at h;cases h) (λt _ h=>absurd h (by decide)) (λt ht _ h=>by rw [x32] at ht;cases ht;simp [T0,zGK] at h) λt ρ6 w6 ht _ _ m6 e6=>?_
 rw [x32] at ht;cases ht
 have e26:=(e24.trans e5).trans e6
 generalize hS4:setTx (setTx S2 1 T1) 2 (addR T0 (zBr tA))=S4 at m6
 have x41:S4.tx 1=some T1:=by rw [← hS4];simp only [setTx];rw [yx _ _ (by decide),QS]
 have x42:S4.tx 2=some T1:=by rw [← hS4];simp only [setTx];rw [QS]
 have x4o:∀ q,q≠1->q≠2->S4.tx q=none:=λq h1 h2=>by rw [← hS4];simp only [setTx];rw [yx _ _ h2,yx _ _ h1];exact x2o q h1 h2
 have n4:S4.now=1:=by rw [← hS4];exact n2
 have l4:S4.l=[v1]:=by rw [← hS4];exact l2
 have lo4:S4.low=1:=by rw [← hS4];exact lo2
 clear hS4
 have hnoW:∀ {ks},Doms T1.wr ks->ks.length<=([]:List ByteArray).length:=λh=>zLN h λq v hv=>by cases hv
 refine zMe 1 tA t2 (zJj m6 1 ⟨tA,t2,false⟩ (λh=>by rw [x41] at h;cases h) (λt _ h=>absurd h (by unfold zBG;decide)) (λt ks ht _ _ hks h=>by rw [x41] at ht;cases ht;have:=hnoW hks;simp only [List.length_nil] at this;exfalso;omega) λt w7 ht _ _ m7 e7=>?_)
 rw [x41] at ht;cases ht
 let P1:Tx:=putW T1 wX
 let P2:Tx:=putW T1 ⟨tA,t3,false⟩
 have x52:(setTx S4 1 P1).tx 2=some T1:=by simp only [setTx];rw [yx _ _ (by decide)];exact x42
 refine zMe 2 tA t3 (zJj m7 2 ⟨tA,t3,false⟩ (λh=>by rw [x52] at h;cases h) (λt _ h=>absurd h (by unfold zBG;decide)) (λt ks ht _ _ hks h=>by rw [x52] at ht;cases ht;have:=hnoW hks;simp only [List.length_nil] at this;exfalso;omega) λt w8 ht _ _ m8 e8=>?_)
 rw [x52] at ht;cases ht
 have e28:=(e26.trans e7).trans e8
 generalize hS6:setTx (setTx S4 1 P1) 2 (putW T1 ⟨tA,t3,false⟩)=S6 at m8
 have x61:S6.tx 1=some P1:=by rw [← hS6];simp only [setTx];rw [yx _ _ (by decide),QS]
 have x62:S6.tx 2=some P2:=by rw [← hS6];simp only [setTx];rw [QS]
 have x6o:∀ q,q≠1->q≠2->S6.tx q=none:=λq h1 h2=>by rw [← hS6];simp only [setTx];rw [yx _ _ h2,yx _ _ h1];exact x4o q h1 h2
 have n6:S6.now=1:=by rw [← hS6];exact n4
 have l6:S6.l=[v1]:=by rw [← hS6];exact l4
 have lo6:S6.low=1:=by rw [← hS6];exact lo4
 clear hS6
 have few:∀ x:Wri,x.Key=tA->Few (putW T1 x)/\zNB (putW T1 x):=λx hx=>by
  have hw:(putW T1 x).wr=upd (λ_=>none) tA x:=by show upd _ x.Key x=_;rw [hx];rfl
  refine ⟨⟨[tA],⟨by simp,λq=>?_⟩,by decide⟩,λq y hy=>?_⟩
  ·rw [hw]
   by_cases hq:q=tA
   ·subst hq;simp [QS]
   ·simp [yx _ _ hq,hq]
  ·rw [hw] at hy
   by_cases hq:q=tA
   ·subst hq;rw [QS] at hy;cases hy;exact hx
   ·rw [yx _ _ hq] at hy;cases hy
 have w1:P1.wr=upd (λ_=>none) tA wX:=rfl
 have srt:zFF P1.wr [wX]:=⟨by simp,λz=>by
  rw [w1]
  by_cases hq:z.Key=tA
  ·rw [hq,QS];simp;exact eq_comm
  ·rw [yx _ _ hq];simp;intro e;subst e;exact hq rfl⟩
 have noc:S6.l.any (conf P1)=false:=by rw [l6];show (decide ((1:Int)<1)&&_||false)=false;rw [show decide ((1:Int)<1)=false from by decide];rfl
 refine zJB m8 1 (λt ht=>by rw [x61] at ht;cases ht;exact few wX rfl) (by rw [n6];decide) (by rw [n6];decide) (λh=>by rw [x61] at h;cases h) (λt ρ' w' ht h=>by rw [x61] at ht;cases ht;rw [noc] at h;cases h) (λt ρ' w' ht _ h=>by rw [x61] at ht;cases ht;have:=h tA;rw [w1,QS] at this;cases this)
  (λt ys ρ' w' ht _ hS _ h=>by
   rw [x61] at ht;cases ht
   rw [hS.one srt,n6,l6,lo6,show (1:Int)+1=2 from rfl,put1] at h
   exact absurd rfl h) λt ys r ρ9 w9 ht _ hS _ _ m9 e9 hr hq=>?_
 rw [x61] at ht;cases ht
 obtain rfl:=hS.one srt
 rw [n6,l6,lo6,show (1:Int)+1=2 from rfl,put1] at m9
 rw [n6,show (1:Int)+1=2 from rfl]
 have hdm:Doms (delTx (putS S6 (putL [v1] 2 [wX],1,0)) 1).tx [2]:=⟨by simp,λq=>by
  show q∈[2]↔∃ v,del S6.tx 1 q=some v
  by_cases h1:q=1
  ·subst h1;simp [zFp]
  ·rw [zB5 _ h1]
   by_cases h2:q=2
   ·subst h2;simp [x62]
   ·simp [x6o q h1 h2,h2]⟩
 have hmem:mk 2 wX∈(zBq (putS S6 (putL [v1] 2 [wX],1,0)) 1).l:=zOl (m:=2) (t:=P2) (zJm.2 (.inr ⟨wX,by simp,rfl⟩)) (zJ9 zPl) x62 (by decide) (by show (1:Int)<2;decide) (zLx hdm)
 generalize hS7:zBq (putS S6 (putL [v1] 2 [wX],1,0)) 1=S7 at m9 hmem
 have n7:S7.now=2:=by rw [← hS7,zKc];show S6.now+1=2;rw [n6];rfl
 have x72:S7.tx 2=some P2:=by rw [← hS7,zLf,zB5 _ (by decide)];exact x62
 clear hS7
 have con:S7.l.any (conf P2)=true:=List.any_eq_true.2 ⟨_,hmem,by decide⟩
 have e29:=e28.trans e9
 refine zJB m9 2 (λt ht=>by rw [x72] at ht;cases ht;exact few _ rfl) (by rw [n7];decide) (by rw [n7];decide) (λh=>by rw [x72] at h;cases h) (λt ρ10 w10 ht _ m10 e10=>?_) (λt ρ' w' ht h=>by rw [x72] at ht;cases ht;rw [con] at h;cases h) (λt ys ρ' w' ht h=>by rw [x72] at ht;cases ht;rw [con] at h;cases h) (λt ys r ρ' w' ht h=>by rw [x72] at ht;cases ht;rw [con] at h;cases h)
 have hr10:zIl w10 r [wX]:=(zD2.rd hr).keep λq h=>by obtain ⟨_,h1,h2⟩:=hq q h;exact e10.blk h1 h2
 have b10:Bel w w10:=(e29.trans e10).base b02 hρ0
 obtain ⟨vs,mb,g,m10⟩:=m10
 have n10:(zBq S7 2).now=2:=by rw [zKc];exact n7
 refine ⟨λ_=>?_,λh=>absurd rfl h⟩
 unfold zAn
 refine ⟨λ_=>?_,λh=>absurd h (by decide)⟩
 unfold zAq
 refine ⟨λ_=>?_,λh=>absurd h (by decide)⟩
 unfold zA3
 refine ⟨λ_=>?_,λh=>absurd h (by decide)⟩
 unfold zAv
 refine ⟨λ_=>?_,λh=>(nomatch h)⟩
 unfold zAo
 refine ⟨λ_=>?_,λh=>absurd h (by decide)⟩
 unfold zA4
 refine ⟨λ_=>?_,λh=>absurd h (by decide)⟩
 unfold zAw
 refine ⟨λ_=>?_,λh=>absurd h (by decide)⟩
 refine ⟨wX,w10,by kernel_rfl,?_⟩
 have hl2:=Rd.lit (c:=zI.cells) (n:=3) (λ_=>rfl) [wX] (by decide) w10 Z8
 have b11:Bel w10 (w10.alloc (.cells ([wX].flatMap zI.cells).toArray Z8)):=Bel.alloc _ _
 refine ⟨⟨some ⟨w10.heap.size,0,none⟩,1,1⟩,(w10.alloc (.cells ([wX].flatMap zI.cells).toArray Z8)),by kernel_rfl,?_⟩
 generalize (w10.alloc (.cells ([wX].flatMap zI.cells).toArray Z8))=w11 at hl2 b11 ⊢
 refine zOP (hr10.bel b11) hl2 λc w12 hc b12=>?_
 obtain rfl:c=true:=hc.2 rfl
 unfold zA7
 refine ⟨λ_=>?_,λh=>(nomatch h)⟩
 unfold zAr
 refine ⟨λ_=>?_,λh=>absurd h (by decide)⟩
 unfold zAd
 refine ⟨λ_=>?_,λh=>absurd h (by decide)⟩
 unfold zAc
 refine ⟨λ_=>?_,λh=>absurd h (by decide)⟩
 refine zQQ ((m10.bel b11).bel b12) ?_
 unfold zAg
 rw [n10]
 exact H w12 ((b10.trans b11).trans b12)
end Go.Proofs.YtealcoghiaeiiaaGreat.VG
set_option linter.unusedVariables false
namespace Go.Proofs.YtealcoghiaeiiaaGreat.VG
open Go.VB Go.Proofs Go.RowKit
section
variable {κ ν:Type}
theorem zOY {f:κ->Option ν} {ks js:List κ} (h:Doms f ks) (k:Doms f js):ks.length=js.length:=
 Nat.le_antisymm (zFn h.1 λx hx=>(k.2 x).2 ((h.2 x).1 hx)) (zFn k.1 λx hx=>(h.2 x).2 ((k.2 x).1 hx))
open Classical in
noncomputable def cnt (f:κ->Option ν):Nat:=if h:∃ ks,Doms f ks then h.choose.length else 0
theorem zIO {f:κ->Option ν} {ks:List κ} (h:Doms f ks):cnt f=ks.length:=by
 have:∃ ks,Doms f ks:=⟨ks,h⟩
 unfold cnt;rw [dif_pos this];exact zOY this.choose_spec h
theorem zJ4 {f:κ->Option ν} {ks:List κ} (h:Doms f ks) (k:κ) (v:ν):∃ js,Doms (upd f k v) js/\js.length<=ks.length+1/\(f k≠none->js.length=ks.length):=by
 by_cases hk:k∈ks
 ·refine ⟨ks,⟨h.1,λx=>?_⟩,by omega,λ_=>rfl⟩
  by_cases hx:x=k
  ·subst hx;rw [QS];exact ⟨λ_=>⟨v,rfl⟩,λ_=>hk⟩
  ·rw [yx _ _ hx];exact h.2 x
 ·refine ⟨k::ks,⟨List.nodup_cons.2 ⟨hk,h.1⟩,λx=>?_⟩,by simp,λhn=>absurd ((h.2 k).2 (Option.ne_none_iff_exists'.1 hn)) hk⟩
  by_cases hx:x=k
  ·subst hx;rw [QS];exact ⟨λ_=>⟨v,rfl⟩,λ_=>by simp⟩
  ·rw [yx _ _ hx,← h.2 x,List.mem_cons];exact ⟨λh1=>h1.resolve_left hx,.inr⟩
theorem zLg {f:κ->Option ν} {ks:List κ} (h:Doms f ks) (k:κ):∃ js,Doms (del f k) js/\js.length<=ks.length:=by
 classical
 refine ⟨ks.filter (λx=>decide (x≠k)),⟨h.1.sublist List.filter_sublist,λx=>?_⟩,List.length_filter_le _ _⟩
 rw [List.mem_filter,h.2 x]
 by_cases hx:x=k
 ·subst hx;rw [zFp];simp
 ·rw [zB5 _ hx];simp [hx]
end
section
variable {α:Type} (key:α->ByteArray)
abbrev Rise (ys:List α):Prop:=ys.Pairwise (λa b=>sLt (key a) (key b)=true)
theorem zOy (x:α):∀ ys:List α,Rise key ys->(∀ y∈ys,key y≠key x)->∃ zs,Rise key zs/\∀ z,z∈zs↔z=x∨z∈ys
 |[],_,_=>⟨[x],by simp,by simp⟩
 |y::ys,h,hk=>by
  obtain ⟨h1,h2⟩:=List.pairwise_cons.1 h
  by_cases c:sLt (key x) (key y)=true
  ·refine ⟨x::y::ys,List.pairwise_cons.2 ⟨λz hz=>?_,h⟩,by simp⟩
   rcases List.mem_cons.1 hz with e|e
   ·rw [e];exact c
   ·exact zHw c (h1 z e)
  ·have hyx:sLt (key y) (key x)=true:=zEr c (λe=>hk y (by simp) e.symm)
   obtain ⟨zs,h3,h4⟩:=zOy x ys h2 (λz hz=>hk z (by simp [hz]))
   refine ⟨y::zs,List.pairwise_cons.2 ⟨λz hz=>?_,h3⟩,λz=>?_⟩
   ·rcases (h4 z).1 hz with e|e
    ·rw [e];exact hyx
    ·exact h1 z e
   ·rw [List.mem_cons,List.mem_cons,h4]
    constructor
    ·rintro (e|e|e)
     ·exact .inr (.inl e)
     ·exact .inl e
     ·exact .inr (.inr e)
    ·rintro (e|e|e)
     ·exact .inr (.inl e)
     ·exact .inl e
     ·exact .inr (.inr e)
theorem zM1:∀ xs:List α,xs.Pairwise (λa b=>key a≠key b)->∃ ys,Rise key ys/\∀ z,z∈ys↔z∈xs
 |[],_=>⟨[],by simp,by simp⟩
 |x::xs,h=>by
  obtain ⟨h1,h2⟩:=List.pairwise_cons.1 h
  obtain ⟨ys,h3,h4⟩:=zM1 xs h2
  obtain ⟨zs,h5,h6⟩:=zOy key x ys h3 (λy hy e=>h1 y ((h4 y).1 hy) e.symm)
  exact ⟨zs,h5,λz=>by rw [h6,h4,List.mem_cons]⟩
theorem zOi {xs ys:List α} (h1:Rise key xs) (k1:Rise key ys) (hm:∀ x,x∈xs↔x∈ys):xs=ys:=by
 induction xs generalizing ys with
 |nil=>cases ys with
  |nil=>rfl
  |cons b ys=>exact absurd ((hm b).2 (by simp)) (by simp)
 |cons a xs ih=>
  cases ys with
  |nil=>exact absurd ((hm a).1 (by simp)) (by simp)
  |cons b ys=>
   obtain ⟨h2,h3⟩:=List.pairwise_cons.1 h1
   obtain ⟨k2,k3⟩:=List.pairwise_cons.1 k1
   have hab:a=b:=by
    rcases List.mem_cons.1 ((hm a).1 (by simp)) with e|e
    ·exact e
    ·rcases List.mem_cons.1 ((hm b).2 (by simp)) with e'|e'
     ·exact e'.symm
     ·exact absurd (h2 b e') (zG9 (k2 a e))
   subst hab
   rw [ih h3 k3 (λx=>?_)]
   constructor
   ·intro hx
    rcases List.mem_cons.1 ((hm x).1 (by simp [hx])) with e|e
    ·subst e;exact absurd (h2 x hx) (zA8 _)
    ·exact e
   ·intro hx
    rcases List.mem_cons.1 ((hm x).2 (by simp [hx])) with e|e
    ·subst e;exact absurd (k2 x hx) (zA8 _)
    ·exact e
end
open Classical in
noncomputable def zGA (f:ByteArray->Option Wri):List Wri:=if h:∃ ys,zFF f ys then h.choose else []
theorem zGw {f:ByteArray->Option Wri} {ys:List Wri} (h:zFF f ys):zGA f=ys:=by
 have:∃ ys,zFF f ys:=⟨ys,h⟩
 unfold zGA;rw [dif_pos this];exact this.choose_spec.one h
theorem zJt {f:ByteArray->Option Wri} {ks:List ByteArray} (hd:Doms f ks) (hk:∀ k x,f k=some x->x.Key=k):zFF f (zGA f)/\(zGA f).length=ks.length:=by
 have hnd:(ks.filterMap f).Pairwise (λx y=>x.Key≠y.Key):=by
  rw [List.pairwise_filterMap]
  refine hd.1.imp λ{a b} hab x hx y hy e=>hab ?_
  rw [← hk a x hx,← hk b y hy,e]
 obtain ⟨ys,h1,h2⟩:=zM1 (λx:Wri=>x.Key) _ hnd
 have hS:zFF f ys:=⟨h1,λx=>by
  rw [h2,List.mem_filterMap]
  constructor
  ·rintro ⟨k,_,h⟩
   rw [hk k x h];exact h
  ·exact λh=>⟨x.Key,(hd.2 _).2 ⟨x,h⟩,h⟩⟩
 rw [zGw hS]
 refine ⟨hS,?_⟩
 rw [← zGl f ks λk hk'=>(hd.2 k).1 hk']
 refine Nat.le_antisymm (zFn ?_ λx hx=>(h2 x).1 hx) (zFn ?_ λx hx=>(h2 x).2 hx)
 ·exact h1.imp λ{a b} h e=>by subst e;exact zA8 _ h
 ·exact hnd.imp λ{a b} h e=>h (by rw [e])
theorem zFF.keys {f:ByteArray->Option Wri} {ys:List Wri} (h:zFF f ys):(zEZ ys).Nodup:=by
 unfold zEZ
 rw [List.Nodup,List.pairwise_map]
 exact h.1.imp λ{a b} h e=>by rw [e] at h;exact zA8 _ h
def zG4 (f:ByteArray->Option ByteArray) (ys:List Pai):Prop:=Rise (λp:Pai=>p.Key) ys/\∀ p:Pai,p∈ys↔f p.Key=some p.Val
theorem zG4.one {f:ByteArray->Option ByteArray} {xs ys:List Pai} (h:zG4 f xs) (k:zG4 f ys):xs=ys:=zOi _ h.1 k.1 λx=>by rw [h.2,k.2]
open Classical in
noncomputable def zJZ (f:ByteArray->Option ByteArray):List Pai:=if h:∃ ys,zG4 f ys then h.choose else []
theorem zMg {f:ByteArray->Option ByteArray} {ys:List Pai} (h:zG4 f ys):zJZ f=ys:=by
 have:∃ ys,zG4 f ys:=⟨ys,h⟩
 unfold zJZ;rw [dif_pos this];exact this.choose_spec.one h
def val (l:List Ver) (key:ByteArray) (T:Int):Option ByteArray:=match sees l key T with
 |none=>none
 |some x=>if x.Gone=true then none else some x.Val
theorem zPC {l:List Ver} {low:Int} (h:zDt l low) (key:ByteArray) (T:Int):outV (sees l key T)=((val l key T).getD noB,(val l key T).isSome):=by
 unfold val
 cases hs:sees l key T with
 |none=>rfl
 |some x=>
  have hm:=h.made (zJp hs).1
  cases hg:x.Gone
  ·simp [outV,hg]
  ·simp [outV,hg,hm.gone hg]
def ovl (wr:ByteArray->Option Wri) (f:ByteArray->Option ByteArray) (key:ByteArray):Option ByteArray:=match wr key with
 |some x=>if x.Gone=true then none else some x.Val
 |none=>f key
structure TxOk (t:Tx):Prop where
 few:Few t
 keyed:zNB t
 short:∀ k x,t.wr k=some x->¬ zBG x
 bare:∀ k x,t.wr k=some x->x.Gone=true->x.Val=noB
 rds:t.reads.length<=256
structure Inv (s:St):Prop where
 good:zDt s.l s.low
 lo:1<=s.low
 lonow:s.low<=s.now
 past:∀ x∈s.l,x.At<=s.now
 giv:0<=s.given
 dom:∃ ks,Doms s.tx ks/\ks.length<=16
 num:∀ n t,s.tx n=some t->1<=n/\n<=s.given
 tim:∀ n t,s.tx n=some t->s.low<=t.began/\t.began<=s.now
 txok:∀ n t,s.tx n=some t->TxOk t
theorem Inv.free {s:St} (h:Inv s):s.tx (s.given+1)=none:=by
 cases ht:s.tx (s.given+1) with
 |none=>rfl
 |some t=>have:=h.num _ t ht;omega
abbrev maxT:Int:=2305843009213693952
theorem zNw (s:St):TxOk (zGK s):=⟨⟨[],⟨List.nodup_nil,λk=>by simp [zGK]⟩,by simp⟩,λk x h=>(nomatch h),λk x h=>(nomatch h),λk x h=>(nomatch h),by simp [zGK]⟩
theorem zKV {s:St} (h:Inv s) (hc:cnt s.tx<16):Inv (zFG s) where
 good:=h.good
 lo:=h.lo
 lonow:=h.lonow
 past:=h.past
 giv:=by show 0<=s.given+1;have:=h.giv;omega
 dom:=by
  obtain ⟨ks,hd,hl⟩:=h.dom
  rw [zIO hd] at hc
  obtain ⟨js,h1,h2,_⟩:=zJ4 hd (s.given+1) (zGK s)
  exact ⟨js,h1,by omega⟩
 num n t ht:=by
  show 1<=n/\n<=s.given+1
  have hg:=h.giv
  by_cases hn:n=s.given+1
  ·omega
  ·have:=h.num n t (by rw [← yx s.tx (zGK s) hn];exact ht);omega
 tim n t ht:=by
  show s.low<=t.began/\t.began<=s.now
  by_cases hn:n=s.given+1
  ·subst hn
   have h1:upd s.tx (s.given+1) (zGK s) (s.given+1)=some t:=ht
   rw [QS] at h1;cases h1
   exact ⟨h.lonow,Int.le_refl _⟩
  ·exact h.tim n t (by rw [← yx s.tx (zGK s) hn];exact ht)
 txok n t ht:=by
  by_cases hn:n=s.given+1
  ·subst hn
   have h1:upd s.tx (s.given+1) (zGK s) (s.given+1)=some t:=ht
   rw [QS] at h1;cases h1
   exact zNw s
  ·exact h.txok n t (by rw [← yx s.tx (zGK s) hn];exact ht)
theorem zGn {s:St} (h:Inv s) {n:Int} {t t':Tx} (ht:s.tx n=some t) (hb:t'.began=t.began) (hk:TxOk t'):Inv (setTx s n t') where
 good:=h.good
 lo:=h.lo
 lonow:=h.lonow
 past:=h.past
 giv:=h.giv
 dom:=by
  obtain ⟨ks,hd,hl⟩:=h.dom
  obtain ⟨js,h1,_,h2⟩:=zJ4 hd n t'
  exact ⟨js,h1,by rw [h2 (by rw [ht];simp)];exact hl⟩
 num m u hu:=by
  show 1<=m/\m<=s.given
  by_cases hm:m=n
  ·subst hm;exact h.num _ t ht
  ·exact h.num m u (by rw [← yx s.tx t' hm];exact hu)
 tim m u hu:=by
  show s.low<=u.began/\u.began<=s.now
  by_cases hm:m=n
  ·subst hm
   have h1:upd s.tx m t' m=some u:=hu
   rw [QS] at h1;cases h1
   rw [hb];exact h.tim _ t ht
  ·exact h.tim m u (by rw [← yx s.tx t' hm];exact hu)
 txok m u hu:=by
  by_cases hm:m=n
  ·subst hm
   have h1:upd s.tx m t' m=some u:=hu
   rw [QS] at h1;cases h1;exact hk
  ·exact h.txok m u (by rw [← yx s.tx t' hm];exact hu)
theorem zJS {t:Tx} (h:TxOk t) (hl:t.reads.length<256) (x:Spn):TxOk (addR t x):=⟨h.few,h.keyed,h.short,h.bare,by simp [addR];omega⟩
theorem zPN {t:Tx} (h:TxOk t) {x:Wri} (hx:¬ zBG x) (hb:x.Gone=true->x.Val=noB) (hl:t.wr x.Key=none->cnt t.wr<256):TxOk (putW t x) where
 few:=by
  obtain ⟨ks,hd,hk⟩:=h.few
  obtain ⟨js,h1,h2,h3⟩:=zJ4 hd x.Key x
  refine ⟨js,h1,?_⟩
  by_cases hn:t.wr x.Key=none
  ·have:=hl hn;rw [zIO hd] at this;omega
  ·rw [h3 hn];exact hk
 keyed k y hy:=by
  have h1:upd t.wr x.Key x k=some y:=hy
  by_cases hk:k=x.Key
  ·subst hk;rw [QS] at h1;cases h1;rfl
  ·rw [yx _ _ hk] at h1;exact h.keyed k y h1
 short k y hy:=by
  have h1:upd t.wr x.Key x k=some y:=hy
  by_cases hk:k=x.Key
  ·subst hk;rw [QS] at h1;cases h1;exact hx
  ·rw [yx _ _ hk] at h1;exact h.short k y h1
 bare k y hy:=by
  have h1:upd t.wr x.Key x k=some y:=hy
  by_cases hk:k=x.Key
  ·subst hk;rw [QS] at h1;cases h1;exact hb
  ·rw [yx _ _ hk] at h1;exact h.bare k y h1
 rds:=h.rds
theorem zPS {s:St} (h:Inv s) (hn:s.now<=maxT) (n:Int):∃ lo,zGc (delTx s n) lo/\s.low<=lo/\lo<=s.now/\zBq s n={delTx s n with l:=swp lo s.l,low:=lo}:=by
 obtain ⟨ks,hd,_⟩:=h.dom
 obtain ⟨js,hj,_⟩:=zLg hd n
 obtain ⟨lo,hlo⟩:=zLx (s:=delTx s n) hj
 have h1:lo<=s.now:=hlo.now
 have h2:s.low<=lo:=by
  rcases hlo.hit with e|⟨m,t,ht,e⟩
  ·rw [e];exact h.lonow
  ·have hm:m≠n:=λe'=>by subst e';simp [delTx,zFp] at ht
   have ht':s.tx m=some t:=by simpa [delTx,zB5 _ hm] using ht
   rw [e];exact (h.tim m t ht').1
 have hv:zDI (delTx s n).l (delTx s n).low lo=(swp lo s.l,lo,0):=zNn h.good h2 (by unfold maxT at hn;omega)
 refine ⟨lo,hlo,h2,h1,?_⟩
 unfold zBq zKb
 rw [← hlo.eq,hv]
 rfl
theorem zO5 {s:St} {n m:Int} {t:Tx} (h:(zBq s n).tx m=some t):m≠n/\s.tx m=some t:=by
 rw [zLf] at h
 have hm:m≠n:=λe=>by subst e;rw [zFp] at h;cases h
 exact ⟨hm,by rw [zB5 _ hm] at h;exact h⟩
theorem zIg {s:St} (h:Inv s) (hn:s.now<=maxT) (n:Int):Inv (zBq s n):=by
 obtain ⟨lo,hlo,h1,h2,he⟩:=zPS h hn n
 have htx:∀ m t,(zBq s n).tx m=some t->s.tx m=some t:=λm t ht=>(zO5 ht).2
 have h4:=h.lo
 refine ⟨?_,?_,?_,?_,?_,?_,?_,?_,λm t ht=>h.txok m t (htx m t ht)⟩
 ·rw [he];exact zNr h.good (by unfold maxT at hn;omega)
 ·rw [he];show 1<=lo;omega
 ·rw [he];exact h2
 ·rw [he];exact λx hx=>h.past x ((zJU lo s.l).subset hx)
 ·rw [he];exact h.giv
 ·obtain ⟨ks,hd,hl⟩:=h.dom
  obtain ⟨js,hj,hl'⟩:=zLg hd n
  rw [he];exact ⟨js,hj,by omega⟩
 ·intro m t ht
  have:=h.num m t (htx m t ht)
  rw [he];exact this
 ·intro m t ht
  have h3:=h.tim m t (htx m t ht)
  rw [he] at ht ⊢
  exact ⟨hlo.all m t ht,h3.2⟩
theorem zPL {s:St} (h:Inv s) {ys:List Wri} (hp:pwhy s.l s.low ys (s.now+1)=0):Inv (putS s (putL s.l (s.now+1) ys,s.low,0)) where
 good:=zOn hp
 lo:=h.lo
 lonow:=by show s.low<=s.now+1;have:=h.lonow;omega
 past x hx:=by
  show x.At<=s.now+1
  rcases zJm.1 hx with h1|⟨w,_,rfl⟩
  ·have:=h.past x h1;omega
  ·exact Int.le_refl _
 giv:=h.giv
 dom:=h.dom
 num:=h.num
 tim n t ht:=by
  show s.low<=t.began/\t.began<=s.now+1
  have:=h.tim n t ht;omega
 txok:=h.txok
theorem zPJ {s:St} (h:Inv s) {n:Int} {t:Tx} (ht:s.tx n=some t) {ys:List Wri} (hS:zFF t.wr ys) (hn:s.now+1<=maxT):pwhy s.l s.low ys (s.now+1)=if 4096<s.l.length+ys.length then 3 else 0:=by
 have hk:=h.txok n t ht
 obtain ⟨ks,hd,hl⟩:=hk.few
 have hlen:ys.length=ks.length:=by have:=(zJt hd hk.keyed).2;rw [zGw hS] at this;exact this
 have hw:zGi ys=0:=zE8.2 ⟨by omega,λw hw=>hk.short w.Key w ((hS.2 w).1 hw),hS.keys⟩
 have h1:=h.lo
 have h2:=h.lonow
 unfold maxT at hn
 unfold pwhy
 rw [if_neg (by rw [zI1 h.good];simp),if_neg (by simp [hw]),if_neg (by omega),if_neg (λh3=>by
  rcases h3 with h3|⟨x,h3,h4⟩
  ·omega
  ·have:=h.past x h3;omega)]
theorem zPO {s:St} (h:Inv s) {n:Int} {t:Tx} (ht:s.tx n=some t) {ys:List Wri} (hS:zFF t.wr ys):ys.length<=256:=by
 have hk:=h.txok n t ht
 obtain ⟨ks,hd,hl⟩:=hk.few
 have hlen:ys.length=ks.length:=by have:=(zJt hd hk.keyed).2;rw [zGw hS] at this;exact this
 omega
theorem Inv.sorts {s:St} (h:Inv s) {n:Int} {t:Tx} (ht:s.tx n=some t):zFF t.wr (zGA t.wr):=by
 have hk:=h.txok n t ht
 obtain ⟨ks,hd,hl⟩:=hk.few
 exact (zJt hd hk.keyed).1
abbrev ans0:Ans:=⟨0,0,noB,false,[],[],0⟩
abbrev errA (e:Int):Ans:={ans0 with why:=e}
noncomputable def onTx (s:St) (n:Int) (f:Tx->St × Ans):St × Ans:=match s.tx n with
 |none=>(s,errA 11)
 |some t=>f t
noncomputable def zCT (s:St):St × Ans:=if 16<=cnt s.tx then (s,errA 3) else (zFG s,{ans0 with tx:=s.given+1})
noncomputable def getT (s:St) (n:Int) (key:ByteArray) (t:Tx):St × Ans:=
 if 256<key.size then (s,errA 4) else if 256<=t.reads.length then (s,errA 3)
 else (setTx s n (addR t (zBr key)),{ans0 with val:=(tget s t key).1,is:=(tget s t key).2.1,why:=(tget s t key).2.2})
noncomputable def getD (s:St) (n:Int) (key:ByteArray):St × Ans:=onTx s n (getT s n key)
abbrev zBI (fr to:ByteArray):Spn:=⟨fr,to,false⟩
noncomputable def zFz (s:St) (t:Tx) (key:ByteArray):Option ByteArray:=ovl t.wr (λk=>val s.l k t.began) key
def cut (x:Spn) (f:ByteArray->Option ByteArray) (key:ByteArray):Option ByteArray:=if zBy x key=true then f key else none
noncomputable def zLk (s:St) (n:Int) (fr to:ByteArray) (t:Tx):St × Ans:=
 if 256<=t.reads.length then (s,errA 3)
 else (setTx s n (addR t (zBI fr to)),{ans0 with pairs:=zJZ (cut (zBI fr to) (zFz s t))})
noncomputable def zGq (s:St) (n:Int) (fr to:ByteArray):St × Ans:=onTx s n (zLk s n fr to)
open Classical in
noncomputable def zI8 (s:St) (n:Int) (x:Wri) (t:Tx):St × Ans:=
 if zBG x then (s,errA 4) else if t.wr x.Key=none/\256<=cnt t.wr then (s,errA 3) else (setTx s n (putW t x),ans0)
noncomputable def zCb (s:St) (n:Int) (x:Wri):St × Ans:=onTx s n (zI8 s n x)
open Classical in
noncomputable def zGV (s:St) (n:Int) (t:Tx):St × Ans:=
 if s.l.any (conf t)=true then (zBq s n,errA 10)
 else if (∀ k,t.wr k=none) then (zBq s n,{ans0 with time:=s.now})
 else if (vput s.l s.low (zGA t.wr) (s.now+1)).2.2≠0 then (zBq s n,errA (vput s.l s.low (zGA t.wr) (s.now+1)).2.2)
 else (zBq (putS s (vput s.l s.low (zGA t.wr) (s.now+1))) n,{ans0 with done:=zGA t.wr,time:=s.now+1})
noncomputable def zBR (s:St) (n:Int):St × Ans:=onTx s n (zGV s n)
noncomputable def zGg (s:St) (n:Int):St × Ans:=onTx s n λ_=>(zBq s n,ans0)
noncomputable def doS (s:St) (x:yH):St × Ans:=
 if x.Kind=1 then zCT s else if x.Kind=2 then getD s x.Tx x.Key else if x.Kind=3 then zGq s x.Tx x.Key x.To
 else if x.Kind=4 then zCb s x.Tx ⟨x.Key,x.Val,false⟩ else if x.Kind=5 then zCb s x.Tx ⟨x.Key,noB,true⟩
 else if x.Kind=6 then zBR s x.Tx else if x.Kind=7 then zGg s x.Tx else (s,errA 15)
inductive Eff (s:St) (x:yH):St->Ans->Prop
 |no (e:Int):e≠0->Eff s x s (errA e)
 |beg:x.Kind=1->cnt s.tx<16->Eff s x (zFG s) {ans0 with tx:=s.given+1}
 |get (t:Tx):x.Kind=2->s.tx x.Tx=some t->x.Key.size<=256->t.reads.length<256->Eff s x (setTx s x.Tx (addR t (zBr x.Key))) {ans0 with val:=(zFz s t x.Key).getD noB,is:=(zFz s t x.Key).isSome}
 |scan (t:Tx):x.Kind=3->s.tx x.Tx=some t->t.reads.length<256->Eff s x (setTx s x.Tx (addR t (zBI x.Key x.To))) {ans0 with pairs:=zJZ (cut (zBI x.Key x.To) (zFz s t))}
 |write (t:Tx) (y:Wri):(x.Kind=4/\y=⟨x.Key,x.Val,false⟩∨x.Kind=5/\y=⟨x.Key,noB,true⟩)->s.tx x.Tx=some t->¬ zBG y->(t.wr y.Key=none->cnt t.wr<256)->Eff s x (setTx s x.Tx (putW t y)) ans0
 |abort (t:Tx):x.Kind=7->s.tx x.Tx=some t->Eff s x (zBq s x.Tx) ans0
 |fail (t:Tx) (e:Int):x.Kind=6->s.tx x.Tx=some t->e≠0->Eff s x (zBq s x.Tx) (errA e)
 |empty (t:Tx):x.Kind=6->s.tx x.Tx=some t->s.l.any (conf t)=false->(∀ k,t.wr k=none)->Eff s x (zBq s x.Tx) {ans0 with time:=s.now}
 |comm (t:Tx) (ys:List Wri):x.Kind=6->s.tx x.Tx=some t->s.l.any (conf t)=false->zFF t.wr ys->(∃ k,t.wr k≠none)->pwhy s.l s.low ys (s.now+1)=0->Eff s x (zBq (putS s (putL s.l (s.now+1) ys,s.low,0)) x.Tx) {ans0 with done:=ys,time:=s.now+1}
theorem zKf {s:St} (h:Inv s) {n:Int} {t:Tx} (ht:s.tx n=some t) (key:ByteArray):tget s t key=((zFz s t key).getD noB,(zFz s t key).isSome,0):=by
 unfold tget zFz ovl
 cases hw:t.wr key with
 |some x=>
  simp only
  cases hg:x.Gone
  ·simp
  ·simp [(h.txok n t ht).bare key x hw hg]
 |none=>
  simp only
  have h0:vask s.l s.low t.began=0:=zGy.2 ⟨h.good,(h.tim n t ht).1⟩
  unfold vget
  rw [if_neg (by simp [h0]),zPC h.good]
theorem zJl {s:St} {x:yH} {f:Tx->St × Ans} (h:∀ t,s.tx x.Tx=some t->Eff s x (f t).1 (f t).2):Eff s x (onTx s x.Tx f).1 (onTx s x.Tx f).2:=by
 unfold onTx
 cases ht:s.tx x.Tx with
 |none=>exact .no 11 (by decide)
 |some t=>exact h t ht
theorem zKe {s:St} {x:yH} {y:Wri} (hk:x.Kind=4/\y=⟨x.Key,x.Val,false⟩∨x.Kind=5/\y=⟨x.Key,noB,true⟩):Eff s x (zCb s x.Tx y).1 (zCb s x.Tx y).2:=by
 refine zJl λt ht=>?_
 unfold zI8
 split
 ·exact .no 4 (by decide)
 ·rename_i h1
  split
  ·exact .no 3 (by decide)
  ·rename_i h2
   exact .write t y hk ht h1 λh3=>Nat.not_le.1 λh4=>h2 ⟨h3,h4⟩
theorem zNP {s:St} (h:Inv s) (hn:s.now+1<=maxT) (x:yH):Eff s x (doS s x).1 (doS s x).2:=by
 unfold doS
 split
 ·rename_i k
  unfold zCT
  split
  ·exact .no 3 (by decide)
  ·exact .beg k (by omega)
 split
 ·rename_i k
  refine zJl λt ht=>?_
  unfold getT
  split
  ·exact .no 4 (by decide)
  ·split
   ·exact .no 3 (by decide)
   ·rw [zKf h ht]
    exact .get t k ht (by omega) (by omega)
 split
 ·rename_i k
  refine zJl λt ht=>?_
  unfold zLk
  split
  ·exact .no 3 (by decide)
  ·exact .scan t k ht (by omega)
 split
 ·rename_i k;exact zKe (.inl ⟨k,rfl⟩)
 split
 ·rename_i k;exact zKe (.inr ⟨k,rfl⟩)
 split
 ·rename_i k
  refine zJl λt ht=>?_
  have hS:=h.sorts ht
  unfold zGV
  split
  ·exact .fail t 10 k ht (by decide)
  ·rename_i hc
   have hc:=Bool.eq_false_iff.2 hc
   split
   ·rename_i he;exact .empty t k ht hc he
   ·rename_i he
    split
    ·rename_i h3;exact .fail t _ k ht h3
    ·rename_i h3
     obtain ⟨h4,h5⟩:=zPF (Classical.not_not.1 h3)
     rw [h5]
     exact .comm t _ k ht hc hS (Classical.not_forall.1 he) h4
 split
 ·rename_i k;exact zJl λt ht=>.abort t k ht
 ·exact .no 15 (by decide)
theorem zPX {s s':St} {a:Ans} {x:yH} (h:Inv s) (hn:s.now+1<=maxT) (e:Eff s x s' a):Inv s':=by
 cases e with
 |no e _=>exact h
 |beg _ hc=>exact zKV h hc
 |get t _ ht _ hl=>exact zGn h ht rfl (zJS (h.txok _ t ht) hl _)
 |scan t _ ht hl=>exact zGn h ht rfl (zJS (h.txok _ t ht) hl _)
 |write t y hk ht hy hl=>exact zGn h ht rfl (zPN (h.txok _ t ht) hy (λhg=>by rcases hk with ⟨_,e⟩|⟨_,e⟩<;>rw [e] at hg ⊢;cases hg) hl)
 |abort t _ ht=>exact zIg h (by omega) _
 |fail t e _ ht _=>exact zIg h (by omega) _
 |empty t _ ht _ _=>exact zIg h (by omega) _
 |comm t ys _ ht _ _ _ hp=>exact zIg (zPL h hp) hn _
end Go.Proofs.YtealcoghiaeiiaaGreat.VG
set_option linter.unusedVariables false
namespace Go.Proofs.YtealcoghiaeiiaaGreat.VG
open Go.VB Go.Proofs Go.RowKit
theorem zLu (fr to key:ByteArray):zGX fr to key↔zBy (zBI fr to) key=false:=by
 unfold zGX zBy
 simp only [Bool.false_eq_true,if_false]
 cases h1:sLt key fr<;>cases h2:sLt key to<;>by_cases h3:to=noB<;>simp [h3]
end Go.Proofs.YtealcoghiaeiiaaGreat.VG
set_option linter.unusedVariables false
set_option linter.unusedSimpArgs false
namespace Go.Proofs.YtealcoghiaeiiaaGreat.VG
open Go.VB Go.Proofs
def zAM (x13:Sl) (Kl3:Sl->World->Prop) (v:Value) (x16:Option Addr) (x81:Bool) (w:World):Prop:=
 (x81=true->(opE zA zC (zN 34 (.pointer x16) 0) w (λx83 w=>opE zA za (zD 9 (.pointer x83)) w (λx84 w=>opE zA zC (zN 34 (.pointer x16) 1) w (λx85 w=>opE zA za (zD 9 (.pointer x85)) w (λx86 w=>opE zA zM.v (QP 66 [(0,(.string x84)),(1,(.string x86))].toArray) w (λx87 w=>opE zA Sl.v (zq 22 1 [(0,(zM.v x87))].toArray) w (λx88 w=>opE zA Sl.v (Builtin.append_ #[22,22] 22 [(Sl.v x13),(Sl.v x88)].toArray) w (λx89 w=>Kl3 x89 w)))))))))/\(x81=false->(Kl3 x13 w))
def zBk (Ret:Sl->Int->World->Prop) (x12:Option Addr) (x68:Option Addr) (x13:Sl) (w:World) (Kl3:Sl->World->Prop):Prop:=
 opE zA (zJc id id) (Instr.next (.pointer x68) false 0) w (λr_5 w=>(r_5=none->(Cl zA 46 [(Sl.v x13),(.func (.func 47) #[] #[])].toArray w (λe w=>e=.returned (.tuple [].toArray)/\(Ret x13 0 w))))/\(∀ k v,r_5=some (k,v)->(opE zA (λp:Value × Value=>.tuple [p.1,p.2].toArray) (Instr.entry (.pointer x68)) w (λx71 w=>opE zA zC (ze 34 true (.tuple #[])) w (λx16 w=>opU zA (zJ 34 (.pointer x16) x71.2) w (λw=>opE zA zC (zN 34 (.pointer x16) 2) w (λx73 w=>opE zA QQ (zD 4 (.pointer x73)) w (λx74 w=>((!x74)=true->(opE zA z7.v (zD 103 (.pointer x12)) w (λx77 w=>opE zA zC (zN 34 (.pointer x16) 0) w (λx78 w=>opE zA za (zD 9 (.pointer x78)) w (λx79 w=>Cl zA 45 [(z7.v x77),(.string x79)].toArray w (λe w=>∃ (r_6:Bool),e=.returned (.bool r_6)/\(zAM x13 Kl3 v x16 r_6 w)))))))/\((!x74)=false->(zAM x13 Kl3 v x16 false w))))))))))
def zEy (x0:Option Addr) (x1:Int) (x2:ByteArray) (x3:ByteArray) (w:World) (Ret:Sl->Int->World->Prop):Prop:=
 Cl zA 36 [(.pointer x0),(.int .i64 x1)].toArray w (λe w=>∃ (r:Option Addr) (r_1:Int),e=.returned (.tuple [(.pointer r),(.int .i64 r_1)].toArray)/\(opE zA zC (ze 88 true (.tuple #[])) w (λx10 w=>opU zA (zJ 88 (.pointer x10) (.pointer r)) w (λw=>((r_1≠0)->(Ret Sl.none r_1 w))/\(¬ (r_1≠0)->(opE zA zC (zD 88 (.pointer x10)) w (λx28 w=>QU (.pointer x28)/\(opE zA zC (zN 92 (.pointer x28) 1) w (λx30 w=>opE zA Sl.v (zD 90 (.pointer x30)) w (λx31 w=>((256<=(x31.len:Int))->(Ret Sl.none 3 w))/\(¬ (256<=(x31.len:Int))->(opE zA z7.v (QP 103 [(0,(.string x2)),(1,(.string x3))].toArray) w (λx36 w=>opE zA zC (ze 103 true (.tuple #[])) w (λx12 w=>opU zA (zJ 103 (.pointer x12) (z7.v x36)) w (λw=>regC w (λC1 w=>opC C1 zA zC (zD 88 (.pointer x10)) (λx37=>opC C1 zA zC (zD 88 (.pointer x10)) (λx38=>QU (.pointer x38)/\(opC C1 zA zC (zN 92 (.pointer x38) 1) (λx40=>opC C1 zA Sl.v (zD 90 (.pointer x40)) (λx41=>opC C1 zA z7.v (zD 103 (.pointer x12)) (λx42=>opE zA Sl.v (zq 90 1 [(0,(z7.v x42))].toArray) w (λx43 w=>C1 w/\(opE zA Sl.v (Builtin.append_ #[90,90] 90 [(Sl.v x41),(Sl.v x43)].toArray) w (λx44 w=>C1 w/\(QU (.pointer x37)/\(opC C1 zA zC (zN 92 (.pointer x37) 1) (λx46=>opU zA (zJ 90 (.pointer x46) (Sl.v x44)) w (λw=>(regC w (λC2 w=>QU (.pointer x0)/\(opC C2 zA zC (zN 87 (.pointer x0) 0) (λx50=>opC C2 zA zP.v (zD 69 (.pointer x50)) (λx51=>opC C2 zA zC (zD 88 (.pointer x10)) (λx54=>QU (.pointer x54)/\(opC C2 zA zC (zN 92 (.pointer x54) 0) (λx56=>opC C2 zA (zU .u64) (zD 37 (.pointer x56)) (λx57=>Cl zA 42 [(zP.v x51),(.string x2),(.string x3),(.int .u64 x57)].toArray w (λe w=>∃ (r_2:Sl) (r_3:Int),e=.returned (.tuple [(Sl.v r_2),(.int .i64 r_3)].toArray)/\(C2 w/\(Cl zA 43 [(Sl.v r_2),(.func (.func 44) [].toArray [(.pointer x10)].toArray)].toArray w (λe w=>∃ (r_4:Sl),e=.returned (Sl.v r_4)/\(opE zA zC (zD 88 (.pointer x10)) w (λx64 w=>QU (.pointer x64)/\(opE zA zC (zN 92 (.pointer x64) 2) w (λx66 w=>opE zA Value.map (zD 89 (.pointer x66)) w (λx67 w=>opE zA zC (Instr.range 89 (.map x67)) w (λx68 w=>∃ (I:Sl->World->Prop) (μ:Sl->World->Nat),I r_4 w/\∀ (x13:Sl) w,I x13 w->zBk Ret x12 x68 x13 w (λx13' w'=>I x13' w'/\μ x13' w'<μ x13 w)))))))))))))))))))))))))))))))))))))))))))))))))
set_option maxRecDepth 100000 in
theorem zID (x0:Option Addr) (x1:Int) (x2:ByteArray) (x3:ByteArray) (w:World) (Ret:Sl->Int->World->Prop) (H:zEy x0 x1 x2 x3 w Ret):Cl zA 17 [(.pointer x0),(.int .i64 x1),(.string x2),(.string x3)].toArray w (λe w'=>∃ (r0:Sl) (r1:Int),e=.returned (.tuple [(Sl.v r0),(.int .i64 r1)].toArray)/\Ret r0 r1 w'):=by
 unfold zEy at H
 refine zk 93 (zipE 0 [(.pointer x0),(.int .i64 x1),(.string x2),(.string x3)]) Tryz.func17 rfl rfl (by rfl) rfl ?_
 intro a g
 replace g:Sat [] 93 [(0,(.pointer x0)),(1,(.int .i64 x1)),(2,(.string x2)),(3,(.string x3))] a:=g
 refine zK (zE (g.as_ rfl λ_ g=>g.as_ rfl λ_ g=>zL (tn (zK (zE (g.mv rfl λ_ g=>g.mv rfl λ_ g=>g.call (zZ g zL2 rfl rfl) H λe w H=>?_))))))
 obtain ⟨r,r_1,rfl,H⟩:=H
 refine ⟨_,rfl,λ_ g=>(g.mv rfl λ_ g=>g.pur (zY g rfl rfl) λ_ g=>g.pur (zY g rfl rfl) λ_ g=>g.op (YA) H λx10 w a H g=>g.opu (zT g rfl rfl) H λw a H g=>g.as_ rfl λ_ g=>zL (tn (zK (zW (zK (zE (g.mv rfl λ_ g=>g.pur (zE5 g rfl rfl) λ_ g=>g.as_ rfl λ_ g=>zL (tn (zb g rfl (λhc=>?_) (λhc=>?_))))))))))⟩
 ·replace H:=H.1 hc
  exact zK (zE (g.mv rfl λ_ g=>g.as_ rfl λ_ g=>g.as_ rfl λ_ g=>zL (tn (zg (br (tr (Zx g rfl rfl rfl ⟨_,_,rfl,H⟩)))))))
 ·replace H:=H.2 hc
  refine zK (zE (g.op (zO g rfl) H λx28 w a H g=>g.pur (zc g rfl H.1) λ_ g=>?_))
  replace H:=H.2
  refine g.op (zQ g rfl) H λx30 w a H g=>g.op (zO g rfl) H λx31 w a H g=>g.purR (λw=>zAm g Tryz.underlying90 rfl) λ_ g=>g.pur (ZY g rfl rfl) λ_ g=>g.as_ rfl λ_ g=>zL (tn (zb g rfl (λhc=>?_) (λhc=>?_)))
  ·replace H:=H.1 hc
   exact zK (zE (g.as_ rfl λ_ g=>g.as_ rfl λ_ g=>zL (tn (zg (br (tr (Zx g rfl rfl rfl ⟨_,_,rfl,H⟩)))))))
  ·replace H:=H.2 hc
   refine zX (bn (tn (zK (zE (g.mv rfl λ_ g=>g.mv rfl λ_ g=>g.op (zAy g rfl) H λx36 w a H g=>g.op (YA) H λx12 w a H g=>g.opu (zT g rfl rfl) H λw a H g=>zL (tn (zK (zNR 10 H 11 (λC1 w hC0 H=>g.ko 0 rfl hC0 (zO g rfl) H λx37 a H g=>g.ko 1 rfl hC0 (zO g rfl) H λx38 a H g=>g.kp 2 rfl hC0 (Q7 (zc g rfl H.1)) λ_ g=>?_)))))))))
   replace H:=H.2
   refine g.ko 3 rfl hC0 (zQ g rfl) H λx40 a H g=>g.ko 4 rfl hC0 (zO g rfl) H λx41 a H g=>g.ko 5 rfl hC0 (zO g rfl) H λx42 a H g=>WK.on 6 rfl ?_
   intro K hK
   refine g.wop (Z3 g rfl) H λx43 w a H g=>hK _ _ ⟨H.1,?_⟩
   have hC1:=H.1
   replace H:=H.2
   refine WK.on 7 rfl ?_
   intro K hK
   refine g.wop (zEh g rfl) H λx44 w a H g=>hK _ _ ⟨H.1,?_⟩
   have hC2:=H.1
   replace H:=H.2
   refine g.kp 8 rfl hC2 (Q7 (zc g rfl H.1)) λ_ g=>?_
   replace H:=H.2
   refine g.ko 9 rfl hC2 (zQ g rfl) H λx46 a H g=>WK.la 10 rfl ?_
   intro K hK
   refine g.wopu (zT g rfl rfl) H λw a H g=>hK _ _ (WK.nil (by kernel_rfl) ((tn (zK (zNR 15 H 16 (λC2 w hC0 H=>g.kp 0 rfl hC0 (Q7 (zR g rfl)) λ_ g=>g.kp 1 rfl hC0 (Q7 (zc g rfl H.1)) λ_ g=>?_))))))
   replace H:=H.2
   refine g.ko 2 rfl hC0 (zQ g rfl) H λx50 a H g=>g.kp 4 rfl hC0 (Q7 (zR g rfl)) λ_ g=>g.kp 5 rfl hC0 (Q7 (zR g rfl)) λ_ g=>g.ko 3 rfl hC0 (zO g rfl) H λx51 a H g=>g.ko 6 rfl hC0 (zO g rfl) H λx54 a H g=>g.kp 7 rfl hC0 (Q7 (zc g rfl H.1)) λ_ g=>?_
   replace H:=H.2
   refine g.ko 8 rfl hC0 (zQ g rfl) H λx56 a H g=>g.ko 9 rfl hC0 (zO g rfl) H λx57 a H g=>WK.on 10 rfl ?_
   intro K hK
   refine g.wcall (zZ g zRP rfl rfl) H λe w H=>?_
   obtain ⟨r_2,r_3,rfl,H⟩:=H
   refine ⟨_,rfl,λ_ g=>(hK _ _ ⟨H.1,?_⟩)⟩
   have hC1:=H.1
   replace H:=H.2
   refine g.kp 11 rfl hC1 (Q7 (zR g rfl)) λ_ g=>g.kp 12 rfl hC1 (Q7 (zY g rfl rfl)) λ_ g=>g.kp 13 rfl hC1 (Q7 (zY g rfl rfl)) λ_ g=>g.kp 14 rfl hC1 (Q7 (Y3 g rfl)) λ_ g=>g.kp 15 rfl hC1 (Q7 (Y3 g rfl)) λ_ g=>WK.nil (by kernel_rfl) ((tn (zK (zE (g.mv rfl λ_ g=>g.pur (zFe g rfl rfl) λ_ g=>g.call (zZ g zQ9 rfl rfl) H λe w H=>?_)))))
   obtain ⟨r_4,rfl,H⟩:=H
   refine ⟨_,rfl,λ_ g=>(g.as_ rfl λ_ g=>zL (tn (zK (zK (zE (g.op (zO g rfl) H λx64 w a H g=>g.pur (zc g rfl H.1) λ_ g=>?_))))))⟩
   replace H:=H.2
   refine g.op (zQ g rfl) H λx66 w a H g=>g.op (zO g rfl) H λx67 w a H g=>g.op (zJV g rfl) H λx68 w a H g=>zL (tn (zW ?_))
   obtain ⟨I_l3,μ_l3,h0,hb⟩:=H
   refine yF (ds:=[]) (N:=93) (σ:=Sl) (λs=>[(13,(Sl.v s)),(12,(.pointer x12)),(68,(.pointer x68))]) (λs w=>I_l3 s w) (λs w=>μ_l3 s w) r_4 h0 (g.wk) ?_
   intro x13 w a hI g
   try dsimp only at hI g
   obtain ⟨Kl3,hK_l3⟩:∃ K:Sl->World->Prop,K=(λx13' w'=>I_l3 x13' w'/\μ_l3 x13' w'<μ_l3 x13 w):=⟨_,rfl⟩
   have H:zBk Ret x12 x68 x13 w Kl3:=by rw [hK_l3];exact hb x13 w hI
   clear hb h0 hI
   unfold zBk at H
   refine zK (zE (g.op (zK8 g rfl) H λr_5 w a H g=>?_))
   rcases r_5 with _|⟨k,v⟩
   ·replace H:=H.1 rfl
    refine g.pur (zY g rfl rfl) λ_ g=>zL (tn (zK (zd g rfl (λh=>nomatch h) (λ_=>z8 (te (te (be (tn (zK (zE (g.mv rfl λ_ g=>g.call (zZ g zQs rfl rfl) H λe w H=>?_)))))))))))
    obtain ⟨rfl,H⟩:=H
    exact ⟨_,rfl,λ_ g=>(zL (tn (zK (zE (g.mv rfl λ_ g=>g.as_ rfl λ_ g=>g.as_ rfl λ_ g=>zL (tn (zg (Zx g rfl rfl rfl ⟨_,_,rfl,H⟩))))))))⟩
   ·replace H:=H.2 _ _ rfl
    refine g.pur (zY g rfl rfl) λ_ g=>zL (tn (zK (zd g rfl (λ_=>zX (tn (zW (zK (zE (g.op (zJW g rfl) H λx71 w a H g=>g.pur (zY g rfl rfl) λ_ g=>g.op (YA) H λx16 w a H g=>g.opu (zT g rfl rfl) H λw a H g=>zL (tn (zK (zE (g.op (zQ g rfl) H λx73 w a H g=>g.op (zO g rfl) H λx74 w a H g=>g.pur (zAO g rfl) λ_ g=>g.mv rfl λ_ g=>WL.join (ds:=[]) (N:=93) (σ:=Bool) (λs=>[(81,(.bool s)),(12,(.pointer x12)),(13,(Sl.v x13)),(16,(.pointer x16)),(68,(.pointer x68))]) (λs w=>zAM x13 Kl3 v x16 s w) 5 ?_ (λhr4=>?_))))))))))) (λh=>nomatch h))))
    ·intro x81 w a H g
     try dsimp only at H g
     unfold zAM at H
     refine zL (tn (zd g rfl (λhc=>?_) (λhc=>?_)))
     ·replace H:=H.1 hc
      refine zE (g.mv rfl λ_ g=>g.op (zQ g rfl) H λx83 w a H g=>g.op (zO g rfl) H λx84 w a H g=>g.op (zQ g rfl) H λx85 w a H g=>g.op (zO g rfl) H λx86 w a H g=>g.op (zAy g rfl) H λx87 w a H g=>g.op (Z3 g rfl) H λx88 w a H g=>g.op (zEh g rfl) H λx89 w a H g=>g.as_ rfl λ_ g=>?_)
      rw [hK_l3] at H
      exact zL (bn (tn ⟨x89,g.wk,H⟩))
     ·replace H:=H.2 hc
      rw [hK_l3] at H
      exact zX (bn (tn ⟨x13,g.wk,H⟩))
    ·rcases Bool.eq_false_or_eq_true ((!x74)) with hbr4|hbr4
     ·replace H:=H.1 hbr4
      replace g:=g.bool (b:=true) (t:=76) rfl (hbr4)
      refine g.on (by rfl) (by rfl) (g.op (zO g rfl) H λx77 w a H g=>g.on (by rfl) (by rfl) (g.op (zQ g rfl) H λx78 w a H g=>g.on (by rfl) (by rfl) (g.op (zO g rfl) H λx79 w a H g=>g.on (by rfl) (by rfl) (g.call (zZ g zPq rfl rfl) H λe w H=>?_))))
      obtain ⟨r_6,rfl,H⟩:=H
      exact ⟨_,rfl,λ_ g=>(g.pur (zl g rfl rfl) λ_ g=>hr4 r_6 _ _ H (g.wk))⟩
     ·replace H:=H.2 hbr4
      replace g:=g.bool (b:=false) (t:=76) rfl (hbr4)
      exact g.off (by rfl) (by rfl) (by decide) (λ_ g=>g.off (by rfl) (by rfl) (by decide) (λ_ g=>g.off (by rfl) (by rfl) (by decide) (λ_ g=>g.off (by rfl) (by rfl) (by decide) (λ_ g=>g.pur (zm g rfl rfl) λ_ g=>hr4 false _ _ H (g.wk)))))
def zDs (x0:zM) (x1:Option Addr) (w:World) (Ret:Bool->World->Prop):Prop:=
 opE zA zC (Instr.box 66 (zM.v x0)) w (λx2 w=>regC w (λC1 w=>opC C1 zA zC (zN 66 (.pointer x2) 0) (λx11=>opC C1 zA zC (zD 88 (.pointer x1)) (λx7=>QU (.pointer x7)/\(opC C1 zA zC (zN 92 (.pointer x7) 2) (λx9=>opC C1 zA Value.map (zD 89 (.pointer x9)) (λx10=>opC C1 zA za (zD 9 (.pointer x11)) (λx12=>opC C1 zA (λp:zI × Bool=>.tuple [(zI.v p.1),(.bool p.2)].toArray) (Instr.lookup 89 (.map x10) (.string x12) true) (λx13=>opE zA zC (ze 34 true (.tuple #[])) w (λx4 w=>C1 w/\(opU zA (zJ 34 (.pointer x4) (zI.v x13.1)) w (λw=>C1 w/\(Ret x13.2 w)))))))))))))
set_option maxRecDepth 100000 in
theorem zHP (x0:zM) (x1:Option Addr) (w:World) (Ret:Bool->World->Prop) (H:zDs x0 x1 w Ret):Cl zA 44 [(zM.v x0),(.pointer x1)].toArray w (λe w'=>∃ (r0:Bool),e=.returned (.bool r0)/\Ret r0 w'):=by
 unfold zDs at H
 refine zk 17 (zipE 0 [(zM.v x0),(.pointer x1)]) Tryz.func44 rfl rfl (by rfl) rfl ?_
 intro a g
 replace g:Sat [] 17 [(0,(zM.v x0)),(1,(.pointer x1))] a:=g
 refine zK (zE (g.op (zBi g rfl) H λx2 w a H g=>g.as_ rfl λ_ g=>zL (tn (zK (zNR 12 H 13 (λC1 w hC0 H=>g.ko 4 rfl hC0 (zQ g rfl) H λx11 a H g=>g.ko 0 rfl hC0 (zO g rfl) H λx7 a H g=>g.kp 1 rfl hC0 (Q7 (zc g rfl H.1)) λ_ g=>?_))))))
 replace H:=H.2
 refine g.ko 2 rfl hC0 (zQ g rfl) H λx9 a H g=>g.ko 3 rfl hC0 (zO g rfl) H λx10 a H g=>g.ko 5 rfl hC0 (zO g rfl) H λx12 a H g=>g.ko 6 rfl hC0 (zHf g rfl rfl) H λx13 a H g=>g.kp 7 rfl hC0 (Q7 (zR g rfl)) λ_ g=>g.kp 8 rfl hC0 (Q7 (zY g rfl rfl)) λ_ g=>g.kp 9 rfl hC0 (Q7 (zY g rfl rfl)) λ_ g=>WK.on 10 rfl ?_
 intro K hK
 refine g.wop (YA) H λx4 w a H g=>hK _ _ ⟨H.1,?_⟩
 have hC1:=H.1
 replace H:=H.2
 refine WK.on 11 rfl ?_
 intro K hK
 refine g.wopu (zT g rfl rfl) H λw a H g=>hK _ _ ⟨H.1,?_⟩
 have hC2:=H.1
 replace H:=H.2
 exact g.kp 12 rfl hC2 (Q7 (Y3 g rfl)) λ_ g=>WK.nil (by kernel_rfl) ((tn (zK (zE (g.mv rfl λ_ g=>g.as_ rfl λ_ g=>zL (tn (zg (zw g rfl rfl ⟨_,rfl,H⟩))))))))
def zDj (x0:zM) (x1:zM) (w:World) (Ret:Int->World->Prop):Prop:=
 opE zA zC (Instr.box 66 (zM.v x0)) w (λx2 w=>opE zA zC (Instr.box 66 (zM.v x1)) w (λx3 w=>opE zA zC (zN 66 (.pointer x2) 0) w (λx5 w=>opE zA za (zD 9 (.pointer x5)) w (λx6 w=>opE zA zC (zN 66 (.pointer x3) 0) w (λx7 w=>opE zA za (zD 9 (.pointer x7)) w (λx8 w=>Cl zA 48 [(.string x6),(.string x8)].toArray w (λe w=>∃ (r:Int),e=.returned (.int .i64 r)/\(Ret r w))))))))
set_option maxRecDepth 100000 in
theorem zHT (x0:zM) (x1:zM) (w:World) (Ret:Int->World->Prop) (H:zDj x0 x1 w Ret):Cl zA 47 [(zM.v x0),(zM.v x1)].toArray w (λe w'=>∃ (r0:Int),e=.returned (.int .i64 r0)/\Ret r0 w'):=by
 unfold zDj at H
 refine zk 10 (zipE 0 [(zM.v x0),(zM.v x1)]) Tryz.func47 rfl rfl (by rfl) rfl ?_
 intro a g
 replace g:Sat [] 10 [(0,(zM.v x0)),(1,(zM.v x1))] a:=g
 refine zK (zE (g.op (zBi g rfl) H λx2 w a H g=>g.op (zBi g rfl) H λx3 w a H g=>g.as_ rfl λ_ g=>zL (tn (zK (zE (g.op (zQ g rfl) H λx5 w a H g=>g.op (zO g rfl) H λx6 w a H g=>g.op (zQ g rfl) H λx7 w a H g=>g.op (zO g rfl) H λx8 w a H g=>g.call (zZ g zOV rfl rfl) H λe w H=>?_))))))
 obtain ⟨r,rfl,H⟩:=H
 exact ⟨_,rfl,λ_ g=>(g.as_ rfl λ_ g=>zL (tn (zg (zw g rfl rfl ⟨_,rfl,H⟩))))⟩
end Go.Proofs.YtealcoghiaeiiaaGreat.VG
set_option linter.unusedVariables false
set_option linter.unusedSimpArgs false
namespace Go.VB
open Go.RowKit
section
variable {P:Program} {w:World} {α:Type} {c:α->List Value} {n e t base:Nat} {s:Sl}
theorem OwnS.cut {xs:List α} (hO:OwnS c n e base w s xs) (hc:∀ x,(c x).length=n) {i:Nat} (hi:i<=xs.length) (hpos:0<xs.length):OwnS c n e base w (s.sub 0 i n) (xs.take i):=by
 obtain ⟨g,cap,cur,rfl,hh,hcap,hm,hsz,htk,hb⟩:=hO.at hpos
 have hsmall:=hO.small
 simp only at hsmall
 have e1:(⟨some ⟨g,0,none⟩,xs.length,cap⟩:Sl).sub 0 i n=⟨some ⟨g,0,none⟩,i,cap⟩:=by
  unfold Sl.sub;simp [show ¬ cap=0 by omega,Addr.add]
 rw [e1]
 refine ⟨by simp;omega,by show i<=_;omega,?_,.inr ⟨g,cap,cur,rfl,hb,hh,by show i<=cap;omega,hm,hsz,?_⟩⟩
 ·rw [zG1 hc,List.length_take];show min i xs.length*n=i*n;rw [Nat.min_eq_left hi]
 ·have h2:xs=xs.take i++xs.drop i:=(List.take_append_drop i xs).symm
  have h3:(xs.flatMap c).take (i*n)=(xs.take i).flatMap c:=by
   conv=>lhs;rw [h2,List.flatMap_append]
   have hl:((xs.take i).flatMap c).length=i*n:=by rw [zG1 hc,List.length_take,Nat.min_eq_left hi]
   rw [List.take_append,List.take_of_length_le (by omega),hl];simp
  rw [← h3,← htk,List.take_take,Nat.min_eq_left (Nat.mul_le_mul_right _ hi)]
theorem zMW {xs:List α} (hO:OwnS c n e base w s xs) (hc:∀ x,(c x).length=n) (hu:P.underlying t=some (.slice e)) (hs:∀ w,(sizeOf e).run P w=.ok n w)
  {z:Value} (hz:∀ w,(zeroValue e).run P w=.ok z w) (hzn:z.cells.size=n) (hz1:z.cells.toList.all (·.oneCell')=true) (hn:0<n) {i:Nat} (hi:i<xs.length) {ty:TypeId} {k:Sl->World->Prop}
  (H:∀ w',OwnS c n e base w' (s.sub 0 i n) (xs.take i)->w.grownBy w' (Sl.v s).ownBlock->(Sl.v (s.sub 0 i n)).ownBlock=(Sl.v s).ownBlock->k (s.sub 0 i n) w'):
  opE P Sl.v (Instr.sliceAt t (Sl.v s) (some (.int .i64 (i:Int))) none none) w (λy w=>opE P (λ_:Unit=>.tuple #[]) (Builtin.clear_ #[t] ty [Sl.v y].toArray) w (λz w=>opE P Sl.v (Instr.sliceAt t (Sl.v s) none (some (.int .i64 (i:Int))) none) w k)):=by
 obtain ⟨g,cap,cur,rfl,hh,hcap,hm,hsz,htk,hb⟩:=hO.at (by omega)
 have hsmall:=hO.small
 simp only at hsmall
 have e1:(⟨some ⟨g,0,none⟩,xs.length,cap⟩:Sl).sub 0 i n=⟨some ⟨g,0,none⟩,i,cap⟩:=by
  unfold Sl.sub;simp [show ¬ cap=0 by omega,Addr.add]
 refine ⟨_,w,zOo hu hs (by show i<=xs.length;omega),?_⟩
 have e2:(⟨some ⟨g,0,none⟩,xs.length,cap⟩:Sl).sub i xs.length n=⟨some ⟨g,i*n,none⟩,xs.length - i,cap - i⟩:=by
  unfold Sl.sub
  simp only
  rw [if_neg (by omega)]
  simp [add_plain']
 rw [e2]
 obtain ⟨m,hm1⟩:∃ m,xs.length - i=m+1:=⟨xs.length - i - 1,by omega⟩
 let zs:List Value:=(Builtin.zeroCells z.cells (m+1)).toList
 have hzl:zs.length=(m+1)*n:=by show (Builtin.zeroCells z.cells (m+1)).toList.length=_;rw [Array.length_toList,size_zeroCells,hzn]
 have hz2:∀ v∈zs,v.oneCell'=true:=λv hv=>by
  have hv':v∈Builtin.zeroCells z.cells (m+1):=by simpa [zs] using hv
  unfold Builtin.zeroCells at hv'
  obtain ⟨j,hj,rfl⟩:=Array.mem_map.1 hv'
  have hlt:j % z.cells.size<z.cells.size:=Nat.mod_lt _ (by omega)
  rw [getElem!_pos z.cells _ hlt]
  rw [List.all_eq_true] at hz1
  exact hz1 _ (by simp)
 have hin:i*n+zs.length<=cur.size:=by
  rw [hzl,hsz,← Nat.add_mul];exact Nat.mul_le_mul_right _ (by omega)
 have hst:=run_storeCells_at (P:=P) g (i*n) e zs 0 cur w hh (by simpa using hin) hz2
 have hcl:(Builtin.clear_ #[t] ty [Sl.v ⟨some ⟨g,i*n,none⟩,xs.length - i,cap - i⟩].toArray).run P w=.ok (.tuple #[]) (w.setRow g (cur.toList.take (i*n)++zs++cur.toList.drop (i*n+zs.length)).toArray):=by
  have hst':(storeCells ⟨g,i*n,none⟩ (Builtin.zeroCells z.cells (m+1)).toList).run P w=.ok () (w.setRow g (cur.toList.take (i*n)++zs++cur.toList.drop (i*n+zs.length)).toArray):=by simpa using hst
  rw [hm1]
  simp only [Builtin.clear_,Sl.v]
  simp [run_underlying hu,hz w,hst']
 refine ⟨(),_,hcl,?_⟩
 refine ⟨_,_,zOZ hu hs (by show i<=cap;omega),?_⟩
 refine H _ ?_ (zFJ w g _) (by rw [e1];rfl)
 rw [e1]
 have h1:=hO.cut hc (i:=i) (by omega) (by omega)
 rw [e1] at h1
 refine ⟨h1.len,h1.small,h1.row.1,.inr ⟨g,cap,_,rfl,hb,zFs hh,by show i<=cap;omega,hm,?_,?_⟩⟩
 ·simp only [List.size_toArray,yO,List.length_take,List.length_drop,Array.length_toList]
  rw [← hsz];omega
 ·rcases h1.row.2 with ⟨h2,_⟩|⟨g',cap',cur',h2,_,h4,_,_,_,h8⟩
  ·cases h2
  ·injection h2 with h2 h3 h5
   injection h2 with h2
   injection h2 with h2
   subst h2
   rw [hh] at h4
   injection h4 with h4
   injection h4 with h4
   subst h4
   rw [← h8]
   show ((cur.toList.take (i*n)++zs++cur.toList.drop (i*n+zs.length))).take (i*n)=cur.toList.take (i*n)
   have hl:(cur.toList.take (i*n)).length=i*n:=by rw [List.length_take,Array.length_toList];omega
   rw [List.append_assoc,List.take_append,List.take_of_length_le (by omega),hl];simp
end
end Go.VB
namespace Go.Proofs.YtealcoghiaeiiaaGreat.VG
open Go.VB Go.VB.Srt Go.Proofs Go.RowKit
abbrev zQy:zFi zA zAS zBs 2 zM.cells zM.v:=zFi.agg zBS zAT (λ_=>rfl) (λ_=>rfl) (by decide)
theorem zIi {w:World} {x:Sl} {l:List Pai} (hd:zLV w x l) {fv:Value} {p:Pai->Bool} (hp:zGL fv p l w) {k:Int->World->Prop}
  (H0:l.any p=false->∀ w',Bel w w'->k (-1) w')
  (H1:∀ (n:Nat) d,l[n]?=some d->p d=true->(l.take n).any p=false->∀ w',Bel w w'->k (n:Int) w'):
  Cl zA zEL [Sl.v x,fv].toArray w (λe w'=>∃ r0:Int,e=.returned (.int .i64 r0)/\k r0 w'):=by
 have dbig:=hd.big;have dcap:=hd.cap;have dlen:=hd.len
 refine zBb x _ w _ ?_
 unfold Y6
 refine ⟨λi w1=>∃ n:Nat,i=(n:Int)/\n<=l.length/\Bel w w1/\(l.take n).any p=false,λi _=>(x.len - i).toNat,⟨0,rfl,by omega,Bel.refl _,by simp⟩,?_⟩
 rintro i w1 ⟨n,rfl,hn,hb,hno⟩
 unfold QL
 refine ⟨λhc=>?_,λhc=>?_⟩
 ·obtain ⟨d,hdn⟩:=getE (l:=l) (n:=n) (by omega)
  refine zFX (hd.bel hb) zAT zBw (by omega) (x:=d) (by simpa using hdn) λad hA=>?_
  refine zBc zBS d rfl hA rfl ?_
  refine hp d (List.mem_of_getElem? hdn) w1 _ hb λw2 b2=>⟨λht=>?_,λhf=>?_⟩
  ·exact H1 n d hdn ht hno w2 (hb.trans b2)
  ·rw [wr64 (by omega) (by omega)]
   exact ⟨⟨n+1,by omega,by omega,hb.trans b2,by rw [zIp hdn p hno];exact hf⟩,by dsimp only;omega⟩
 ·obtain rfl:n=l.length:=by omega
  rw [List.take_length] at hno
  exact H0 hno w1 hb
theorem zJI {α:Type} {l:List α} {p:α->Bool} (h:l.any p=false):l.filter (λx=>!p x)=l:=by
 rw [List.filter_eq_self]
 intro x hx
 cases hp:p x with
 |false=>rfl
 |true=>rw [List.any_eq_true.2 ⟨x,hx,hp⟩] at h;cases h
theorem zNe {base:Nat} {w:World} {x:Sl} {l:List Pai} (hO:zBC base w x l) {fv:Value} {p:Pai->Bool} {C:World->Prop} (hw:C w)
  (hC:∀ W W' row,C W->W.grownBy W' row->(∀ q,row=some q->(Sl.v x).ownBlock=some q)->C W') (hp:∀ W,C W->zGL fv p l W) {k:Sl->World->Prop}
  (H:∀ r w',zBC base w' r (l.filter λd=>!p d)->w.grownBy w' (Sl.v x).ownBlock->(∀ q,(Sl.v r).ownBlock=some q->(Sl.v x).ownBlock=some q)->k r w'):
  Cl zA zDp [Sl.v x,fv].toArray w (λe w'=>∃ r0:Sl,e=.returned (Sl.v r0)/\k r0 w'):=by
 have dsm:=hO.small;have dlen:=hO.len
 have hCb:∀ {W W'},C W->Bel W W'->C W':=λh hb=>hC _ _ none h (zf hb none) (λq e=>by cases e)
 refine zDn x _ w k ?_
 unfold Z5
 refine zIi (zBC.rd hO) (hp w hw) (λhno w1 b1=>⟨λ_=>?_,λh=>absurd rfl h⟩) λn d hd hpd hno w1 b1=>⟨λh=>by omega,λ_=>?_⟩
 ·exact H x w1 (by rw [zJI hno];exact hO.bel b1) (zf b1 _) λq h=>h
 have hnl:n<l.length:=(List.getElem?_eq_some_iff.1 hd).1
 obtain ⟨ad0,had,-⟩:=(zBC.rd hO).cells n d hd
 rw [wr64 (by omega) (by omega)]
 refine ⟨λa c W=>∃ (i j:Nat) (ys:List Pai),a=(i:Int)/\c=(j:Int)/\j<=l.length/\i<j/\zBC base W x ys/\ys.length=l.length/\ys.take i=(l.take j).filter (λd=>!p d)/\ys.drop j=l.drop j/\C W/\w.grownBy W (Sl.v x).ownBlock,λ_ c _=>(x.len - c).toNat,
  ⟨n,n+1,l,rfl,by omega,by omega,by omega,hO.bel b1,rfl,?_,rfl,hCb hw b1,zf b1 _⟩,?_⟩
 ·rw [zCy hd,List.filter_append,zJI hno];simp [hpd]
 rintro a c W ⟨i,j,ys,rfl,rfl,hj,hij,hOW,hyl,htk,hdr,hCW,hg⟩
 unfold YX
 refine ⟨λhc=>?_,λhc=>?_⟩
 ·obtain ⟨e,he⟩:=getE (l:=l) (n:=j) (by omega)
  have hye:ys[j]?=some e:=by
   have h1:=congrArg (λm=>m[0]?) hdr
   simpa [he] using h1
  have hfs:(l.take (j+1)).filter (λd=>!p d)=(l.take j).filter (λd=>!p d)++(if p e=true then [] else [e]):=by
   rw [zCy he,List.filter_append];cases hpe:p e<;>simp [hpe]
  refine zFX (zBC.rd hOW) zAT zBw (by omega) (x:=e) (by simpa using hye) λad hA=>?_
  refine zBc zBS e rfl hA rfl ?_
  refine zCd zIz rfl zBS (cs:=e.cells) rfl rfl rfl λB W1 b2 hX hB=>?_
  refine zBc zBS e rfl hX.at rfl ?_
  have hC1:=hCb hCW b2
  refine hp W1 hC1 e (List.mem_of_getElem? he) W1 _ (Bel.refl _) λW2 b3=>⟨λhn=>?_,λhn=>?_⟩
  ·have hpe:p e=false:=by simpa using hn
   have hC2:=hCb hC1 b3
   have hO2:=(hOW.bel b2).bel b3
   refine zBc zBS e rfl (hX.bel b3).at rfl ?_
   have hR2:=zBC.rd hO2
   obtain ⟨y0,hy0⟩:=getE (l:=ys) (n:=i) (by omega)
   have had2:x.a=some ad0:=had
   refine ⟨_,W2,zIb zAT zBw had2 (by omega) (by omega),?_⟩
   obtain ⟨W3,hs3,hO3,hg3⟩:=zJC zQy hO2 (i:=i) (by omega) e had2
   refine ⟨W3,by simpa using hs3,?_⟩
   unfold yn
   rw [wr64 (by omega) (by omega),wr64 (by omega) (by omega)]
   refine ⟨⟨i+1,j+1,ys.set i e,by omega,by omega,by omega,by omega,hO3,by simp [hyl],?_,?_,hC _ _ _ hC2 hg3 (λq h=>h),zS (zS hg (zf (b2.trans b3) _)) hg3⟩,by dsimp only;omega⟩
   ·rw [hfs,← htk,List.take_set,zCy hy0,if_neg (by simp [hpe])]
    rw [List.set_append_right _ _ (by rw [List.length_take];exact Nat.min_le_left _ _),List.length_take,Nat.min_eq_left (by omega)];simp
   ·rw [List.drop_set_of_lt (by omega),← List.drop_drop,← List.drop_drop,hdr]
  ·have hpe:p e=true:=by simpa using hn
   unfold yn
   rw [wr64 (by omega) (by omega)]
   refine ⟨⟨i,j+1,ys,rfl,by omega,by omega,by omega,(hOW.bel b2).bel b3,hyl,?_,?_,hCb hC1 b3,zS hg (zf (b2.trans b3) _)⟩,by dsimp only;omega⟩
   ·rw [hfs,htk,if_pos hpe,List.append_nil]
   ·rw [← List.drop_drop,← List.drop_drop,hdr]
 ·obtain rfl:j=l.length:=by omega
  rw [List.take_length] at htk
  refine zMW hOW (λ_=>rfl) zAT zBw zLm rfl rfl (by decide) (by omega) λW' hO' hg' hb'=>?_
  exact H _ W' (by rw [← htk];exact hO') (zS hg hg') λq hq=>by rw [← hb'];exact hq
end Go.Proofs.YtealcoghiaeiiaaGreat.VG
set_option linter.unusedVariables false
set_option linter.unusedSimpArgs false
namespace Go.VB
open Go.RowKit
section
variable {P:Program} {w:World} {α:Type} {c:α->List Value} {n e t bytes base:Nat}
theorem zPK {s:Sl} {xs:List α} {x:α} {vx:Value} (hO:OwnS c n e base w s xs) (hc:∀ x,(c x).length=n) (h1:∀ x,(c x).all (·.oneCell')=true) (hn:0<n)
  (hu:P.underlying t=some (.slice e)) {z:Value} (hi:(P.info? e).map (λi=>(i.zero,i.size,i.bytes))=some (some z,n,bytes)) (hz:z.cells.size=n) (hby:0<bytes)
  (hbs:∀ w,(zq t 1 [(0,vx)].toArray).run P w=.ok (Sl.v ⟨some ⟨w.heap.size,0,none⟩,1,1⟩) (w.alloc (.cells (c x).toArray e)))
  (hbw:base<=w.heap.size) (room:(xs.length+1)*bytes<=140737488355328) {J:World->Prop} (hJ:∀ w',Bel w w'->J w') {k:Sl->World->Prop} {ty:TypeId}
  (H:∀ s' w',OwnS c n e base w' s' (xs++[x])->w.grownBy w' (Sl.v s).ownBlock->(∀ q,(Sl.v s').ownBlock=some q->(Sl.v s).ownBlock=some q∨w.heap.size<=q)->k s' w'):
  opE P Sl.v (zq t 1 [(0,vx)].toArray) w (λy w=>J w/\opE P Sl.v (Builtin.append_ #[t,t] ty [Sl.v s,Sl.v y].toArray) w k):=by
 obtain ⟨y,w1,hr,h2⟩:=zM8 (k:=k) (ty:=ty) hO hc h1 hn hu hi hz hby hbs hbw room H
 refine ⟨y,w1,hr,hJ w1 ?_,h2⟩
 have:=(hbs w).symm.trans hr
 injection this with _ e1
 rw [← e1];exact Bel.alloc _ _
end
end Go.VB
namespace Go.Proofs.YtealcoghiaeiiaaGreat.VG
open Go.VB Go.VB.Srt Go.Proofs Go.RowKit
theorem zKT {l:List Ver} {key:ByteArray}:∀ (i:Nat) (x:Ver),l[i]?=some x->x.Key=key->∃ j y,l[j]?=some y/\y.Key=key/\∀ m z,j=m+1->l[m]?=some z->z.Key≠key
 |0,x,h,hk=>⟨0,x,h,hk,λm z e=>by omega⟩
 |i+1,x,h,hk=>by
  obtain ⟨y,hy⟩:=getV (l:=l) (n:=i) (by have:=(List.getElem?_eq_some_iff.1 h).1;omega)
  by_cases hyk:y.Key=key
  ·exact zKT i y hy hyk
  ·exact ⟨i+1,x,h,hk,λm z e hz=>by
    obtain rfl:m=i:=by omega
    rw [hy] at hz;cases hz;exact hyk⟩
theorem zMt {fr to key:ByteArray} {l:List Ver} {T:Int} {p:Pai}:p∈one fr to key (sees l key T)↔p.Key=key/\cut (zBI fr to) (λk=>val l k T) key=some p.Val:=by
 have h0:=zLu fr to key
 show p∈one fr to key (sees l key T)↔p.Key=key/\(if zBy (zBI fr to) key=true then val l key T else none)=some p.Val
 unfold one
 by_cases ho:zGX fr to key
 ·rw [if_pos ho,if_neg (by rw [h0.1 ho];decide)];simp
 ·have hs:zBy (zBI fr to) key=true:=by
   cases h:zBy (zBI fr to) key with
   |true=>rfl
   |false=>exact absurd (h0.2 h) ho
  rw [if_neg ho,if_pos hs]
  unfold val
  cases hse:sees l key T with
  |none=>simp
  |some x=>
   simp only
   cases hg:x.Gone
   ·simp only [Bool.false_eq_true,if_false,List.mem_singleton,Option.some.injEq]
    constructor
    ·rintro rfl;exact ⟨rfl,rfl⟩
    ·rintro ⟨h1,h2⟩;obtain ⟨a,b⟩:=p;simp at h1 h2;rw [h1,h2]
   ·simp
theorem zLr {l:List Ver} (hs:l.Pairwise vlt) (fr to:ByteArray) (T:Int):zG4 (cut (zBI fr to) λk=>val l k T) (zCk l fr to T l.length):=by
 have hp:∀ i p,p∈pick l fr to T i->∃ x,l[i]?=some x/\(∀ j y,i=j+1->l[j]?=some y->y.Key≠x.Key)/\p.Key=x.Key/\cut (zBI fr to) (λk=>val l k T) p.Key=some p.Val:=λi p hp=>by
  unfold pick at hp
  cases hx:l[i]? with
  |none=>rw [hx] at hp;cases hp
  |some x=>
   rw [hx] at hp
   simp only at hp
   split at hp
   ·cases hp
   ·rename_i hn
    obtain ⟨h1,h2⟩:=zMt.1 hp
    exact ⟨x,rfl,λj y e hy hk=>hn ⟨j,y,e,hy,hk⟩,h1,by rw [h1];exact h2⟩
 refine ⟨?_,λp=>?_⟩
 ·unfold zCk
  rw [Rise,List.pairwise_flatMap]
  refine ⟨λi _=>?_,?_⟩
  ·have:=zLo l fr to T i
   match pick l fr to T i,this with
   |[],_=>simp
   |[a],_=>simp
  ·refine List.pairwise_lt_range.imp λ{i j} hij p hpi q hqj=>?_
   obtain ⟨x,hx,hx1,hx2,_⟩:=hp i p hpi
   obtain ⟨y,hy,hy1,hy2,_⟩:=hp j q hqj
   rw [hx2,hy2]
   refine zMQ hs hij hx hy λe=>?_
   obtain ⟨z,hz⟩:=getV (l:=l) (n:=j - 1) (by have:=(List.getElem?_eq_some_iff.1 hy).1;omega)
   have hzy:=hy1 (j - 1) z (by omega) hz
   rcases Nat.lt_or_ge i (j - 1) with h|h
   ·have h1:=zLJ hs h hx hz
    have h2:=zLJ hs (show j - 1<j by omega) hz hy
    rw [← e] at h2 hzy
    exact h1 (zEr h2 (λe'=>hzy e'.symm))
   ·obtain rfl:i=j - 1:=by omega
    rw [hx] at hz;cases hz;exact hzy e
 ·constructor
  ·intro h
   obtain ⟨i,_,hi⟩:=List.mem_flatMap.1 h
   obtain ⟨x,_,_,_,h4⟩:=hp i p hi
   exact h4
  ·intro h
   have hsome:∃ x,sees l p.Key T=some x:=by
    have h':(if zBy (zBI fr to) p.Key=true then val l p.Key T else none)=some p.Val:=h
    split at h'
    ·unfold val at h'
     cases hse:sees l p.Key T with
     |none=>rw [hse] at h';cases h'
     |some x=>exact ⟨x,rfl⟩
    ·cases h'
   obtain ⟨x,hx⟩:=hsome
   obtain ⟨h1,h2,_⟩:=zJp hx
   obtain ⟨i,hi⟩:=List.getElem?_of_mem h1
   obtain ⟨j,y,hj,hyk,hfirst⟩:=zKT i x hi h2
   refine List.mem_flatMap.2 ⟨j,List.mem_range.2 (List.getElem?_eq_some_iff.1 hj).1,?_⟩
   unfold pick
   rw [hj]
   simp only
   rw [if_neg]
   ·exact zMt.2 ⟨hyk.symm,by rw [hyk];exact h⟩
   ·rintro ⟨m,z,hm,hz,hzk⟩
    exact hfirst m z hm hz (hzk.trans hyk)
def zGC (x:Spn) (y:Wri):Option Pai:=if y.Gone=false/\zBy x y.Key=true then some ⟨y.Key,y.Val⟩ else none
def kltP (a b:Pai):Bool:=sLt a.Key b.Key
theorem zNu:Srt.SWO kltP where
 irr x:=by
  cases h:kltP x x with
  |false=>rfl
  |true=>exact absurd h (zA8 x.Key)
 neg x y z h:=by
  unfold kltP at*
  by_cases h1:sLt x.Key y.Key=true
  ·exact .inl h1
  ·right
   by_cases h2:x.Key=y.Key
   ·rw [← h2];exact h
   ·exact zHw (zEr h1 h2) h
 asy x y h:=by
  cases h1:kltP y x with
  |false=>rfl
  |true=>exact absurd h1 (zG9 h)
theorem zN0 (a b:Pai) (w:World) {k:Int->World->Prop} (H:∀ w',Bel w w'->k (cmpS a.Key b.Key) w'):Cl zA zDL [zM.v a,zM.v b].toArray w (λe w'=>∃ r0:Int,e=.returned (.int .i64 r0)/\k r0 w'):=by
 refine zHT a b w k ?_
 unfold zDj
 refine zBD (cs:=a.cells) rfl λB w1 b1 hA _=>?_
 refine zBD (cs:=b.cells) rfl λC w2 b2 hB _=>?_
 refine yI zBP zo (hA.bel b2).at a.Key rfl ?_
 refine yI zBP zo hB.at b.Key rfl ?_
 exact zHu a.Key b.Key w2 (H w2 (b1.trans b2))
theorem zMc:SoCmpFunc_api_Pair.Cmps (.func (.func zDL) #[] #[]) kltP:=λw x y=>
 ⟨cmpS x.Key y.Key,⟨zDL,[],[],rfl,zQz,λw' _=>(zN0 x y w' (k:=λr W=>r=cmpS x.Key y.Key/\Bel w' W) λW hb=>⟨rfl,hb⟩).mono λe W ⟨r,he,hr,hb⟩=>⟨by rw [he,hr],hb⟩⟩,by rw [zKx];exact Iff.rfl⟩
theorem zNq (p:Pai) {w:World} {B tb wb:Nat} {rs:Sl} {t:Tx} (hB:Row w B [.pointer (ptrA tb)] zE4) (hT:Row w tb [.int .u64 t.began,Sl.v rs,.map (some wb)] zA9) (hM:Zv za zI.v w wb t.wr)
  {k:Bool->World->Prop} (H:∀ w',Bel w w'->k (t.wr p.Key).isSome w'):Cl zA zFW [zM.v p,.pointer (ptrA B)].toArray w (λe w'=>∃ r0:Bool,e=.returned (.bool r0)/\k r0 w'):=by
 refine zHP p (ptrA B) w k ?_
 unfold zDs
 refine zBD (cs:=p.cells) rfl λX w1 b1 hX _=>?_
 refine ⟨Bel w1,λu bu=>⟨bu,?_⟩⟩
 refine zFZ zBP ?_
 refine zCz zBT (ptrA tb) (λW hW=>((hB.bel b1).bel hW).cell) ⟨trivial,?_⟩
 refine zFZ zAL ?_
 refine zCz Qd (some wb) (λW hW=>((hT.bel b1).bel hW).at.fld rfl) ?_
 refine zCz zo p.Key (λW hW=>(hX.bel hW).at.fld rfl) ?_
 refine zLh (z:=zLs) (λW hW=>(hM.bel b1).bel hW) zH7 YR zG7 p.Key ?_
 refine zEu zBp λC w2 b2 hZ hC=>?_
 refine ⟨bu.trans b2,?_⟩
 refine zHa YT hZ rfl rfl rfl λw3 hZ3 g3=>?_
 have b13:Bel w1 w3:=(bu.trans b2).grown g3 λr hr=>by cases hr;have:=bu.le;omega
 exact ⟨b13,H w3 (b1.trans b13)⟩
theorem zNb {s:St} (hI:Inv s) {n:Int} {t:Tx} (ht:s.tx n=some t) (fr to:ByteArray) {ks:List ByteArray} (hd:Doms t.wr ks) {ys:List Pai}
  (hp:ys.Perm ((zCk s.l fr to t.began s.l.length).filter (λd=>!(t.wr d.Key).isSome)++(ks.filterMap t.wr).filterMap (zGC (zBI fr to)))) (hl:ys.Pairwise (λx y=>Le kltP x y)):
  zG4 (cut (zBI fr to) (zFz s t)) ys:=by
 have hk:=(hI.txok n t ht).keyed
 obtain ⟨s1,s2⟩:=zLr hI.good.sorted fr to t.began
 generalize zCk s.l fr to t.began s.l.length=L at hp s1 s2
 have m2:∀ p,p∈(ks.filterMap t.wr).filterMap (zGC (zBI fr to))↔∃ x,t.wr p.Key=some x/\x.Gone=false/\zBy (zBI fr to) p.Key=true/\x.Val=p.Val:=λp=>by
  rw [List.mem_filterMap]
  constructor
  ·rintro ⟨x,hx,hpx⟩
   obtain ⟨key,_,hkx⟩:=List.mem_filterMap.1 hx
   unfold zGC at hpx
   split at hpx
   ·rename_i h;cases hpx
    have:=hk _ _ hkx
    subst this
    exact ⟨x,hkx,h.1,h.2,rfl⟩
   ·cases hpx
  ·rintro ⟨x,h1,h2,h3,h4⟩
   have hxk:=hk _ _ h1
   refine ⟨x,List.mem_filterMap.2 ⟨p.Key,(hd.2 _).2 ⟨x,h1⟩,h1⟩,?_⟩
   unfold zGC
   rw [if_pos ⟨h2,by rw [hxk];exact h3⟩,hxk,h4]
 have hmem:∀ p,p∈ys↔cut (zBI fr to) (zFz s t) p.Key=some p.Val:=λp=>by
  rw [hp.mem_iff,List.mem_append,List.mem_filter,s2,m2]
  unfold cut zFz ovl
  by_cases hsp:zBy (zBI fr to) p.Key=true
  ·rw [if_pos hsp,if_pos hsp]
   cases hw:t.wr p.Key with
   |none=>simp
   |some x=>
    simp only [Option.isSome_some,Bool.not_true,Bool.false_eq_true,and_false,false_or,Option.some.injEq]
    constructor
    ·rintro ⟨y,rfl,h1,_,h2⟩;rw [if_neg (by rw [h1];decide),h2]
    ·intro h
     split at h
     ·cases h
     ·rename_i hg
      exact ⟨x,rfl,by simpa using hg,hsp,Option.some.inj h⟩
  ·rw [if_neg hsp,if_neg hsp]
   simp only [reduceCtorEq,false_and,false_or,iff_false]
   rintro ⟨x,_,_,h3,_⟩;exact hsp h3
 have hnd:(L.filter (λd=>!(t.wr d.Key).isSome)++(ks.filterMap t.wr).filterMap (zGC (zBI fr to))).Pairwise (λx y:Pai=>x.Key≠y.Key):=by
  refine List.pairwise_append.2 ⟨(s1.sublist List.filter_sublist).imp λ{a b} h e=>by have h':sLt a.Key b.Key=true:=h;rw [e] at h';exact zA8 _ h',?_,λx hx y hy e=>?_⟩
  ·rw [List.pairwise_filterMap,List.pairwise_filterMap]
   refine hd.1.imp λ{a b} hab x hx y hy p hpx q hqy e=>hab ?_
   unfold zGC at hpx hqy
   split at hpx
   ·split at hqy
    ·cases hpx;cases hqy
     have:=hk a x hx;have:=hk b y hy
     simp_all
    ·cases hqy
   ·cases hpx
  ·obtain ⟨_,h1⟩:=List.mem_filter.1 hx
   obtain ⟨z,h2,_⟩:=(m2 y).1 hy
   rw [e,h2] at h1;simp at h1
 have hnd':ys.Pairwise (λx y=>x.Key≠y.Key):=(hp.pairwise_iff (λ{x y} h=>h.symm)).2 hnd
 refine ⟨(hl.and hnd').imp λ{x y} h12=>?_,hmem⟩
 cases h:sLt x.Key y.Key with
 |true=>rfl
 |false=>
  have h3:sLt y.Key x.Key=true:=zEr (by rw [h];decide) h12.2
  have h4:sLt y.Key x.Key=false:=h12.1
  rw [h3] at h4;cases h4
end Go.Proofs.YtealcoghiaeiiaaGreat.VG
set_option linter.unusedVariables false
set_option linter.unusedSimpArgs false
namespace Go.Proofs.YtealcoghiaeiiaaGreat.VG
open Go.VB Go.VB.Srt Go.Proofs Go.RowKit
theorem zPa {ρ:Own} {w:World} {b:Nat} {s:St} (h:Mgr ρ w b s) (hI:Inv s) (n:Int) (fr to:ByteArray) {k:Sl->Int->World->Prop}
  (H0:s.tx n=none->∀ w',Bel w w'->k Sl.none 11 w')
  (H1:∀ t,s.tx n=some t->256<=t.reads.length->∀ w',Bel w w'->k Sl.none 3 w')
  (H2:∀ t r ys ρ' w',s.tx n=some t->t.reads.length<256->zG4 (cut (zBI fr to) (zFz s t)) ys->zBC w.heap.size w' r ys->(∀ q,(Sl.v r).ownBlock=some q->ρ' q=none)->Mgr ρ' w' b (setTx s n (addR t (zBI fr to)))->Ext ρ w ρ' w'->k r 0 w'):
  Cl zA zF2 [.pointer (ptrA b),.int .i64 n,.string fr,.string to].toArray w (λe w'=>∃ (r0:Sl) (r1:Int),e=.returned (.tuple [Sl.v r0,.int .i64 r1].toArray)/\k r0 r1 w'):=by
 obtain ⟨vs,mb,g,m⟩:=h
 refine zID (ptrA b) n fr to w k ?_
 unfold zEy
 refine zLp m n (λht=>?_) λt ht=>?_
 ·refine zEu zIu λB w1 b1 hB hB0=>?_
  refine zHj zBT hB rfl rfl λw2 hB2 g2=>?_
  have b2:Bel w w2:=b1.grown g2 λr hr=>by cases hr;exact hB0
  exact ⟨λ_=>H0 ht w2 b2,λh=>absurd (by decide) h⟩
 refine zEu zIu λX w1 b1 hX hX0=>?_
 refine zHj zBT hX rfl rfl λw2 hX2 g2=>?_
 have b2:Bel w w2:=b1.grown g2 λr hr=>by cases hr;exact hX0
 refine ⟨λh=>absurd rfl h,λ_=>?_⟩
 have m2:=m.bel b2
 have mt2:=m2.tx n t ht
 have hrl:=mt2.rd.len
 refine zBA zBT (ptrA (g n).tb) hX2.cell ⟨trivial,?_⟩
 refine yI zBN zBx mt2.row.at (g n).rs rfl ?_
 refine ⟨λhc=>H1 t ht (by omega) w2 b2,λhc=>?_⟩
 have hroom:t.reads.length<256:=by omega
 refine ⟨zBI fr to,w2,by kernel_rfl,?_⟩
 refine zCd zK1 rfl zFS (cs:=(zBI fr to).cells) rfl rfl rfl λY w3 b3 hY hY0=>?_
 refine ⟨λW=>Row W X [.pointer (ptrA (g n).tb)] zE4/\Row W Y (zBI fr to).cells zJF/\Row W (g n).tb [.int .u64 t.began,Sl.v (g n).rs,.map (some (g n).wb)] zA9,λw4 b4=>?_⟩
 have b24:=b3.trans b4
 have b04:=b2.trans b24
 have m4:=m.bel b04
 have mt4:=m4.tx n t ht
 have hX4:=hX2.bel b24
 have hY4:=hY.bel b4
 refine ⟨⟨hX4,hY4,mt4.row⟩,?_⟩
 refine zCz zBT (ptrA (g n).tb) (λW hW=>hW.1.cell) ?_
 refine zCz zBT (ptrA (g n).tb) (λW hW=>hW.1.cell) ⟨trivial,?_⟩
 refine zFZ zBN ?_
 refine zCz zBx (g n).rs (λW hW=>hW.2.2.at.fld rfl) ?_
 refine zNS zFS (zBI fr to) rfl (λW hW=>hW.2.1.at) rfl ?_
 refine zPK mt4.rd (λ_=>rfl) (λ_=>rfl) (by decide) zGR zHK rfl (by decide) (zHk (zBI fr to)) (Nat.zero_le _) (by omega) (λW hW=>⟨hX4.bel hW,hY4.bel hW,mt4.row.bel hW⟩) λz w5 hO g5 hq=>?_
 have s1:=b1.le;have s2:=b2.le;have s3:=b3.le;have s24:=b24.le;have s04:=b04.le;have s5:=g5.size;have s4:=b4.le;have s12:=g2.size
 have hxl:w.heap.size<=X/\w.heap.size<=Y:=⟨hX0,by omega⟩
 have hrsne:∀ q,w.heap.size<=q->(Sl.v (g n).rs).ownBlock≠some q:=λq hq e=>by have:=m.lt q (by rw [(m.tx n t ht).rrd q e];simp);omega
 have hX5:=hX4.grown g5 (hrsne X hxl.1)
 have hY5:=hY4.grown g5 (hrsne Y hxl.2)
 have hrow5:Row w5 (g n).tb [.int .u64 t.began,Sl.v (g n).rs,.map (some (g n).wb)] zA9:=mt4.row.grown g5 λe=>by
  have:=mt4.rrd _ e;rw [mt4.rtb] at this;cases this
 refine ⟨⟨hX5,hY5,hrow5⟩,trivial,?_⟩
 refine zFZ zBN ?_
 refine zHO zBx hrow5 (by cases z with|mk a l c=>cases a<;>rfl) (by simp) (by cases z with|mk a l c=>cases a<;>rfl) λw6 hR6 g6=>?_
 replace hR6:Row w6 (g n).tb [.int .u64 t.began,Sl.v z,.map (some (g n).wb)] zA9:=hR6
 have hzt:(Sl.v z).ownBlock≠some (g n).tb:=OwnS.ne_row hO hrow5 (by decide)
 have hO6:=hO.kept g6 (.inr hzt)
 have htbX:(g n).tb≠X/\(g n).tb≠Y:=by
  have:=m.lt (g n).tb (by rw [(m.tx n t ht).rtb];simp);omega
 have hX6:=hX5.grown g6 (by simpa using htbX.1)
 have hY6:=hY5.grown g6 (by simpa using htbX.2)
 let ρ':Own:=λk=>if (Sl.v z).ownBlock=some k then some (.rb n) else ρ k
 have hρ:∀ k,k<w.heap.size->ρ' k=ρ k:=λk hk=>by
  show (if (Sl.v z).ownBlock=some k then _ else _)=_
  split
  ·rename_i e
   rcases hq k e with h1|h1
   ·exact (mt4.rrd k h1).symm
   ·omega
  ·rfl
 have hs6:=g6.size
 have hρ4:∀ k,k<w4.heap.size->ρ' k=ρ k:=λk hk=>by
  show (if (Sl.v z).ownBlock=some k then _ else _)=_
  split
  ·rename_i e
   rcases hq k e with h1|h1
   ·exact (mt4.rrd k h1).symm
   ·omega
  ·rfl
 have hkeep:∀ k r,ρ k=some r->r≠.tb n->r≠.rb n->w6.heap[k]?=w4.heap[k]?:=λk r hk h1 h2=>by
  have hkl:=m4.lt k (by rw [hk];simp)
  rw [g6.block k (by omega) λe=>by injection e with e;rw [e,mt4.rtb] at hk;cases hk;exact h1 rfl,g5.block k hkl λe=>by
   have:=mt4.rrd k e.symm;rw [hk] at this;cases this;exact h2 rfl]
 have hE46:Ext ρ w4 ρ' w6:=⟨(Out.row (S:=λk=>ρ k≠none) g5 λk hk=>.inl (by show ρ k≠none;rw [mt4.rrd k hk];simp)).trans (Out.row (S:=λk=>ρ k≠none) g6 λk hk=>by cases hk;exact .inl (by show ρ _≠none;rw [mt4.rtb];simp)) λ_ _ h=>h,hρ4⟩
 have hE:Ext ρ w ρ' w6:=(Ext.bel b04).trans hE46
 have m6:zCa ρ' w6 b (setTx s n (addR t (zBI fr to))) vs mb (λm=>if m=n then ⟨(g n).tb,(g n).wb,z⟩ else g m):=by
  refine m4.setTx ht rfl hρ4 (λk hk=>?_) (λk r hk h1 h2 h3=>hkeep k r hk h1 h3) ?_
  ·by_cases e:(Sl.v z).ownBlock=some k
   ·exact hO6.lt e
   ·have:ρ k≠none:=by
     have h1:(if (Sl.v z).ownBlock=some k then some (Role.rb n) else ρ k)≠none:=hk
     rw [if_neg e] at h1;exact h1
    have:=m4.lt k this;omega
  ·exact {
    row:=hR6
    rtb:=(hρ4 _ (m4.lt _ (by rw [mt4.rtb];simp))).trans mt4.rtb
    rd:=hO6
    rrd:=λk hk=>by show (if (Sl.v z).ownBlock=some k then _ else _)=_;rw [if_pos hk]
    wr:=mt4.wr.keep (hkeep _ _ mt4.rwb (by simp) (by simp))
    rwb:=(hρ4 _ (m4.lt _ (by rw [mt4.rwb];simp))).trans mt4.rwb}
 have hM6:Zv za zI.v w6 (g n).wb t.wr:=mt4.wr.keep (hkeep _ _ mt4.rwb (by simp) (by simp))
 refine ⟨Bel w6,λw7 b7=>⟨b7,trivial,?_⟩⟩
 refine zFZ xV ?_
 refine zNS z5 (cs:=[Sl.v vs,.int .u64 s.low]) ⟨vs,s.low⟩ rfl (λW hW=>(m6.bel hW).versAt) rfl ?_
 refine zCz zBT (ptrA (g n).tb) (λW hW=>(hX6.bel hW).cell) ⟨trivial,?_⟩
 refine zFZ zEK ?_
 refine zCz yL t.began (λW hW=>(hR6.bel hW).at.fld rfl) ?_
 have hvs:zKS s.l s.low fr to t.began=(zCk s.l fr to t.began s.l.length,0):=by
  unfold zKS
  rw [if_neg (by rw [zGy.2 ⟨hI.good,(hI.tim n t ht).1⟩];decide)]
 refine zOF (x0:=⟨vs,s.low⟩) (m6.bel b7).vers fr to t.began λr2 w8 base hb8 hbw8 hO8 b8=>?_
 replace hO8:zBC base w8 r2 (zKS s.l s.low fr to t.began).1:=hO8
 rw [hvs] at hO8
 replace hO8:zBC base w8 r2 (zCk s.l fr to t.began s.l.length):=hO8
 have hl4:=hI.good.len
 have hsl:=zJ6 s.l fr to t.began s.l.length
 have b68:=b7.trans b8
 have s67:=b7.le
 refine ⟨b68,?_⟩
 have hXb:X<w6.heap.size:=hX6.lt
 have hTb:(g n).tb<w6.heap.size:=hR6.lt
 have hMb:(g n).wb<w6.heap.size:=hM6.lt
 refine zNe (p:=λd=>(t.wr d.Key).isSome) (C:=λW=>Row W X [.pointer (ptrA (g n).tb)] zE4/\Row W (g n).tb [.int .u64 t.began,Sl.v z,.map (some (g n).wb)] zA9/\Zv za zI.v W (g n).wb t.wr) hO8 ⟨hX6.bel b68,hR6.bel b68,hM6.bel b68⟩ ?_ ?_ λr4 w9 hO9 g9 hb9=>?_
 ·rintro W W' row ⟨h1,h2,h3⟩ hg hr
  have hlo:∀ q,row=some q->w6.heap.size<=q:=λq hq=>by have:=hO8.lo (hr q hq);omega
  exact ⟨h1.grown hg λe=>by have:=hlo _ e;omega,h2.grown hg λe=>by have:=hlo _ e;omega,h3.grown hg λe=>by have:=hlo _ e;omega⟩
 ·rintro W ⟨h1,h2,h3⟩
  exact λd _ w' k' hb hk=>.inl ⟨zFW,[],[.pointer (ptrA X)],rfl,zRS,zNq d (h1.bel hb) (h2.bel hb) (h3.bel hb) hk⟩
 have b69:Bel w6 w9:=b68.grown g9 λq hq=>by have:=hO8.lo hq;omega
 have s69:=b69.le
 refine zBA zBT (ptrA (g n).tb) (hX6.bel b69).cell ⟨trivial,?_⟩
 refine yI zAL Qd (hR6.bel b69).at (some (g n).wb) rfl ?_
 obtain ⟨⟨dom,hd,hdl⟩,hky⟩:Few t/\zNB t:=⟨(hI.txok n t ht).few,(hI.txok n t ht).keyed⟩
 refine zOz (hM6.bel b69) YR λw10 hi b10=>?_
 have hwb9:(g n).wb<w9.heap.size:=by omega
 have s8:=b8.le;have s9:=g9.size
 have hbase9:base<=w9.heap.size:=by omega
 have hfl:((zCk s.l fr to t.began s.l.length).filter (λd=>!(t.wr d.Key).isSome)).length<=4096:=zj (List.length_filter_le _ _) (by omega)
 generalize hR:w9.heap.size=R at hi hwb9 hbase9 ⊢
 have s10:=b10.le
 let L0:=(zCk s.l fr to t.began s.l.length).filter (λd=>!(t.wr d.Key).isSome)
 refine ⟨λx W=>∃ ks,zAp za zI.v W (g n).wb R t.wr ks/\zBC base W x (L0++(ks.filterMap t.wr).filterMap (zGC (zBI fr to)))/\Bel w6 W/\R<W.heap.size,λ_ W=>dom.length - zHG W R,⟨[],hi,by show zBC base w10 r4 (L0++[]);rw [List.append_nil];exact hO9.bel b10,b69.trans b10,by obtain ⟨c,sb,hb⟩:=hi.blk;exact (Array.getElem?_eq_some_iff.1 hb).1⟩,?_⟩
 rintro x W ⟨ks,hi1,hO1,hb1,hRW⟩
 unfold zBk
 refine zMq hi1 (by omega) zH6 (λhall=>?_) λy v W2 hy hn hi2 hg=>?_
 ·refine ⟨λ_=>?_,λk v e=>by cases e⟩
  refine SoCmpFunc_api_Pair.sort_ok zNu zMc hO1 λys w3 hp hpw hO2 hg=>?_
  have hdk:Doms t.wr ks:=⟨hi1.nd,λx=>⟨hi1.dom x,λ⟨v,hv⟩=>hall x v hv⟩⟩
  have hbf:Bel w6 w3:=hb1.grown hg λq hq=>by have:=hO1.lo hq;omega
  refine H2 t x ys ρ' w3 ht hroom (zNb hI ht fr to hdk hp hpw) (hO2.low (by omega)) (λq hq=>?_) ⟨_,_,_,m6.bel hbf⟩ (hE.trans (Ext.bel hbf))
  have h1:=hO2.lo hq
  cases hρq:ρ' q with
  |none=>rfl
  |some r0=>have:=m6.lt q (by rw [hρq];simp);omega
 ·refine ⟨λe=>(nomatch e),λk v' e=>?_⟩
  cases e
  have hb2:Bel w6 W2:=hb1.grown hg λr e=>by cases e;omega
  have hcl:(ks++[y]).length<=dom.length:=zFn hi2.nd λz hz=>(hd.2 z).2 (hi2.dom z hz)
  rw [yO,List.length_singleton] at hcl
  have hl1:=hi1.size
  have hO2:zBC base W2 x (L0++(ks.filterMap t.wr).filterMap (zGC (zBI fr to))):=hO1.notwalk (B:=R) hg λr e=>by
   cases e
   obtain ⟨c,sb,hb⟩:=hi1.blk
   exact ⟨zV _,_,hb,rfl⟩
  refine zHZ hi2 hy zH6 ?_
  refine zCd zBp rfl YT (cs:=v.cells) rfl rfl rfl λC W3 b3 hC _=>?_
  refine yI zCn zD3 hC.at v.Gone rfl ?_
  have hi3:=hi2.bel b3
  have hO3:=hO2.bel b3
  have hb3:=hb2.trans b3
  have hg2:=hg.size;have s3:=b3.le
  have hvk:=hky y v hy
  have hfm:(ks++[y]).filterMap t.wr=ks.filterMap t.wr++[v]:=by rw [List.filterMap_append,List.filterMap_cons_some hy];rfl
  have hlen:(L0++(ks.filterMap t.wr).filterMap (zGC (zBI fr to))).length<=4096+256:=by
   rw [yO]
   have h1:=List.length_filterMap_le (zGC (zBI fr to)) (ks.filterMap t.wr)
   have h2:=List.length_filterMap_le t.wr ks
   have h3:L0.length<=4096:=hfl
   omega
  have J:∀ (c:Bool) W4,Bel W3 W4->(c=true↔v.Gone=false/\zBy (zBI fr to) v.Key=true)->zAM x (λx13' w'=>(∃ ks,zAp za zI.v w' (g n).wb R t.wr ks/\zBC base w' x13' (L0++(ks.filterMap t.wr).filterMap (zGC (zBI fr to)))/\Bel w6 w'/\R<w'.heap.size)/\dom.length - zHG w' R<dom.length - zHG W R) (zI.v v) (ptrA C) c W4:=by
   intro c W4 b4 hc
   unfold zAM
   have hi4:=hi3.bel b4
   have s4:=b4.le
   have hlen4:=hi4.size
   rw [yO,List.length_singleton] at hlen4
   refine ⟨λh1=>?_,λh1=>?_⟩
   ·have hpk:zGC (zBI fr to) v=some ⟨v.Key,v.Val⟩:=by unfold zGC;rw [if_pos (hc.1 h1)]
    have hC4:=hC.bel b4
    refine yI Yt zo hC4.at v.Key rfl ?_
    refine yI zCM zo hC4.at v.Val rfl ?_
    refine ⟨⟨v.Key,v.Val⟩,W4,by kernel_rfl,?_⟩
    refine zLW (w0:=w6) (hO3.bel b4) (hb3.trans b4) (by omega) (by omega) (by omega) λx' W5 hO5 hb5 g5=>?_
    have hi5:=zLv hi4 (KeepsWalks.row g5 λr hr=>(hO3.bel b4).isRow hr)
    have hlen5:=hi5.size
    rw [yO,List.length_singleton] at hlen5
    refine ⟨⟨ks++[y],hi5,?_,hb5,by have:=g5.size;omega⟩,by omega⟩
    rw [hfm,List.filterMap_append,List.filterMap_cons_some hpk,← List.append_assoc];exact hO5
   ·have hpk:zGC (zBI fr to) v=none:=by unfold zGC;rw [if_neg λh2=>by rw [hc.2 h2] at h1;cases h1]
    refine ⟨⟨ks++[y],hi4,?_,hb3.trans b4,by omega⟩,by omega⟩
    rw [hfm,List.filterMap_append,List.filterMap_cons_none hpk,List.filterMap_nil,List.append_nil];exact hO3.bel b4
  refine ⟨λh1=>?_,λh1=>J false W3 (Bel.refl _) ⟨λh=>(nomatch h),λh2=>by rw [h2.1] at h1;cases h1⟩⟩
  have hgf:v.Gone=false:=by simpa using h1
  have hY3:=hY6.bel hb3
  refine zBc zFS (zBI fr to) rfl hY3.at rfl ?_
  refine yI Yt zo hC.at v.Key rfl ?_
  exact zM0 (zBI fr to) v.Key W3 λW4 b4=>J _ W4 b4 ⟨λh=>⟨hgf,h⟩,λh=>h.2⟩
end Go.Proofs.YtealcoghiaeiiaaGreat.VG
set_option linter.unusedVariables false
set_option linter.unusedSimpArgs false
namespace Go.Proofs.YtealcoghiaeiiaaGreat.VG
open Go.VB Go.Proofs Go.RowKit
theorem zGt {s:St} {n:Int} {f:Tx->St × Ans} (h:s.tx n=none):onTx s n f=(s,errA 11):=by unfold onTx;rw [h]
theorem zBO {s:St} {n:Int} {f:Tx->St × Ans} {t:Tx} (h:s.tx n=some t):onTx s n f=f t:=by unfold onTx;rw [h]
theorem Ext.new {ρ ρ':Own} {w W w':World} {B:Nat} (h:Ext ρ w ρ' W) (hg:W.grownBy w' (some B)) (hB:w.heap.size<=B):Ext ρ w ρ' w':=
 ⟨h.out.trans (T:=λk=>k=B) (Out.row hg λk hk=>by cases hk;exact .inl rfl) λi hi e=>by omega,h.same⟩
theorem Mgr.other {ρ:Own} {w w':World} {b:Nat} {s:St} {B:Nat} (h:Mgr ρ w b s) (hg:w.grownBy w' (some B)) (hB:ρ B=none):Mgr ρ w' b s:=
 let ⟨vs,mb,g,m⟩:=h
 ⟨vs,mb,g,m.keep hg.size λk hk=>hg.block k (m.lt k hk) λe=>by cases e;exact hk hB⟩
section
variable {ρ:Own} {w:World} {b:Nat} {s:St}
theorem zNE (h:Mgr ρ w b s) (hI:Inv s) (hg:s.given<4611686018427387904) {k:Int->Int->World->Prop} (H:∀ ρ' w',Mgr ρ' w' b (zCT s).1->Ext ρ w ρ' w'->k (zCT s).2.tx (zCT s).2.why w'):
  Cl zA zFq [.pointer (ptrA b)].toArray w (λe w'=>∃ (r0 r1:Int),e=.returned (.tuple [.int .i64 r0,.int .i64 r1].toArray)/\k r0 r1 w'):=by
 refine zJ7 h hI.giv hg hI.free (λks hd hl=>?_) λks ρ' w' hd hl hM hE=>?_
 ·have e:zCT s=(s,errA 3):=by unfold zCT;rw [zIO hd,if_pos hl]
  rw [e] at H;exact H ρ w h (Ext.refl _ _)
 ·have e:zCT s=(zFG s,{ans0 with tx:=s.given+1}):=by unfold zCT;rw [zIO hd,if_neg (by omega)]
  rw [e] at H;exact H ρ' w' hM hE
theorem zN9 (h:Mgr ρ w b s) (n:Int) (key:ByteArray) {k:ByteArray->Bool->Int->World->Prop} (H:∀ ρ' w',Mgr ρ' w' b (getD s n key).1->Ext ρ w ρ' w'->k (getD s n key).2.val (getD s n key).2.is (getD s n key).2.why w'):
  Cl zA zGG [.pointer (ptrA b),.int .i64 n,.string key].toArray w (λe w'=>∃ (r0:ByteArray) (r1:Bool) (r2:Int),e=.returned (.tuple [.string r0,.bool r1,.int .i64 r2].toArray)/\k r0 r1 r2 w'):=by
 unfold getD at H
 refine zMM h n key (λht=>?_) (λt ht h1=>?_) (λt ht h1 h2=>?_) λt ρ' w' ht h1 h2 hM hE=>?_
 ·rw [zGt ht] at H;exact H ρ w h (Ext.refl _ _)
 ·rw [zBO ht] at H;unfold getT at H;rw [if_pos h1] at H;exact H ρ w h (Ext.refl _ _)
 ·rw [zBO ht] at H;unfold getT at H;rw [if_neg h1,if_pos h2] at H;exact H ρ w h (Ext.refl _ _)
 ·rw [zBO ht] at H;unfold getT at H;rw [if_neg h1,if_neg (by omega)] at H;exact H ρ' w' hM hE
theorem zQT (h:Mgr ρ w b s) (hI:Inv s) (n:Int) (fr to:ByteArray) {k:Sl->Int->World->Prop}
  (H:∀ r ρ' w',Mgr ρ' w' b (zGq s n fr to).1->Ext ρ w ρ' w'->zBC w.heap.size w' r (zGq s n fr to).2.pairs->(∀ q,(Sl.v r).ownBlock=some q->ρ' q=none)->k r (zGq s n fr to).2.why w'):
  Cl zA zF2 [.pointer (ptrA b),.int .i64 n,.string fr,.string to].toArray w (λe w'=>∃ (r0:Sl) (r1:Int),e=.returned (.tuple [Sl.v r0,.int .i64 r1].toArray)/\k r0 r1 w'):=by
 unfold zGq at H
 refine zPa h hI n fr to (λht w' hb=>?_) (λt ht h1 w' hb=>?_) λt r ys ρ' w' ht h1 hS hO hρ hM hE=>?_
 ·rw [zGt ht] at H;exact H Sl.none ρ w' (h.bel hb) (Ext.bel hb) (OwnS.nil _ _ _ _ _) λq e=>by cases e
 ·rw [zBO ht] at H;unfold zLk at H;rw [if_pos h1] at H;exact H Sl.none ρ w' (h.bel hb) (Ext.bel hb) (OwnS.nil _ _ _ _ _) λq e=>by cases e
 ·rw [zBO ht] at H;unfold zLk at H;rw [if_neg (by omega),zMg hS] at H;exact H r ρ' w' hM hE hO hρ
theorem zNM (h:Mgr ρ w b s) (n:Int) (x:Wri) {k:Int->World->Prop} (H:∀ ρ' w',Mgr ρ' w' b (zCb s n x).1->Ext ρ w ρ' w'->k (zCb s n x).2.why w'):
  Cl zA zCN [.pointer (ptrA b),.int .i64 n,zI.v x].toArray w (λe w'=>∃ r0:Int,e=.returned (.int .i64 r0)/\k r0 w'):=by
 unfold zCb at H
 refine zJj h n x (λht w' hb=>?_) (λt ht h1 w' hb=>?_) (λt ks ht h1 h2 hd h3 w' hb=>?_) λt w' ht h1 h2 hM hE=>?_
 ·rw [zGt ht] at H;exact H ρ w' (h.bel hb) (Ext.bel hb)
 ·rw [zBO ht] at H;unfold zI8 at H;rw [if_pos h1] at H;exact H ρ w' (h.bel hb) (Ext.bel hb)
 ·rw [zBO ht] at H;unfold zI8 at H;rw [if_neg h1,if_pos ⟨h2,by rw [zIO hd];exact h3⟩] at H;exact H ρ w' (h.bel hb) (Ext.bel hb)
 ·rw [zBO ht] at H;unfold zI8 at H
  rw [if_neg h1,if_neg λh3=>by obtain ⟨ks,hd,hl⟩:=h2 h3.1;have:=h3.2;rw [zIO hd] at this;omega] at H
  exact H ρ w' hM hE
theorem zQn (h:Mgr ρ w b s) (n:Int) (key val:ByteArray) {k:Int->World->Prop} (H:∀ ρ' w',Mgr ρ' w' b (zCb s n ⟨key,val,false⟩).1->Ext ρ w ρ' w'->k (zCb s n ⟨key,val,false⟩).2.why w'):
  Cl zA zGE [.pointer (ptrA b),.int .i64 n,.string key,.string val].toArray w (λe w'=>∃ r0:Int,e=.returned (.int .i64 r0)/\k r0 w'):=zMe n key val (zNM h n _ H)
theorem zOI (h:Mgr ρ w b s) (n:Int) (key:ByteArray) {k:Int->World->Prop} (H:∀ ρ' w',Mgr ρ' w' b (zCb s n ⟨key,noB,true⟩).1->Ext ρ w ρ' w'->k (zCb s n ⟨key,noB,true⟩).2.why w'):
  Cl zA zFY [.pointer (ptrA b),.int .i64 n,.string key].toArray w (λe w'=>∃ r0:Int,e=.returned (.int .i64 r0)/\k r0 w'):=zNZ n key (zNM h n _ H)
theorem zO4 (h:Mgr ρ w b s) (n:Int) {k:Int->World->Prop} (H:∀ ρ' w',Mgr ρ' w' b (zGg s n).1->Ext ρ w ρ' w'->k (zGg s n).2.why w'):
  Cl zA zFr [.pointer (ptrA b),.int .i64 n].toArray w (λe w'=>∃ r0:Int,e=.returned (.int .i64 r0)/\k r0 w'):=by
 unfold zGg at H
 refine zOB h n (λht=>?_) λt ρ' w' ht hM hE=>?_
 ·rw [zGt ht] at H;exact H ρ w h (Ext.refl _ _)
 ·rw [zBO ht] at H;exact H ρ' w' hM hE
theorem zLy (h:Mgr ρ w b s) (hI:Inv s) (hn:s.now<4611686018427387904) (n:Int) {k:Sl->Int->Int->World->Prop}
  (H:∀ r ρ' w',Mgr ρ' w' b (zBR s n).1->Ext ρ w ρ' w'->zD2 w.heap.size w' r (zBR s n).2.done->(∀ q,(Sl.v r).ownBlock=some q->ρ' q=none)->k r (zBR s n).2.time (zBR s n).2.why w'):
  Cl zA zFV [.pointer (ptrA b),.int .i64 n].toArray w (λe w'=>∃ (r0:Sl) (r1:Int) (r2:Int),e=.returned (.tuple [Sl.v r0,.int .u64 r1,.int .i64 r2].toArray)/\k r0 r1 r2 w'):=by
 unfold zBR at H
 have h0:=hI.lo;have h1:=hI.lonow
 have nob:∀ {w':World},zD2 w.heap.size w' Sl.none []:=OwnS.nil _ _ _ _ _
 have nor:∀ {ρ':Own} q,(Sl.v Sl.none).ownBlock=some q->ρ' q=none:=λq e=>by cases e
 refine zJB h n (λt ht=>⟨(hI.txok n t ht).few,(hI.txok n t ht).keyed⟩) (by omega) hn (λht=>?_) (λt ρ' w' ht hc hM hE=>?_) (λt ρ' w' ht hc he hM hE=>?_) (λt ys ρ' w' ht hc hS he hp hM hE=>?_) λt ys r ρ' w' ht hc hS he hp hM hE hr hq=>?_
 ·rw [zGt ht] at H;exact H Sl.none ρ w h (Ext.refl _ _) nob nor
 ·rw [zBO ht] at H;unfold zGV at H;rw [if_pos hc] at H;exact H Sl.none ρ' w' hM hE nob nor
 ·rw [zBO ht] at H;unfold zGV at H;rw [if_neg (by simp [hc]),if_pos he] at H;exact H Sl.none ρ' w' hM hE nob nor
 ·rw [zBO ht] at H;unfold zGV at H
  rw [if_neg (by simp [hc]),if_neg (λh=>by obtain ⟨x,hx⟩:=he;exact hx (h x)),zGw hS,if_pos hp] at H
  exact H Sl.none ρ' w' hM hE nob nor
 ·rw [zBO ht] at H;unfold zGV at H
  rw [if_neg (by simp [hc]),if_neg (λh=>by obtain ⟨x,hx⟩:=he;exact hx (h x)),zGw hS,if_neg (by simp [hp])] at H
  exact H r ρ' w' hM hE hr λq h=>(hq q h).2.2
end
structure zOg (base:Nat) (ρ:Own) (w:World) (y:yA) (a:Ans):Prop where
 why:y.Why=a.why
 tx:y.Tx=a.tx
 val:y.Val=a.val
 is:y.Is=a.is
 pairs:zBC base w y.Pairs a.pairs
 done:zD2 base w y.Done a.done
 time:y.Time=a.time
 rp:∀ q,(Sl.v y.Pairs).ownBlock=some q->ρ q=none
 rd:∀ q,(Sl.v y.Done).ownBlock=some q->ρ q=none
abbrev zAns:yA:=⟨15,0,noB,false,Sl.none,Sl.none,0⟩
structure Mid (ρ:Own) (w:World) (b A C:Nat) (s':St) (p:Sl) (ps:List Pai) (d:Sl) (ds:List Wri) (ρ':Own) (W:World) (cs:List Value):Prop where
 mgr:Mgr ρ' W b s'
 ext:Ext ρ w ρ' W
 rA:ρ' A=none
 rC:ρ' C=none
 a:∃ z:List Value,z.length=7/\Row W A z zEs
 c:Row W C cs zEs
 pr:zBC w.heap.size W p ps
 dn:zD2 w.heap.size W d ds
 rp:∀ q,(Sl.v p).ownBlock=some q->ρ' q=none
 rd:∀ q,(Sl.v d).ownBlock=some q->ρ' q=none
theorem Mid.st {ρ:Own} {w:World} {b A C:Nat} {s':St} {p:Sl} {ps:List Pai} {d:Sl} {ds:List Wri} {ρ':Own} {W:World} {cs:List Value} (h:Mid ρ w b A C s' p ps d ds ρ' W cs) {t:Nat} (hA:One zA t) {off:Nat} {v:Value}
  (hv:v.cells.toList=[v]) (hl:off<cs.length) (h1:v.oneCell'=true) (hC:w.heap.size<=C) (hAC:A≠C) {k:World->Prop} (H:∀ W',Mid ρ w b A C s' p ps d ds ρ' W' (cs.take off++[v]++cs.drop (off+1))->k W'):
  opU zA (zJ t (.pointer (some ((⟨C,0,none⟩:Addr).add off))) v) W k:=by
 refine zHO hA h.c hv hl h1 λW' hR hg=>H W' ?_
 obtain ⟨z,hz,ha⟩:=h.a
 exact {h with
  mgr:=h.mgr.other hg h.rC
  ext:=h.ext.new hg hC
  a:=⟨z,hz,ha.grown hg (by simpa using hAC.symm)⟩
  c:=hR
  pr:=h.pr.kept hg (.inr (OwnS.ne_row h.pr h.c (by decide)))
  dn:=h.dn.kept hg (.inr (OwnS.ne_row h.dn h.c (by decide)))}
theorem zOa (s:St):(zCT s).2={ans0 with tx:=(zCT s).2.tx,why:=(zCT s).2.why}:=by unfold zCT;split<;>rfl
theorem zP7 (s:St) (n:Int) (key:ByteArray):(getD s n key).2={ans0 with val:=(getD s n key).2.val,is:=(getD s n key).2.is,why:=(getD s n key).2.why}:=by
 unfold getD onTx
 cases s.tx n with
 |none=>rfl
 |some t=>simp only;unfold getT;split<;>(try split)<;>rfl
theorem zO6 (s:St) (n:Int) (fr to:ByteArray):(zGq s n fr to).2={ans0 with pairs:=(zGq s n fr to).2.pairs,why:=(zGq s n fr to).2.why}:=by
 unfold zGq onTx
 cases s.tx n with
 |none=>rfl
 |some t=>simp only;unfold zLk;split<;>rfl
theorem zLX (s:St) (n:Int) (x:Wri):(zCb s n x).2={ans0 with why:=(zCb s n x).2.why}:=by
 unfold zCb onTx
 cases s.tx n with
 |none=>rfl
 |some t=>simp only;unfold zI8;split<;>(try split)<;>rfl
theorem zNk (s:St) (n:Int):(zBR s n).2={ans0 with done:=(zBR s n).2.done,time:=(zBR s n).2.time,why:=(zBR s n).2.why}:=by
 unfold zBR onTx
 cases s.tx n with
 |none=>rfl
 |some t=>simp only;unfold zGV;split<;>(try split)<;>(try split)<;>rfl
theorem zOc (s:St) (n:Int):(zGg s n).2={ans0 with why:=(zGg s n).2.why}:=by
 unfold zGg onTx
 cases s.tx n<;>rfl
theorem zQv {ρ:Own} {w:World} {b:Nat} {s:St} (h:Mgr ρ w b s) (hI:Inv s) (hn:s.now<4611686018427387904) (hg:s.given<4611686018427387904) (x:yH) {k:yA->World->Prop}
  (H:∀ y ρ' w',Mgr ρ' w' b (doS s x).1->Ext ρ w ρ' w'->zOg w.heap.size ρ' w' y (doS s x).2->k y w'):
  Cl zA zIf [.pointer (ptrA b),yH.v x].toArray w (λe w'=>∃ r0:yA,e=.returned (yA.v r0)/\k r0 w'):=by
 refine zIa (ptrA b) x w k ?_
 unfold zFg
 refine zBD (cs:=x.cells) rfl λX w1 b1 hX hX0=>?_
 refine zEu zFd λA w2 b2 hA hA0=>?_
 refine ⟨zAns,w2,by kernel_rfl,?_⟩
 refine zCd zFd rfl zCe (cs:=zAns.cells) rfl rfl rfl λC w3 b3 hC hC0=>?_
 have b13:=b2.trans b3
 have b03:=b1.trans b13
 replace hX:=hX.bel b13
 have hA2:=hA.lt
 replace hA:=hA.bel b3
 have s1:=b1.le;have s2:=b2.le
 have hlt:=h.lt
 have hnone:∀ q,w.heap.size<=q->ρ q=none:=λq hq=>by
  cases hρ:ρ q with
  |none=>rfl
  |some r=>have:=hlt q (by rw [hρ];simp);omega
 have h3:=h.bel b03
 have hXl:=hX.lt;have hAl:=hA.lt;have hCl:=hC.lt
 have hAC:A≠C:=by omega
 refine zJh _ ⟨λh=>(nomatch h),λ_=>?_⟩
 have J1:∀ W (y:yA) ρ',Ext ρ w ρ' W->ρ' A=none->Mgr ρ' W b (doS s x).1->(∃ z:List Value,z.length=7/\Row W A z zEs)->Row W C y.cells zEs->zOg w.heap.size ρ' W y (doS s x).2->y9 k (ptrA A) (ptrA C) W:=by
  rintro W y ρ' g hρA hM ⟨z,hz,hAW⟩ hCW hy
  unfold y9
  refine zBc zCe y rfl hCW.at rfl ?_
  have hone:y.cells.all (·.oneCell')=true:=by
   obtain ⟨a1,a2,a3,a4,⟨a5,a51,a52⟩,⟨a6,a61,a62⟩,a7⟩:=y
   cases a5<;>cases a6<;>rfl
  refine zHa zCe hAW hz rfl hone λw5 hA5 g5=>?_
  refine R.agg zCe y rfl hA5.at rfl (H y ρ' w5 (hM.other g5 hρA) (g.new g5 (by omega)) ?_)
  have hp:(Sl.v y.Pairs).ownBlock≠some A:=OwnS.ne_row hy.pairs hAW (by decide)
  have hd:(Sl.v y.Done).ownBlock≠some A:=OwnS.ne_row hy.done hAW (by decide)
  exact {hy with pairs:=hy.pairs.kept g5 (.inr hp),done:=hy.done.kept g5 (.inr hd)}
 have mid:∀ {ρ' W s' p ps d ds},Mgr ρ' W b s'->Ext ρ w3 ρ' W->zBC w3.heap.size W p ps->zD2 w3.heap.size W d ds->(∀ q,(Sl.v p).ownBlock=some q->ρ' q=none)->(∀ q,(Sl.v d).ownBlock=some q->ρ' q=none)->Mid ρ w b A C s' p ps d ds ρ' W zAns.cells:=by
  intro ρ' W s' p ps d ds hM g hp hd hrp hrd
  have s03:=b03.le
  exact {
   mgr:=hM
   ext:=(Ext.bel b03).trans g
   rA:=(g.same A hAl).trans (hnone A (by omega))
   rC:=(g.same C hCl).trans (hnone C (by omega))
   a:=⟨_,rfl,hA.keep (g.blk hAl (hnone A (by omega)))⟩
   c:=hC.keep (g.blk hCl (hnone C (by omega)))
   pr:=hp.low s03
   dn:=hd.low s03
   rp:=hrp
   rd:=hrd}
 have nop:∀ {W},zBC w3.heap.size W Sl.none []:=OwnS.nil _ _ _ _ _
 have nod:∀ {W},zD2 w3.heap.size W Sl.none []:=OwnS.nil _ _ _ _ _
 have nor:∀ {ρ':Own} q,(Sl.v Sl.none).ownBlock=some q->ρ' q=none:=λq e=>by cases e
 have hwC:w.heap.size<=C:=by omega
 have fin:∀ {ρ' W s' p ps d ds} {y:yA} {a:Ans},doS s x=(s',a)->Mid ρ w b A C s' p ps d ds ρ' W y.cells->y.Why=a.why->y.Tx=a.tx->y.Val=a.val->y.Is=a.is->y.Pairs=p->a.pairs=ps->y.Done=d->a.done=ds->y.Time=a.time->y9 k (ptrA A) (ptrA C) W:=by
  intro ρ' W s' p ps d ds y a he M e1 e2 e3 e4 e5 e6 e7 e8 e9
  refine J1 W y ρ' M.ext M.rA (by rw [he];exact M.mgr) M.a M.c ?_
  rw [he]
  subst e5;subst e6;subst e7;subst e8
  exact ⟨e1,e2,e3,e4,M.pr,M.dn,e9,M.rp,M.rd⟩
 have slv:∀ z:Sl,(Sl.v z).cells.toList=[Sl.v z]/\(Sl.v z).oneCell'=true:=λz=>by cases z with|mk a l c=>cases a<;>exact ⟨rfl,rfl⟩
 refine yI xk Y7 hX.at x.Kind rfl ⟨λhk=>?_,λk1=>?_⟩
 ·have he:doS s x=zCT s:=by unfold doS;rw [if_pos hk]
  refine zNE h3 hI hg λρ' W hM g=>?_
  have M:=mid hM g nop nod nor nor
  refine ⟨_,W,zIC _ _,?_⟩
  refine M.st zA2 rfl (by show _<7;decide) rfl hwC hAC λW1 M=>?_
  refine ⟨_,W1,YQ _ _,?_⟩
  refine M.st (off:=0) zAk rfl (by show _<7;decide) rfl hwC hAC λW2 M=>?_
  exact fin (y:=⟨(zCT s).2.why,(zCT s).2.tx,noB,false,Sl.none,Sl.none,0⟩) (a:={ans0 with tx:=(zCT s).2.tx,why:=(zCT s).2.why}) (by rw [he,← zOa]) M rfl rfl rfl rfl rfl rfl rfl rfl rfl
 refine yI xk Y7 hX.at x.Kind rfl ⟨λhk=>?_,λk2=>?_⟩
 ·have he:doS s x=getD s x.Tx x.Key:=by unfold doS;rw [if_neg k1,if_pos hk]
  refine yI zA6 zA2 hX.at x.Tx rfl ?_
  refine yI zBK zo hX.at x.Key rfl ?_
  refine zN9 h3 x.Tx x.Key λρ' W hM g=>?_
  have M:=mid hM g nop nod nor nor
  refine ⟨_,W,zFo _ _,?_⟩
  refine M.st zo rfl (by show _<7;decide) rfl hwC hAC λW1 M=>?_
  refine ⟨_,W1,zF4 _ _,?_⟩
  refine M.st zD3 rfl (by show _<7;decide) rfl hwC hAC λW2 M=>?_
  refine ⟨_,W2,YQ _ _,?_⟩
  refine M.st (off:=0) zAk rfl (by show _<7;decide) rfl hwC hAC λW3 M=>?_
  exact fin (y:=⟨(getD s x.Tx x.Key).2.why,0,(getD s x.Tx x.Key).2.val,(getD s x.Tx x.Key).2.is,Sl.none,Sl.none,0⟩) (a:={ans0 with val:=(getD s x.Tx x.Key).2.val,is:=(getD s x.Tx x.Key).2.is,why:=(getD s x.Tx x.Key).2.why}) (by rw [he,← zP7]) M rfl rfl rfl rfl rfl rfl rfl rfl rfl
 refine yI xk Y7 hX.at x.Kind rfl ⟨λhk=>?_,λk3=>?_⟩
 ·have he:doS s x=zGq s x.Tx x.Key x.To:=by unfold doS;rw [if_neg k1,if_neg k2,if_pos hk]
  refine yI zA6 zA2 hX.at x.Tx rfl ?_
  refine yI zBK zo hX.at x.Key rfl ?_
  refine yI zIe zo hX.at x.To rfl ?_
  refine zQT h3 hI x.Tx x.Key x.To λr ρ' W hM g hO hρ=>?_
  have M:=mid hM g hO nod hρ nor
  refine ⟨_,W,zG3 _ _,?_⟩
  refine M.st zFI (slv r).1 (by show _<7;decide) (slv r).2 hwC hAC λW1 M=>?_
  refine ⟨_,W1,YQ _ _,?_⟩
  refine M.st (off:=0) zAk rfl (by show _<7;decide) rfl hwC hAC λW2 M=>?_
  exact fin (y:=⟨(zGq s x.Tx x.Key x.To).2.why,0,noB,false,r,Sl.none,0⟩) (a:={ans0 with pairs:=(zGq s x.Tx x.Key x.To).2.pairs,why:=(zGq s x.Tx x.Key x.To).2.why}) (by rw [he,← zO6]) M rfl rfl rfl rfl rfl rfl rfl rfl rfl
 refine yI xk Y7 hX.at x.Kind rfl ⟨λhk=>?_,λk4=>?_⟩
 ·have he:doS s x=zCb s x.Tx ⟨x.Key,x.Val,false⟩:=by unfold doS;rw [if_neg k1,if_neg k2,if_neg k3,if_pos hk]
  refine yI zA6 zA2 hX.at x.Tx rfl ?_
  refine yI zBK zo hX.at x.Key rfl ?_
  refine yI zGJ zo hX.at x.Val rfl ?_
  refine zQn h3 x.Tx x.Key x.Val λρ' W hM g=>?_
  have M:=mid hM g nop nod nor nor
  refine ⟨_,W,YQ _ _,?_⟩
  refine M.st (off:=0) zAk rfl (by show _<7;decide) rfl hwC hAC λW2 M=>?_
  exact fin (y:=⟨(zCb s x.Tx ⟨x.Key,x.Val,false⟩).2.why,0,noB,false,Sl.none,Sl.none,0⟩) (a:={ans0 with why:=(zCb s x.Tx ⟨x.Key,x.Val,false⟩).2.why}) (by rw [he,← zLX]) M rfl rfl rfl rfl rfl rfl rfl rfl rfl
 refine yI xk Y7 hX.at x.Kind rfl ⟨λhk=>?_,λk5=>?_⟩
 ·have he:doS s x=zCb s x.Tx ⟨x.Key,noB,true⟩:=by unfold doS;rw [if_neg k1,if_neg k2,if_neg k3,if_neg k4,if_pos hk]
  refine yI zA6 zA2 hX.at x.Tx rfl ?_
  refine yI zBK zo hX.at x.Key rfl ?_
  refine zOI h3 x.Tx x.Key λρ' W hM g=>?_
  have M:=mid hM g nop nod nor nor
  refine ⟨_,W,YQ _ _,?_⟩
  refine M.st (off:=0) zAk rfl (by show _<7;decide) rfl hwC hAC λW2 M=>?_
  exact fin (y:=⟨(zCb s x.Tx ⟨x.Key,noB,true⟩).2.why,0,noB,false,Sl.none,Sl.none,0⟩) (a:={ans0 with why:=(zCb s x.Tx ⟨x.Key,noB,true⟩).2.why}) (by rw [he,← zLX]) M rfl rfl rfl rfl rfl rfl rfl rfl rfl
 refine yI xk Y7 hX.at x.Kind rfl ⟨λhk=>?_,λk6=>?_⟩
 ·have he:doS s x=zBR s x.Tx:=by unfold doS;rw [if_neg k1,if_neg k2,if_neg k3,if_neg k4,if_neg k5,if_pos hk]
  refine yI zA6 zA2 hX.at x.Tx rfl ?_
  refine zLy h3 hI hn x.Tx λr ρ' W hM g hO hρ=>?_
  have M:=mid hM g nop hO nor hρ
  refine ⟨_,W,zHY _ _,?_⟩
  refine M.st zEq (slv r).1 (by show _<7;decide) (slv r).2 hwC hAC λW1 M=>?_
  refine ⟨_,W1,zHX _ _,?_⟩
  refine M.st yL rfl (by show _<7;decide) rfl hwC hAC λW2 M=>?_
  refine ⟨_,W2,YQ _ _,?_⟩
  refine M.st (off:=0) zAk rfl (by show _<7;decide) rfl hwC hAC λW3 M=>?_
  exact fin (y:=⟨(zBR s x.Tx).2.why,0,noB,false,Sl.none,r,(zBR s x.Tx).2.time⟩) (a:={ans0 with done:=(zBR s x.Tx).2.done,time:=(zBR s x.Tx).2.time,why:=(zBR s x.Tx).2.why}) (by rw [he,← zNk]) M rfl rfl rfl rfl rfl rfl rfl rfl rfl
 refine yI xk Y7 hX.at x.Kind rfl ⟨λhk=>?_,λk7=>?_⟩
 ·have he:doS s x=zGg s x.Tx:=by unfold doS;rw [if_neg k1,if_neg k2,if_neg k3,if_neg k4,if_neg k5,if_neg k6,if_pos hk]
  refine yI zA6 zA2 hX.at x.Tx rfl ?_
  refine zO4 h3 x.Tx λρ' W hM g=>?_
  have M:=mid hM g nop nod nor nor
  refine ⟨_,W,YQ _ _,?_⟩
  refine M.st (off:=0) zAk rfl (by show _<7;decide) rfl hwC hAC λW2 M=>?_
  exact fin (y:=⟨(zGg s x.Tx).2.why,0,noB,false,Sl.none,Sl.none,0⟩) (a:={ans0 with why:=(zGg s x.Tx).2.why}) (by rw [he,← zOc]) M rfl rfl rfl rfl rfl rfl rfl rfl rfl
 ·have he:doS s x=(s,errA 15):=by unfold doS;rw [if_neg k1,if_neg k2,if_neg k3,if_neg k4,if_neg k5,if_neg k6,if_neg k7]
  exact fin (y:=zAns) he (mid h3 (Ext.refl _ _) nop nod nor nor) rfl rfl rfl rfl rfl rfl rfl rfl rfl
end Go.Proofs.YtealcoghiaeiiaaGreat.VG
set_option linter.unusedVariables false
set_option linter.unusedSimpArgs false
namespace Go.Proofs.YtealcoghiaeiiaaGreat.VG
open Go.VB Go.Proofs Go.RowKit
theorem zKW {l:List Pai} (h:zG5 l l.length):∀ d i x y,l[i]?=some x->l[i+d+1]?=some y->sLt x.Key y.Key=true
 |0,i,x,y,hx,hy=>h i x y (List.getElem?_eq_some_iff.1 hy).1 hx hy
 |d+1,i,x,y,hx,hy=>by
  obtain ⟨z,hz⟩:=getE (l:=l) (n:=i+d+1) (by have:=(List.getElem?_eq_some_iff.1 hy).1;omega)
  exact zHw (zKW h d i x z hx hz) (h (i+d+1) z y (by have:=(List.getElem?_eq_some_iff.1 hy).1;omega) hz (by rw [show i+d+1+1=i+(d+1)+1 by omega];exact hy))
theorem zO9 {l:List Pai} (h:zG5 l l.length):Rise (λp:Pai=>p.Key) l:=by
 rw [Rise,List.pairwise_iff_getElem]
 intro i j hi hj hij
 refine zKW h (j - i - 1) i _ _ (List.getElem?_eq_getElem hi) ?_
 rw [show i+(j - i - 1)+1=j by omega];exact List.getElem?_eq_getElem hj
theorem zN7 {l:List Pai} (h1:l.length<=4096) (h2:l.any zH0=false) (h3:zG5 l l.length):Inv (newS l) where
 good:=by
  refine zJT (by show (l.map verP).length<=4096;rw [List.length_map];exact h1) (by show (1:Int)<=_;decide) (λx hx=>?_) ?_
  ·obtain ⟨p,hp,rfl⟩:=List.mem_map.1 hx
   have hl:zH0 p=false:=by
    cases hpl:zH0 p with
    |false=>rfl
    |true=>rw [List.any_eq_true.2 ⟨p,hp,hpl⟩] at h2;cases h2
   unfold zH0 at hl
   simp only [Bool.or_eq_false_iff,decide_eq_false_iff_not] at hl
   exact ⟨by show (1:Int)<=1;decide,by show (1:Int)<=_;decide,λh=>(nomatch h),by show p.Key.size<=256;omega,by show p.Val.size<=512;omega⟩
  ·show (l.map verP).Pairwise vlt
   rw [List.pairwise_map]
   exact (zO9 h3).imp λ{a b} h=>.inl h
 lo:=Int.le_refl 1
 lonow:=Int.le_refl 1
 past x hx:=by
  obtain ⟨p,hp,rfl⟩:=List.mem_map.1 hx
  exact Int.le_refl _
 giv:=Int.le_refl 0
 dom:=⟨[],⟨List.nodup_nil,λk=>by simp [newS]⟩,by simp⟩
 num n t ht:=(nomatch ht)
 tim n t ht:=(nomatch ht)
 txok n t ht:=(nomatch ht)
noncomputable def seeV (s:St) (t:Tx) (key:ByteArray):ByteArray × Bool × Int:=if 256<key.size then (noB,false,4) else ((zFz s t key).getD noB,(zFz s t key).isSome,0)
theorem zM3 {s:St} (hI:Inv s) {n:Int} {t:Tx} (ht:s.tx n=some t) (hl:t.reads.length<256) (key:ByteArray):
  getD s n key=(if 256<key.size then s else setTx s n (addR t (zBr key)),{ans0 with val:=(seeV s t key).1,is:=(seeV s t key).2.1,why:=(seeV s t key).2.2}):=by
 unfold getD seeV
 rw [zBO ht]
 unfold getT
 by_cases h:256<key.size
 ·rw [if_pos h,if_pos h,if_pos h]
 ·rw [if_neg h,if_neg h,if_neg h,if_neg (by omega),zKf hI ht]
theorem zNK {s:St} {n:Int} {t:Tx} (ht:s.tx n=some t) (key:ByteArray):(if 256<key.size then s else setTx s n (addR t (zBr key))).tx n=some (if 256<key.size then t else addR t (zBr key)):=by
 split
 ·exact ht
 ·simp [setTx,QS]
abbrev zQ6 (w:World) (s:Sl) (l:List yH):Prop:=Rd yH.cells 5 w s l
end Go.Proofs.YtealcoghiaeiiaaGreat.VG
