/- Texts by which the law's calls are walked (part 8): rules, printed conditions, contracts; no condition. -/
import Derived.TacticsIn
import Derived.TacticsInMore
import Derived.Deep.LoopGhost
import Derived.Sort.QuietThIn
import Derived.RangeFuncCalls
import Derived.RangeFuncNested
import Derived.RangeFuncLeaves
import Derived.WalkKit
import Derived.StillTail
import Derived.Test.YtealcoghiaeiiaaGreatProg
import Derived.KernelRfl
import Derived.Deep.WholeRow
import Derived.Laws.StructEq
import Derived.MapFrom
import Derived.Laws.CopyRow
import Derived.Maps.RangeRun
import Derived.Sort.Walk0
import Derived.RangeFuncBound
import Derived.Test.YtealcoghiaeiiaaGreatPkTxnApartG
set_option linter.unusedVariables false
namespace Go.Proofs.YtealcoghiaeiiaaGreat.VG
open Go.VB Go.Proofs Go.RowKit
abbrev Spn:=zAm
structure Tx where
 began:Int
 reads:List Spn
 wr:ByteArray→Option Wri
structure St where
 l:List Ver
 low:Int
 now:Int
 given:Int
 tx:Int→Option Tx
inductive Role where
 |mg
 |om
 |ve
 |tb (n:Int)
 |wb (n:Int)
 |rb (n:Int)
structure Gh where
 tb:Nat
 wb:Nat
 rs:Sl
abbrev Own:=Nat→Option Role
structure TxAt (ρ:Own) (w:World) (n:Int) (t:Tx) (g:Gh):Prop where
 row:Row w g.tb [.int .u64 t.began,Sl.v g.rs,.map (some g.wb)] zF9
 rtb:ρ g.tb=some (.tb n)
 rd:OwnS zAm.cells 3 zNn 0 w g.rs t.reads
 rrd:∀ k,(Sl.v g.rs).ownBlock=some k→ρ k=some (.rb n)
 wr:MapIs Value.string zAD.v w g.wb t.wr
 rwb:ρ g.wb=some (.wb n)
structure MgrAt (ρ:Own) (w:World) (b:Nat) (s:St) (vs:Sl) (mb:Nat) (g:Int→Gh):Prop where
 row:Row w b [Sl.v vs,.int .u64 s.low,.int .u64 s.now,.int .i64 s.given,.map (some mb)] zE4
 rmg:ρ b=some .mg
 vers:VerRd w vs s.l
 rve:∀ k,(Sl.v vs).ownBlock=some k→ρ k=some .ve
 mp:MapIs (Value.int .i64) Value.pointer w mb (fun n=>(s.tx n).map fun _=>some ⟨(g n).tb,0,none⟩)
 rom:ρ mb=some .om
 tx:∀ n t,s.tx n=some t→TxAt ρ w n t (g n)
 lt:∀ k,ρ k≠none→k<w.heap.size
def Mgr (ρ:Own) (w:World) (b:Nat) (s:St):Prop:=∃ vs mb g,MgrAt ρ w b s vs mb g
structure Ext (ρ:Own) (w:World) (ρ':Own) (w':World):Prop where
 out:Out (fun k=>ρ k≠none) w w'
 same:∀ k,k<w.heap.size→ρ' k=ρ k
section
variable {ρ ρ' ρ'':Own} {w w' w'':World} {b:Nat} {s:St} {n:Int} {t:Tx} {g:Gh}
theorem Ext.refl (ρ:Own) (w:World):Ext ρ w ρ w:=⟨Out.refl _ w,fun _ _=>rfl⟩
theorem Ext.bel (h:Bel w w'):Ext ρ w ρ w':=⟨h.out,fun _ _=>rfl⟩
theorem Ext.grown {k:Nat} {r:Role} (h:w.grownBy w' (some k)) (hk:ρ k=some r):Ext ρ w ρ w':=
 ⟨Out.row h fun i hi=>by injection hi with hi;subst hi;exact .inl (by rw [hk];simp),fun _ _=>rfl⟩
theorem Ext.trans (h:Ext ρ w ρ' w') (k:Ext ρ' w' ρ'' w''):Ext ρ w ρ'' w'':=
 ⟨h.out.trans k.out fun i hi hr=>by rw [h.same i hi] at hr;exact hr,fun i hi=>(k.same i (Nat.lt_of_lt_of_le hi h.out.size)).trans (h.same i hi)⟩
theorem Ext.base {w0:World} (hb:Bel w0 w) (h:Ext ρ w ρ' w') (hr:∀ k,k<w0.heap.size→ρ k=none):Bel w0 w':=h.out.bel hb fun i hi h1=>h1 (hr i hi)
theorem Ext.clear {n0:Nat} (h:Ext ρ w ρ' w') (hn:n0≤w.heap.size) (hr:∀ k,k<n0→ρ k=none):∀ k,k<n0→ρ' k=none:=fun k hk=>(h.same k (Nat.lt_of_lt_of_le hk hn)).trans (hr k hk)
theorem Ext.blk (h:Ext ρ w ρ' w') {k:Nat} (hk:k<w.heap.size) (hr:ρ k=none):w'.heap[k]?=w.heap[k]?:=h.out.block k hk fun h1=>h1 hr
theorem TxAt.lt (h:TxAt ρ w n t g) {k:Nat} {r:Role}:g.tb<w.heap.size:=h.row.lt
theorem TxAt.keep (h:TxAt ρ w n t g) (hlt:∀ k,ρ k≠none→k<w.heap.size) (hρ:∀ k,k<w.heap.size→ρ' k=ρ k) (h1:∀ k,ρ k=some (.tb n)→w'.heap[k]?=w.heap[k]?) (h2:∀ k,ρ k=some (.wb n)→w'.heap[k]?=w.heap[k]?) (h3:∀ k,ρ k=some (.rb n)→w'.heap[k]?=w.heap[k]?):TxAt ρ' w' n t g where
 row:=h.row.keep (h1 _ h.rtb)
 rtb:=(hρ _ (hlt _ (by rw [h.rtb];simp))).trans h.rtb
 rd:=h.rd.keep fun k hk=>h3 k (h.rrd k hk)
 rrd k hk:=(hρ _ (hlt _ (by rw [h.rrd k hk];simp))).trans (h.rrd k hk)
 wr:=h.wr.keep (h2 _ h.rwb)
 rwb:=(hρ _ (hlt _ (by rw [h.rwb];simp))).trans h.rwb
theorem MgrAt.keep {vs:Sl} {mb:Nat} {gh:Int→Gh} (h:MgrAt ρ w b s vs mb gh) (hs:w.heap.size≤w'.heap.size) (hk:∀ k,ρ k≠none→w'.heap[k]?=w.heap[k]?):MgrAt ρ w' b s vs mb gh where
 row:=h.row.keep (hk _ (by rw [h.rmg];simp))
 rmg:=h.rmg
 vers:=h.vers.keep fun k h1=>hk k (by rw [h.rve k h1];simp)
 rve:=h.rve
 mp:=h.mp.keep (hk _ (by rw [h.rom];simp))
 rom:=h.rom
 tx n t ht:=(h.tx n t ht).keep h.lt (fun _ _=>rfl) (fun k h1=>hk k (by rw [h1];simp)) (fun k h1=>hk k (by rw [h1];simp)) (fun k h1=>hk k (by rw [h1];simp))
 lt k h1:=Nat.lt_of_lt_of_le (h.lt k h1) hs
theorem MgrAt.bel {vs:Sl} {mb:Nat} {gh:Int→Gh} (h:MgrAt ρ w b s vs mb gh) (hb:Bel w w'):MgrAt ρ w' b s vs mb gh:=h.keep hb.size fun k h1=>hb.block k (h.lt k h1)
theorem MgrAt.out {S:Nat→Prop} {vs:Sl} {mb:Nat} {gh:Int→Gh} (h:MgrAt ρ w b s vs mb gh) (hb:Out S w w') (hS:∀ k,S k→ρ k=none):MgrAt ρ w' b s vs mb gh:=
 h.keep hb.size fun k h1=>hb.block k (h.lt k h1) fun h2=>h1 (hS k h2)
theorem Mgr.bel (h:Mgr ρ w b s) (hb:Bel w w'):Mgr ρ w' b s:=let ⟨vs,mb,g,m⟩:=h;⟨vs,mb,g,m.bel hb⟩
theorem Mgr.out {S:Nat→Prop} (h:Mgr ρ w b s) (hb:Out S w w') (hS:∀ k,S k→ρ k=none):Mgr ρ w' b s:=let ⟨vs,mb,g,m⟩:=h;⟨vs,mb,g,m.out hb hS⟩
theorem Mgr.lt (h:Mgr ρ w b s):∀ k,ρ k≠none→k<w.heap.size:=let ⟨_,_,_,m⟩:=h;m.lt
end
theorem zPo:KeyOk Tryz.prog zFp (Value.int .i64):=KeyOk.int (q:=.i64) (by kernel_rfl)
theorem zOa (x y:Int) (h:Value.int .i64 x=Value.int .i64 y):x=y:=by injection h
theorem zMo (x y:ByteArray) (h:Value.string x=Value.string y):x=y:=by injection h
theorem pnilM (x:Option Addr) {w:World} {o1 o2:Operand} {k:Bool→World→Prop} (H:k x.isNone w):opE Tryz.prog Value.bool (do eqGuard .eql zLE o1 o2 (.pointer x) (.pointer none);binOp .eql zLE (.pointer x) (.pointer none)) w k:=by
 refine ⟨_,w,?_,H⟩
 cases x<;>kernel_rfl
theorem pnilT (x:Option Addr) {w:World} {o1 o2:Operand} {k:Bool→World→Prop} (H:k x.isNone w):opE Tryz.prog Value.bool (do eqGuard .eql zJs o1 o2 (.pointer x) (.pointer none);binOp .eql zJs (.pointer x) (.pointer none)) w k:=by
 refine ⟨_,w,?_,H⟩
 cases x<;>kernel_rfl
end Go.Proofs.YtealcoghiaeiiaaGreat.VG
set_option linter.unusedVariables false
namespace Go.Proofs.YtealcoghiaeiiaaGreat.VG
open Go.VB Go.Proofs Go.RowKit
abbrev ptrA (x:Nat):Option Addr:=some ⟨x,0,none⟩
theorem zUU {κ ν:Type} {ek:κ→Value} {ev:ν→Value} {P:Program} {kt et mt:TypeId} {b:Nat} {f:κ→Option ν} {C:World→Prop} (h:∀ w,C w→MapIs ek ev w b f) (K:KeyOk P kt ek) (hm:P.underlying mt=some (.map kt et)) {z:ν} (hz:∀ w,(zeroValue et).run P w=.ok (ev z) w) (x:κ) {k:ν→Prop} (H:k ((f x).getD z)):
  opC C P ev (Instr.lookup mt (.map (some b)) (ek x) false) k:=⟨_,fun w' hb=>(h w' hb).run_look K hm hz x,H⟩
section
variable {ρ:Own} {w:World} {b:Nat} {s:St} {vs:Sl} {mb:Nat} {g:Int→Gh}
theorem at_ok (h:MgrAt ρ w b s vs mb g) (n:Int) {k:Option Addr→Int→World→Prop} (H0:s.tx n=none→k none 11 w) (H1:∀ t,s.tx n=some t→k (ptrA (g n).tb) 0 w):
  Cl Tryz.prog zMv [.pointer (ptrA b),.int .i64 n].toArray w (fun e w'=>∃ (r0:Option Addr) (r1:Int),e=.returned (.tuple [.pointer r0,.int .i64 r1].toArray)∧k r0 r1 w'):=by
 refine zM2 (ptrA b) n w k ?_
 unfold zKD
 refine pnilM _ ⟨fun h=>(nomatch h),fun _=>⟨trivial,?_⟩⟩
 refine zDi zF5 zF6 h.row.at (some mb) rfl ?_
 refine zUB h.mp zPo zGB zPY n ?_
 cases ht:s.tx n with
 |none=>exact pnilT _ ⟨fun _=>H0 ht,fun h=>(nomatch h)⟩
 |some t=>exact pnilT _ ⟨fun h=>(nomatch h),fun _=>H1 t ht⟩
theorem zT2 (h:MgrAt ρ w b s vs mb g) {k:Int→World→Prop} (H:k s.now w):Cl Tryz.prog zMj [.pointer (ptrA b)].toArray w (fun e w'=>∃ r0:Int,e=.returned (.int .u64 r0)∧k r0 w'):=by
 refine zMe (ptrA b) w k ?_
 unfold zJp
 refine pnilM _ ⟨fun h=>(nomatch h),fun _=>⟨trivial,?_⟩⟩
 exact zDi zEa zA9 h.row.at s.now rfl H
end
def newTx (s:St):Tx:=⟨s.now,[],fun _=>none⟩
open Classical in
noncomputable def begun (s:St):St:={s with given:=s.given+1,tx:=upd s.tx (s.given+1) (newTx s)}
def ownTx (ρ:Own) (n:Int) (tb wb:Nat):Own:=fun k=>if k=tb then some (.tb n) else if k=wb then some (.wb n) else ρ k
theorem zOX {ρ:Own} {w:World} {b:Nat} {s:St} (h:Mgr ρ w b s) (hg0:0≤s.given) (hg:s.given<4611686018427387904) (hfree:s.tx (s.given+1)=none) {k:Int→Int→World→Prop}
  (H0:∀ ks,Doms s.tx ks→16≤ks.length→k 0 3 w)
  (H1:∀ ks ρ' w',Doms s.tx ks→ks.length<16→Mgr ρ' w' b (begun s)→Ext ρ w ρ' w'→k (s.given+1) 0 w'):
  Cl Tryz.prog zKF [.pointer (ptrA b)].toArray w (fun e w'=>∃ (r0 r1:Int),e=.returned (.tuple [.int .i64 r0,.int .i64 r1].toArray)∧k r0 r1 w'):=by
 obtain ⟨vs,mb,g,m⟩:=h
 refine zLq (ptrA b) w k ?_
 unfold zJA
 refine pnilM _ ⟨fun h=>(nomatch h),fun _=>⟨trivial,?_⟩⟩
 refine zDi zF5 zF6 m.row.at (some mb) rfl ?_
 refine zRO m.mp zOa zGB fun ks hks=>?_
 have hks':Doms s.tx ks:=⟨hks.1,fun n=>by
  rw [hks.2]
  show (∃ v,(s.tx n).map (fun _=>(some ⟨(g n).tb,0,none⟩:Option Addr))=some v)↔_
  constructor
  ·rintro ⟨v,hv⟩
   cases ht:s.tx n with
   |none=>rw [ht] at hv;cases hv
   |some t=>exact ⟨t,rfl⟩
  ·rintro ⟨t,ht⟩;rw [ht];exact ⟨_,rfl⟩⟩
 refine ⟨fun hc=>H0 ks hks' (by omega),fun hc=>⟨trivial,?_⟩⟩
 refine zDi zGZ zF4 m.row.at s.given rfl ⟨trivial,?_⟩
 rw [wr64 (by omega) (by omega)]
 refine ⟨_,w,zGZ _ _,?_⟩
 refine zNK zF4 m.row rfl (by simp) rfl fun w1 hR g1=>?_
 replace hR:Row w1 b [Sl.v vs,.int .u64 s.low,.int .u64 s.now,.int .i64 (s.given+1),.map (some mb)] zE4:=hR
 have hb1:=Ext.grown g1 m.rmg
 have m1:w.heap.size≤w1.heap.size:=g1.size
 refine ⟨fun W=>Row W b [Sl.v vs,.int .u64 s.low,.int .u64 s.now,.int .i64 (s.given+1),.map (some mb)] zE4,fun w2 b2=>⟨hR.bel b2,trivial,?_⟩⟩
 refine zMp zF5 ⟨trivial,?_⟩
 refine zMp zGZ ⟨trivial,?_⟩
 refine zMp zEa ?_
 refine zKB zF6 (some mb) (fun W hW=>hW.at.fld rfl) ?_
 refine zKB zF4 (s.given+1) (fun W hW=>hW.at.fld rfl) ?_
 refine zKB zA9 s.now (fun W hW=>hW.at.fld rfl) ?_
 refine zRI (ek:=Value.string) (ev:=zAD.v) fun hM=>?_
 have b3:=Bel.alloc w2 (.map #[] 0)
 generalize hw3:w2.alloc (.map #[] 0)=w3 at hM b3 ⊢
 have s3:w3.heap.size=w2.heap.size+1:=by rw [← hw3];exact size_alloc' _ _
 refine ⟨(hR.bel b2).bel b3,?_⟩
 refine ⟨⟨s.now,Sl.none,some w2.heap.size⟩,fun W _=>by kernel_rfl,?_⟩
 refine zPJ (cs:=[.int .u64 s.now,Sl.v Sl.none,.map (some w2.heap.size)]) rfl ?_
 have hT:Row (w3.alloc (.cells [.int .u64 s.now,Sl.v Sl.none,.map (some w2.heap.size)].toArray zF9)) w3.heap.size [.int .u64 s.now,Sl.v Sl.none,.map (some w2.heap.size)] zF9:=Row.new _ _ _
 have b4:=Bel.alloc w3 (.cells [.int .u64 s.now,Sl.v Sl.none,.map (some w2.heap.size)].toArray zF9)
 generalize hw4:w3.alloc (.cells [.int .u64 s.now,Sl.v Sl.none,.map (some w2.heap.size)].toArray zF9)=w4 at hT b4 ⊢
 have s4:w4.heap.size=w3.heap.size+1:=by rw [← hw4];exact size_alloc' _ _
 have hR4:=((hR.bel b2).bel b3).bel b4
 refine ⟨hR4,?_⟩
 have b24:=(b2.trans b3).trans b4
 have hlt:=m.lt
 have s2:=b2.le
 have hmne:mb≠b:=fun e=>by have:=m.rom;rw [e,m.rmg] at this;cases this
 have hmp4:MapIs (Value.int .i64) Value.pointer w4 mb (fun n=>(s.tx n).map fun _=>some ⟨(g n).tb,0,none⟩):=(m.mp.grown g1 (by simpa using hmne.symm)).bel b24
 refine zTV hmp4 zPo zGB (s.given+1) (ptrA w3.heap.size) fun w5 hM5 g5=>?_
 have hR5:=hR4.grown g5 (by simpa using hmne)
 refine ⟨hR5,trivial,?_⟩
 have hE:Ext ρ w ρ w5:=(hb1.trans (Ext.bel b24)).trans (Ext.grown g5 m.rom)
 have s5:=g5.size
 have hlow:∀ k,ρ k≠none→k≠w3.heap.size∧k≠w2.heap.size:=fun k hk=>by have:=hlt k hk;omega
 have hρ:∀ k,k<w.heap.size→ownTx ρ (s.given+1) w3.heap.size w2.heap.size k=ρ k:=fun k hk=>by
  unfold ownTx;rw [if_neg (by omega),if_neg (by omega)]
 have hkeep:∀ k r,ρ k=some r→r≠.mg→r≠.om→w5.heap[k]?=w.heap[k]?:=fun k r hk h1 h2=>by
  have hkl:=hlt k (by rw [hk];simp)
  have e1:k≠b:=fun e=>by rw [e,m.rmg] at hk;cases hk;exact h1 rfl
  have e2:k≠mb:=fun e=>by rw [e,m.rom] at hk;cases hk;exact h2 rfl
  rw [g5.block k (by have:=b24.le;omega) (by simpa using e2),b24.block k (by omega),g1.block k hkl (by simpa using e1)]
 refine zDi zGZ zF4 hR5.at (s.given+1) rfl ?_
 refine H1 ks (ownTx ρ (s.given+1) w3.heap.size w2.heap.size) w5 hks' (by omega) ⟨vs,mb,fun n=>if n=s.given+1 then ⟨w3.heap.size,w2.heap.size,Sl.none⟩ else g n,?_⟩ ⟨hE.out,hρ⟩
 exact {
  row:=hR5
  rmg:=(hρ b (hlt b (by rw [m.rmg];simp))).trans m.rmg
  vers:=m.vers.keep fun k hk=>hkeep k .ve (m.rve k hk) (by simp) (by simp)
  rve:=fun k hk=>(hρ k (hlt k (by rw [m.rve k hk];simp))).trans (m.rve k hk)
  mp:=by
   have:(fun n=>((begun s).tx n).map fun _=>(some ⟨(if n=s.given+1 then ⟨w3.heap.size,w2.heap.size,Sl.none⟩ else g n:Gh).tb,0,none⟩:Option Addr))=upd (fun n=>(s.tx n).map fun _=>(some ⟨(g n).tb,0,none⟩:Option Addr)) (s.given+1) (ptrA w3.heap.size):=by
    funext n
    unfold begun
    by_cases hn:n=s.given+1
    ·subst hn;simp [zEE]
    ·simp [zB9 _ _ hn,hn]
   rw [this];exact hM5
  rom:=(hρ mb (hlt mb (by rw [m.rom];simp))).trans m.rom
  tx:=fun n t ht=>by
   unfold begun at ht
   by_cases hn:n=s.given+1
   ·subst hn
    simp only [zEE] at ht
    cases ht
    simp only [if_true]
    have e3:w3.heap.size≠mb:=by have:=hlt mb (by rw [m.rom];simp);omega
    have e2:w2.heap.size≠mb:=by have:=hlt mb (by rw [m.rom];simp);omega
    exact {
     row:=hT.grown g5 (by simpa using e3.symm)
     rtb:=by simp [ownTx]
     rd:=OwnS.nil _ _ _ _ _
     rrd:=fun k hk=>by cases hk
     wr:=(hM.bel b4).grown g5 (by simpa using e2.symm)
     rwb:=by simp only [ownTx];rw [if_neg (by omega),if_pos trivial]}
   ·simp only [zB9 _ _ hn] at ht
    simp only [if_neg hn]
    exact (m.tx n t ht).keep hlt hρ (fun k hk=>hkeep k _ hk (by simp) (by simp)) (fun k hk=>hkeep k _ hk (by simp) (by simp)) (fun k hk=>hkeep k _ hk (by simp) (by simp))
  lt:=fun k hk=>by
   unfold ownTx at hk
   split at hk
   ·rename_i e;subst e;omega
   ·split at hk
    ·rename_i e;subst e;omega
    ·have:=hlt k hk;have:=b24.le;omega}
end Go.Proofs.YtealcoghiaeiiaaGreat.VG
set_option linter.unusedVariables false
namespace Go.Proofs.YtealcoghiaeiiaaGreat.VG
open Go.VB Go.Proofs Go.RowKit
theorem zP0 {κ ν:Type} {ek:κ→Value} {ev:ν→Value} {P:Program} {kt et mt:TypeId} {b:Nat} {f:κ→Option ν} {C:World→Prop} (h:∀ w,C w→MapIs ek ev w b f) (K:KeyOk P kt ek) (hm:P.underlying mt=some (.map kt et)) {z:ν} (hz:∀ w,(zeroValue et).run P w=.ok (ev z) w) (x:κ) {k:ν × Bool→Prop} (H:k ((f x).getD z,(f x).isSome)):
  opC C P (fun p:ν × Bool=>.tuple [ev p.1,.bool p.2].toArray) (Instr.lookup mt (.map (some b)) (ek x) true) k:=⟨_,fun w' hb=>(h w' hb).run_lookOk K hm hz x,H⟩
theorem zSY {κ ν:Type} {ek:κ→Value} {ev:ν→Value} {P:Program} {kt et mt:TypeId} {b:Nat} {f:κ→Option ν} {w:World} (h:MapIs ek ev w b f) (K:KeyOk P kt ek) (hm:P.underlying mt=some (.map kt et)) {z:ν} (hz:∀ w,(zeroValue et).run P w=.ok (ev z) w) (x:κ) {k:ν × Bool→World→Prop} (H:k ((f x).getD z,(f x).isSome) w):
  opE P (fun p:ν × Bool=>.tuple [ev p.1,.bool p.2].toArray) (Instr.lookup mt (.map (some b)) (ek x) true) w k:=⟨_,w,h.run_lookOk K hm hz x,H⟩
abbrev zeroW:Wri:=⟨noB,noB,false⟩
open Classical in
noncomputable def setTx (s:St) (n:Int) (t:Tx):St:={s with tx:=upd s.tx n t}
open Classical in
theorem MgrAt.setTx {ρ ρ':Own} {w w':World} {b:Nat} {s:St} {vs:Sl} {mb:Nat} {g:Int→Gh} (h:MgrAt ρ w b s vs mb g) {n:Int} {t t':Tx} (ht:s.tx n=some t) {g':Gh} (hg:g'.tb=(g n).tb)
  (hρ:∀ k,k<w.heap.size→ρ' k=ρ k) (hlt:∀ k,ρ' k≠none→k<w'.heap.size) (hk:∀ k r,ρ k=some r→r≠.tb n→r≠.wb n→r≠.rb n→w'.heap[k]?=w.heap[k]?) (ht':TxAt ρ' w' n t' g'):
  MgrAt ρ' w' b (setTx s n t') vs mb (fun m=>if m=n then g' else g m) where
 row:=h.row.keep (hk b _ h.rmg (by simp) (by simp) (by simp))
 rmg:=(hρ b (h.lt b (by rw [h.rmg];simp))).trans h.rmg
 vers:=h.vers.keep fun k h1=>hk k _ (h.rve k h1) (by simp) (by simp) (by simp)
 rve k h1:=(hρ k (h.lt k (by rw [h.rve k h1];simp))).trans (h.rve k h1)
 mp:=by
  have:(fun m=>((VG.setTx s n t').tx m).map fun _=>(some ⟨(if m=n then g' else g m:Gh).tb,0,none⟩:Option Addr))=(fun m=>(s.tx m).map fun _=>(some ⟨(g m).tb,0,none⟩:Option Addr)):=by
   funext m
   unfold VG.setTx
   by_cases hm:m=n
   ·subst hm;simp [zEE,ht,hg]
   ·simp [zB9 _ _ hm,hm]
  rw [this]
  exact h.mp.keep (hk mb _ h.rom (by simp) (by simp) (by simp))
 rom:=(hρ mb (h.lt mb (by rw [h.rom];simp))).trans h.rom
 tx m u hu:=by
  by_cases hm:m=n
  ·subst hm
   simp only [VG.setTx,zEE] at hu;cases hu
   simp only [if_true];exact ht'
  ·simp only [VG.setTx,zB9 _ _ hm] at hu
   simp only [if_neg hm]
   exact (h.tx m u hu).keep h.lt hρ (fun k h1=>hk k _ h1 (by simp [hm]) (by simp) (by simp)) (fun k h1=>hk k _ h1 (by simp) (by simp [hm]) (by simp)) (fun k h1=>hk k _ h1 (by simp) (by simp) (by simp [hm]))
 lt:=hlt
noncomputable def putW (t:Tx) (x:Wri):Tx:={t with wr:=upd t.wr x.Key x}
theorem zOR {ρ:Own} {w:World} {b:Nat} {s:St} (h:Mgr ρ w b s) (n:Int) (x:Wri) {k:Int→World→Prop}
  (H0:s.tx n=none→∀ w',Bel w w'→k 11 w')
  (H1:∀ t,s.tx n=some t→zGi x→∀ w',Bel w w'→k 4 w')
  (H2:∀ t ks,s.tx n=some t→¬ zGi x→t.wr x.Key=none→Doms t.wr ks→256≤ks.length→∀ w',Bel w w'→k 3 w')
  (H3:∀ t w',s.tx n=some t→¬ zGi x→(t.wr x.Key=none→∃ ks,Doms t.wr ks∧ks.length<256)→Mgr ρ w' b (setTx s n (putW t x))→Ext ρ w ρ w'→k 0 w'):
  Cl Tryz.prog zGq [.pointer (ptrA b),.int .i64 n,zAD.v x].toArray w (fun e w'=>∃ r0:Int,e=.returned (.int .i64 r0)∧k r0 w'):=by
 obtain ⟨vs,mb,g,m⟩:=h
 refine zLs (ptrA b) n x w k ?_
 unfold zI6
 refine zGl (cs:=x.cells) rfl fun B w1 b1 hX hB=>?_
 refine at_ok (m.bel b1) n (fun ht=>⟨fun _=>H0 ht w1 b1,fun h=>absurd (by decide) h⟩) fun t ht=>⟨fun h=>absurd rfl h,fun _=>?_⟩
 have mt:=m.tx n t ht
 have hrow:=mt.row.bel b1
 have hwr:=mt.wr.bel b1
 refine ⟨Bel w1,fun u bu=>⟨bu,trivial,?_⟩⟩
 refine zMp zFH ?_
 refine zMp zD9 ?_
 refine zKB zCp (some (g n).wb) (fun W hW=>(hrow.bel hW).at.fld rfl) ?_
 refine zKB zAc x.Key (fun W hW=>(hX.bel hW).at.fld rfl) ?_
 refine zP0 (z:=zeroW) (fun W hW=>hwr.bel hW) zMw zDh zLi x.Key ?_
 refine zKA zGU fun C w2 b2 hZ hC=>?_
 refine ⟨bu.trans b2,?_⟩
 refine zNy zDq hZ rfl rfl rfl fun w3 hZ3 g3=>?_
 have b13:Bel w1 w3:=(bu.trans b2).grown g3 fun r hr=>by cases hr;have:=bu.le;omega
 refine ⟨b13,?_⟩
 have hX3:=hX.bel b13
 refine zDi zD9 zAc hX3.at x.Key rfl ?_
 have b03:=b1.trans b13
 have J3:∀ W (c:Bool),Bel w W→Row W B x.cells zFE→¬ zGi x→(c=true→∃ ks,t.wr x.Key=none∧Doms t.wr ks∧256≤ks.length)→(c=false→t.wr x.Key=none→∃ ks,Doms t.wr ks∧ks.length<256)→zEw k (ptrA B) (ptrA (g n).tb) c W:=by
  intro W c hb hXW hl hc1 hc0
  unfold zEw
  refine ⟨fun hc=>?_,fun hc=>?_⟩
  ·obtain ⟨ks,h1,h2,h3⟩:=hc1 hc
   exact H2 t ks ht hl h1 h2 h3 W hb
  ·refine ⟨fun W'=>Row W' (g n).tb [.int .u64 t.began,Sl.v (g n).rs,.map (some (g n).wb)] zF9∧Row W' B x.cells zFE,fun u bu2=>?_⟩
   have hbu:=hb.trans bu2
   have hT:=mt.row.bel hbu
   refine ⟨⟨hT,hXW.bel bu2⟩,trivial,?_⟩
   refine zMp zFH ?_
   refine zMp zD9 ?_
   refine zKB zCp (some (g n).wb) (fun W hW=>hW.1.at.fld rfl) ?_
   refine zKB zAc x.Key (fun W hW=>hW.2.at.fld rfl) ?_
   refine zSU zDq x rfl (fun W hW=>hW.2.at) rfl ?_
   refine zTV (mt.wr.bel hbu) zMw zDh x.Key x fun w5 hM5 g5=>?_
   have htw:(g n).tb≠(g n).wb:=fun e=>by have:=mt.rtb;rw [e,mt.rwb] at this;cases this
   have hltw:=m.lt (g n).wb (by rw [mt.rwb];simp)
   have hBw:B≠(g n).wb:=by omega
   have hT5:=hT.grown g5 (by simpa using htw.symm)
   refine ⟨⟨hT5,(hXW.bel bu2).grown g5 (by simpa using hBw.symm)⟩,?_⟩
   have hE:=(Ext.bel hbu).trans (Ext.grown g5 mt.rwb)
   have hkeep:∀ k,ρ k≠none→k≠(g n).wb→w5.heap[k]?=w.heap[k]?:=fun k hk hne=>by
    have:=m.lt k hk
    rw [g5.block k (by have:=hbu.le;omega) (by simpa using hne),hbu.block k this]
   refine H3 t w5 ht hl (hc0 hc) ⟨vs,mb,_,m.setTx ht (g':=g n) rfl (fun _ _=>rfl) (fun k hk=>by have:=m.lt k hk;have:=hE.out.size;omega) (fun k r hk h1 h2 h3=>hkeep k (by rw [hk];simp) fun e=>?_) ?_⟩ hE
   ·rw [e,mt.rwb] at hk;cases hk;exact h2 rfl
   ·exact {
     row:=hT5
     rtb:=mt.rtb
     rd:=mt.rd.keep fun k hk=>hkeep k (by rw [mt.rrd k hk];simp) fun e=>by have:=mt.rrd k hk;rw [e,mt.rwb] at this;cases this
     rrd:=mt.rrd
     wr:=hM5
     rwb:=mt.rwb}
 have J2:∀ W (c:Bool),Bel w W→Row W B x.cells zFE→(c=true↔zGi x)→zEu k (ptrA B) (ptrA (g n).tb) ((t.wr x.Key).getD zeroW,(t.wr x.Key).isSome) c W:=by
  intro W c hb hXW hc
  unfold zEu
  refine ⟨fun h1=>H1 t ht (hc.1 h1) W hb,fun h1=>?_⟩
  have hl:¬ zGi x:=fun h2=>by rw [hc.2 h2] at h1;cases h1
  refine ⟨fun h2=>⟨trivial,?_⟩,fun h2=>?_⟩
  ·have hno:t.wr x.Key=none:=by
    cases hx:t.wr x.Key with
    |none=>rfl
    |some y=>rw [hx] at h2;simp at h2
   refine zDi zFH zCp (mt.row.bel hb).at (some (g n).wb) rfl ?_
   refine zRO (mt.wr.bel hb) zMo zDh fun ks hks=>?_
   refine J3 W _ hb hXW hl (fun h3=>⟨ks,hno,hks,by have:=of_decide_eq_true h3;omega⟩) fun h3 _=>⟨ks,hks,by have:=of_decide_eq_false h3;omega⟩
  ·refine J3 W false hb hXW hl (fun h=>(nomatch h)) fun _ hno=>?_
   rw [hno] at h2;simp at h2
 refine ⟨fun hc=>J2 w3 true b03 hX3 ⟨fun _=>.inl (by omega),fun _=>rfl⟩,fun hc=>?_⟩
 refine zDi zGv zAc hX3.at x.Val rfl ?_
 refine J2 w3 _ b03 hX3 ?_
 unfold zGi
 simp only [decide_eq_true_eq]
 omega
section
variable {ρ:Own} {w:World} {b:Nat} {s:St}
theorem zRV (n:Int) (key val:ByteArray) {p:Option Addr} {k:Int→World→Prop} (H:Cl Tryz.prog zGq [.pointer p,.int .i64 n,zAD.v ⟨key,val,false⟩].toArray w (fun e w'=>∃ r0:Int,e=.returned (.int .i64 r0)∧k r0 w')):
  Cl Tryz.prog zKh [.pointer p,.int .i64 n,.string key,.string val].toArray w (fun e w'=>∃ r0:Int,e=.returned (.int .i64 r0)∧k r0 w'):=by
 refine zMc p n key val w k ?_
 unfold zJr
 exact ⟨⟨key,val,false⟩,w,by kernel_rfl,H⟩
theorem zQ6 (n:Int) (key:ByteArray) {p:Option Addr} {k:Int→World→Prop} (H:Cl Tryz.prog zGq [.pointer p,.int .i64 n,zAD.v ⟨key,noB,true⟩].toArray w (fun e w'=>∃ r0:Int,e=.returned (.int .i64 r0)∧k r0 w')):
  Cl Tryz.prog zJz [.pointer p,.int .i64 n,.string key].toArray w (fun e w'=>∃ r0:Int,e=.returned (.int .i64 r0)∧k r0 w'):=by
 refine zLk p n key w k ?_
 unfold zIe
 exact ⟨⟨key,noB,true⟩,w,by kernel_rfl,H⟩
end
end Go.Proofs.YtealcoghiaeiiaaGreat.VG
set_option linter.unusedVariables false
namespace Go.Proofs.YtealcoghiaeiiaaGreat.VG
open Go.VB Go.Proofs Go.RowKit
def addR (t:Tx) (x:Spn):Tx:={t with reads:=t.reads++[x]}
theorem zQw {ρ:Own} {w:World} {b:Nat} {s:St} {vs:Sl} {mb:Nat} {g:Int→Gh} (m:MgrAt ρ w b s vs mb g) {n:Int} {t:Tx} (ht:s.tx n=some t) (hroom:t.reads.length<1000) (x:Spn) {k:World→Prop}
  (H:∀ ρ' w' g',(g' n).tb=(g n).tb→(g' n).wb=(g n).wb→MgrAt ρ' w' b (setTx s n (addR t x)) vs mb g'→Ext ρ w ρ' w'→k w'):
  opE Tryz.prog Sl.v (Instr.buildSlice zJa 1 [(0,zAm.v x)].toArray) w (fun y w=>opE Tryz.prog Sl.v (Builtin.append_ #[zJa,zJa] zJa [Sl.v (g n).rs,Sl.v y].toArray) w (fun z w=>
   nilOk (.pointer (ptrA (g n).tb))∧opE Tryz.prog Value.pointer (Instr.fieldAt zF9 (.pointer (ptrA (g n).tb)) 1) w (fun q w=>opU Tryz.prog (Instr.storeAt zJa (.pointer q) (Sl.v z)) w k))):=by
 have mt:=m.tx n t ht
 refine zQ0 mt.rd (fun _=>rfl) (fun _=>rfl) (by decide) zKl zLe rfl (by decide) (zLz x) (Nat.zero_le _) (by omega) fun z w1 hO g1 hq=>⟨trivial,?_⟩
 have hrow1:Row w1 (g n).tb [.int .u64 t.began,Sl.v (g n).rs,.map (some (g n).wb)] zF9:=mt.row.grown g1 fun e=>by
  have:=mt.rrd _ e;rw [mt.rtb] at this;cases this
 refine ⟨_,w1,zF3 _ _,?_⟩
 refine zNK zGg hrow1 (by cases z with|mk a l c=>cases a<;>rfl) (by simp) (by cases z with|mk a l c=>cases a<;>rfl) fun w2 hR g2=>?_
 replace hR:Row w2 (g n).tb [.int .u64 t.began,Sl.v z,.map (some (g n).wb)] zF9:=hR
 have hzt:(Sl.v z).ownBlock≠some (g n).tb:=OwnS.ne_row hO hrow1 (by decide)
 have hO2:=hO.kept g2 (.inr hzt)
 let ρ':Own:=fun k=>if (Sl.v z).ownBlock=some k then some (.rb n) else ρ k
 have hρ:∀ k,k<w.heap.size→ρ' k=ρ k:=fun k hk=>by
  show (if (Sl.v z).ownBlock=some k then _ else _)=_
  split
  ·rename_i e
   rcases hq k e with h1|h1
   ·exact (mt.rrd k h1).symm
   ·omega
  ·rfl
 have hs1:=g1.size
 have hs2:=g2.size
 have hkeep:∀ k r,ρ k=some r→r≠.tb n→r≠.rb n→w2.heap[k]?=w.heap[k]?:=fun k r hk h1 h2=>by
  have hkl:=m.lt k (by rw [hk];simp)
  rw [g2.block k (by omega) fun e=>by injection e with e;rw [e,mt.rtb] at hk;cases hk;exact h1 rfl,g1.block k hkl fun e=>by
   have:=mt.rrd k e.symm;rw [hk] at this;cases this;exact h2 rfl]
 have hE:Ext ρ w ρ' w2:=⟨(Out.row (S:=fun k=>ρ k≠none) g1 fun k hk=>.inl (by show ρ k≠none;rw [mt.rrd k hk];simp)).trans (Out.row (S:=fun k=>ρ k≠none) g2 fun k hk=>by cases hk;exact .inl (by show ρ _≠none;rw [mt.rtb];simp)) fun _ _ h=>h,hρ⟩
 refine H ρ' w2 (fun m=>if m=n then ⟨(g n).tb,(g n).wb,z⟩ else g m) (by simp) (by simp) (m.setTx ht rfl hρ (fun k hk=>?_) (fun k r hk h1 h2 h3=>hkeep k r hk h1 h3) ?_) hE
 ·by_cases e:(Sl.v z).ownBlock=some k
  ·exact hO2.lt e
  ·have:ρ k≠none:=by
    have h1:(if (Sl.v z).ownBlock=some k then some (Role.rb n) else ρ k)≠none:=hk
    rw [if_neg e] at h1;exact h1
   have:=m.lt k this;omega
 ·exact {
   row:=hR
   rtb:=(hρ _ (m.lt _ (by rw [mt.rtb];simp))).trans mt.rtb
   rd:=hO2
   rrd:=fun k hk=>by show (if (Sl.v z).ownBlock=some k then _ else _)=_;rw [if_pos hk]
   wr:=mt.wr.keep (hkeep _ _ mt.rwb (by simp) (by simp))
   rwb:=(hρ _ (m.lt _ (by rw [mt.rwb];simp))).trans mt.rwb}
noncomputable def tget (s:St) (t:Tx) (key:ByteArray):ByteArray × Bool × Int:=match t.wr key with
 |some x=>(x.Val,!x.Gone,0)
 |none=>vget s.l s.low key t.began
abbrev spanK (key:ByteArray):Spn:=⟨key,noB,true⟩
theorem zQr {ρ:Own} {w:World} {b:Nat} {s:St} (h:Mgr ρ w b s) (n:Int) (key:ByteArray) {k:ByteArray→Bool→Int→World→Prop}
  (H0:s.tx n=none→k noB false 11 w)
  (H1:∀ t,s.tx n=some t→256<key.size→k noB false 4 w)
  (H2:∀ t,s.tx n=some t→¬ 256<key.size→256≤t.reads.length→k noB false 3 w)
  (H3:∀ t ρ' w',s.tx n=some t→¬ 256<key.size→t.reads.length<256→Mgr ρ' w' b (setTx s n (addR t (spanK key)))→Ext ρ w ρ' w'→k (tget s t key).1 (tget s t key).2.1 (tget s t key).2.2 w'):
  Cl Tryz.prog zKg [.pointer (ptrA b),.int .i64 n,.string key].toArray w (fun e w'=>∃ (r0:ByteArray) (r1:Bool) (r2:Int),e=.returned (.tuple [.string r0,.bool r1,.int .i64 r2].toArray)∧k r0 r1 r2 w'):=by
 obtain ⟨vs,mb,g,m⟩:=h
 refine zMa (ptrA b) n key w k ?_
 unfold zJq
 refine at_ok m n (fun ht=>⟨fun _=>H0 ht,fun h=>absurd (by decide) h⟩) fun t ht=>⟨fun h=>absurd rfl h,fun _=>⟨fun hl=>H1 t ht (by omega),fun hl=>⟨trivial,?_⟩⟩⟩
 have mt:=m.tx n t ht
 have hrl:=mt.rd.len
 refine zDi zF3 zGg mt.row.at (g n).rs rfl ?_
 refine ⟨fun hc=>H2 t ht (by omega) (by omega),fun hc=>⟨trivial,?_⟩⟩
 refine zDi zF3 zGg mt.row.at (g n).rs rfl ?_
 refine ⟨spanK key,w,by kernel_rfl,?_⟩
 refine zQw m ht (by omega) (spanK key) fun ρ' w1 g' eg ew m1 hE=>⟨trivial,?_⟩
 have ht1:(setTx s n (addR t (spanK key))).tx n=some (addR t (spanK key)):=by simp [setTx,zEE]
 have mt1:=m1.tx n _ ht1
 have fin:∀ W,Bel w1 W→k (tget s t key).1 (tget s t key).2.1 (tget s t key).2.2 W:=fun W hW=>H3 t ρ' W ht (by omega) (by omega) ⟨vs,mb,g',m1.bel hW⟩ (hE.trans (Ext.bel hW))
 have hT1:Row w1 (g n).tb [.int .u64 t.began,Sl.v (g' n).rs,.map (some (g n).wb)] zF9:=by have:=mt1.row;rw [eg,ew] at this;exact this
 have hM1:MapIs Value.string zAD.v w1 (g n).wb t.wr:=by have:=mt1.wr;rw [ew] at this;exact this
 refine zDi zFH zCp hT1.at (some (g n).wb) rfl ?_
 refine zSY (z:=zeroW) hM1 zMw zDh zLi key ?_
 refine zJb zGU rfl zDq (cs:=((t.wr key).getD zeroW).cells) rfl rfl rfl fun C w2 b2 hX _=>?_
 refine ⟨fun hi=>?_,fun hi=>⟨trivial,?_⟩⟩
 ·obtain ⟨x,hx⟩:=Option.isSome_iff_exists.1 hi
  have hv:tget s t key=(x.Val,!x.Gone,0):=by unfold tget;rw [hx]
  rw [hx] at hX
  refine zMG zGv zAc hX.at x.Val rfl ?_
  refine zMG zHd zJu hX.at x.Gone rfl ?_
  intro w3 b3
  have:=fin w3 (b2.trans b3)
  rw [hv] at this;exact this
 ·have hno:t.wr key=none:=by
   cases hx:t.wr key with
   |none=>rfl
   |some y=>rw [hx] at hi;simp at hi
  have hv:tget s t key=vget s.l s.low key t.began:=by unfold tget;rw [hno]
  have m2:=m1.bel b2
  refine ⟨_,fun W hW=>zCB _ _,?_⟩
  refine zOO zAg (cs:=[Sl.v vs,.int .u64 s.low]) ⟨vs,s.low⟩ rfl (fun j v hj=>by
   have h1:=m2.row.at
   rw [zK9]
   refine h1 (0+j) v ?_
   match j,hj with
   |0,hj=>exact hj
   |1,hj=>exact hj) rfl ⟨trivial,?_⟩
  refine zMG zI0 zA9 (hT1.bel b2).at t.began rfl ?_
  refine ⟨(vget s.l s.low key t.began).1,(vget s.l s.low key t.began).2.1,(vget s.l s.low key t.began).2.2,fun W hW=>?_,?_⟩
  ·refine (zTJ (x0:=⟨vs,s.low⟩) (m2.vers.bel hW) key t.began (k:=fun a c d w'=>a=(vget s.l s.low key t.began).1∧c=(vget s.l s.low key t.began).2.1∧d=(vget s.l s.low key t.began).2.2∧Bel W w') fun w' hb=>⟨rfl,rfl,rfl,hb⟩).mono fun e w' ⟨a,c,d,he,h1,h2,h3,h4⟩=>?_
   subst h1;subst h2;subst h3
   exact ⟨he,h4⟩
  ·intro w3 b3
   have:=fin w3 (b2.trans b3)
   rw [hv] at this;exact this
end Go.Proofs.YtealcoghiaeiiaaGreat.VG
set_option linter.unusedVariables false
namespace Go.Proofs.YtealcoghiaeiiaaGreat.VG
open Go.VB Go.Proofs Go.RowKit
theorem zKc {α:Type}:∀ {l m:List α},l.Nodup→(∀ x∈l,x∈m)→l.length≤m.length:=by
 intro l m hl h
 classical
 induction l generalizing m with
 |nil=>simp
 |cons a l ih=>
  obtain ⟨h1,h2⟩:=List.nodup_cons.1 hl
  have ha:a∈m:=h a (by simp)
  have:=ih (m:=m.erase a) h2 fun x hx=>(List.mem_erase_of_ne (fun e=>h1 (by rw [← e];exact hx))).2 (h x (by simp [hx]))
  rw [List.length_erase_of_mem ha] at this
  have:0<m.length:=List.length_pos_of_mem ha
  simp only [List.length_cons];omega
noncomputable def delTx (s:St) (n:Int):St:={s with tx:=del s.tx n}
structure IsLow (s:St) (lo:Int):Prop where
 now:lo≤s.now
 all:∀ n t,s.tx n=some t→lo≤t.began
 hit:lo=s.now∨∃ n t,s.tx n=some t∧lo=t.began
theorem IsLow.le {s:St} {a c:Int} (h:IsLow s a) (k:IsLow s c):a≤c:=by
 rcases k.hit with e|⟨n,t,h1,e⟩
 ·rw [e];exact h.now
 ·rw [e];exact h.all n t h1
theorem IsLow.one {s:St} {a c:Int} (h:IsLow s a) (k:IsLow s c):a=c:=Int.le_antisymm (h.le k) (k.le h)
open Classical in
noncomputable def lowOf (s:St):Int:=if h:∃ lo,IsLow s lo then h.choose else 0
theorem IsLow.eq {s:St} {lo:Int} (h:IsLow s lo):lo=lowOf s:=by
 have:∃ lo,IsLow s lo:=⟨lo,h⟩
 unfold lowOf;rw [dif_pos this]
 exact h.one this.choose_spec
noncomputable def swept (s:St):St:=if (zJm s.l s.low (lowOf s)).2.2=0 then {s with l:=(zJm s.l s.low (lowOf s)).1,low:=(zJm s.l s.low (lowOf s)).2.1} else s
noncomputable def overS (s:St) (n:Int):St:=swept (delTx s n)
section
variable {ρ:Own} {w w':World} {b:Nat} {s:St} {vs:Sl} {mb:Nat} {g:Int→Gh}
theorem MgrAt.versAt (m:MgrAt ρ w b s vs mb g):At w ((⟨b,0,none⟩:Addr).add 0) [Sl.v vs,.int .u64 s.low]:=fun j v hj=>by
 have h1:=m.row.at
 rw [zK9]
 refine h1 (0+j) v ?_
 match j,hj with
 |0,hj=>exact hj
 |1,hj=>exact hj
theorem MgrAt.delTx (m:MgrAt ρ w b s vs mb g) (n:Int) (hM:MapIs (Value.int .i64) Value.pointer w' mb (del (fun n=>(s.tx n).map fun _=>(some ⟨(g n).tb,0,none⟩:Option Addr)) n)) (hg:w.grownBy w' (some mb)):MgrAt ρ w' b (delTx s n) vs mb g:=by
 have hkeep:∀ k r,ρ k=some r→r≠.om→w'.heap[k]?=w.heap[k]?:=fun k r hk h1=>hg.block k (m.lt k (by rw [hk];simp)) fun e=>by injection e with e;rw [e,m.rom] at hk;cases hk;exact h1 rfl
 exact {
  row:=m.row.keep (hkeep _ _ m.rmg (by simp))
  rmg:=m.rmg
  vers:=m.vers.keep fun k hk=>hkeep k _ (m.rve k hk) (by simp)
  rve:=m.rve
  mp:=by
   have:(fun k=>((VG.delTx s n).tx k).map fun _=>(some ⟨(g k).tb,0,none⟩:Option Addr))=del (fun n=>(s.tx n).map fun _=>(some ⟨(g n).tb,0,none⟩:Option Addr)) n:=by
    funext k
    unfold VG.delTx
    by_cases hk:k=n
    ·subst hk;simp [zKf]
    ·simp [zG4 _ hk]
   rw [this];exact hM
  rom:=m.rom
  tx:=fun k t ht=>by
   have hk:k≠n:=fun e=>by subst e;simp [VG.delTx,zKf] at ht
   have ht':s.tx k=some t:=by simpa [VG.delTx,zG4 _ hk] using ht
   exact (m.tx k t ht').keep m.lt (fun _ _=>rfl) (fun j h1=>hkeep j _ h1 (by simp)) (fun j h1=>hkeep j _ h1 (by simp)) (fun j h1=>hkeep j _ h1 (by simp))
  lt:=fun k hk=>Nat.lt_of_lt_of_le (m.lt k hk) hg.size}
theorem MgrAt.setVers (m:MgrAt ρ w b s vs mb g) {r:Sl} {l:List Ver} {low now:Int} (hr:VerRd w r l) (hnew:∀ k,(Sl.v r).ownBlock=some k→k<w.heap.size∧ρ k=none) (hg:w.grownBy w' (some b))
  (hR:Row w' b [Sl.v r,.int .u64 low,.int .u64 now,.int .i64 s.given,.map (some mb)] zE4):
  MgrAt (fun k=>if (Sl.v r).ownBlock=some k then some .ve else ρ k) w' b {s with l:=l,low:=low,now:=now} r mb g:=by
 have hsz:=hg.size
 have hold:∀ k r',ρ k=some r'→(if (Sl.v r).ownBlock=some k then some Role.ve else ρ k)=some r':=fun k r' hk=>by
  split
  ·rename_i e;rw [(hnew k e).2] at hk;cases hk
  ·exact hk
 have hkeep:∀ k r,ρ k=some r→r≠.mg→w'.heap[k]?=w.heap[k]?:=fun k r hk h1=>hg.block k (m.lt k (by rw [hk];simp)) fun e=>by injection e with e;rw [e,m.rmg] at hk;cases hk;exact h1 rfl
 exact {
  row:=hR
  rmg:=hold _ _ m.rmg
  vers:=hr.keep fun k hk=>hg.block k (hnew k hk).1 fun e=>by injection e with e;have:=(hnew k hk).2;rw [e,m.rmg] at this;cases this
  rve:=fun k hk=>if_pos hk
  mp:=m.mp.keep (hkeep _ _ m.rom (by simp))
  rom:=hold _ _ m.rom
  tx:=fun k t ht=>by
   have h:=m.tx k t ht
   exact {
    row:=h.row.keep (hkeep _ _ h.rtb (by simp))
    rtb:=hold _ _ h.rtb
    rd:=h.rd.keep fun j hj=>hkeep j _ (h.rrd j hj) (by simp)
    rrd:=fun j hj=>hold _ _ (h.rrd j hj)
    wr:=h.wr.keep (hkeep _ _ h.rwb (by simp))
    rwb:=hold _ _ h.rwb}
  lt:=fun k hk=>by
   by_cases e:(Sl.v r).ownBlock=some k
   ·have:=(hnew k e).1;omega
   ·have h1:(if (Sl.v r).ownBlock=some k then some Role.ve else ρ k)≠none:=hk
    rw [if_neg e] at h1
    have:=m.lt k h1;omega}
theorem zSr (h:Mgr ρ w b s) (n:Int) {Ret:World→Prop} (H:∀ ρ' w',Mgr ρ' w' b (overS s n)→Ext ρ w ρ' w'→Ret w'):zF0 (ptrA b) n w Ret:=by
 obtain ⟨vs,mb,g,m⟩:=h
 unfold zF0
 refine ⟨trivial,?_⟩
 refine zDi zF5 zF6 m.row.at (some mb) rfl ?_
 refine zUJ m.mp zPo zGB n fun w1 hM g1=>?_
 have m1:=m.delTx n hM g1
 have hE1:Ext ρ w ρ w1:=Ext.grown g1 m.rom
 unfold overS at H
 generalize VG.delTx s n=s1 at m1 H
 refine ⟨trivial,?_⟩
 refine zDi zEa zA9 m1.row.at s1.now rfl ⟨trivial,?_⟩
 refine zDi zF5 zF6 m1.row.at (some mb) rfl ?_
 obtain ⟨es,c,mAt⟩:=m1.mp
 obtain ⟨dom,hdom,_⟩:=mAt.doms zOa
 clear mAt
 refine zTT m1.mp zGB fun w2 hi b2=>?_
 have hmb:mb<w1.heap.size:=m1.mp.lt
 generalize hR:w1.heap.size=R at hi hmb ⊢
 refine ⟨fun x W=>∃ ks,zGV (Value.int .i64) Value.pointer W mb R (fun n=>(s1.tx n).map fun _=>some ⟨(g n).tb,0,none⟩) ks∧Bel w1 W∧x≤s1.now∧(∀ k∈ks,∀ t,s1.tx k=some t→x≤t.began)∧(x=s1.now∨∃ k t,k∈ks∧s1.tx k=some t∧x=t.began),fun _ W=>dom.length - zL9 W R,⟨[],hi,b2,Int.le_refl _,by simp,.inl rfl⟩,?_⟩
 rintro x W ⟨ks,hi1,hb1,hx1,hx2,hx3⟩
 unfold zEv
 refine zRf hi1 (by omega) zOa (fun hall=>?_) fun y v W2 hy hn hi2 hg=>?_
 ·refine ⟨fun _=>⟨trivial,?_⟩,fun k v e=>by cases e⟩
  have hlow:x=lowOf s1:=IsLow.eq ⟨hx1,fun k t ht=>hx2 k (hall k (some ⟨(g k).tb,0,none⟩) (by rw [ht];rfl)) t ht,by
   rcases hx3 with h|⟨k,t,_,h1,h2⟩
   ·exact .inl h
   ·exact .inr ⟨k,t,h1,h2⟩⟩
  have mW:=m1.bel hb1
  have hEW:=hE1.trans (Ext.bel hb1)
  refine ⟨_,W,zCB _ _,?_⟩
  refine zII zAg (cs:=[Sl.v vs,.int .u64 s1.low]) ⟨vs,s1.low⟩ rfl mW.versAt rfl ?_
  refine zRi (x0:=⟨vs,s1.low⟩) mW.vers x fun r W3 base h1 hO b3=>?_
  refine zJb zFd rfl zAg (cs:=[Sl.v r,.int .u64 (zJm s1.l s1.low x).2.1]) rfl (by cases r with|mk a l c=>cases a<;>rfl) rfl fun C W4 b4 hX _=>?_
  have m4:=(mW.bel b3).bel b4
  have hE4:=hEW.trans (Ext.bel (b3.trans b4))
  unfold swept at H
  rw [← hlow] at H
  refine ⟨fun hz=>?_,fun hz=>?_⟩
  ·rw [if_pos hz] at H
   refine zII zAg (cs:=[Sl.v r,.int .u64 (zJm s1.l s1.low x).2.1]) ⟨r,(zJm s1.l s1.low x).2.1⟩ rfl hX.at rfl ⟨trivial,?_⟩
   refine ⟨_,W4,zCB _ _,?_⟩
   refine zTo zAg (vs:=[Sl.v r,.int .u64 (zJm s1.l s1.low x).2.1]) (off:=0) m4.row rfl (by simp) (by cases r with|mk a l c=>cases a<;>rfl) fun W5 hR5 g5=>?_
   have hO4:=hO.bel b4
   have hnew:∀ k,(Sl.v r).ownBlock=some k→k<W4.heap.size∧ρ k=none:=fun k hk=>by
    refine ⟨hO4.lt hk,?_⟩
    have h2:=hO.lo hk
    cases hρ:ρ k with
    |none=>rfl
    |some r0=>
     have h3:=m.lt k (by rw [hρ];simp)
     have h4:=hEW.out.size
     omega
   have m5:=m4.setVers (zFt.rd hO4) hnew g5 hR5
   refine H _ W5 ⟨_,_,_,m5⟩ ⟨hE4.out.trans (Out.row (S:=fun k=>ρ k≠none) g5 fun k hk=>by cases hk;exact .inl (by show ρ _≠none;rw [m.rmg];simp)) fun _ _ h=>h,fun k hk=>if_neg fun e=>?_⟩
   have h2:=hO.lo e
   have h4:=hEW.out.size
   omega
  ·rw [if_neg hz] at H
   exact H ρ W4 ⟨_,_,_,m4⟩ hE4
 ·refine ⟨fun e=>(nomatch e),fun k v' e=>?_⟩
  cases e
  have hb2:Bel w1 W2:=hb1.grown hg fun r e=>by cases e;omega
  cases ht:s1.tx y with
  |none=>rw [ht] at hy;cases hy
  |some t=>
   have hv:v=ptrA (g y).tb:=by rw [ht] at hy;simpa using hy.symm
   subst hv
   have hcl:(ks++[y]).length≤dom.length:=zKc hi2.nd fun z hz=>(hdom.2 z).2 (hi2.dom z hz)
   rw [List.length_append,List.length_singleton] at hcl
   have hl1:=hi1.size
   have hl2:=hi2.size
   rw [List.length_append,List.length_singleton] at hl2
   refine zL7 hi2 hy zOa ⟨trivial,?_⟩
   refine zDi zI0 zA9 ((m1.bel hb2).tx y t ht).row.at t.began rfl ?_
   refine ⟨⟨ks++[y],hi2,hb2,?_,fun k hk u hu=>?_,?_⟩,by dsimp only;omega⟩
   ·split<;>omega
   ·rcases List.mem_append.1 hk with hk|hk
    ·have:=hx2 k hk u hu
     split<;>omega
    ·simp at hk;subst hk
     rw [ht] at hu;cases hu
     split<;>omega
   ·split
    ·exact .inr ⟨y,t,by simp,ht,rfl⟩
    ·rcases hx3 with h|⟨k,u,h1,h2,h3⟩
     ·exact .inl h
     ·exact .inr ⟨k,u,by simp [h1],h2,h3⟩
theorem zS2 (h:Mgr ρ w b s) (n:Int) {k:World→Prop} (H:∀ ρ' w',Mgr ρ' w' b (overS s n)→Ext ρ w ρ' w'→k w'):
  Cl Tryz.prog zKS [.pointer (ptrA b),.int .i64 n].toArray w (fun e w'=>e=.returned (.tuple [].toArray)∧k w'):=zMB (ptrA b) n w k (zSr h n H)
theorem zQE (h:Mgr ρ w b s) (n:Int) {k:World→Prop} (H:∀ ρ' w',Mgr ρ' w' b (overS s n)→Ext ρ w ρ' w'→k w'):
  opD Tryz.prog zKS [.pointer (ptrA b),.int .i64 n] w k:=ClD.mono (zLr (ptrA b) n w k (zSr h n H)) fun e w' h=>⟨⟨_,h.1⟩,h.2⟩
end
end Go.Proofs.YtealcoghiaeiiaaGreat.VG
set_option linter.unusedVariables false
namespace Go.Proofs.YtealcoghiaeiiaaGreat.VG
open Go.VB Go.Proofs Go.RowKit
theorem getE {α:Type} {l:List α} {n:Nat} (h:n<l.length):∃ x,l[n]?=some x:=⟨l[n]'h,by simp⟩
theorem zNN {α:Type} {l:List α} {n:Nat} {x:α} (h:l[n]?=some x) (p:α→Bool) (hn:(l.take n).any p=false):(l.take (n+1)).any p=p x:=by
 rw [zIx h,List.any_append,hn];simp
theorem zPd {α:Type} {l:List α} {n:Nat} {x:α} (h:l[n]?=some x) (p:α→Bool) (hp:p x=true):l.any p=true:=List.any_eq_true.2 ⟨x,List.mem_of_getElem? h,hp⟩
def zMz (fv:Value) (p:zAB→Bool) (l:List zAB) (w:World):Prop:=∀ d∈l,∀ w' (k:Bool→World→Prop),Bel w w'→(∀ w'',Bel w' w''→k (p d) w'')→CallV Tryz.prog fv [zAB.v d] w' (fun e w''=>∃ r:Bool,e=.returned (.bool r)∧k r w'')
theorem zMk {w:World} {x:Sl} {l:List zAB} (hd:Rd zAB.cells 4 w x l) {fv:Value} {p:zAB→Bool} (hp:zMz fv p l w) {k:Bool→World→Prop} (H:∀ w',Bel w w'→k (l.any p) w'):
  Cl Tryz.prog zE7 [Sl.v x,fv].toArray w (fun e w'=>∃ r0:Bool,e=.returned (.bool r0)∧k r0 w'):=by
 have dbig:=hd.big;have dcap:=hd.cap;have dlen:=hd.len
 refine zE8 x _ w k ?_
 unfold zCt
 refine zFT x _ w _ ?_
 unfold zDX
 refine ⟨fun i w1=>∃ n:Nat,i=(n:Int)∧n≤l.length∧Bel w w1∧(l.take n).any p=false,fun i _=>(x.len - i).toNat,⟨0,rfl,by omega,Bel.refl _,by simp⟩,?_⟩
 rintro i w1 ⟨n,rfl,hn,hb,hno⟩
 unfold zBO
 refine ⟨fun hc=>?_,fun hc=>?_⟩
 ·obtain ⟨d,hdn⟩:=getE (l:=l) (n:=n) (by omega)
  refine zLL (hd.bel hb) zBU zC2 (by omega) (x:=d) (by simpa using hdn) fun ad hA=>?_
  refine zII zAx d rfl hA rfl ?_
  refine hp d (List.mem_of_getElem? hdn) w1 _ hb fun w2 b2=>⟨fun ht=>?_,fun hf=>?_⟩
  ·dsimp only
   rw [decide_eq_true (p:=0≤(n:Int)) (by omega),← zPd hdn p ht]
   exact H w2 (hb.trans b2)
  ·rw [wr64 (by omega) (by omega)]
   exact ⟨⟨n+1,by omega,by omega,hb.trans b2,by rw [zNN hdn p hno];exact hf⟩,by dsimp only;omega⟩
 ·obtain rfl:n=l.length:=by omega
  rw [List.take_length] at hno
  have:=H w1 hb
  rw [hno] at this
  exact this
def zNz (fv:Value) (p:zAm→Bool) (l:List zAm) (w:World):Prop:=∀ d∈l,∀ w' (k:Bool→World→Prop),Bel w w'→(∀ w'',Bel w' w''→k (p d) w'')→CallV Tryz.prog fv [zAm.v d] w' (fun e w''=>∃ r:Bool,e=.returned (.bool r)∧k r w'')
theorem zNa {w:World} {x:Sl} {l:List zAm} (hd:Rd zAm.cells 3 w x l) {fv:Value} {p:zAm→Bool} (hp:zNz fv p l w) {k:Bool→World→Prop} (H:∀ w',Bel w w'→k (l.any p) w'):
  Cl Tryz.prog zHl [Sl.v x,fv].toArray w (fun e w'=>∃ r0:Bool,e=.returned (.bool r0)∧k r0 w'):=by
 have dbig:=hd.big;have dcap:=hd.cap;have dlen:=hd.len
 refine zHj x _ w k ?_
 unfold zEe
 refine zId x _ w _ ?_
 unfold zEx
 refine ⟨fun i w1=>∃ n:Nat,i=(n:Int)∧n≤l.length∧Bel w w1∧(l.take n).any p=false,fun i _=>(x.len - i).toNat,⟨0,rfl,by omega,Bel.refl _,by simp⟩,?_⟩
 rintro i w1 ⟨n,rfl,hn,hb,hno⟩
 unfold zDl
 refine ⟨fun hc=>?_,fun hc=>?_⟩
 ·obtain ⟨d,hdn⟩:=getE (l:=l) (n:=n) (by omega)
  refine zLL (hd.bel hb) zKl zN1 (by omega) (x:=d) (by simpa using hdn) fun ad hA=>?_
  refine zII zJ6 d rfl hA rfl ?_
  refine hp d (List.mem_of_getElem? hdn) w1 _ hb fun w2 b2=>⟨fun ht=>?_,fun hf=>?_⟩
  ·dsimp only
   rw [decide_eq_true (p:=0≤(n:Int)) (by omega),← zPd hdn p ht]
   exact H w2 (hb.trans b2)
  ·rw [wr64 (by omega) (by omega)]
   exact ⟨⟨n+1,by omega,by omega,hb.trans b2,by rw [zNN hdn p hno];exact hf⟩,by dsimp only;omega⟩
 ·obtain rfl:n=l.length:=by omega
  rw [List.take_length] at hno
  have:=H w1 hb
  rw [hno] at this
  exact this
def zKm (fv:Value) (p:zAE→Bool) (l:List zAE) (w:World):Prop:=∀ d∈l,∀ w' (k:Bool→World→Prop),Bel w w'→(∀ w'',Bel w' w''→k (p d) w'')→CallV Tryz.prog fv [zAE.v d] w' (fun e w''=>∃ r:Bool,e=.returned (.bool r)∧k r w'')
theorem zNc {w:World} {x:Sl} {l:List zAE} (hd:Rd zAE.cells 2 w x l) {fv:Value} {p:zAE→Bool} (hp:zKm fv p l w) {k:Bool→World→Prop} (H:∀ w',Bel w w'→k (l.any p) w'):
  Cl Tryz.prog zHm [Sl.v x,fv].toArray w (fun e w'=>∃ r0:Bool,e=.returned (.bool r0)∧k r0 w'):=by
 have dbig:=hd.big;have dcap:=hd.cap;have dlen:=hd.len
 refine zHn x _ w k ?_
 unfold zEc
 refine zGA x _ w _ ?_
 unfold zEC
 refine ⟨fun i w1=>∃ n:Nat,i=(n:Int)∧n≤l.length∧Bel w w1∧(l.take n).any p=false,fun i _=>(x.len - i).toNat,⟨0,rfl,by omega,Bel.refl _,by simp⟩,?_⟩
 rintro i w1 ⟨n,rfl,hn,hb,hno⟩
 unfold zCY
 refine ⟨fun hc=>?_,fun hc=>?_⟩
 ·obtain ⟨d,hdn⟩:=getE (l:=l) (n:=n) (by omega)
  refine zLL (hd.bel hb) zFR zGe (by omega) (x:=d) (by simpa using hdn) fun ad hA=>?_
  refine zII zGF d rfl hA rfl ?_
  refine hp d (List.mem_of_getElem? hdn) w1 _ hb fun w2 b2=>⟨fun ht=>?_,fun hf=>?_⟩
  ·dsimp only
   rw [decide_eq_true (p:=0≤(n:Int)) (by omega),← zPd hdn p ht]
   exact H w2 (hb.trans b2)
  ·rw [wr64 (by omega) (by omega)]
   exact ⟨⟨n+1,by omega,by omega,hb.trans b2,by rw [zNN hdn p hno];exact hf⟩,by dsimp only;omega⟩
 ·obtain rfl:n=l.length:=by omega
  rw [List.take_length] at hno
  have:=H w1 hb
  rw [hno] at this
  exact this
def zHV (x:Spn) (key:ByteArray):Bool:=if x.only=true then decide (key=x.from_) else (!sLt key x.from_)&&(decide (x.to_=noB)||sLt key x.to_)
theorem zRa (x:Spn) (key:ByteArray) (w:World) {k:Bool→World→Prop} (H:∀ w',Bel w w'→k (zHV x key) w'):
  Cl Tryz.prog zNx [zAm.v x,.string key].toArray w (fun e w'=>∃ r0:Bool,e=.returned (.bool r0)∧k r0 w'):=by
 refine zNd x key w k ?_
 unfold zKi zG2 zG6
 refine zGl (cs:=x.cells) rfl fun B w1 b1 hX _=>?_
 refine zDi zM1 zJu hX.at x.only rfl ?_
 have h:=H w1 b1
 unfold zHV at h
 refine ⟨fun ho=>?_,fun ho=>?_⟩
 ·rw [if_pos ho] at h
  exact zDi zKv zAc hX.at x.from_ rfl h
 ·rw [if_neg (by simp [ho])] at h
  refine zDi zKv zAc hX.at x.from_ rfl ⟨fun h1=>?_,fun h1=>?_⟩
  ·rw [h1] at h
   refine zDi zLl zAc hX.at x.to_ rfl ⟨fun h2=>?_,fun h2=>?_⟩
   ·rw [show decide (x.to_=noB)=true from decide_eq_true h2] at h
    exact h
   ·rw [show decide (x.to_=noB)=false from decide_eq_false h2] at h
    exact zDi zLl zAc hX.at x.to_ rfl h
  ·rw [h1] at h
   exact h
def conf (t:Tx) (v:Ver):Bool:=decide (t.began<v.At)&&t.reads.any (fun x=>zHV x v.Key)
theorem zRd (x:Spn) {w:World} {B:Nat} {v:Ver} (hB:Row w B v.cells zAp) {k:Bool→World→Prop} (H:∀ w',Bel w w'→k (zHV x v.Key) w'):
  Cl Tryz.prog zHh [zAm.v x,.pointer (ptrA B)].toArray w (fun e w'=>∃ r0:Bool,e=.returned (.bool r0)∧k r0 w'):=by
 refine zKL x (ptrA B) w k ?_
 unfold zGL
 refine zGl (cs:=x.cells) rfl fun C w1 b1 hX _=>?_
 refine zII zJ6 x rfl hX.at rfl ?_
 refine zDi zEG zAc (hB.bel b1).at v.Key rfl ?_
 exact zRa x v.Key w1 fun w2 b2=>H w2 (b1.trans b2)
theorem zSd (v:Ver) {w:World} {B tb wb:Nat} {rs:Sl} {t:Tx} (hB:Row w B [.pointer (ptrA tb)] zJs) (hT:Row w tb [.int .u64 t.began,Sl.v rs,.map (some wb)] zF9) (hR:Rd zAm.cells 3 w rs t.reads) {k:Bool→World→Prop} (H:∀ w',Bel w w'→k (conf t v) w'):
  Cl Tryz.prog zIW [zAB.v v,.pointer (ptrA B)].toArray w (fun e w'=>∃ r0:Bool,e=.returned (.bool r0)∧k r0 w'):=by
 refine zKb v (ptrA B) w k ?_
 unfold zGj zER
 refine zGl (cs:=v.cells) rfl fun C w1 b1 hX _=>?_
 have hB1:=hB.bel b1
 have hT1:=hT.bel b1
 refine zMG zFZ zA9 hX.at v.At rfl ?_
 refine zQu zGD (ptrA tb) hB1.cell ⟨trivial,?_⟩
 refine zMG zI0 zA9 hT1.at t.began rfl ⟨fun hc=>?_,fun hc=>?_⟩
 ·refine zQu zGD (ptrA tb) hB1.cell ⟨trivial,?_⟩
  refine zMG zF3 zGg hT1.at rs rfl ?_
  refine ⟨t.reads.any (fun x=>zHV x v.Key),fun W hW=>?_,fun W hW=>?_⟩
  ·refine (zNa (hR.bel (b1.trans hW)) (p:=fun x=>zHV x v.Key) (fun d _ w' k' hb hk=>.inl ⟨zHh,[],[.pointer (ptrA C)],rfl,ent60,zRd d ((hX.bel hW).bel hb) hk⟩) (k:=fun r w'=>r=t.reads.any (fun x=>zHV x v.Key)∧Bel W w') fun w' hb=>⟨rfl,hb⟩).mono fun e w' ⟨r,he,hr,hb⟩=>⟨by rw [he,hr],hb⟩
  ·have:=H W (b1.trans hW)
   unfold conf at this
   rw [decide_eq_true hc,Bool.true_and] at this
   exact this
 ·intro W hW
  have:=H W (b1.trans hW)
  unfold conf at this
  rw [decide_eq_false hc,Bool.false_and] at this
  exact this
theorem zO6 {ρ:Own} {w:World} {b:Nat} {s:St} {vs:Sl} {mb:Nat} {g:Int→Gh} (m:MgrAt ρ w b s vs mb g) {n:Int} {t:Tx} (ht:s.tx n=some t) {k:Bool→World→Prop} (H:∀ w',Bel w w'→k (s.l.any (conf t)) w'):
  Cl Tryz.prog zKt [.pointer (ptrA b),.pointer (ptrA (g n).tb)].toArray w (fun e w'=>∃ r0:Bool,e=.returned (.bool r0)∧k r0 w'):=by
 refine zKx (ptrA b) (ptrA (g n).tb) w k ?_
 unfold zHD
 refine zGl (cs:=[.pointer (ptrA (g n).tb)]) rfl fun B w1 b1 hB _=>⟨trivial,?_⟩
 have m1:=m.bel b1
 have mt:=m1.tx n t ht
 refine ⟨_,w1,zCB _ _,?_⟩
 refine zDi zAh zAl m1.versAt vs rfl ?_
 exact zMk m1.vers (p:=conf t) (fun d _ w' k' hb hk=>.inl ⟨zIW,[],[.pointer (ptrA B)],rfl,ent58,zSd d (hB.bel hb) (mt.row.bel hb) ((mt.rd.rd fun _=>rfl).bel hb) hk⟩) fun w2 b2=>H w2 (b1.trans b2)
end Go.Proofs.YtealcoghiaeiiaaGreat.VG
set_option linter.unusedVariables false
namespace Go.Proofs.YtealcoghiaeiiaaGreat.VG
open Go.VB Go.VB.Srt Go.Proofs Go.RowKit
abbrev zJ0 (base:Nat) (w:World) (s:Sl) (l:List Wri):Prop:=OwnS zAD.cells 3 zFE base w s l
theorem zJ0.rd {base:Nat} {w:World} {s:Sl} {l:List Wri} (h:zJ0 base w s l):WriRd w s l:=OwnS.rd h (fun _=>rfl)
abbrev encW (x:Wri):List Value:=[zAD.v x]
theorem zQA {κ ν:Type} {w w':World} {ek:κ→Value} {ev:ν→Value} {b r:Nat} {f:κ→Option ν} {ks:List κ} (h:zGV ek ev w b r f ks) (hk:KeepsWalks w w'):zGV ek ev w' b r f ks:=by
 obtain ⟨c,sb,h1⟩:=h.blk
 obtain ⟨es,c',h2⟩:=h.mapLt
 exact h.keep ((hk.same b _ h2 rfl).trans h2.symm) ((hk.same r _ h1 rfl).trans h1.symm)
theorem KeepsWalks.row {w w':World} {row:Option Nat} (hg:w.grownBy w' row) (hr:∀ r,row=some r→∃ cs t fr,w.heap[r]?=some (.cells cs t fr)):KeepsWalks w w':=
 ⟨hg.size,fun k o hk ho=>(hg.block k (Array.getElem?_eq_some_iff.1 hk).1 (fun e=>by
  obtain ⟨cs,t,fr,h⟩:=hr k e.symm
  rw [h] at hk;cases hk;cases ho)).trans hk⟩
def zQB (f:ByteArray→Option Wri) (xs:List Wri):Prop:=∃ ks,Doms f ks∧xs=ks.filterMap f
theorem zK8 {α β:Type} (f:α→Option β) (ks:List α) (h:∀ k∈ks,∃ v,f k=some v):(ks.filterMap f).length=ks.length:=by
 induction ks with
 |nil=>rfl
 |cons a ks ih=>
  obtain ⟨v,hv⟩:=h a (by simp)
  rw [List.filterMap_cons_some hv,List.length_cons,List.length_cons,ih fun k hk=>h k (by simp [hk])]
theorem zQj {w:World} {f:ByteArray→Option Wri} {b b1:Nat} (h:MapIs Value.string zAD.v w b f) (h1:Row w b1 [.map (some b)] zK6) {dom:List ByteArray} (hd:Doms f dom):
  SeqStopsK (FW none) 0 Tryz.prog zEM [.pointer (some ⟨b1,0,none⟩)].toArray (fun x=>(encW x).toArray) KeepsWalks (zQB f) (fun _=>True) dom.length w:=by
 intro l' J Jx W hW hJ hJx hY h0
 have C:=zF8 (.func (.yield l') #[] #[]) (some ⟨b1,0,none⟩) W (fun w'=>(∃ xs,zQB f xs∧J xs w')∨(∃ pre,True∧Jx pre w')) ?_
 ·exact CallsIn.mono C fun e w' hr=>⟨⟨_,hr.1⟩,hr.2⟩
 unfold zDI
 refine zHM zCp (some b) (h1.bel hW).cell ?_
 refine zTT (h.bel hW) zDh fun W1 hi hb1=>?_
 have hblt:b<W.heap.size:=(h.bel hW).lt
 have hj0:J [] W1:=hJ _ _ _ none h0 (zAT hb1 none) (fun r e=>by cases e)
 generalize hR:W.heap.size=R at hi hblt ⊢
 refine ⟨fun w1=>∃ ks,zGV Value.string zAD.v w1 b R f ks∧J (ks.filterMap f) w1,fun w1=>dom.length - zL9 w1 R,⟨[],hi,hj0⟩,?_⟩
 rintro w1 ⟨ks,hi1,hj1⟩
 unfold zBF
 refine zRf hi1 (by omega) zMo (fun hall=>?_) fun x v w2 hx hn hi2 hg=>?_
 ·exact ⟨fun _=>.inl ⟨_,⟨ks,⟨hi1.nd,fun x=>⟨hi1.dom x,fun ⟨v,hv⟩=>hall x v hv⟩⟩,rfl⟩,hj1⟩,fun k v e=>by cases e⟩
 ·refine ⟨fun e=>(nomatch e),fun k v' e=>?_⟩
  cases e
  have hj2:J (ks.filterMap f) w2:=hJ _ _ _ (some R) hj1 hg (fun r e=>by
   cases e
   obtain ⟨c,sb,hb⟩:=hi1.blk
   exact ⟨by omega,_,hb,rfl⟩)
  have hcl:(ks++[x]).length≤dom.length:=zKc hi2.nd fun y hy=>(hd.2 y).2 (hi2.dom y hy)
  have hl1:=hi1.size
  rw [List.length_append,List.length_singleton] at hcl
  have hfl:=zK8 f ks hi1.dom
  refine zL7 hi2 hx zMo ?_
  refine zJb zGU rfl zDq (cs:=v.cells) rfl rfl rfl fun C w3 b3 hX _=>?_
  have hj3:J (ks.filterMap f) w3:=hJ _ _ _ none hj2 (zAT b3 none) (fun r e=>by cases e)
  have hi3:=hi2.bel b3
  refine zII zDq v rfl hX.at rfl ?_
  refine .inr ⟨l',rfl,YieldAt.mono (hY _ v w3 hj3 (by omega)) fun e' w4 hr=>?_⟩
  rcases hr with ⟨rfl,hj4,hk⟩|⟨rfl,hj4⟩
  ·refine ⟨true,rfl,fun h=>(nomatch h),fun _=>?_⟩
   have hi4:=zQA hi3 hk
   refine ⟨⟨_,hi4,by rw [List.filterMap_append,List.filterMap_cons_some hx];exact hj4⟩,?_⟩
   have hl3:=hi4.size
   rw [List.length_append,List.length_singleton] at hl3
   dsimp only
   omega
  ·exact ⟨false,rfl,fun _=>.inr ⟨_,trivial,hj4⟩,fun h=>(nomatch h)⟩
theorem zRg {w:World} {f:ByteArray→Option Wri} {b:Nat} (h:MapIs Value.string zAD.v w b f) {dom:List ByteArray} (hd:Doms f dom) {k:Value→World→Prop}
  (H:∀ v w',SeqAt Tryz.prog v encW KeepsWalks (zQB f) (fun _=>True) dom.length w'→Bel w w'→k v w'):
  Cl Tryz.prog zGI [.map (some b)].toArray w (fun e w'=>∃ v:Value,e=.returned v∧k v w'):=by
 refine zGH (some b) w k ?_
 unfold zDY
 refine zGl (cs:=[.map (some b)]) rfl fun B w1 b1 hr1 _=>?_
 exact H _ _ ⟨zEM,_,rfl,ent82,zQj (h.bel b1) hr1 hd⟩ b1
theorem zSG {base:Nat} {w0 w:World} {s:Sl} {l:List Wri} {x:Wri} {k:Sl→World→Prop} (hO:zJ0 base w s l) (hB:Bel w0 w) (hb:w0.heap.size≤base) (hbw:base≤w.heap.size) (room:l.length+1≤1000000000)
  (H:∀ s' w',zJ0 base w' s' (l++[x])→Bel w0 w'→w.grownBy w' (Sl.v s).ownBlock→k s' w'):
  opE Tryz.prog Sl.v (Instr.buildSlice zFQ 1 [(0,zAD.v x)].toArray) w (fun y w=>opE Tryz.prog Sl.v (Builtin.append_ #[zFQ,zFQ] zFQ [Sl.v s,Sl.v y].toArray) w k):=
 zRG hO (fun _=>rfl) (fun _=>rfl) (by decide) zGJ zNJ rfl (by decide) (zNk x) hB hb hbw (by omega) H
theorem zPj {v:Value} {Sq Sp:List Wri→Prop} {Num:Nat} {w:World} (hs:SeqAt Tryz.prog v encW KeepsWalks Sq Sp Num w) (hN:Num≤100000000) {k:Sl→World→Prop}
  (H:∀ r w' xs base,w.heap.size≤base→Sq xs→zJ0 base w' r xs→Bel w w'→k r w'):Cl Tryz.prog zKX [v].toArray w (fun e w'=>∃ r0:Sl,e=.returned (Sl.v r0)∧k r0 w'):=by
 refine zKR v w k ?_
 unfold zGS
 refine zH2 Sl.none v w k ?_
 unfold zEk
 refine zUP rfl ?_
 have hb0:Bel w (w.alloc (.cells [Sl.v Sl.none].toArray zFQ)):=Bel.alloc _ _
 have hr0:=Row.new w [Sl.v Sl.none] zFQ
 have hsz:(w.alloc (.cells [Sl.v Sl.none].toArray zFQ)).heap.size=w.heap.size+1:=size_alloc' _ _
 have hlo0:=hr0.lt
 generalize hB:w.heap.size=B at hr0 hsz hlo0 ⊢
 generalize (w.alloc (.cells [Sl.v Sl.none].toArray zFQ))=w1 at hb0 hr0 hsz hlo0 ⊢
 refine ⟨zAD.cells,KeepsWalks,Sq,Sp,Num,fun pre W=>∃ sl,Row W B [Sl.v sl] zFQ∧zJ0 w1.heap.size W sl pre∧Bel w W∧w1.heap.size≤W.heap.size,fun _ _=>False,
  ⟨hs.later hb0,fun _ _ _=>KeepsWalks.trans,fun W l o o' h1 h2 h3 h4=>KeepsWalks.putObj o' h2 h4,fun pre W o _=>KeepsWalks.alloc W o,fun s W W' row hi hg hr=>?_,fun s W W' row hi hg hr=>hi,fun pre W hi=>hi.elim fun _ h=>h.2.2.2,⟨Sl.none,hr0,OwnS.nil _ _ _ _ _,hb0,Nat.le_refl _⟩⟩,
  fun x W k hk=>zTr zGU rfl zDq (cs:=x.cells) rfl rfl rfl hk,?_,?_,?_⟩
 ·obtain ⟨sl,h1,h2,h3,h4⟩:=hi
  exact ⟨sl,h1.notwalk hg hr,h2.notwalk hg hr,h3.notwalk (by omega) hg hr,Nat.le_trans h4 hg.size⟩
 ·rintro pre x Bx W hBx hx ⟨sl,h1,h2,h3,h4⟩ hlen
  unfold zEK
  have hx':Row W Bx x.cells zFE:=hx
  refine zHM zJc sl h1.cell ?_
  refine zII zDq x rfl hx'.at rfl ?_
  refine zSG (w0:=w) (w:=W) h2 h3 (by omega) h4 (by omega) fun s' w' h5 h6 h7=>?_
  have hne:(Sl.v sl).ownBlock≠some B:=fun e=>by have:=h2.lo e;omega
  have hr1:=h1.grown h7 hne
  refine zNZ zJc hr1 (by cases s' with|mk a l c=>cases a<;>rfl) (by cases s' with|mk a l c=>cases a<;>rfl) fun w'' hr2 hg2=>?_
  refine ⟨(KeepsFrom.row h7 fun r hr=>h2.isRow hr).trans (KeepsFrom.row hg2 fun r hr=>by cases hr;exact ⟨_,_,_,hr1⟩),(KeepsWalks.row h7 fun r hr=>h2.isRow hr).trans (KeepsWalks.row hg2 fun r hr=>by cases hr;exact ⟨_,_,_,hr1⟩),s',hr2,h5.kept hg2 ?_,?_,Nat.le_trans h4 (Nat.le_trans h7.size hg2.size)⟩
  ·cases hq:(Sl.v s').ownBlock with
   |none=>exact .inl rfl
   |some q=>
    refine .inr fun e=>?_
    have h8:=h5.lo hq
    have h9:=Option.some.inj e
    omega
  ·exact h6.grown hg2 fun r hr=>by cases hr;omega
 ·rintro D xs W hD hS ⟨sl,h1,h2,h3,h4⟩ hK
  refine zHM zJc sl h1.cell ?_
  refine ⟨hK,?_⟩
  have hg:=zMs W D
  have hr:∀ r,some D=some r→w1.heap.size≤r∧∃ o:Obj,W.heap[r]?=some o∧o.isCells=false:=fun r e=>by cases e;exact ⟨hD,_,hK,rfl⟩
  exact H sl _ xs _ (by omega) hS (h2.notwalk hg hr) (h3.notwalk (by omega) hg hr)
 ·exact fun D pre W h1 h2 h3 h4=>trivial
def kltB (a b:Wri):Bool:=sLt a.Key b.Key
theorem zR4:Srt.SWO kltB where
 irr x:=by
  cases h:kltB x x with
  |false=>rfl
  |true=>exact absurd h (zFy x.Key)
 neg x y z h:=by
  unfold kltB at*
  by_cases h1:sLt x.Key y.Key=true
  ·exact .inl h1
  ·right
   by_cases h2:x.Key=y.Key
   ·rw [← h2];exact h
   ·exact zM9 (zKE h1 h2) h
 asy x y h:=by
  cases h1:kltB y x with
  |false=>rfl
  |true=>exact absurd h1 (zL8 h)
theorem zQS (a b:Wri) (w:World) {k:Int→World→Prop} (H:∀ w',Bel w w'→k (cmpS a.Key b.Key) w'):Cl Tryz.prog zJX [zAD.v a,zAD.v b].toArray w (fun e w'=>∃ r0:Int,e=.returned (.int .i64 r0)∧k r0 w'):=by
 refine zMS a b w k ?_
 unfold zJo
 refine zGl (cs:=a.cells) rfl fun B w1 b1 hA _=>?_
 refine zGl (cs:=b.cells) rfl fun C w2 b2 hB _=>?_
 refine zDi zD9 zAc (hA.bel b2).at a.Key rfl ?_
 refine zDi zD9 zAc hB.at b.Key rfl ?_
 exact zMJ a.Key b.Key w2 (H w2 (b1.trans b2))
theorem zPM:SoCmpFunc_api_Write.Cmps (.func (.func zJX) #[] #[]) kltB:=fun w x y=>
 ⟨cmpS x.Key y.Key,⟨zJX,[],[],rfl,ent63,fun w' _=>(zQS x y w' (k:=fun r W=>r=cmpS x.Key y.Key∧Bel w' W) fun W hb=>⟨rfl,hb⟩).mono fun e W ⟨r,he,hr,hb⟩=>⟨by rw [he,hr],hb⟩⟩,by rw [zPX];exact Iff.rfl⟩
def Sorts (f:ByteArray→Option Wri) (ys:List Wri):Prop:=ys.Pairwise (fun a b=>sLt a.Key b.Key=true)∧∀ x,x∈ys↔f x.Key=some x
theorem Sorts.one {f:ByteArray→Option Wri} {xs ys:List Wri} (h:Sorts f xs) (k:Sorts f ys):xs=ys:=by
 have hm:∀ x,x∈xs↔x∈ys:=fun x=>by rw [h.2,k.2]
 have h1:=h.1
 have k1:=k.1
 clear h k
 induction xs generalizing ys with
 |nil=>cases ys with
  |nil=>rfl
  |cons b ys=>exact absurd ((hm b).2 (by simp)) (by simp)
 |cons a xs ih=>
  cases ys with
  |nil=>exact absurd ((hm a).1 (by simp)) (by simp)
  |cons b ys=>
   obtain ⟨h2,h3⟩:=List.pairwise_cons.1 h1
   obtain ⟨k2,k3⟩:=List.pairwise_cons.1 k1
   have hab:a=b:=by
    rcases List.mem_cons.1 ((hm a).1 (by simp)) with e|e
    ·exact e
    ·rcases List.mem_cons.1 ((hm b).2 (by simp)) with e'|e'
     ·exact e'.symm
     ·exact absurd (h2 b e') (zL8 (k2 a e))
   subst hab
   rw [ih (fun x=>?_) h3 k3]
   constructor
   ·intro hx
    rcases List.mem_cons.1 ((hm x).1 (by simp [hx])) with e|e
    ·subst e;exact absurd (h2 x hx) (zFy _)
    ·exact e
   ·intro hx
    rcases List.mem_cons.1 ((hm x).2 (by simp [hx])) with e|e
    ·subst e;exact absurd (k2 x hx) (zFy _)
    ·exact e
theorem zSX {f:ByteArray→Option Wri} (hk:∀ k x,f k=some x→x.Key=k) {xs ys:List Wri} (hx:zQB f xs) (hp:ys.Perm xs) (hl:ys.Pairwise (fun x y=>Le kltB x y)):Sorts f ys∧∃ ks,Doms f ks∧ks.length=ys.length:=by
 obtain ⟨ks,hd,rfl⟩:=hx
 have hmem:∀ x,x∈ys↔f x.Key=some x:=fun x=>by
  rw [hp.mem_iff,List.mem_filterMap]
  constructor
  ·rintro ⟨k,_,h⟩
   rw [hk k x h];exact h
  ·exact fun h=>⟨x.Key,(hd.2 _).2 ⟨x,h⟩,h⟩
 have hnd:(ks.filterMap f).Pairwise (fun x y=>x.Key≠y.Key):=by
  rw [List.pairwise_filterMap]
  refine hd.1.imp fun {a b} hab x hx y hy e=>hab ?_
  rw [← hk a x hx,← hk b y hy,e]
 have hnd':ys.Pairwise (fun x y=>x.Key≠y.Key):=(hp.pairwise_iff (fun {x y} h=>h.symm)).2 hnd
 have hstr:ys.Pairwise (fun a b=>sLt a.Key b.Key=true):=(hl.and hnd').imp fun {x y} h12=>by
  cases h:sLt x.Key y.Key with
  |true=>rfl
  |false=>
   have h3:sLt y.Key x.Key=true:=zKE (by rw [h];decide) h12.2
   have h4:sLt y.Key x.Key=false:=h12.1
   rw [h3] at h4;cases h4
 exact ⟨⟨hstr,hmem⟩,ks,hd,by rw [hp.length_eq,zK8 f ks fun k hk'=>(hd.2 k).1 hk']⟩
theorem zQc {ρ:Own} {w:World} {n:Int} {t:Tx} {g:Gh} (mt:TxAt ρ w n t g) (hk:∀ k x,t.wr k=some x→x.Key=k) {dom:List ByteArray} (hd:Doms t.wr dom) (hN:dom.length≤100000000) {k:Sl→World→Prop}
  (H:∀ r w' ys base,w.heap.size≤base→Sorts t.wr ys→zJ0 base w' r ys→Bel w w'→k r w'):
  Cl Tryz.prog zNI [.pointer (ptrA g.tb)].toArray w (fun e w'=>∃ r0:Sl,e=.returned (Sl.v r0)∧k r0 w'):=by
 refine zNH (ptrA g.tb) w k ?_
 unfold zKY
 refine ⟨trivial,?_⟩
 refine zDi zFH zCp mt.row.at (some g.wb) rfl ?_
 refine zRg mt.wr hd fun v w1 hs b1=>?_
 refine zJ1 v _ w1 k ?_
 unfold zF1
 refine zPj hs hN fun r w2 xs base hb hS hO hbel=>?_
 refine SoCmpFunc_api_Write.sort_ok zR4 zPM hO fun ys w3 hp hpw hO2 hg=>?_
 exact H r w3 ys base (Nat.le_trans b1.le hb) (zSX hk hS hp hpw).1 hO2 ((b1.trans hbel).grown hg fun q hq=>Nat.le_trans (Nat.le_trans b1.le hb) (hO.lo hq))
end Go.Proofs.YtealcoghiaeiiaaGreat.VG
set_option linter.unusedVariables false
namespace Go.Proofs.YtealcoghiaeiiaaGreat.VG
open Go.VB Go.Proofs Go.RowKit
def putS (s:St) (p:List Ver × Int × Int):St:={s with l:=p.1,low:=p.2.1,now:=s.now+1}
theorem _root_.Go.VB.OwnS.low {α:Type} {c:α→List Value} {n e base base':Nat} {w:World} {s:Sl} {xs:List α} (h:OwnS c n e base w s xs) (hb:base'≤base):OwnS c n e base' w s xs:=by
 refine ⟨h.len,h.small,h.row.1,?_⟩
 rcases h.row.2 with h1|⟨g,cap,cur,h1,h2,h3⟩
 ·exact .inl h1
 ·exact .inr ⟨g,cap,cur,h1,Nat.le_trans hb h2,h3⟩
def Few (t:Tx):Prop:=∃ ks,Doms t.wr ks∧ks.length≤256
def Keyed (t:Tx):Prop:=∀ k x,t.wr k=some x→x.Key=k
theorem wu64 {n:Int} (h0:0≤n) (h1:n≤18446744073709551615):IntKind.wrap .u64 n=n:=IntWalk.u64_in _ ⟨h0,h1⟩
section
variable {ρ:Own} {w:World} {b:Nat} {s:St}
theorem zSN (h:Mgr ρ w b s) (n:Int) {k:Int→World→Prop} (H0:s.tx n=none→k 11 w) (H1:∀ t ρ' w',s.tx n=some t→Mgr ρ' w' b (overS s n)→Ext ρ w ρ' w'→k 0 w'):
  Cl Tryz.prog zKG [.pointer (ptrA b),.int .i64 n].toArray w (fun e w'=>∃ r0:Int,e=.returned (.int .i64 r0)∧k r0 w'):=by
 have h':=h
 obtain ⟨vs,mb,g,m⟩:=h
 refine zLu (ptrA b) n w k ?_
 unfold zJI
 refine at_ok m n (fun ht=>⟨fun _=>H0 ht,fun h=>absurd (by decide) h⟩) fun t ht=>⟨fun h=>absurd rfl h,fun _=>?_⟩
 exact zS2 h' n fun ρ' w' hM hE=>H1 t ρ' w' ht hM hE
theorem zNu (h:Mgr ρ w b s) (n:Int) (hF:∀ t,s.tx n=some t→Few t∧Keyed t) (hn0:0≤s.now) (hn1:s.now<4611686018427387904) {k:Sl→Int→Int→World→Prop}
  (H0:s.tx n=none→k Sl.none 0 11 w)
  (H1:∀ t ρ' w',s.tx n=some t→s.l.any (conf t)=true→Mgr ρ' w' b (overS s n)→Ext ρ w ρ' w'→k Sl.none 0 10 w')
  (H2:∀ t ρ' w',s.tx n=some t→s.l.any (conf t)=false→(∀ x,t.wr x=none)→Mgr ρ' w' b (overS s n)→Ext ρ w ρ' w'→k Sl.none s.now 0 w')
  (H3:∀ t ys ρ' w',s.tx n=some t→s.l.any (conf t)=false→Sorts t.wr ys→(∃ x,t.wr x≠none)→(vput s.l s.low ys (s.now+1)).2.2≠0→Mgr ρ' w' b (overS s n)→Ext ρ w ρ' w'→k Sl.none 0 (vput s.l s.low ys (s.now+1)).2.2 w')
  (H4:∀ t ys r ρ' w',s.tx n=some t→s.l.any (conf t)=false→Sorts t.wr ys→(∃ x,t.wr x≠none)→(vput s.l s.low ys (s.now+1)).2.2=0→Mgr ρ' w' b (overS (putS s (vput s.l s.low ys (s.now+1))) n)→Ext ρ w ρ' w'→
   zJ0 w.heap.size w' r ys→(∀ q,(Sl.v r).ownBlock=some q→w.heap.size≤q∧q<w'.heap.size∧ρ' q=none)→k r (s.now+1) 0 w'):
  Cl Tryz.prog zJ5 [.pointer (ptrA b),.int .i64 n].toArray w (fun e w'=>∃ (r0:Sl) (r1:Int) (r2:Int),e=.returned (.tuple [Sl.v r0,.int .u64 r1,.int .i64 r2].toArray)∧k r0 r1 r2 w'):=by
 obtain ⟨vs,mb,g,m⟩:=h
 refine zLf (ptrA b) n w k ?_
 unfold zIa
 refine at_ok m n (fun ht=>⟨fun _=>H0 ht,fun h=>absurd (by decide) h⟩) fun t ht=>⟨fun h=>absurd rfl h,fun _=>?_⟩
 refine zO6 m ht fun w1 b1=>?_
 have m1:=m.bel b1
 refine ⟨fun hc=>zQE ⟨_,_,_,m1⟩ n fun ρ' w' hM hE=>H1 t ρ' w' ht hc hM ((Ext.bel b1).trans hE),fun hc=>⟨trivial,?_⟩⟩
 have mt1:=m1.tx n t ht
 refine zDi zFH zCp mt1.row.at (some (g n).wb) rfl ?_
 refine zRO mt1.wr zMo zDh fun ks hks=>⟨fun hz=>⟨trivial,?_⟩,fun hz=>?_⟩
 ·have hks0:ks=[]:=List.eq_nil_of_length_eq_zero (by omega)
  have hno:∀ x,t.wr x=none:=fun x=>by
   cases hx:t.wr x with
   |none=>rfl
   |some y=>have:=(hks.2 x).2 ⟨y,hx⟩;rw [hks0] at this;cases this
  refine zMG zEa zA9 m1.row.at s.now rfl fun w2 b2=>?_
  exact zQE ⟨_,_,_,m1.bel b2⟩ n fun ρ' w' hM hE=>H2 t ρ' w' ht hc hno hM ((Ext.bel (b1.trans b2)).trans hE)
 obtain ⟨⟨dom,hd,hl⟩,hk⟩:=hF t ht
 have hex:∃ x,t.wr x≠none:=by
  cases ks with
  |nil=>exact absurd rfl hz
  |cons x ks=>obtain ⟨y,hy⟩:=(hks.2 x).1 (by simp);exact ⟨x,by rw [hy];simp⟩
 refine zQc mt1 hk hd (by omega) fun r w2 ys base hb hS hO b2=>?_
 have b02:=b1.trans b2
 have m2:=m1.bel b2
 have J1:∀ W C r4 base4,Bel w2 W→Row W C [Sl.v r4,.int .u64 (vput s.l s.low ys (s.now+1)).2.1] zAk→w2.heap.size≤base4→zFt base4 W r4 (vput s.l s.low ys (s.now+1)).1→
   zEj (ptrA b) n k r (vput s.l s.low ys (s.now+1)).2.2 (ptrA C) W:=by
  intro W C r4 base4 hb2 hC hb4 hO4
  unfold zEj
  have b0W:=b02.trans hb2
  have mW:=m.bel b0W
  refine ⟨fun hne=>zQE ⟨_,_,_,mW⟩ n fun ρ' w' hM hE=>H3 t ys ρ' w' ht hc hS hex hne hM ((Ext.bel b0W).trans hE),fun hz0=>?_⟩
  have hz0:=Classical.not_not.1 hz0
  refine zII zAg ⟨r4,(vput s.l s.low ys (s.now+1)).2.1⟩ rfl hC.at rfl ⟨trivial,?_⟩
  refine ⟨_,W,zCB _ _,?_⟩
  refine zTo zAg (vs:=[Sl.v r4,.int .u64 (vput s.l s.low ys (s.now+1)).2.1]) (off:=0) mW.row rfl (by simp) (by cases r4 with|mk a l c=>cases a<;>rfl) fun W1 hR1 g1=>⟨trivial,?_⟩
  replace hR1:Row W1 b [Sl.v r4,.int .u64 (vput s.l s.low ys (s.now+1)).2.1,.int .u64 s.now,.int .i64 s.given,.map (some mb)] zE4:=hR1
  refine zDi zEa zA9 hR1.at s.now rfl ⟨trivial,?_⟩
  rw [wu64 (by omega) (by omega)]
  refine ⟨_,W1,zEa _ _,?_⟩
  refine zNK zA9 hR1 rfl (by simp) rfl fun W2 hR2 g2=>⟨trivial,?_⟩
  replace hR2:Row W2 b [Sl.v r4,.int .u64 (vput s.l s.low ys (s.now+1)).2.1,.int .u64 (s.now+1),.int .i64 s.given,.map (some mb)] zE4:=hR2
  have hg:=zAK g1 g2
  have hs2:=b02.le
  have hsW:=hb2.le
  have hsg:=hg.size
  have hnew:∀ q,(Sl.v r4).ownBlock=some q→q<W.heap.size∧ρ q=none:=fun q hq=>by
   refine ⟨hO4.lt hq,?_⟩
   have h2:=hO4.lo hq
   cases hρ:ρ q with
   |none=>rfl
   |some r0=>have h3:=m.lt q (by rw [hρ];simp);omega
  have m3:=mW.setVers (zFt.rd hO4) hnew hg hR2
  have hE3:Ext ρ w (fun q=>if (Sl.v r4).ownBlock=some q then some .ve else ρ q) W2:=⟨(Ext.bel b0W).out.trans (Out.row (S:=fun q=>ρ q≠none) hg fun q hq=>by cases hq;exact .inl (by show ρ _≠none;rw [m.rmg];simp)) fun _ _ h=>h,fun q hq=>if_neg fun e=>by have:=hO4.lo e;omega⟩
  refine zMG zEa zA9 hR2.at (s.now+1) rfl fun W3 b3=>?_
  refine zQE (s:=putS s (vput s.l s.low ys (s.now+1))) ⟨_,_,_,m3.bel b3⟩ n fun ρ' w' hM hE=>?_
  have hrq:∀ q,(Sl.v r).ownBlock=some q→w.heap.size≤q∧q<w2.heap.size∧ρ q=none∧(if (Sl.v r4).ownBlock=some q then some Role.ve else ρ q)=none:=fun q hq=>by
   have h1:=hO.lo hq
   have h2:=hO.lt hq
   have h3:ρ q=none:=by
    cases hρ:ρ q with
    |none=>rfl
    |some r0=>have h3:=m.lt q (by rw [hρ];simp);have:=b1.le;omega
   refine ⟨by have:=b1.le;omega,h2,h3,?_⟩
   rw [if_neg fun e=>by have:=hO4.lo e;omega];exact h3
  have hs3:=b3.le
  refine H4 t ys r ρ' w' ht hc hS hex hz0 hM ((hE3.trans (Ext.bel b3)).trans hE) ((hO.low (Nat.le_trans b1.le hb)).keep fun q hq=>?_) fun q hq=>?_
  ·obtain ⟨h1,h2,h3,h4⟩:=hrq q hq
   rw [hE.blk (by omega) h4,b3.block q (by omega),hg.block q (by omega) (fun e=>by cases e;rw [m.rmg] at h3;cases h3),hb2.block q h2]
  ·obtain ⟨h1,h2,h3,h4⟩:=hrq q hq
   have:=hE.out.size
   exact ⟨h1,by omega,(hE.same q (by omega)).trans h4⟩
 refine ⟨Bel w2,fun u bu=>⟨bu,trivial,?_⟩⟩
 refine zMp zCB ⟨trivial,?_⟩
 refine zMp zEa ?_
 refine zSU zAg (cs:=[Sl.v vs,.int .u64 s.low]) ⟨vs,s.low⟩ rfl (fun W hW=>(m2.bel hW).versAt) rfl ?_
 refine zKB zA9 s.now (fun W hW=>(m2.bel hW).row.at.fld rfl) ?_
 rw [wu64 (by omega) (by omega)]
 constructor
 ·refine zRN (x0:=⟨vs,s.low⟩) (m2.bel bu).vers ((zJ0.rd hO).bel bu) (s.now+1) fun r4 w3 base4 hb4 hO4 b3=>?_
  refine ⟨bu.trans b3,?_⟩
  refine zKA zFd fun C w4 b4 hC hC0=>⟨(bu.trans b3).trans b4,?_⟩
  refine zNy zAg (cs':=[Sl.v r4,.int .u64 (vput s.l s.low ys (s.now+1)).2.1]) hC rfl rfl (by cases r4 with|mk a l c=>cases a<;>rfl) fun w5 hC5 g5=>?_
  have b3l:=b3.le
  have bul:=bu.le
  have b5:Bel w2 w5:=((bu.trans b3).trans b4).grown g5 fun q hq=>by cases hq;omega
  exact ⟨b5,J1 w5 C r4 base4 b5 hC5 (by omega) ((hO4.bel b4).kept g5 (OwnS.ne_row (hO4.bel b4) hC (by decide) |> Or.inr))⟩
 ·refine zKA zFd fun C w3 b3 hC hC0=>⟨bu.trans b3,?_⟩
  refine zRN (x0:=⟨vs,s.low⟩) (m2.bel (bu.trans b3)).vers ((zJ0.rd hO).bel (bu.trans b3)) (s.now+1) fun r4 w4 base4 hb4 hO4 b4=>?_
  refine ⟨(bu.trans b3).trans b4,?_⟩
  refine zNy zAg (cs':=[Sl.v r4,.int .u64 (vput s.l s.low ys (s.now+1)).2.1]) (hC.bel b4) rfl rfl (by cases r4 with|mk a l c=>cases a<;>rfl) fun w5 hC5 g5=>?_
  have b3l:=b3.le
  have bul:=bu.le
  have b5:Bel w2 w5:=((bu.trans b3).trans b4).grown g5 fun q hq=>by cases hq;omega
  exact ⟨b5,J1 w5 C r4 base4 b5 hC5 (by omega) (hO4.kept g5 (OwnS.ne_row hO4 (hC.bel b4) (by decide) |> Or.inr))⟩
end
end Go.Proofs.YtealcoghiaeiiaaGreat.VG
set_option linter.unusedVariables false
set_option linter.unusedSimpArgs false
namespace Go.Proofs.YtealcoghiaeiiaaGreat.VG
open Go.VB Go.Proofs
def zJK (Ret:(Option Addr)→Int→World→Prop) (x14:Option Addr) (x21:Int) (Kl1:Int→World→Prop) (x6:Option Addr) (x38:Bool) (w:World):Prop:=
 nextB w (fun w=>(x38=true→(Ret none 2 w))∧(x38=false→(regC w (fun C3 w=>nilOk (.pointer x14)∧(opC C3 Tryz.prog Value.pointer (Instr.fieldAt 87 (.pointer x14) 0) (fun x42=>opC C3 Tryz.prog Value.pointer (Instr.fieldAt 69 (.pointer x42) 0) (fun x43=>opC C3 Tryz.prog Value.pointer (Instr.fieldAt 66 (.pointer x6) 0) (fun x45=>opC C3 Tryz.prog Value.pointer (Instr.fieldAt 66 (.pointer x6) 1) (fun x47=>opC C3 Tryz.prog Sl.v (Instr.loadAt 67 (.pointer x43)) (fun x44=>opC C3 Tryz.prog Value.string (Instr.loadAt 9 (.pointer x45)) (fun x46=>opC C3 Tryz.prog Value.string (Instr.loadAt 9 (.pointer x47)) (fun x48=>opC C3 Tryz.prog zAB.v (Instr.build 72 [(0,(.string x46)),(1,(.int .u64 1)),(2,(.string x48))].toArray) (fun x49=>opE Tryz.prog Sl.v (Instr.buildSlice 67 1 [(0,(zAB.v x49))].toArray) w (fun x50 w=>C3 w∧(opE Tryz.prog Sl.v (Builtin.append_ #[67,67] 67 [(Sl.v x44),(Sl.v x50)].toArray) w (fun x51 w=>C3 w∧(nilOk (.pointer x14)∧(opC C3 Tryz.prog Value.pointer (Instr.fieldAt 87 (.pointer x14) 0) (fun x53=>opC C3 Tryz.prog Value.pointer (Instr.fieldAt 69 (.pointer x53) 0) (fun x54=>opU Tryz.prog (Instr.storeAt 67 (.pointer x54) (Sl.v x51)) w (fun w=>(Kl1 (IntKind.wrap .i64 (x21+1)) w))))))))))))))))))))))
def zKI (x0:Sl) (Ret:(Option Addr)→Int→World→Prop) (x14:Option Addr) (x21:Int) (w:World) (Kl1:Int→World→Prop):Prop:=
 ((x21<(x0.len:Int))→(opE Tryz.prog Value.pointer (Instr.indexAt 22 (Sl.v x0) (.int .i64 x21)) w (fun x24 w=>opE Tryz.prog zAE.v (Instr.loadAt 66 (.pointer x24)) w (fun x25 w=>opE Tryz.prog Value.pointer (Instr.alloc 66 true (.tuple #[])) w (fun x6 w=>opU Tryz.prog (Instr.storeAt 66 (.pointer x6) (zAE.v x25)) w (fun w=>((0<x21)→(opB Tryz.prog Value.pointer (Instr.indexAt 22 (Sl.v x0) (.int .i64 (IntKind.wrap .i64 (x21 - 1)))) w (fun x32=>opB Tryz.prog Value.pointer (Instr.fieldAt 66 (.pointer x32) 0) w (fun x33=>opB Tryz.prog Value.string (Instr.loadAt 9 (.pointer x33)) w (fun x34=>opB Tryz.prog Value.pointer (Instr.fieldAt 66 (.pointer x6) 0) w (fun x35=>opB Tryz.prog Value.string (Instr.loadAt 9 (.pointer x35)) w (fun x36=>zJK Ret x14 x21 Kl1 x6 (!sLt x34 x36) w)))))))∧(¬ (0<x21)→(zJK Ret x14 x21 Kl1 x6 false w))))))))∧(¬ (x21<(x0.len:Int))→(Ret x14 0 w))
def zNT (x0:Sl) (w:World) (Ret:(Option Addr)→Int→World→Prop):Prop:=
 ((4096<(x0.len:Int))→(Ret none 3 w))∧(¬ (4096<(x0.len:Int))→(Cl Tryz.prog 33 [(Sl.v x0),(.func (.func 34) #[] #[])].toArray w (fun e w=>∃ (r:Bool),e=.returned (.bool r)∧((r=true→(Ret none 4 w))∧(r=false→(opE Tryz.prog Value.map (Instr.makeMap 85 none) w (fun x12 w=>opE Tryz.prog zHH.v (Instr.build 87 [(1,(.int .u64 1)),(3,(.map x12))].toArray) w (fun x13 w=>opE Tryz.prog Value.pointer (Instr.box 87 (zHH.v x13)) w (fun x14 w=>nilOk (.pointer x14)∧(opE Tryz.prog Value.pointer (Instr.fieldAt 87 (.pointer x14) 0) w (fun x17 w=>opE Tryz.prog Value.pointer (Instr.fieldAt 69 (.pointer x17) 1) w (fun x18 w=>opU Tryz.prog (Instr.storeAt 37 (.pointer x18) (.int .u64 1)) w (fun w=>∃ (I:Int→World→Prop) (μ:Int→World→Nat),I 0 w∧∀ (x21:Int) w,I x21 w→zKI x0 Ret x14 x21 w (fun x21' w'=>I x21' w'∧μ x21' w'<μ x21 w))))))))))))))
set_option maxRecDepth 100000 in
theorem zQi (x0:Sl) (w:World) (Ret:(Option Addr)→Int→World→Prop) (H:zNT x0 w Ret):Cl Tryz.prog 11 [(Sl.v x0)].toArray w (fun e w'=>∃ (r0:Option Addr) (r1:Int),e=.returned (.tuple [(.pointer r0),(.int .i64 r1)].toArray)∧Ret r0 r1 w'):=by
 unfold zNT at H
 refine zAY 57 (zipE 0 [(Sl.v x0)]) Tryz.func11 rfl rfl (by rfl) rfl ?_
 intro a g
 replace g:Sat [] 57 [(0,(Sl.v x0))] a:=g
 refine zAF (zAA (g.as_ rfl fun _ g=>(g.as_ rfl fun _ g=>(zAG (tn (zAF (zAF (zAA (g.mv rfl fun _ g=>(g.purR (fun w=>zGm g Tryz.underlying22 rfl) fun _ g=>(g.pur (zIG g rfl rfl) fun _ g=>(zAG (tn (zAR g rfl (fun hc=>?_) (fun hc=>?_)))))))))))))))
 ·replace H:=H.1 hc
  exact zAF (zAA (g.as_ rfl fun _ g=>(g.as_ rfl fun _ g=>(zAG (tn (zAf (tr (zFz g rfl rfl rfl ⟨_,_,rfl,H⟩))))))))
 ·replace H:=H.2 hc
  refine zAP (tn (zAF (zAF (zAA (g.mv rfl fun _ g=>(g.call (zAQ g ent33 rfl rfl) H fun e w H=>?_))))))
  obtain ⟨r,rfl,H⟩:=H
  refine ⟨_,rfl,fun _ g=>(zAG (tn (zAV g rfl (fun hc=>?_) (fun hc=>?_))))⟩
  ·replace H:=H.1 hc
   exact zAF (zAA (g.as_ rfl fun _ g=>(g.as_ rfl fun _ g=>(zAG (tn (zAf (tr (zFz g rfl rfl rfl ⟨_,_,rfl,H⟩))))))))
  ·replace H:=H.2 hc
   refine zAP (tn (zAF (zAA (g.op (zNY) H fun x12 w a H g=>(g.op (zGM g rfl) H fun x13 w a H g=>(g.op (zIm g rfl) H fun x14 w a H g=>(g.as_ rfl fun _ g=>(zAG (tn (zAF (zAA (g.mv rfl fun _ g=>(g.pur (zAS g rfl H.1) fun _ g=>?_)))))))))))))
   replace H:=H.2
   refine g.op (zAJ g rfl) H fun x17 w a H g=>g.op (zAJ g rfl) H fun x18 w a H g=>g.opu (zAM g rfl rfl) H fun w a H g=>zAG (tn (zAF (zAF (zAA (g.mv rfl fun _ g=>(g.purR (fun w=>zGm g Tryz.underlying22 rfl) fun _ g=>(g.mv rfl fun _ g=>(zAG (tn (zAN ?_))))))))))
   obtain ⟨I_l1,μ_l1,h0,hb⟩:=H
   refine zBl (ds:=[]) (N:=57) (σ:=Int) (fun s=>[(21,(.int .i64 s)),(0,(Sl.v x0)),(4,(.pointer x14)),(19,(Sl.v x0)),(20,(.int .i64 (x0.len:Int)))]) (fun s w=>I_l1 s w) (fun s w=>μ_l1 s w) 0 h0 (g.weak ⟨rfl,rfl,rfl,rfl,rfl,trivial⟩) ?_
   intro x21 w a hI g
   try dsimp only at hI g
   obtain ⟨Kl1,hK_l1⟩:∃ K:Int→World→Prop,K=(fun x21' w'=>I_l1 x21' w'∧μ_l1 x21' w'<μ_l1 x21 w):=⟨_,rfl⟩
   have H:zKI x0 Ret x14 x21 w Kl1:=by rw [hK_l1];exact hb x21 w hI
   clear hb h0 hI
   unfold zKI at H
   refine zAF (zAA (g.pur (zDp g rfl rfl) fun _ g=>(zAG (tn (zAF (zAR g rfl (fun hc=>?_) (fun hc=>?_)))))))
   ·replace H:=H.1 hc
    refine zAP (tn (zAF (zAN (zAF (zAA (g.mv rfl fun _ g=>(g.op (zAC g rfl rfl) H fun x24 w a H g=>(g.op (zAI g rfl) H fun x25 w a H g=>(g.op (zEH) H fun x6 w a H g=>(g.as_ rfl fun _ g=>(g.opu (zAM g rfl rfl) H fun w a H g=>(zAG (tn (zAF (zAF (zEB (by kernel_rfl) (by kernel_rfl) (g.qm rfl fun _ g=>(g.qpur (zIG g rfl rfl) fun _ g=>(g.qm rfl fun _ g=>(WQ.join (ds:=[]) (N:=57) (σ:=Bool) (fun s=>[(38,(.bool s)),(0,(Sl.v x0)),(4,(.pointer x14)),(6,(.pointer x6)),(19,(Sl.v x0)),(20,(.int .i64 (x0.len:Int))),(21,(.int .i64 x21))]) (fun s=>zJK Ret x14 x21 Kl1 x6 s w) 10 ?_ (fun hr2=>?_)))))))))))))))))))))
    ·intro x38 a H g
     try dsimp only at H g
     unfold zJK at H
     refine zED (fun w hB=>?_)
     replace H:=H w hB
     refine (tn (zAV g rfl (fun hc=>?_) (fun hc=>?_)))
     ·replace H:=H.1 hc
      exact zAF (zAA (g.as_ rfl fun _ g=>(g.as_ rfl fun _ g=>(zAG (tn (zAf (tr (br (tr (tr (br (tr (zFz g rfl rfl rfl ⟨_,_,rfl,H⟩)))))))))))))
     ·replace H:=H.2 hc
      refine zAP (tn (zR8 16 H 17 (fun C3 w hC0 H=>(g.kp 0 rfl hC0 (zEL (zAL g rfl)) fun _ g=>(g.kp 1 rfl hC0 (zEL (zAL g rfl)) fun _ g=>(g.kp 2 rfl hC0 (zEL (zAS g rfl H.1)) fun _ g=>?_))))))
      replace H:=H.2
      refine g.ko 3 rfl hC0 (zAJ g rfl) H fun x42 a H g=>g.ko 4 rfl hC0 (zAJ g rfl) H fun x43 a H g=>g.ko 6 rfl hC0 (zAJ g rfl) H fun x45 a H g=>g.ko 8 rfl hC0 (zAJ g rfl) H fun x47 a H g=>g.ko 5 rfl hC0 (zAI g rfl) H fun x44 a H g=>g.ko 7 rfl hC0 (zAI g rfl) H fun x46 a H g=>g.ko 9 rfl hC0 (zAI g rfl) H fun x48 a H g=>g.ko 10 rfl hC0 (zGM g rfl) H fun x49 a H g=>WK.on 11 rfl ?_
      intro K hK
      refine g.wop (zFI g rfl) H fun x50 w a H g=>hK _ _ ⟨H.1,?_⟩
      have hC1:=H.1
      replace H:=H.2
      refine WK.on 12 rfl ?_
      intro K hK
      refine g.wop (zJv g rfl) H fun x51 w a H g=>hK _ _ ⟨H.1,?_⟩
      have hC2:=H.1
      replace H:=H.2
      refine g.kp 13 rfl hC2 (zEL (zAS g rfl H.1)) fun _ g=>?_
      replace H:=H.2
      refine g.ko 14 rfl hC2 (zAJ g rfl) H fun x53 a H g=>g.ko 15 rfl hC2 (zAJ g rfl) H fun x54 a H g=>WK.la 16 rfl ?_
      intro K hK
      refine g.wopu (zAM g rfl rfl) H fun w a H g=>hK _ _ (WK.nil (by kernel_rfl) ((bn (tn (zAA (g.pur (zAn g rfl rfl) fun _ g=>(g.mv rfl fun _ g=>?_)))))))
      rw [hK_l1] at H
      exact zAG (tn ⟨(IntKind.wrap .i64 (x21+1)),g.weak ⟨rfl,rfl,rfl,rfl,rfl,trivial⟩,H⟩)
    ·rcases Classical.em ((0<x21)) with hbr2|hbr2
     ·replace H:=H.1 hbr2
      replace g:=g.bool (b:=true) (t:=28) rfl (decide_eq_true hbr2)
      exact g.qon (by rfl) (by rfl) (g.qm rfl fun _ g=>(g.qon (by rfl) (by rfl) (g.qm rfl fun _ g=>(g.qon (by rfl) (by rfl) (g.qpur (zAv g rfl rfl) fun _ g=>(g.qon (by rfl) (by rfl) (g.qop (zAC g rfl rfl) H fun x32 a H g=>(g.qon (by rfl) (by rfl) (g.qop (zAJ g rfl) H fun x33 a H g=>(g.qon (by rfl) (by rfl) (g.qop (zAI g rfl) H fun x34 a H g=>(g.qon (by rfl) (by rfl) (g.qop (zAJ g rfl) H fun x35 a H g=>(g.qon (by rfl) (by rfl) (g.qop (zAI g rfl) H fun x36 a H g=>(g.qon (by rfl) (by rfl) (g.qpur (zTA g rfl rfl) fun _ g=>(g.qpur (zAj g rfl rfl) fun _ g=>(hr2 (!sLt x34 x36) _ H (g.weak ⟨rfl,rfl,rfl,rfl,rfl,rfl,rfl,trivial⟩))))))))))))))))))))
     ·replace H:=H.2 hbr2
      replace g:=g.bool (b:=false) (t:=28) rfl (decide_eq_false hbr2)
      exact g.qoff (by rfl) (by rfl) (by decide) (fun _ g=>(g.qoff (by rfl) (by rfl) (by decide) (fun _ g=>(g.qoff (by rfl) (by rfl) (by decide) (fun _ g=>(g.qoff (by rfl) (by rfl) (by decide) (fun _ g=>(g.qoff (by rfl) (by rfl) (by decide) (fun _ g=>(g.qoff (by rfl) (by rfl) (by decide) (fun _ g=>(g.qoff (by rfl) (by rfl) (by decide) (fun _ g=>(g.qoff (by rfl) (by rfl) (by decide) (fun _ g=>(g.qoff (by rfl) (by rfl) (by decide) (fun _ g=>(g.qpur (zAi g rfl rfl) fun _ g=>(hr2 false _ H (g.weak ⟨rfl,rfl,rfl,rfl,rfl,rfl,rfl,trivial⟩))))))))))))))))))))
   ·replace H:=H.2 hc
    exact zBJ (te (te (be (tn (zAF (zAA (g.mv rfl fun _ g=>(g.as_ rfl fun _ g=>(g.as_ rfl fun _ g=>(zAG (tn (zAf (zFz g rfl rfl rfl ⟨_,_,rfl,H⟩)))))))))))))
def zIq (Ret:Bool→World→Prop) (x12:Bool) (w:World):Prop:=
 Ret x12 w
def zMM (x0:zAE) (w:World) (Ret:Bool→World→Prop):Prop:=
 opE Tryz.prog Value.pointer (Instr.box 66 (zAE.v x0)) w (fun x1 w=>opE Tryz.prog Value.pointer (Instr.fieldAt 66 (.pointer x1) 0) w (fun x3 w=>opE Tryz.prog Value.string (Instr.loadAt 9 (.pointer x3)) w (fun x4 w=>((256<(x4.size:Int))→(zIq Ret true w))∧(¬ (256<(x4.size:Int))→(opE Tryz.prog Value.pointer (Instr.fieldAt 66 (.pointer x1) 1) w (fun x8 w=>opE Tryz.prog Value.string (Instr.loadAt 9 (.pointer x8)) w (fun x9 w=>zIq Ret (decide (512<(x9.size:Int))) w)))))))
set_option maxRecDepth 100000 in
theorem zOy (x0:zAE) (w:World) (Ret:Bool→World→Prop) (H:zMM x0 w Ret):Cl Tryz.prog 34 [(zAE.v x0)].toArray w (fun e w'=>∃ (r0:Bool),e=.returned (.bool r0)∧Ret r0 w'):=by
 unfold zMM at H
 refine zAY 13 (zipE 0 [(zAE.v x0)]) Tryz.func34 rfl rfl (by rfl) rfl ?_
 intro a g
 replace g:Sat [] 13 [(0,(zAE.v x0))] a:=g
 refine zAF (zAA (g.op (zIm g rfl) H fun x1 w a H g=>(g.as_ rfl fun _ g=>(zAG (tn (zAF (zAA (g.op (zAJ g rfl) H fun x3 w a H g=>(g.op (zAI g rfl) H fun x4 w a H g=>(g.purR (fun w=>zMn g Tryz.underlying9 rfl) fun _ g=>(g.pur (zIG g rfl rfl) fun _ g=>(g.mv rfl fun _ g=>(WL.join (ds:=[]) (N:=13) (σ:=Bool) (fun s=>[(12,(.bool s))]) (fun s w=>zIq Ret s w) 5 ?_ (fun hr1=>?_))))))))))))))
 ·intro x12 w a H g
  try dsimp only at H g
  unfold zIq at H
  exact g.as_ rfl fun _ g=>zAG (tn (zAf (zAt g rfl rfl ⟨_,rfl,H⟩)))
 ·rcases Classical.em ((256<(x4.size:Int))) with hbr1|hbr1
  ·replace H:=H.1 hbr1
   replace g:=g.bool (b:=true) (t:=7) rfl (decide_eq_true hbr1)
   exact g.off (by rfl) (by rfl) (by decide) (fun _ g=>(g.off (by rfl) (by rfl) (by decide) (fun _ g=>(g.off (by rfl) (by rfl) (by decide) (fun _ g=>(g.off (by rfl) (by rfl) (by decide) (fun _ g=>(g.pur (zAj g rfl rfl) fun _ g=>(hr1 true _ _ H (g.weak ⟨rfl,trivial⟩))))))))))
  ·replace H:=H.2 hbr1
   replace g:=g.bool (b:=false) (t:=7) rfl (decide_eq_false hbr1)
   exact g.on (by rfl) (by rfl) (g.op (zAJ g rfl) H fun x8 w a H g=>(g.on (by rfl) (by rfl) (g.op (zAI g rfl) H fun x9 w a H g=>(g.on (by rfl) (by rfl) (g.purR (fun w=>zMn g Tryz.underlying9 rfl) fun _ g=>(g.on (by rfl) (by rfl) (g.pur (zIG g rfl rfl) fun _ g=>(g.pur (zAi g rfl rfl) fun _ g=>(hr1 (decide (512<(x9.size:Int))) _ _ H (g.weak ⟨rfl,trivial⟩))))))))))
end Go.Proofs.YtealcoghiaeiiaaGreat.VG
set_option linter.unusedVariables false
namespace Go.Proofs.YtealcoghiaeiiaaGreat.VG
open Go.VB Go.Proofs Go.RowKit
def verP (p:Pai):Ver:=⟨p.Key,1,p.Val,false⟩
def newS (l:List Pai):St:=⟨l.map verP,1,1,0,fun _=>none⟩
def plong (p:Pai):Bool:=decide (256<(p.Key.size:Int))||decide (512<(p.Val.size:Int))
def zMm (l:List Pai) (n:Nat):Prop:=∀ j x y,j+1<n→l[j]?=some x→l[j+1]?=some y→sLt x.Key y.Key=true
theorem zS9 (p:Pai) (w:World) {k:Bool→World→Prop} (H:∀ w',Bel w w'→k (plong p) w'):Cl Tryz.prog zNF [zAE.v p].toArray w (fun e w'=>∃ r0:Bool,e=.returned (.bool r0)∧k r0 w'):=by
 refine zOy p w k ?_
 unfold zMM zIq
 refine zGl (cs:=p.cells) rfl fun B w1 b1 hX _=>?_
 have h:=H w1 b1
 unfold plong at h
 refine zDi zF2 zAc hX.at p.Key rfl ⟨fun hc=>?_,fun hc=>?_⟩
 ·rw [decide_eq_true hc] at h;exact h
 ·rw [decide_eq_false hc] at h
  exact zDi zLI zAc hX.at p.Val rfl h
abbrev zN7 (sl:Sl) (low:Int) (mb:Nat):List Value:=[Sl.v sl,.int .u64 low,.int .u64 1,.int .i64 0,.map (some mb)]
theorem zSs {w:World} {x:Sl} {l:List Pai} (hd:PaiRd w x l) {k:Option Addr→Int→World→Prop}
  (H0:4096<l.length→k none 3 w)
  (H1:l.length≤4096→l.any plong=true→∀ w',Bel w w'→k none 4 w')
  (H2:l.length≤4096→l.any plong=false→¬ zMm l l.length→∀ w',Bel w w'→k none 2 w')
  (H3:l.length≤4096→l.any plong=false→zMm l l.length→∀ b ρ w',Bel w w'→Mgr ρ w' b (newS l)→(∀ k,k<w.heap.size→ρ k=none)→k (ptrA b) 0 w'):
  Cl Tryz.prog zQf [Sl.v x].toArray w (fun e w'=>∃ (r0:Option Addr) (r1:Int),e=.returned (.tuple [.pointer r0,.int .i64 r1].toArray)∧k r0 r1 w'):=by
 have dbig:=hd.big;have dcap:=hd.cap;have dlen:=hd.len
 refine zQi x w k ?_
 unfold zNT
 refine ⟨fun hc=>H0 (by omega),fun hc=>?_⟩
 have hl:l.length≤4096:=by omega
 refine zNc hd (p:=plong) (fun d _ w' k' hb hk=>.inl ⟨zNF,[],[],rfl,ent34,zS9 d w' hk⟩) fun w1 b1=>⟨fun hc=>H1 hl hc w1 b1,fun hno=>?_⟩
 refine zRI (ek:=Value.int .i64) (ev:=Value.pointer) fun hM=>?_
 have hB2:=Bel.alloc w1 (.map #[] 0)
 have s2:=size_alloc' w1 (.map #[] 0)
 generalize hmb:w1.heap.size=mb at hM s2 ⊢
 generalize w1.alloc (.map #[] 0)=w2 at hM hB2 s2 ⊢
 refine ⟨⟨⟨Sl.none,0⟩,1,0,some mb⟩,w2,by kernel_rfl,?_⟩
 refine zGl (cs:=zN7 Sl.none 0 mb) rfl fun B w3 b3 hR hB0=>⟨trivial,?_⟩
 have hmb2:mb<w2.heap.size:=by omega
 refine ⟨_,w3,zCB _ _,?_⟩
 refine ⟨_,w3,zFa _ _,?_⟩
 rw [zK9]
 refine zNK (off:=0+1) zA9 hR rfl (by simp) rfl fun w4 hR4 g4=>?_
 replace hR4:Row w4 B (zN7 Sl.none 1 mb) zE4:=hR4
 have s3:=b3.le
 have s4:=g4.size
 have hBm:B≠mb:=by omega
 have hM4:=(hM.bel b3).grown g4 (by simpa using hBm)
 have b12:=b1.trans hB2
 have s12:=b12.le
 have b04:Bel w w4:=(b12.trans b3).grown g4 fun r hr=>by cases hr;omega
 have hBl:B<w4.heap.size:=hR4.lt
 refine ⟨fun i W=>∃ (n:Nat) (sl:Sl),i=(n:Int)∧n≤l.length∧Row W B (zN7 sl 1 mb) zE4∧zFt w4.heap.size W sl ((l.take n).map verP)∧MapIs (Value.int .i64) Value.pointer W mb (fun _=>none)∧Bel w W∧w4.heap.size≤W.heap.size∧zMm l n,fun i _=>(x.len - i).toNat,
  ⟨0,Sl.none,rfl,by omega,hR4,OwnS.nil _ _ _ _ _,hM4,b04,Nat.le_refl _,fun j _ _ h=>by omega⟩,?_⟩
 rintro i W ⟨n,sl,rfl,hn,hRW,hOW,hMW,hbW,hsW,hrise⟩
 unfold zKI
 refine ⟨fun hc=>?_,fun hc=>?_⟩
 ·obtain ⟨p,hp⟩:=getE (l:=l) (n:=n) (by omega)
  refine zLL (hd.bel hbW) zFR zGe (by omega) (x:=p) (by simpa using hp) fun ad hA=>?_
  refine zII zGF p rfl hA rfl ?_
  refine zJb zND rfl zGF (cs:=p.cells) rfl rfl rfl fun X W1 b5 hX hX0=>?_
  have J:∀ (c:Bool),(c=true→¬ zMm l l.length)→(c=false→zMm l (n+1))→zJK k (ptrA B) (n:Int) (fun x21' w'=>(∃ (n:Nat) (sl:Sl),x21'=(n:Int)∧n≤l.length∧Row w' B (zN7 sl 1 mb) zE4∧zFt w4.heap.size w' sl ((l.take n).map verP)∧MapIs (Value.int .i64) Value.pointer w' mb (fun _=>none)∧Bel w w'∧w4.heap.size≤w'.heap.size∧zMm l n)∧(x.len - x21').toNat<(x.len - (n:Int)).toNat) (ptrA X) c W1:=by
   intro c hc1 hc0
   unfold zJK
   intro W2 b6
   refine ⟨fun h1=>H2 hl hno (hc1 h1) W2 ((hbW.trans b5).trans b6),fun h1=>?_⟩
   have hR2:=(hRW.bel b5).bel b6
   have hX2:=hX.bel b6
   have b56:=b5.trans b6
   refine ⟨fun W'=>Row W' B (zN7 sl 1 mb) zE4∧Row W' X p.cells zGc,fun W3 b7=>⟨⟨hR2.bel b7,hX2.bel b7⟩,trivial,?_⟩⟩
   refine zMp zCB ?_
   refine zMp zAh ?_
   refine zMp zF2 ?_
   refine zMp zLI ?_
   refine zKB zAl sl (fun W hW=>by rw [zK9];exact hW.1.at.fld rfl) ?_
   refine zKB zAc p.Key (fun W hW=>hW.2.at.fld rfl) ?_
   refine zKB zAc p.Val (fun W hW=>hW.2.at.fld rfl) ?_
   refine ⟨verP p,fun W hW=>by kernel_rfl,?_⟩
   refine ⟨_,_,zK0 (verP p) W3,?_⟩
   have b8:=Bel.alloc W3 (.cells (verP p).cells.toArray zAp)
   have hlit:VerRd (W3.alloc (.cells (verP p).cells.toArray zAp)) ⟨some ⟨W3.heap.size,0,none⟩,1,1⟩ [verP p]:=by
    have:=Rd.lit (c:=zAB.cells) (n:=4) (fun _=>rfl) [verP p] (by simp) W3 zAp
    simpa using this
   have s8:=size_alloc' W3 (.cells (verP p).cells.toArray zAp)
   generalize W3.alloc (.cells (verP p).cells.toArray zAp)=W4 at b8 hlit s8 ⊢
   have b58:=(b56.trans b7).trans b8
   have hR8:=(hR2.bel b7).bel b8
   have hX8:=(hX2.bel b7).bel b8
   refine ⟨⟨hR8,hX8⟩,?_⟩
   have hO8:=hOW.bel b58
   have hs8:=b58.le
   refine zQp (w0:=w) hO8 hlit (hbW.trans b58) b04.le (by omega) (by simp;omega) fun sl' W5 hO9 b9 g9=>?_
   have hne:(Sl.v sl).ownBlock≠some B:=fun e=>by have:=hO8.lo e;omega
   have hneX:(Sl.v sl).ownBlock≠some X:=fun e=>by have:=hOW.lt e;omega
   have hnem:(Sl.v sl).ownBlock≠some mb:=fun e=>by have:=hO8.lo e;omega
   have hR9:=hR8.grown g9 hne
   refine ⟨⟨hR9,hX8.grown g9 hneX⟩,trivial,?_⟩
   refine zMp zCB ?_
   refine zMp zAh ?_
   rw [zK9]
   refine zNK (off:=0+0) zAl hR9 (by cases sl' with|mk a l c=>cases a<;>rfl) (by simp) (by cases sl' with|mk a l c=>cases a<;>rfl) fun W6 hR10 g10=>?_
   replace hR10:Row W6 B (zN7 sl' 1 mb) zE4:=hR10
   rw [wr64 (by omega) (by omega)]
   have hlast:(l.take (n+1)).map verP=(l.take n).map verP++[verP p]:=by rw [zIx hp,List.map_append];rfl
   refine ⟨⟨n+1,sl',by omega,by omega,hR10,?_,((hMW.bel b58).grown g9 hnem).grown g10 (by simpa using hBm),b9.grown g10 fun r hr=>by cases hr;omega,by have:=g9.size;have:=g10.size;omega,hc0 h1⟩,by omega⟩
   rw [hlast]
   refine hO9.kept g10 (.inr fun e=>?_)
   have:=hO9.lo e;omega
  refine ⟨fun h0=>?_,fun h0=>?_⟩
  ·obtain ⟨q,hq⟩:=getE (l:=l) (n:=n - 1) (by omega)
   have hdW:=(hd.bel hbW).bel b5
   rw [wr64 (by omega) (by omega)]
   refine zOL hdW zFR zGe (by omega) (x:=q) (by rw [show ((n:Int) - 1).toNat=n - 1 from by omega];exact hq) fun ad hA=>?_
   refine zMG zF2 zAc hA q.Key rfl ?_
   refine zMG zF2 zAc hX.at p.Key rfl ?_
   refine J _ (fun h1 h2=>?_) fun h1=>?_
   ·have:=h2 (n - 1) q p (by omega) hq (by rw [show n - 1+1=n from by omega];exact hp)
    rw [this] at h1;cases h1
   ·intro j y z hj hy hz
    by_cases hjn:j+1<n
    ·exact hrise j y z hjn hy hz
    ·obtain rfl:j=n - 1:=by omega
     rw [hq] at hy;cases hy
     rw [show n - 1+1=n from by omega,hp] at hz;cases hz
     simpa using h1
  ·refine J false (fun h=>(nomatch h)) fun _ j y z hj hy hz=>by omega
 ·obtain rfl:n=l.length:=by omega
  rw [List.take_length] at hOW
  have hold:∀ q,q<w.heap.size→q≠B∧q≠mb∧(Sl.v sl).ownBlock≠some q:=fun q hq=>by
   have:=b1.le
   have:=b04.le
   exact ⟨by omega,by omega,fun e=>by have:=hOW.lo e;omega⟩
  refine H3 hl hno hrise B (fun q=>if q=B then some .mg else if q=mb then some .om else if (Sl.v sl).ownBlock=some q then some .ve else none) W hbW ⟨sl,mb,fun _=>⟨0,0,Sl.none⟩,?_⟩ fun q hq=>?_
  ·exact {
    row:=hRW
    rmg:=if_pos rfl
    vers:=zFt.rd hOW
    rve:=fun q hq=>by
     have:=hOW.lo hq
     rw [if_neg (by omega),if_neg (by omega),if_pos hq]
    mp:=hMW
    rom:=by rw [if_neg hBm.symm,if_pos rfl]
    tx:=fun n t ht=>by cases ht
    lt:=fun q hq=>by
     split at hq
     ·rename_i e;subst e;exact hRW.lt
     ·split at hq
      ·rename_i e;subst e;exact hMW.lt
      ·split at hq
       ·rename_i e;exact hOW.lt e
       ·exact absurd rfl hq}
  ·obtain ⟨h1,h2,h3⟩:=hold q hq
   rw [if_neg h1,if_neg h2,if_neg h3]
end Go.Proofs.YtealcoghiaeiiaaGreat.VG
set_option linter.unusedVariables false
namespace Go.Proofs.YtealcoghiaeiiaaGreat.VG
open Go.VB Go.Proofs Go.RowKit
theorem zT4 {w:World} {x y:Wri} {o1 o2:Operand} {k:Bool→Prop} (H:∀ b:Bool,(b=true↔¬ x=y)→k b):
  opB Tryz.prog Value.bool (do eqGuard .neq zFE o1 o2 (zAD.v x) (zAD.v y);binOp .neq zFE (zAD.v x) (zAD.v y)) w k:=by
 obtain ⟨r,h1,h2⟩:=zOf x y o1 o2
 exact ⟨r,fun w' _=>h1 w',H r h2⟩
theorem zSS {w:World} {x0 x1:Sl} {l m:List Wri} (h:WriRd w x0 l) (h':WriRd w x1 m) {k:Bool→World→Prop} (H:∀ r w',(r=true↔l=m)→Bel w w'→k r w'):
  Cl Tryz.prog zKj [Sl.v x0,Sl.v x1].toArray w (fun e w'=>∃ r0:Bool,e=.returned (.bool r0)∧k r0 w'):=by
 refine zKq x0 x1 w k ?_
 have hbig:=h.big;have hcap:=h.cap;have hlen:=h.len;have hlen':=h'.len
 unfold zGz
 refine ⟨fun hc=>H false w ⟨fun h=>(nomatch h),fun h=>?_⟩ (Bel.refl _),fun hc=>?_⟩
 ·subst h;omega
 have hc':(x0.len:Int)=x1.len:=Classical.not_not.1 hc
 refine ⟨fun x w1=>∃ n:Nat,x=(n:Int)∧n≤l.length∧Bel w w1∧l.take n=m.take n,fun x _=>(x0.len - x).toNat,⟨0,rfl,by omega,Bel.refl _,rfl⟩,?_⟩
 rintro x w1 ⟨n,rfl,hn,hb,hq⟩
 unfold zFK
 refine ⟨fun hc=>?_,fun hc=>?_⟩
 ·obtain ⟨e,he⟩:∃ e,l[n]?=some e:=⟨l[n]'(by omega),by simp⟩
  obtain ⟨f,hf⟩:∃ f,m[n]?=some f:=⟨m[n]'(by omega),by simp⟩
  refine zOL (h.bel hb) zGJ zH1 (by omega) (x:=e) (by simpa using he) fun ad hA=>?_
  refine zOO zDq e rfl hA rfl ?_
  refine zOL (h'.bel hb) zGJ zH1 (by omega) (x:=f) (by simpa using hf) fun ad' hA'=>?_
  refine zOO zDq f rfl hA' rfl ?_
  refine zT4 fun b hbb=>?_
  intro w2 hb2
  refine ⟨fun ht=>H false w2 ⟨fun h=>(nomatch h),fun h=>?_⟩ (hb.trans hb2),fun hf0=>?_⟩
  ·subst h;rw [he] at hf;exact absurd (Option.some.inj hf) (hbb.1 ht)
  ·have hef:e=f:=Classical.not_not.1 fun h=>by rw [hbb.2 h] at hf0;cases hf0
   subst hef
   rw [wr64 (by omega) (by omega)]
   exact ⟨⟨n+1,by omega,by omega,hb.trans hb2,zOz hq he hf⟩,by dsimp only;omega⟩
 ·obtain rfl:n=l.length:=by omega
  refine H true w1 ⟨fun _=>?_,fun _=>rfl⟩ hb
  rw [List.take_length,List.take_of_length_le (by omega)] at hq
  exact hq
theorem eqB_e (a b:Bool) {w:World} {o1 o2:Operand} {k:Bool→World→Prop} (H:k (decide (a=b)) w):opE Tryz.prog Value.bool (do eqGuard .eql zRZ o1 o2 (.bool a) (.bool b);binOp .eql zRZ (.bool a) (.bool b)) w k:=
 ⟨decide (a=b),w,by cases a<;>cases b<;>kernel_rfl,H⟩
structure Ans where
 why:Int
 tx:Int
 val:ByteArray
 is:Bool
 pairs:List Pai
 done:List Wri
 time:Int
def AnsRd (w:World) (x:zAq) (a:Ans):Prop:=x.Why=a.why∧x.Tx=a.tx∧x.Val=a.val∧x.Is=a.is∧PaiRd w x.Pairs a.pairs∧WriRd w x.Done a.done∧x.Time=a.time
theorem AnsRd.bel {w w':World} {x:zAq} {a:Ans} (h:AnsRd w x a) (hb:Bel w w'):AnsRd w' x a:=⟨h.1,h.2.1,h.2.2.1,h.2.2.2.1,h.2.2.2.2.1.bel hb,h.2.2.2.2.2.1.bel hb,h.2.2.2.2.2.2⟩
end Go.Proofs.YtealcoghiaeiiaaGreat.VG
set_option linter.unusedVariables false
set_option linter.unusedSimpArgs false
namespace Go.Proofs.YtealcoghiaeiiaaGreat.VG
open Go.VB Go.Proofs
def zFU (Ret:Bool→World→Prop) (x117:Bool) (w:World):Prop:=
 Ret x117 w
def zFY (Ret:Bool→World→Prop) (r:Option Addr) (x112:Bool) (w:World):Prop:=
 (x112=true→(Cl Tryz.prog 31 [(.pointer r)].toArray w (fun e w=>∃ (r_20:Int),e=.returned (.int .u64 r_20)∧(zFU Ret (decide (r_20=2)) w))))∧(x112=false→(zFU Ret false w))
def zFS (Ret:Bool→World→Prop) (r:Option Addr) (r_19:Int) (x108:Bool) (w:World):Prop:=
 (x108=true→(zFY Ret r (decide (r_19=10)) w))∧(x108=false→(zFY Ret r false w))
def zFk (Ret:Bool→World→Prop) (r:Option Addr) (r_16:Int) (r_19:Int) (x104:Bool) (w:World):Prop:=
 (x104=true→(zFS Ret r r_19 (decide (r_16=0)) w))∧(x104=false→(zFS Ret r r_19 false w))
def zFh (Ret:Bool→World→Prop) (r:Option Addr) (r_15:Int) (r_16:Int) (r_19:Int) (x100:Bool) (w:World):Prop:=
 (x100=true→(zFk Ret r r_16 r_19 (decide (r_15=2)) w))∧(x100=false→(zFk Ret r r_16 r_19 false w))
def zFo (Ret:Bool→World→Prop) (r:Option Addr) (r_14:Sl) (r_15:Int) (r_16:Int) (r_19:Int) (x94:Bool) (w:World):Prop:=
 (x94=true→(opE Tryz.prog zAD.v (Instr.build 34 [(0,(.string (ByteArray.mk #[97]))),(1,(.string (ByteArray.mk #[50])))].toArray) w (fun x97 w=>opE Tryz.prog Sl.v (Instr.buildSlice 30 1 [(0,(zAD.v x97))].toArray) w (fun x98 w=>Cl Tryz.prog 28 [(Sl.v r_14),(Sl.v x98)].toArray w (fun e w=>∃ (r_21:Bool),e=.returned (.bool r_21)∧(zFh Ret r r_15 r_16 r_19 r_21 w))))))∧(x94=false→(zFh Ret r r_15 r_16 r_19 false w))
def zFl (Ret:Bool→World→Prop) (r:Option Addr) (r_13:Int) (r_14:Sl) (r_15:Int) (r_16:Int) (r_19:Int) (x90:Bool) (w:World):Prop:=
 (x90=true→(zFo Ret r r_14 r_15 r_16 r_19 (decide (r_13=0)) w))∧(x90=false→(zFo Ret r r_14 r_15 r_16 r_19 false w))
def zFi (Ret:Bool→World→Prop) (r:Option Addr) (r_12:Int) (r_13:Int) (r_14:Sl) (r_15:Int) (r_16:Int) (r_19:Int) (x86:Bool) (w:World):Prop:=
 (x86=true→(zFl Ret r r_13 r_14 r_15 r_16 r_19 (decide (r_12=0)) w))∧(x86=false→(zFl Ret r r_13 r_14 r_15 r_16 r_19 false w))
def zFm (Ret:Bool→World→Prop) (r:Option Addr) (r_8:Int) (r_12:Int) (r_13:Int) (r_14:Sl) (r_15:Int) (r_16:Int) (r_19:Int) (x82:Bool) (w:World):Prop:=
 (x82=true→(zFi Ret r r_12 r_13 r_14 r_15 r_16 r_19 (decide (r_8=0)) w))∧(x82=false→(zFi Ret r r_12 r_13 r_14 r_15 r_16 r_19 false w))
def zFn (Ret:Bool→World→Prop) (r:Option Addr) (r_7:Bool) (r_8:Int) (r_12:Int) (r_13:Int) (r_14:Sl) (r_15:Int) (r_16:Int) (r_19:Int) (x79:Bool) (w:World):Prop:=
 (x79=true→(zFm Ret r r_8 r_12 r_13 r_14 r_15 r_16 r_19 r_7 w))∧(x79=false→(zFm Ret r r_8 r_12 r_13 r_14 r_15 r_16 r_19 false w))
def zFq (Ret:Bool→World→Prop) (r:Option Addr) (r_6:ByteArray) (r_7:Bool) (r_8:Int) (r_12:Int) (r_13:Int) (r_14:Sl) (r_15:Int) (r_16:Int) (r_19:Int) (x75:Bool) (w:World):Prop:=
 (x75=true→(zFn Ret r r_7 r_8 r_12 r_13 r_14 r_15 r_16 r_19 (decide (r_6=(ByteArray.mk #[49]))) w))∧(x75=false→(zFn Ret r r_7 r_8 r_12 r_13 r_14 r_15 r_16 r_19 false w))
def zFj (Ret:Bool→World→Prop) (r:Option Addr) (r_4:Int) (r_6:ByteArray) (r_7:Bool) (r_8:Int) (r_12:Int) (r_13:Int) (r_14:Sl) (r_15:Int) (r_16:Int) (r_19:Int) (x71:Bool) (w:World):Prop:=
 (x71=true→(zFq Ret r r_6 r_7 r_8 r_12 r_13 r_14 r_15 r_16 r_19 (decide (r_4=2)) w))∧(x71=false→(zFq Ret r r_6 r_7 r_8 r_12 r_13 r_14 r_15 r_16 r_19 false w))
def zJC (w:World) (Ret:Bool→World→Prop):Prop:=
 opE Tryz.prog zAE.v (Instr.build 66 [(0,(.string (ByteArray.mk #[97]))),(1,(.string (ByteArray.mk #[49])))].toArray) w (fun x19 w=>opE Tryz.prog Sl.v (Instr.buildSlice 22 1 [(0,(zAE.v x19))].toArray) w (fun x20 w=>Cl Tryz.prog 11 [(Sl.v x20)].toArray w (fun e w=>∃ (r:Option Addr) (r_1:Int),e=.returned (.tuple [(.pointer r),(.int .i64 r_1)].toArray)∧(opE Tryz.prog Value.bool (do eqGuard .eql 26 (.tmp 24) (.const (.pointer none)) (.pointer r) (.pointer none);binOp .eql 26 (.pointer r) (.pointer none)) w (fun x25 w=>(x25=true→(Ret false w))∧(x25=false→(Cl Tryz.prog 12 [(.pointer r)].toArray w (fun e w=>∃ (r_2:Int) (r_3:Int),e=.returned (.tuple [(.int .i64 r_2),(.int .i64 r_3)].toArray)∧(Cl Tryz.prog 12 [(.pointer r)].toArray w (fun e w=>∃ (r_4:Int) (r_5:Int),e=.returned (.tuple [(.int .i64 r_4),(.int .i64 r_5)].toArray)∧(Cl Tryz.prog 22 [(.pointer r),(.int .i64 r_2),(.string (ByteArray.mk #[97]))].toArray w (fun e w=>∃ (r_6:ByteArray) (r_7:Bool) (r_8:Int),e=.returned (.tuple [(.string r_6),(.bool r_7),(.int .i64 r_8)].toArray)∧(Cl Tryz.prog 22 [(.pointer r),(.int .i64 r_4),(.string (ByteArray.mk #[97]))].toArray w (fun e w=>∃ (r_9:ByteArray) (r_10:Bool) (r_11:Int),e=.returned (.tuple [(.string r_9),(.bool r_10),(.int .i64 r_11)].toArray)∧(Cl Tryz.prog 14 [(.pointer r),(.int .i64 r_2),(.string (ByteArray.mk #[97])),(.string (ByteArray.mk #[50]))].toArray w (fun e w=>∃ (r_12:Int),e=.returned (.int .i64 r_12)∧(Cl Tryz.prog 14 [(.pointer r),(.int .i64 r_4),(.string (ByteArray.mk #[97])),(.string (ByteArray.mk #[51]))].toArray w (fun e w=>∃ (r_13:Int),e=.returned (.int .i64 r_13)∧(Cl Tryz.prog 15 [(.pointer r),(.int .i64 r_2)].toArray w (fun e w=>∃ (r_14:Sl) (r_15:Int) (r_16:Int),e=.returned (.tuple [(Sl.v r_14),(.int .u64 r_15),(.int .i64 r_16)].toArray)∧(Cl Tryz.prog 15 [(.pointer r),(.int .i64 r_4)].toArray w (fun e w=>∃ (r_17:Sl) (r_18:Int) (r_19:Int),e=.returned (.tuple [(Sl.v r_17),(.int .u64 r_18),(.int .i64 r_19)].toArray)∧(((r_1=0)→(zFj Ret r r_4 r_6 r_7 r_8 r_12 r_13 r_14 r_15 r_16 r_19 (decide (r_2=1)) w))∧(¬ (r_1=0)→(zFj Ret r r_4 r_6 r_7 r_8 r_12 r_13 r_14 r_15 r_16 r_19 false w)))))))))))))))))))))))))
set_option maxRecDepth 100000 in
theorem zLx (w:World) (Ret:Bool→World→Prop) (H:zJC w Ret):Cl Tryz.prog 10 [].toArray w (fun e w'=>∃ (r0:Bool),e=.returned (.bool r0)∧Ret r0 w'):=by
 unfold zJC at H
 refine zAY 118 (zipE 0 []) Tryz.func10 rfl rfl (by rfl) rfl ?_
 intro a g
 replace g:Sat [] 118 [] a:=g
 refine zAF (zAA (g.as_ rfl fun _ g=>(zAG (tn (zAF (zAA (g.op (zGM g rfl) H fun x19 w a H g=>(g.op (zFI g rfl) H fun x20 w a H g=>(g.call (zAQ g ent11 rfl rfl) H fun e w H=>?_)))))))))
 obtain ⟨r,r_1,rfl,H⟩:=H
 refine ⟨_,rfl,fun _ g=>(g.mv rfl fun _ g=>(g.pur (zAO g rfl rfl) fun _ g=>(g.pur (zAO g rfl rfl) fun _ g=>(g.as_ rfl fun _ g=>(g.as_ rfl fun _ g=>(zAG (tn (zAF (zAF (zAA (g.mv rfl fun _ g=>(g.op (zJ4 g rfl rfl) H fun x25 w a H g=>(zAG (tn (zAV g rfl (fun hc=>?_) (fun hc=>?_))))))))))))))))⟩
 ·replace H:=H.1 hc
  exact zAF (zAA (g.as_ rfl fun _ g=>(zAG (tn (zAf (tr (zAt g rfl rfl ⟨_,rfl,H⟩)))))))
 ·replace H:=H.2 hc
  refine zAP (tn (zAF (zAA (g.mv rfl fun _ g=>(g.call (zAQ g ent12 rfl rfl) H fun e w H=>?_)))))
  obtain ⟨r_2,r_3,rfl,H⟩:=H
  refine ⟨_,rfl,fun _ g=>(g.mv rfl fun _ g=>(g.pur (zAO g rfl rfl) fun _ g=>(g.pur (zAO g rfl rfl) fun _ g=>(g.as_ rfl fun _ g=>(g.as_ rfl fun _ g=>(zAG (tn (zAF (zAA (g.mv rfl fun _ g=>(g.call (zAQ g ent12 rfl rfl) H fun e w H=>?_)))))))))))⟩
  obtain ⟨r_4,r_5,rfl,H⟩:=H
  refine ⟨_,rfl,fun _ g=>(g.mv rfl fun _ g=>(g.pur (zAO g rfl rfl) fun _ g=>(g.pur (zAO g rfl rfl) fun _ g=>(g.as_ rfl fun _ g=>(g.as_ rfl fun _ g=>(zAG (tn (zAF (zAA (g.mv rfl fun _ g=>(g.mv rfl fun _ g=>(g.call (zAQ g ent22 rfl rfl) H fun e w H=>?_))))))))))))⟩
  obtain ⟨r_6,r_7,r_8,rfl,H⟩:=H
  refine ⟨_,rfl,fun _ g=>(g.mv rfl fun _ g=>(g.pur (zAO g rfl rfl) fun _ g=>(g.pur (zAO g rfl rfl) fun _ g=>(g.pur (zAO g rfl rfl) fun _ g=>(g.as_ rfl fun _ g=>(g.as_ rfl fun _ g=>(g.as_ rfl fun _ g=>(zAG (tn (zAF (zAA (g.mv rfl fun _ g=>(g.mv rfl fun _ g=>(g.call (zAQ g ent22 rfl rfl) H fun e w H=>?_))))))))))))))⟩
  obtain ⟨r_9,r_10,r_11,rfl,H⟩:=H
  refine ⟨_,rfl,fun _ g=>(zAG (tn (zAF (zAA (g.mv rfl fun _ g=>(g.mv rfl fun _ g=>(g.call (zAQ g ent14 rfl rfl) H fun e w H=>?_)))))))⟩
  obtain ⟨r_12,rfl,H⟩:=H
  refine ⟨_,rfl,fun _ g=>(g.mv rfl fun _ g=>(g.mv rfl fun _ g=>(g.call (zAQ g ent14 rfl rfl) H fun e w H=>?_)))⟩
  obtain ⟨r_13,rfl,H⟩:=H
  refine ⟨_,rfl,fun _ g=>(g.as_ rfl fun _ g=>(g.as_ rfl fun _ g=>(zAG (tn (zAF (zAA (g.mv rfl fun _ g=>(g.mv rfl fun _ g=>(g.call (zAQ g ent15 rfl rfl) H fun e w H=>?_)))))))))⟩
  obtain ⟨r_14,r_15,r_16,rfl,H⟩:=H
  refine ⟨_,rfl,fun _ g=>(g.mv rfl fun _ g=>(g.pur (zAO g rfl rfl) fun _ g=>(g.pur (zAO g rfl rfl) fun _ g=>(g.pur (zAO g rfl rfl) fun _ g=>(g.as_ rfl fun _ g=>(g.as_ rfl fun _ g=>(g.as_ rfl fun _ g=>(zAG (tn (zAF (zAA (g.mv rfl fun _ g=>(g.mv rfl fun _ g=>(g.call (zAQ g ent15 rfl rfl) H fun e w H=>?_))))))))))))))⟩
  obtain ⟨r_17,r_18,r_19,rfl,H⟩:=H
  refine ⟨_,rfl,fun _ g=>(g.mv rfl fun _ g=>(g.pur (zAO g rfl rfl) fun _ g=>(g.pur (zAO g rfl rfl) fun _ g=>(g.pur (zAO g rfl rfl) fun _ g=>(g.as_ rfl fun _ g=>(g.as_ rfl fun _ g=>(g.as_ rfl fun _ g=>(zAG (tn (zAF (zAA (g.mv rfl fun _ g=>(g.pur (zGX g rfl rfl) fun _ g=>(g.mv rfl fun _ g=>(WL.join (ds:=[]) (N:=118) (σ:=Bool) (fun s=>[(71,(.bool s)),(1,(.pointer r)),(5,(.int .i64 r_4)),(7,(.string r_6)),(8,(.bool r_7)),(9,(.int .i64 r_8)),(10,(.int .i64 r_12)),(11,(.int .i64 r_13)),(12,(Sl.v r_14)),(13,(.int .u64 r_15)),(14,(.int .i64 r_16)),(17,(.int .i64 r_19))]) (fun s w=>zFj Ret r r_4 r_6 r_7 r_8 r_12 r_13 r_14 r_15 r_16 r_19 s w) 3 ?_ (fun hr1=>?_))))))))))))))))⟩
  ·intro x71 w a H g
   try dsimp only at H g
   unfold zFj at H
   refine g.mv rfl fun _ g=>WL.join (ds:=[]) (N:=118) (σ:=Bool) (fun s=>[(75,(.bool s)),(1,(.pointer r)),(7,(.string r_6)),(8,(.bool r_7)),(9,(.int .i64 r_8)),(10,(.int .i64 r_12)),(11,(.int .i64 r_13)),(12,(Sl.v r_14)),(13,(.int .u64 r_15)),(14,(.int .i64 r_16)),(17,(.int .i64 r_19))]) (fun s w=>zFq Ret r r_6 r_7 r_8 r_12 r_13 r_14 r_15 r_16 r_19 s w) 3 ?_ (fun hr2=>?_)
   ·intro x75 w a H g
    try dsimp only at H g
    unfold zFq at H
    refine g.mv rfl fun _ g=>WL.join (ds:=[]) (N:=118) (σ:=Bool) (fun s=>[(79,(.bool s)),(1,(.pointer r)),(8,(.bool r_7)),(9,(.int .i64 r_8)),(10,(.int .i64 r_12)),(11,(.int .i64 r_13)),(12,(Sl.v r_14)),(13,(.int .u64 r_15)),(14,(.int .i64 r_16)),(17,(.int .i64 r_19))]) (fun s w=>zFn Ret r r_7 r_8 r_12 r_13 r_14 r_15 r_16 r_19 s w) 3 ?_ (fun hr3=>?_)
    ·intro x79 w a H g
     try dsimp only at H g
     unfold zFn at H
     refine g.mv rfl fun _ g=>WL.join (ds:=[]) (N:=118) (σ:=Bool) (fun s=>[(82,(.bool s)),(1,(.pointer r)),(9,(.int .i64 r_8)),(10,(.int .i64 r_12)),(11,(.int .i64 r_13)),(12,(Sl.v r_14)),(13,(.int .u64 r_15)),(14,(.int .i64 r_16)),(17,(.int .i64 r_19))]) (fun s w=>zFm Ret r r_8 r_12 r_13 r_14 r_15 r_16 r_19 s w) 2 ?_ (fun hr4=>?_)
     ·intro x82 w a H g
      try dsimp only at H g
      unfold zFm at H
      refine g.mv rfl fun _ g=>WL.join (ds:=[]) (N:=118) (σ:=Bool) (fun s=>[(86,(.bool s)),(1,(.pointer r)),(10,(.int .i64 r_12)),(11,(.int .i64 r_13)),(12,(Sl.v r_14)),(13,(.int .u64 r_15)),(14,(.int .i64 r_16)),(17,(.int .i64 r_19))]) (fun s w=>zFi Ret r r_12 r_13 r_14 r_15 r_16 r_19 s w) 3 ?_ (fun hr5=>?_)
      ·intro x86 w a H g
       try dsimp only at H g
       unfold zFi at H
       refine g.mv rfl fun _ g=>WL.join (ds:=[]) (N:=118) (σ:=Bool) (fun s=>[(90,(.bool s)),(1,(.pointer r)),(11,(.int .i64 r_13)),(12,(Sl.v r_14)),(13,(.int .u64 r_15)),(14,(.int .i64 r_16)),(17,(.int .i64 r_19))]) (fun s w=>zFl Ret r r_13 r_14 r_15 r_16 r_19 s w) 3 ?_ (fun hr6=>?_)
       ·intro x90 w a H g
        try dsimp only at H g
        unfold zFl at H
        refine g.mv rfl fun _ g=>WL.join (ds:=[]) (N:=118) (σ:=Bool) (fun s=>[(94,(.bool s)),(1,(.pointer r)),(12,(Sl.v r_14)),(13,(.int .u64 r_15)),(14,(.int .i64 r_16)),(17,(.int .i64 r_19))]) (fun s w=>zFo Ret r r_14 r_15 r_16 r_19 s w) 3 ?_ (fun hr7=>?_)
        ·intro x94 w a H g
         try dsimp only at H g
         unfold zFo at H
         refine g.mv rfl fun _ g=>WL.join (ds:=[]) (N:=118) (σ:=Bool) (fun s=>[(100,(.bool s)),(1,(.pointer r)),(13,(.int .u64 r_15)),(14,(.int .i64 r_16)),(17,(.int .i64 r_19))]) (fun s w=>zFh Ret r r_15 r_16 r_19 s w) 5 ?_ (fun hr8=>?_)
         ·intro x100 w a H g
          try dsimp only at H g
          unfold zFh at H
          refine g.mv rfl fun _ g=>WL.join (ds:=[]) (N:=118) (σ:=Bool) (fun s=>[(104,(.bool s)),(1,(.pointer r)),(14,(.int .i64 r_16)),(17,(.int .i64 r_19))]) (fun s w=>zFk Ret r r_16 r_19 s w) 3 ?_ (fun hr9=>?_)
          ·intro x104 w a H g
           try dsimp only at H g
           unfold zFk at H
           refine g.mv rfl fun _ g=>WL.join (ds:=[]) (N:=118) (σ:=Bool) (fun s=>[(108,(.bool s)),(1,(.pointer r)),(17,(.int .i64 r_19))]) (fun s w=>zFS Ret r r_19 s w) 3 ?_ (fun hr10=>?_)
           ·intro x108 w a H g
            try dsimp only at H g
            unfold zFS at H
            refine g.mv rfl fun _ g=>WL.join (ds:=[]) (N:=118) (σ:=Bool) (fun s=>[(112,(.bool s)),(1,(.pointer r))]) (fun s w=>zFY Ret r s w) 3 ?_ (fun hr11=>?_)
            ·intro x112 w a H g
             try dsimp only at H g
             unfold zFY at H
             refine g.mv rfl fun _ g=>WL.join (ds:=[]) (N:=118) (σ:=Bool) (fun s=>[(117,(.bool s))]) (fun s w=>zFU Ret s w) 4 ?_ (fun hr12=>?_)
             ·intro x117 w a H g
              try dsimp only at H g
              unfold zFU at H
              exact g.as_ rfl fun _ g=>zAG (tn (zAf (zAt g rfl rfl ⟨_,rfl,H⟩)))
             ·rcases Bool.eq_false_or_eq_true (x112) with hbr12|hbr12
              ·replace H:=H.1 hbr12
               replace g:=g.bool (b:=true) (t:=113) rfl (hbr12)
               refine g.on (by rfl) (by rfl) (g.mv rfl fun _ g=>(g.on (by rfl) (by rfl) (g.call (zAQ g ent31 rfl rfl) H fun e w H=>?_)))
               obtain ⟨r_20,rfl,H⟩:=H
               exact ⟨_,rfl,fun _ g=>(g.on (by rfl) (by rfl) (g.pur (zGX g rfl rfl) fun _ g=>(g.pur (zAj g rfl rfl) fun _ g=>(hr12 (decide (r_20=2)) _ _ H (g.weak ⟨rfl,trivial⟩)))))⟩
              ·replace H:=H.2 hbr12
               replace g:=g.bool (b:=false) (t:=113) rfl (hbr12)
               exact g.off (by rfl) (by rfl) (by decide) (fun _ g=>(g.off (by rfl) (by rfl) (by decide) (fun _ g=>(g.off (by rfl) (by rfl) (by decide) (fun _ g=>(g.pur (zAi g rfl rfl) fun _ g=>(hr12 false _ _ H (g.weak ⟨rfl,trivial⟩))))))))
            ·rcases Bool.eq_false_or_eq_true (x108) with hbr11|hbr11
             ·replace H:=H.1 hbr11
              replace g:=g.bool (b:=true) (t:=109) rfl (hbr11)
              exact g.on (by rfl) (by rfl) (g.mv rfl fun _ g=>(g.on (by rfl) (by rfl) (g.pur (zGX g rfl rfl) fun _ g=>(g.pur (zAj g rfl rfl) fun _ g=>(hr11 (decide (r_19=10)) _ _ H (g.weak ⟨rfl,rfl,trivial⟩))))))
             ·replace H:=H.2 hbr11
              replace g:=g.bool (b:=false) (t:=109) rfl (hbr11)
              exact g.off (by rfl) (by rfl) (by decide) (fun _ g=>(g.off (by rfl) (by rfl) (by decide) (fun _ g=>(g.pur (zAi g rfl rfl) fun _ g=>(hr11 false _ _ H (g.weak ⟨rfl,rfl,trivial⟩))))))
           ·rcases Bool.eq_false_or_eq_true (x104) with hbr10|hbr10
            ·replace H:=H.1 hbr10
             replace g:=g.bool (b:=true) (t:=105) rfl (hbr10)
             exact g.on (by rfl) (by rfl) (g.mv rfl fun _ g=>(g.on (by rfl) (by rfl) (g.pur (zGX g rfl rfl) fun _ g=>(g.pur (zAj g rfl rfl) fun _ g=>(hr10 (decide (r_16=0)) _ _ H (g.weak ⟨rfl,rfl,rfl,trivial⟩))))))
            ·replace H:=H.2 hbr10
             replace g:=g.bool (b:=false) (t:=105) rfl (hbr10)
             exact g.off (by rfl) (by rfl) (by decide) (fun _ g=>(g.off (by rfl) (by rfl) (by decide) (fun _ g=>(g.pur (zAi g rfl rfl) fun _ g=>(hr10 false _ _ H (g.weak ⟨rfl,rfl,rfl,trivial⟩))))))
          ·rcases Bool.eq_false_or_eq_true (x100) with hbr9|hbr9
           ·replace H:=H.1 hbr9
            replace g:=g.bool (b:=true) (t:=101) rfl (hbr9)
            exact g.on (by rfl) (by rfl) (g.mv rfl fun _ g=>(g.on (by rfl) (by rfl) (g.pur (zGX g rfl rfl) fun _ g=>(g.pur (zAj g rfl rfl) fun _ g=>(hr9 (decide (r_15=2)) _ _ H (g.weak ⟨rfl,rfl,rfl,rfl,trivial⟩))))))
           ·replace H:=H.2 hbr9
            replace g:=g.bool (b:=false) (t:=101) rfl (hbr9)
            exact g.off (by rfl) (by rfl) (by decide) (fun _ g=>(g.off (by rfl) (by rfl) (by decide) (fun _ g=>(g.pur (zAi g rfl rfl) fun _ g=>(hr9 false _ _ H (g.weak ⟨rfl,rfl,rfl,rfl,trivial⟩))))))
         ·rcases Bool.eq_false_or_eq_true (x94) with hbr8|hbr8
          ·replace H:=H.1 hbr8
           replace g:=g.bool (b:=true) (t:=95) rfl (hbr8)
           refine g.on (by rfl) (by rfl) (g.mv rfl fun _ g=>(g.on (by rfl) (by rfl) (g.op (zGM g rfl) H fun x97 w a H g=>(g.on (by rfl) (by rfl) (g.op (zFI g rfl) H fun x98 w a H g=>(g.on (by rfl) (by rfl) (g.call (zAQ g ent28 rfl rfl) H fun e w H=>?_)))))))
           obtain ⟨r_21,rfl,H⟩:=H
           exact ⟨_,rfl,fun _ g=>(g.pur (zAj g rfl rfl) fun _ g=>(hr8 r_21 _ _ H (g.weak ⟨rfl,rfl,rfl,rfl,rfl,trivial⟩)))⟩
          ·replace H:=H.2 hbr8
           replace g:=g.bool (b:=false) (t:=95) rfl (hbr8)
           exact g.off (by rfl) (by rfl) (by decide) (fun _ g=>(g.off (by rfl) (by rfl) (by decide) (fun _ g=>(g.off (by rfl) (by rfl) (by decide) (fun _ g=>(g.off (by rfl) (by rfl) (by decide) (fun _ g=>(g.pur (zAi g rfl rfl) fun _ g=>(hr8 false _ _ H (g.weak ⟨rfl,rfl,rfl,rfl,rfl,trivial⟩))))))))))
        ·rcases Bool.eq_false_or_eq_true (x90) with hbr7|hbr7
         ·replace H:=H.1 hbr7
          replace g:=g.bool (b:=true) (t:=91) rfl (hbr7)
          exact g.on (by rfl) (by rfl) (g.mv rfl fun _ g=>(g.on (by rfl) (by rfl) (g.pur (zGX g rfl rfl) fun _ g=>(g.pur (zAj g rfl rfl) fun _ g=>(hr7 (decide (r_13=0)) _ _ H (g.weak ⟨rfl,rfl,rfl,rfl,rfl,rfl,trivial⟩))))))
         ·replace H:=H.2 hbr7
          replace g:=g.bool (b:=false) (t:=91) rfl (hbr7)
          exact g.off (by rfl) (by rfl) (by decide) (fun _ g=>(g.off (by rfl) (by rfl) (by decide) (fun _ g=>(g.pur (zAi g rfl rfl) fun _ g=>(hr7 false _ _ H (g.weak ⟨rfl,rfl,rfl,rfl,rfl,rfl,trivial⟩))))))
       ·rcases Bool.eq_false_or_eq_true (x86) with hbr6|hbr6
        ·replace H:=H.1 hbr6
         replace g:=g.bool (b:=true) (t:=87) rfl (hbr6)
         exact g.on (by rfl) (by rfl) (g.mv rfl fun _ g=>(g.on (by rfl) (by rfl) (g.pur (zGX g rfl rfl) fun _ g=>(g.pur (zAj g rfl rfl) fun _ g=>(hr6 (decide (r_12=0)) _ _ H (g.weak ⟨rfl,rfl,rfl,rfl,rfl,rfl,rfl,trivial⟩))))))
        ·replace H:=H.2 hbr6
         replace g:=g.bool (b:=false) (t:=87) rfl (hbr6)
         exact g.off (by rfl) (by rfl) (by decide) (fun _ g=>(g.off (by rfl) (by rfl) (by decide) (fun _ g=>(g.pur (zAi g rfl rfl) fun _ g=>(hr6 false _ _ H (g.weak ⟨rfl,rfl,rfl,rfl,rfl,rfl,rfl,trivial⟩))))))
      ·rcases Bool.eq_false_or_eq_true (x82) with hbr5|hbr5
       ·replace H:=H.1 hbr5
        replace g:=g.bool (b:=true) (t:=83) rfl (hbr5)
        exact g.on (by rfl) (by rfl) (g.mv rfl fun _ g=>(g.on (by rfl) (by rfl) (g.pur (zGX g rfl rfl) fun _ g=>(g.pur (zAj g rfl rfl) fun _ g=>(hr5 (decide (r_8=0)) _ _ H (g.weak ⟨rfl,rfl,rfl,rfl,rfl,rfl,rfl,rfl,trivial⟩))))))
       ·replace H:=H.2 hbr5
        replace g:=g.bool (b:=false) (t:=83) rfl (hbr5)
        exact g.off (by rfl) (by rfl) (by decide) (fun _ g=>(g.off (by rfl) (by rfl) (by decide) (fun _ g=>(g.pur (zAi g rfl rfl) fun _ g=>(hr5 false _ _ H (g.weak ⟨rfl,rfl,rfl,rfl,rfl,rfl,rfl,rfl,trivial⟩))))))
     ·rcases Bool.eq_false_or_eq_true (x79) with hbr4|hbr4
      ·replace H:=H.1 hbr4
       replace g:=g.bool (b:=true) (t:=80) rfl (hbr4)
       exact g.on (by rfl) (by rfl) (g.mv rfl fun _ g=>(g.pur (zAj g rfl rfl) fun _ g=>(hr4 r_7 _ _ H (g.weak ⟨rfl,rfl,rfl,rfl,rfl,rfl,rfl,rfl,rfl,trivial⟩))))
      ·replace H:=H.2 hbr4
       replace g:=g.bool (b:=false) (t:=80) rfl (hbr4)
       exact g.off (by rfl) (by rfl) (by decide) (fun _ g=>(g.pur (zAi g rfl rfl) fun _ g=>(hr4 false _ _ H (g.weak ⟨rfl,rfl,rfl,rfl,rfl,rfl,rfl,rfl,rfl,trivial⟩))))
    ·rcases Bool.eq_false_or_eq_true (x75) with hbr3|hbr3
     ·replace H:=H.1 hbr3
      replace g:=g.bool (b:=true) (t:=76) rfl (hbr3)
      exact g.on (by rfl) (by rfl) (g.mv rfl fun _ g=>(g.on (by rfl) (by rfl) (g.pur (zQa g rfl rfl) fun _ g=>(g.pur (zAj g rfl rfl) fun _ g=>(hr3 (decide (r_6=(ByteArray.mk #[49]))) _ _ H (g.weak ⟨rfl,rfl,rfl,rfl,rfl,rfl,rfl,rfl,rfl,rfl,trivial⟩))))))
     ·replace H:=H.2 hbr3
      replace g:=g.bool (b:=false) (t:=76) rfl (hbr3)
      exact g.off (by rfl) (by rfl) (by decide) (fun _ g=>(g.off (by rfl) (by rfl) (by decide) (fun _ g=>(g.pur (zAi g rfl rfl) fun _ g=>(hr3 false _ _ H (g.weak ⟨rfl,rfl,rfl,rfl,rfl,rfl,rfl,rfl,rfl,rfl,trivial⟩))))))
   ·rcases Bool.eq_false_or_eq_true (x71) with hbr2|hbr2
    ·replace H:=H.1 hbr2
     replace g:=g.bool (b:=true) (t:=72) rfl (hbr2)
     exact g.on (by rfl) (by rfl) (g.mv rfl fun _ g=>(g.on (by rfl) (by rfl) (g.pur (zGX g rfl rfl) fun _ g=>(g.pur (zAj g rfl rfl) fun _ g=>(hr2 (decide (r_4=2)) _ _ H (g.weak ⟨rfl,rfl,rfl,rfl,rfl,rfl,rfl,rfl,rfl,rfl,rfl,trivial⟩))))))
    ·replace H:=H.2 hbr2
     replace g:=g.bool (b:=false) (t:=72) rfl (hbr2)
     exact g.off (by rfl) (by rfl) (by decide) (fun _ g=>(g.off (by rfl) (by rfl) (by decide) (fun _ g=>(g.pur (zAi g rfl rfl) fun _ g=>(hr2 false _ _ H (g.weak ⟨rfl,rfl,rfl,rfl,rfl,rfl,rfl,rfl,rfl,rfl,rfl,trivial⟩))))))
  ·rcases Classical.em ((r_1=0)) with hbr1|hbr1
   ·replace H:=H.1 hbr1
    replace g:=g.bool (b:=true) (t:=68) rfl (decide_eq_true hbr1)
    exact g.on (by rfl) (by rfl) (g.mv rfl fun _ g=>(g.on (by rfl) (by rfl) (g.pur (zGX g rfl rfl) fun _ g=>(g.pur (zAj g rfl rfl) fun _ g=>(hr1 (decide (r_2=1)) _ _ H (g.weak ⟨rfl,rfl,rfl,rfl,rfl,rfl,rfl,rfl,rfl,rfl,rfl,rfl,trivial⟩))))))
   ·replace H:=H.2 hbr1
    replace g:=g.bool (b:=false) (t:=68) rfl (decide_eq_false hbr1)
    exact g.off (by rfl) (by rfl) (by decide) (fun _ g=>(g.off (by rfl) (by rfl) (by decide) (fun _ g=>(g.pur (zAi g rfl rfl) fun _ g=>(hr1 false _ _ H (g.weak ⟨rfl,rfl,rfl,rfl,rfl,rfl,rfl,rfl,rfl,rfl,rfl,rfl,trivial⟩))))))
end Go.Proofs.YtealcoghiaeiiaaGreat.VG
set_option linter.unusedVariables false
namespace Go.Proofs.YtealcoghiaeiiaaGreat.VG
open Go.VB Go.Proofs Go.RowKit
theorem zPZ {κ ν:Type} {f:κ→Option ν} {ks D:List κ} (h:Doms f ks) (hD:∀ k v,f k=some v→k∈D):ks.length≤D.length:=zKc h.1 fun k hk=>by
 obtain ⟨v,hv⟩:=(h.2 k).1 hk;exact hD k v hv
theorem zOu (s:St) (n:Int):(overS s n).now=s.now:=by unfold overS swept;split<;>rfl
theorem zOM (s:St) (n:Int):(overS s n).tx=del s.tx n:=by unfold overS swept;split<;>rfl
abbrev t3:ByteArray:=ByteArray.mk #[51]
abbrev l1:List Pai:=[⟨tA,t1⟩]
abbrev v1:Ver:=⟨tA,1,t1,false⟩
abbrev wX:Wri:=⟨tA,t2,false⟩
theorem good1:GoodV [v1] 1:=zOr (by decide) (by decide) (by intro x hx;simp at hx;subst hx;exact ⟨by decide,by decide,fun h=>(nomatch h),by decide,by decide⟩) (by simp)
theorem pwhy1:pwhy [v1] 1 [wX] 2=0:=zLm.2 ⟨good1,zKO.2 ⟨by decide,by intro w hw;simp at hw;subst hw;unfold zGi;decide,by simp [wkeys]⟩,by decide,by decide,by decide,by intro x hx;simp at hx;subst hx;decide,by decide⟩
theorem put1:vput [v1] 1 [wX] 2=(putL [v1] 2 [wX],1,0):=by unfold vput;rw [if_neg (by rw [pwhy1];decide)]
theorem zP2 {s:St} {ks:List Int} (hd:Doms s.tx ks):∃ lo,IsLow s lo:=by
 have:∀ ks:List Int,∃ lo,lo≤s.now∧(∀ k∈ks,∀ t,s.tx k=some t→lo≤t.began)∧(lo=s.now∨∃ k t,s.tx k=some t∧lo=t.began):=by
  intro ks
  induction ks with
  |nil=>exact ⟨s.now,Int.le_refl _,by simp,.inl rfl⟩
  |cons k ks ih=>
   obtain ⟨lo,h1,h2,h3⟩:=ih
   cases ht:s.tx k with
   |none=>exact ⟨lo,h1,fun j hj t hjt=>by
     rcases List.mem_cons.1 hj with e|e
     ·subst e;rw [ht] at hjt;cases hjt
     ·exact h2 j e t hjt,h3⟩
   |some u=>
    by_cases hu:u.began<lo
    ·exact ⟨u.began,by omega,fun j hj t hjt=>by
      rcases List.mem_cons.1 hj with e|e
      ·subst e;rw [ht] at hjt;cases hjt;exact Int.le_refl _
      ·have:=h2 j e t hjt;omega,.inr ⟨k,u,ht,rfl⟩⟩
    ·exact ⟨lo,h1,fun j hj t hjt=>by
      rcases List.mem_cons.1 hj with e|e
      ·subst e;rw [ht] at hjt;cases hjt;omega
      ·exact h2 j e t hjt,h3⟩
 obtain ⟨lo,h1,h2,h3⟩:=this ks
 exact ⟨lo,h1,fun n t ht=>h2 n ((hd.2 n).2 ⟨t,ht⟩) t ht,h3⟩
theorem zSZ {s:St} {n:Int} {v:Ver} (hv:v∈s.l) (hs:s.l.Pairwise vlt) {m:Int} {t:Tx} (ht:s.tx m=some t) (hm:m≠n) (ha:t.began<v.At) (hlow:∃ lo,IsLow (delTx s n) lo):v∈(overS s n).l:=by
 unfold overS swept
 split
 ·rename_i h
  obtain ⟨h1,h2,h3,h4⟩:=zRo h
  show v∈(zJm (delTx s n).l (delTx s n).low (lowOf (delTx s n))).1
  rw [h4]
  obtain ⟨lo,hlo⟩:=hlow
  have h5:lo≤t.began:=hlo.all m t (by show del s.tx n m=_;rw [zG4 _ hm];exact ht)
  have h6:=hlo.eq
  exact (zOF hs).2 ⟨hv,fun y _ _ h=>by omega,fun h=>by omega⟩
 ·exact hv
theorem zSA (w:World) {k:Bool→World→Prop} (H:∀ w',Bel w w'→k true w'):Cl Tryz.prog zLv [].toArray w (fun e w'=>∃ r0:Bool,e=.returned (.bool r0)∧k r0 w'):=by
 refine zLx w k ?_
 unfold zJC
 refine ⟨⟨tA,t1⟩,w,by kernel_rfl,?_⟩
 have hl1:=Rd.lit (c:=zAE.cells) (n:=2) (fun _=>rfl) l1 (by decide) w zGc
 have b1:Bel w (w.alloc (.cells (l1.flatMap zAE.cells).toArray zGc)):=Bel.alloc _ _
 refine ⟨⟨some ⟨w.heap.size,0,none⟩,1,1⟩,(w.alloc (.cells (l1.flatMap zAE.cells).toArray zGc)),by kernel_rfl,?_⟩
 generalize (w.alloc (.cells (l1.flatMap zAE.cells).toArray zGc))=w1 at hl1 b1 ⊢
 have hnl:l1.any plong=false:=by decide
 refine zSs (l:=l1) hl1 (fun h=>absurd h (by decide)) (fun _ h=>absurd h (by rw [hnl];decide)) (fun _ _ h=>absurd (fun j x y hj hx hy=>by simp at hj) h) fun _ _ _ b ρ w2 b2 m2 hρ=>?_
 have b02:=b1.trans b2
 have hρ0:∀ q,q<w.heap.size→ρ q=none:=fun q hq=>hρ q (Nat.lt_of_lt_of_le hq b1.le)
 refine pnilM _ ⟨fun h=>(nomatch h),fun _=>?_⟩
 have hd0:∀ {ks},Doms (newS l1).tx ks→ks.length≤([]:List Int).length:=fun h=>zPZ h fun q v hv=>by cases hv
 refine zOX m2 (by decide) (by decide) rfl (fun ks hks h=>by exfalso;have:=hd0 hks;simp only [List.length_nil] at this;omega) fun ks ρ3 w3 _ _ m3 e3=>?_
 let T0:Tx:=newTx (newS l1)
 have tx1:(begun (newS l1)).tx=upd (fun _=>none) 1 T0:=rfl
 have hd1:∀ {ks},Doms (begun (newS l1)).tx ks→ks.length≤([1]:List Int).length:=fun h=>zPZ h fun q v hv=>by
  by_cases hq:q=1
  ·subst hq;simp
  ·rw [tx1,zB9 _ _ hq] at hv;cases hv
 refine zOX m3 (by show (0:Int)≤0+1;decide) (by show (0:Int)+1<_;decide) (by rw [tx1];exact zB9 _ _ (by show (0:Int)+1+1≠1;decide)) (fun ks hks h=>by exfalso;have:=hd1 hks;simp only [List.length_cons,List.length_nil] at this;omega) fun ks ρ4 w4 _ _ m4 e4=>?_
 have e24:=e3.trans e4
 generalize hS2:begun (begun (newS l1))=S2 at m4
 have n2:S2.now=1:=by rw [← hS2];rfl
 have l2:S2.l=[v1]:=by rw [← hS2];rfl
 have lo2:S2.low=1:=by rw [← hS2];rfl
 have x21:S2.tx 1=some T0:=by rw [← hS2];show upd (begun (newS l1)).tx 2 _ 1=_;rw [zB9 _ _ (by decide),tx1,zEE]
 have x22:S2.tx 2=some T0:=by rw [← hS2];show upd (begun (newS l1)).tx 2 _ 2=_;rw [zEE];rfl
 have x2o:∀ q,q≠1→q≠2→S2.tx q=none:=fun q h1 h2=>by rw [← hS2];show upd (begun (newS l1)).tx 2 _ q=_;rw [zB9 _ _ h2,tx1,zB9 _ _ h1]
 clear hS2
 -- the first gets,and the second
 refine zQr m4 1 tA (fun h=>by rw [x21] at h;cases h) (fun t _ h=>absurd h (by decide)) (fun t ht _ h=>by rw [x21] at ht;cases ht;simp [T0,newTx] at h) fun t ρ5 w5 ht _ _ m5 e5=>?_
 rw [x21] at ht;cases ht
 have hget:tget S2 T0 tA=(t1,true,0):=by
  show vget S2.l S2.low tA 1=_
  rw [l2,lo2,zTB good1 (by decide),show ([v1]:List Ver)=[v1] from rfl,zQF,if_pos ⟨rfl,by decide⟩];rfl
 rw [hget]
 let T1:Tx:=addR T0 (spanK tA)
 have x31:(setTx S2 1 T1).tx 1=some T1:=by simp [setTx,zEE]
 have x32:(setTx S2 1 T1).tx 2=some T0:=by simp only [setTx];rw [zB9 _ _ (by decide)];exact x22
 refine zQr m5 2 tA (fun h=>by rw [x32] at h;cases h) (fun t _ h=>absurd h (by decide)) (fun t ht _ h=>by rw [x32] at ht;cases ht;simp [T0,newTx] at h) fun t ρ6 w6 ht _ _ m6 e6=>?_
 rw [x32] at ht;cases ht
 have e26:=(e24.trans e5).trans e6
 generalize hS4:setTx (setTx S2 1 T1) 2 (addR T0 (spanK tA))=S4 at m6
 have x41:S4.tx 1=some T1:=by rw [← hS4];simp only [setTx];rw [zB9 _ _ (by decide),zEE]
 have x42:S4.tx 2=some T1:=by rw [← hS4];simp only [setTx];rw [zEE]
 have x4o:∀ q,q≠1→q≠2→S4.tx q=none:=fun q h1 h2=>by rw [← hS4];simp only [setTx];rw [zB9 _ _ h2,zB9 _ _ h1];exact x2o q h1 h2
 have n4:S4.now=1:=by rw [← hS4];exact n2
 have l4:S4.l=[v1]:=by rw [← hS4];exact l2
 have lo4:S4.low=1:=by rw [← hS4];exact lo2
 clear hS4
 have hnoW:∀ {ks},Doms T1.wr ks→ks.length≤([]:List ByteArray).length:=fun h=>zPZ h fun q v hv=>by cases hv
 -- both write
 refine zRV 1 tA t2 (zOR m6 1 ⟨tA,t2,false⟩ (fun h=>by rw [x41] at h;cases h) (fun t _ h=>absurd h (by unfold zGi;decide)) (fun t ks ht _ _ hks h=>by rw [x41] at ht;cases ht;have:=hnoW hks;simp only [List.length_nil] at this;exfalso;omega) fun t w7 ht _ _ m7 e7=>?_)
 rw [x41] at ht;cases ht
 let P1:Tx:=putW T1 wX
 let P2:Tx:=putW T1 ⟨tA,t3,false⟩
 have x52:(setTx S4 1 P1).tx 2=some T1:=by simp only [setTx];rw [zB9 _ _ (by decide)];exact x42
 refine zRV 2 tA t3 (zOR m7 2 ⟨tA,t3,false⟩ (fun h=>by rw [x52] at h;cases h) (fun t _ h=>absurd h (by unfold zGi;decide)) (fun t ks ht _ _ hks h=>by rw [x52] at ht;cases ht;have:=hnoW hks;simp only [List.length_nil] at this;exfalso;omega) fun t w8 ht _ _ m8 e8=>?_)
 rw [x52] at ht;cases ht
 have e28:=(e26.trans e7).trans e8
 generalize hS6:setTx (setTx S4 1 P1) 2 (putW T1 ⟨tA,t3,false⟩)=S6 at m8
 have x61:S6.tx 1=some P1:=by rw [← hS6];simp only [setTx];rw [zB9 _ _ (by decide),zEE]
 have x62:S6.tx 2=some P2:=by rw [← hS6];simp only [setTx];rw [zEE]
 have x6o:∀ q,q≠1→q≠2→S6.tx q=none:=fun q h1 h2=>by rw [← hS6];simp only [setTx];rw [zB9 _ _ h2,zB9 _ _ h1];exact x4o q h1 h2
 have n6:S6.now=1:=by rw [← hS6];exact n4
 have l6:S6.l=[v1]:=by rw [← hS6];exact l4
 have lo6:S6.low=1:=by rw [← hS6];exact lo4
 clear hS6
 have few:∀ x:Wri,x.Key=tA→Few (putW T1 x)∧Keyed (putW T1 x):=fun x hx=>by
  have hw:(putW T1 x).wr=upd (fun _=>none) tA x:=by show upd _ x.Key x=_;rw [hx];rfl
  refine ⟨⟨[tA],⟨by simp,fun q=>?_⟩,by decide⟩,fun q y hy=>?_⟩
  ·rw [hw]
   by_cases hq:q=tA
   ·subst hq;simp [zEE]
   ·simp [zB9 _ _ hq,hq]
  ·rw [hw] at hy
   by_cases hq:q=tA
   ·subst hq;rw [zEE] at hy;cases hy;exact hx
   ·rw [zB9 _ _ hq] at hy;cases hy
 have w1:P1.wr=upd (fun _=>none) tA wX:=rfl
 have srt:Sorts P1.wr [wX]:=⟨by simp,fun z=>by
  rw [w1]
  by_cases hq:z.Key=tA
  ·rw [hq,zEE];simp;exact eq_comm
  ·rw [zB9 _ _ hq];simp;intro e;subst e;exact hq rfl⟩
 have noc:S6.l.any (conf P1)=false:=by rw [l6];show (decide ((1:Int)<1)&&_||false)=false;rw [show decide ((1:Int)<1)=false from by decide];rfl
 -- the first commits
 refine zNu m8 1 (fun t ht=>by rw [x61] at ht;cases ht;exact few wX rfl) (by rw [n6];decide) (by rw [n6];decide) (fun h=>by rw [x61] at h;cases h) (fun t ρ' w' ht h=>by rw [x61] at ht;cases ht;rw [noc] at h;cases h) (fun t ρ' w' ht _ h=>by rw [x61] at ht;cases ht;have:=h tA;rw [w1,zEE] at this;cases this)
  (fun t ys ρ' w' ht _ hS _ h=>by
   rw [x61] at ht;cases ht
   rw [hS.one srt,n6,l6,lo6,show (1:Int)+1=2 from rfl,put1] at h
   exact absurd rfl h) fun t ys r ρ9 w9 ht _ hS _ _ m9 e9 hr hq=>?_
 rw [x61] at ht;cases ht
 obtain rfl:=hS.one srt
 rw [n6,l6,lo6,show (1:Int)+1=2 from rfl,put1] at m9
 rw [n6,show (1:Int)+1=2 from rfl]
 have hdm:Doms (delTx (putS S6 (putL [v1] 2 [wX],1,0)) 1).tx [2]:=⟨by simp,fun q=>by
  show q∈[2]↔∃ v,del S6.tx 1 q=some v
  by_cases h1:q=1
  ·subst h1;simp [zKf]
  ·rw [zG4 _ h1]
   by_cases h2:q=2
   ·subst h2;simp [x62]
   ·simp [x6o q h1 h2,h2]⟩
 have hmem:mk 2 wX∈(overS (putS S6 (putL [v1] 2 [wX],1,0)) 1).l:=zSZ (m:=2) (t:=P2) (zNQ.2 (.inr ⟨wX,by simp,rfl⟩)) (zM4 pwhy1) x62 (by decide) (by show (1:Int)<2;decide) (zP2 hdm)
 generalize hS7:overS (putS S6 (putL [v1] 2 [wX],1,0)) 1=S7 at m9 hmem
 have n7:S7.now=2:=by rw [← hS7,zOu];show S6.now+1=2;rw [n6];rfl
 have x72:S7.tx 2=some P2:=by rw [← hS7,zOM,zG4 _ (by decide)];exact x62
 clear hS7
 have con:S7.l.any (conf P2)=true:=List.any_eq_true.2 ⟨_,hmem,by decide⟩
 have e29:=e28.trans e9
 -- the second does not
 refine zNu m9 2 (fun t ht=>by rw [x72] at ht;cases ht;exact few _ rfl) (by rw [n7];decide) (by rw [n7];decide) (fun h=>by rw [x72] at h;cases h) (fun t ρ10 w10 ht _ m10 e10=>?_) (fun t ρ' w' ht h=>by rw [x72] at ht;cases ht;rw [con] at h;cases h) (fun t ys ρ' w' ht h=>by rw [x72] at ht;cases ht;rw [con] at h;cases h) (fun t ys r ρ' w' ht h=>by rw [x72] at ht;cases ht;rw [con] at h;cases h)
 have hr10:WriRd w10 r [wX]:=(zJ0.rd hr).keep fun q h=>by obtain ⟨_,h1,h2⟩:=hq q h;exact e10.blk h1 h2
 have b10:Bel w w10:=(e29.trans e10).base b02 hρ0
 obtain ⟨vs,mb,g,m10⟩:=m10
 have n10:(overS S7 2).now=2:=by rw [zOu];exact n7
 refine ⟨fun _=>?_,fun h=>absurd rfl h⟩
 unfold zFj
 refine ⟨fun _=>?_,fun h=>absurd h (by decide)⟩
 unfold zFq
 refine ⟨fun _=>?_,fun h=>absurd h (by decide)⟩
 unfold zFn
 refine ⟨fun _=>?_,fun h=>absurd h (by decide)⟩
 unfold zFm
 refine ⟨fun _=>?_,fun h=>(nomatch h)⟩
 unfold zFi
 refine ⟨fun _=>?_,fun h=>absurd h (by decide)⟩
 unfold zFl
 refine ⟨fun _=>?_,fun h=>absurd h (by decide)⟩
 unfold zFo
 refine ⟨fun _=>?_,fun h=>absurd h (by decide)⟩
 refine ⟨wX,w10,by kernel_rfl,?_⟩
 have hl2:=Rd.lit (c:=zAD.cells) (n:=3) (fun _=>rfl) [wX] (by decide) w10 zFE
 have b11:Bel w10 (w10.alloc (.cells ([wX].flatMap zAD.cells).toArray zFE)):=Bel.alloc _ _
 refine ⟨⟨some ⟨w10.heap.size,0,none⟩,1,1⟩,(w10.alloc (.cells ([wX].flatMap zAD.cells).toArray zFE)),by kernel_rfl,?_⟩
 generalize (w10.alloc (.cells ([wX].flatMap zAD.cells).toArray zFE))=w11 at hl2 b11 ⊢
 refine zSS (hr10.bel b11) hl2 fun c w12 hc b12=>?_
 obtain rfl:c=true:=hc.2 rfl
 unfold zFh
 refine ⟨fun _=>?_,fun h=>(nomatch h)⟩
 unfold zFk
 refine ⟨fun _=>?_,fun h=>absurd h (by decide)⟩
 unfold zFS
 refine ⟨fun _=>?_,fun h=>absurd h (by decide)⟩
 unfold zFY
 refine ⟨fun _=>?_,fun h=>absurd h (by decide)⟩
 refine zT2 ((m10.bel b11).bel b12) ?_
 unfold zFU
 rw [n10]
 exact H w12 ((b10.trans b11).trans b12)
end Go.Proofs.YtealcoghiaeiiaaGreat.VG
set_option linter.unusedVariables false
namespace Go.Proofs.YtealcoghiaeiiaaGreat.VG
open Go.VB Go.Proofs Go.RowKit
section
variable {κ ν:Type}
theorem zRw {f:κ→Option ν} {ks js:List κ} (h:Doms f ks) (k:Doms f js):ks.length=js.length:=
 Nat.le_antisymm (zKc h.1 fun x hx=>(k.2 x).2 ((h.2 x).1 hx)) (zKc k.1 fun x hx=>(h.2 x).2 ((k.2 x).1 hx))
open Classical in
noncomputable def cnt (f:κ→Option ν):Nat:=if h:∃ ks,Doms f ks then h.choose.length else 0
theorem zNp {f:κ→Option ν} {ks:List κ} (h:Doms f ks):cnt f=ks.length:=by
 have:∃ ks,Doms f ks:=⟨ks,h⟩
 unfold cnt;rw [dif_pos this];exact zRw this.choose_spec h
theorem zOn {f:κ→Option ν} {ks:List κ} (h:Doms f ks) (k:κ) (v:ν):∃ js,Doms (upd f k v) js∧js.length≤ks.length+1∧(f k≠none→js.length=ks.length):=by
 by_cases hk:k∈ks
 ·refine ⟨ks,⟨h.1,fun x=>?_⟩,by omega,fun _=>rfl⟩
  by_cases hx:x=k
  ·subst hx;rw [zEE];exact ⟨fun _=>⟨v,rfl⟩,fun _=>hk⟩
  ·rw [zB9 _ _ hx];exact h.2 x
 ·refine ⟨k::ks,⟨List.nodup_cons.2 ⟨hk,h.1⟩,fun x=>?_⟩,by simp,fun hn=>absurd ((h.2 k).2 (Option.ne_none_iff_exists'.1 hn)) hk⟩
  by_cases hx:x=k
  ·subst hx;rw [zEE];exact ⟨fun _=>⟨v,rfl⟩,fun _=>by simp⟩
  ·rw [zB9 _ _ hx,← h.2 x,List.mem_cons];exact ⟨fun h1=>h1.resolve_left hx,.inr⟩
theorem zP5 {f:κ→Option ν} {ks:List κ} (h:Doms f ks) (k:κ):∃ js,Doms (del f k) js∧js.length≤ks.length:=by
 classical
 refine ⟨ks.filter (fun x=>decide (x≠k)),⟨h.1.sublist List.filter_sublist,fun x=>?_⟩,List.length_filter_le _ _⟩
 rw [List.mem_filter,h.2 x]
 by_cases hx:x=k
 ·subst hx;rw [zKf];simp
 ·rw [zG4 _ hx];simp [hx]
end
section
variable {α:Type} (key:α→ByteArray)
abbrev Rise (ys:List α):Prop:=ys.Pairwise (fun a b=>sLt (key a) (key b)=true)
theorem zSj (x:α):∀ ys:List α,Rise key ys→(∀ y∈ys,key y≠key x)→∃ zs,Rise key zs∧∀ z,z∈zs↔z=x∨z∈ys
 |[],_,_=>⟨[x],by simp,by simp⟩
 |y::ys,h,hk=>by
  obtain ⟨h1,h2⟩:=List.pairwise_cons.1 h
  by_cases c:sLt (key x) (key y)=true
  ·refine ⟨x::y::ys,List.pairwise_cons.2 ⟨fun z hz=>?_,h⟩,by simp⟩
   rcases List.mem_cons.1 hz with e|e
   ·rw [e];exact c
   ·exact zM9 c (h1 z e)
  ·have hyx:sLt (key y) (key x)=true:=zKE c (fun e=>hk y (by simp) e.symm)
   obtain ⟨zs,h3,h4⟩:=zSj x ys h2 (fun z hz=>hk z (by simp [hz]))
   refine ⟨y::zs,List.pairwise_cons.2 ⟨fun z hz=>?_,h3⟩,fun z=>?_⟩
   ·rcases (h4 z).1 hz with e|e
    ·rw [e];exact hyx
    ·exact h1 z e
   ·rw [List.mem_cons,List.mem_cons,h4]
    constructor
    ·rintro (e|e|e)
     ·exact .inr (.inl e)
     ·exact .inl e
     ·exact .inr (.inr e)
    ·rintro (e|e|e)
     ·exact .inr (.inl e)
     ·exact .inl e
     ·exact .inr (.inr e)
theorem zRY:∀ xs:List α,xs.Pairwise (fun a b=>key a≠key b)→∃ ys,Rise key ys∧∀ z,z∈ys↔z∈xs
 |[],_=>⟨[],by simp,by simp⟩
 |x::xs,h=>by
  obtain ⟨h1,h2⟩:=List.pairwise_cons.1 h
  obtain ⟨ys,h3,h4⟩:=zRY xs h2
  obtain ⟨zs,h5,h6⟩:=zSj key x ys h3 (fun y hy e=>h1 y ((h4 y).1 hy) e.symm)
  exact ⟨zs,h5,fun z=>by rw [h6,h4,List.mem_cons]⟩
theorem zSI {xs ys:List α} (h1:Rise key xs) (k1:Rise key ys) (hm:∀ x,x∈xs↔x∈ys):xs=ys:=by
 induction xs generalizing ys with
 |nil=>cases ys with
  |nil=>rfl
  |cons b ys=>exact absurd ((hm b).2 (by simp)) (by simp)
 |cons a xs ih=>
  cases ys with
  |nil=>exact absurd ((hm a).1 (by simp)) (by simp)
  |cons b ys=>
   obtain ⟨h2,h3⟩:=List.pairwise_cons.1 h1
   obtain ⟨k2,k3⟩:=List.pairwise_cons.1 k1
   have hab:a=b:=by
    rcases List.mem_cons.1 ((hm a).1 (by simp)) with e|e
    ·exact e
    ·rcases List.mem_cons.1 ((hm b).2 (by simp)) with e'|e'
     ·exact e'.symm
     ·exact absurd (h2 b e') (zL8 (k2 a e))
   subst hab
   rw [ih h3 k3 (fun x=>?_)]
   constructor
   ·intro hx
    rcases List.mem_cons.1 ((hm x).1 (by simp [hx])) with e|e
    ·subst e;exact absurd (h2 x hx) (zFy _)
    ·exact e
   ·intro hx
    rcases List.mem_cons.1 ((hm x).2 (by simp [hx])) with e|e
    ·subst e;exact absurd (k2 x hx) (zFy _)
    ·exact e
end
open Classical in
noncomputable def zMR (f:ByteArray→Option Wri):List Wri:=if h:∃ ys,Sorts f ys then h.choose else []
theorem zNe {f:ByteArray→Option Wri} {ys:List Wri} (h:Sorts f ys):zMR f=ys:=by
 have:∃ ys,Sorts f ys:=⟨ys,h⟩
 unfold zMR;rw [dif_pos this];exact this.choose_spec.one h
theorem zRx {f:ByteArray→Option Wri} {ks:List ByteArray} (hd:Doms f ks) (hk:∀ k x,f k=some x→x.Key=k):Sorts f (zMR f)∧(zMR f).length=ks.length:=by
 have hnd:(ks.filterMap f).Pairwise (fun x y=>x.Key≠y.Key):=by
  rw [List.pairwise_filterMap]
  refine hd.1.imp fun {a b} hab x hx y hy e=>hab ?_
  rw [← hk a x hx,← hk b y hy,e]
 obtain ⟨ys,h1,h2⟩:=zRY (fun x:Wri=>x.Key) _ hnd
 have hS:Sorts f ys:=⟨h1,fun x=>by
  rw [h2,List.mem_filterMap]
  constructor
  ·rintro ⟨k,_,h⟩
   rw [hk k x h];exact h
  ·exact fun h=>⟨x.Key,(hd.2 _).2 ⟨x,h⟩,h⟩⟩
 rw [zNe hS]
 refine ⟨hS,?_⟩
 rw [← zK8 f ks fun k hk'=>(hd.2 k).1 hk']
 refine Nat.le_antisymm (zKc ?_ fun x hx=>(h2 x).1 hx) (zKc ?_ fun x hx=>(h2 x).2 hx)
 ·exact h1.imp fun {a b} h e=>by subst e;exact zFy _ h
 ·exact hnd.imp fun {a b} h e=>h (by rw [e])
theorem Sorts.keys {f:ByteArray→Option Wri} {ys:List Wri} (h:Sorts f ys):(wkeys ys).Nodup:=by
 unfold wkeys
 rw [List.Nodup,List.pairwise_map]
 exact h.1.imp fun {a b} h e=>by rw [e] at h;exact zFy _ h
def zMZ (f:ByteArray→Option ByteArray) (ys:List Pai):Prop:=Rise (fun p:Pai=>p.Key) ys∧∀ p:Pai,p∈ys↔f p.Key=some p.Val
theorem zMZ.one {f:ByteArray→Option ByteArray} {xs ys:List Pai} (h:zMZ f xs) (k:zMZ f ys):xs=ys:=zSI _ h.1 k.1 fun x=>by rw [h.2,k.2]
open Classical in
noncomputable def zOJ (f:ByteArray→Option ByteArray):List Pai:=if h:∃ ys,zMZ f ys then h.choose else []
theorem zQZ {f:ByteArray→Option ByteArray} {ys:List Pai} (h:zMZ f ys):zOJ f=ys:=by
 have:∃ ys,zMZ f ys:=⟨ys,h⟩
 unfold zOJ;rw [dif_pos this];exact this.choose_spec.one h
def val (l:List Ver) (key:ByteArray) (T:Int):Option ByteArray:=match sees l key T with
 |none=>none
 |some x=>if x.Gone=true then none else some x.Val
theorem zSv (l:List Ver) (key:ByteArray) (T:Int):val l key T=if (outV (sees l key T)).2=true then some (outV (sees l key T)).1 else none:=by
 unfold val
 cases h:sees l key T with
 |none=>rfl
 |some x=>cases hg:x.Gone<;>simp [outV,hg]
theorem zTC {l:List Ver} {low:Int} (h:GoodV l low) (key:ByteArray) (T:Int):outV (sees l key T)=((val l key T).getD noB,(val l key T).isSome):=by
 unfold val
 cases hs:sees l key T with
 |none=>rfl
 |some x=>
  have hm:=h.made (zMY hs).1
  cases hg:x.Gone
  ·simp [outV,hg]
  ·simp [outV,hg,hm.gone hg]
theorem zS3 {l:List Ver} {low0:Int} (hg:GoodV l low0) {low T:Int} (h:low≤T) (key:ByteArray):val (swp low l) key T=val l key T:=by rw [zSv,zSv,zR0 hg h]
theorem zTF {l:List Ver} {low:Int} {m:List Wri} {t T:Int} (h:pwhy l low m t=0) (ha:T<t) (key:ByteArray):val (putL l t m) key T=val l key T:=by unfold val;rw [zRy h ha]
def ovl (wr:ByteArray→Option Wri) (f:ByteArray→Option ByteArray) (key:ByteArray):Option ByteArray:=match wr key with
 |some x=>if x.Gone=true then none else some x.Val
 |none=>f key
structure TxOk (t:Tx):Prop where
 few:Few t
 keyed:Keyed t
 short:∀ k x,t.wr k=some x→¬ zGi x
 bare:∀ k x,t.wr k=some x→x.Gone=true→x.Val=noB
 rds:t.reads.length≤256
structure Inv (s:St):Prop where
 good:GoodV s.l s.low
 lo:1≤s.low
 lonow:s.low≤s.now
 past:∀ x∈s.l,x.At≤s.now
 giv:0≤s.given
 dom:∃ ks,Doms s.tx ks∧ks.length≤16
 num:∀ n t,s.tx n=some t→1≤n∧n≤s.given
 tim:∀ n t,s.tx n=some t→s.low≤t.began∧t.began≤s.now
 txok:∀ n t,s.tx n=some t→TxOk t
theorem Inv.free {s:St} (h:Inv s):s.tx (s.given+1)=none:=by
 cases ht:s.tx (s.given+1) with
 |none=>rfl
 |some t=>have:=h.num _ t ht;omega
abbrev maxT:Int:=2305843009213693952
theorem zSO (s:St):TxOk (newTx s):=⟨⟨[],⟨List.nodup_nil,fun k=>by simp [newTx]⟩,by simp⟩,fun k x h=>(nomatch h),fun k x h=>(nomatch h),fun k x h=>(nomatch h),by simp [newTx]⟩
theorem zO3 {s:St} (h:Inv s) (hc:cnt s.tx<16):Inv (begun s) where
 good:=h.good
 lo:=h.lo
 lonow:=h.lonow
 past:=h.past
 giv:=by show 0≤s.given+1;have:=h.giv;omega
 dom:=by
  obtain ⟨ks,hd,hl⟩:=h.dom
  rw [zNp hd] at hc
  obtain ⟨js,h1,h2,_⟩:=zOn hd (s.given+1) (newTx s)
  exact ⟨js,h1,by omega⟩
 num n t ht:=by
  show 1≤n∧n≤s.given+1
  have hg:=h.giv
  by_cases hn:n=s.given+1
  ·omega
  ·have:=h.num n t (by rw [← zB9 s.tx (newTx s) hn];exact ht);omega
 tim n t ht:=by
  show s.low≤t.began∧t.began≤s.now
  by_cases hn:n=s.given+1
  ·subst hn
   have h1:upd s.tx (s.given+1) (newTx s) (s.given+1)=some t:=ht
   rw [zEE] at h1;cases h1
   exact ⟨h.lonow,Int.le_refl _⟩
  ·exact h.tim n t (by rw [← zB9 s.tx (newTx s) hn];exact ht)
 txok n t ht:=by
  by_cases hn:n=s.given+1
  ·subst hn
   have h1:upd s.tx (s.given+1) (newTx s) (s.given+1)=some t:=ht
   rw [zEE] at h1;cases h1
   exact zSO s
  ·exact h.txok n t (by rw [← zB9 s.tx (newTx s) hn];exact ht)
theorem zMV {s:St} (h:Inv s) {n:Int} {t t':Tx} (ht:s.tx n=some t) (hb:t'.began=t.began) (hk:TxOk t'):Inv (setTx s n t') where
 good:=h.good
 lo:=h.lo
 lonow:=h.lonow
 past:=h.past
 giv:=h.giv
 dom:=by
  obtain ⟨ks,hd,hl⟩:=h.dom
  obtain ⟨js,h1,_,h2⟩:=zOn hd n t'
  exact ⟨js,h1,by rw [h2 (by rw [ht];simp)];exact hl⟩
 num m u hu:=by
  show 1≤m∧m≤s.given
  by_cases hm:m=n
  ·subst hm;exact h.num _ t ht
  ·exact h.num m u (by rw [← zB9 s.tx t' hm];exact hu)
 tim m u hu:=by
  show s.low≤u.began∧u.began≤s.now
  by_cases hm:m=n
  ·subst hm
   have h1:upd s.tx m t' m=some u:=hu
   rw [zEE] at h1;cases h1
   rw [hb];exact h.tim _ t ht
  ·exact h.tim m u (by rw [← zB9 s.tx t' hm];exact hu)
 txok m u hu:=by
  by_cases hm:m=n
  ·subst hm
   have h1:upd s.tx m t' m=some u:=hu
   rw [zEE] at h1;cases h1;exact hk
  ·exact h.txok m u (by rw [← zB9 s.tx t' hm];exact hu)
theorem zPm {t:Tx} (h:TxOk t) (hl:t.reads.length<256) (x:Spn):TxOk (addR t x):=⟨h.few,h.keyed,h.short,h.bare,by simp [addR];omega⟩
theorem zS1 {t:Tx} (h:TxOk t) {x:Wri} (hx:¬ zGi x) (hb:x.Gone=true→x.Val=noB) (hl:t.wr x.Key=none→cnt t.wr<256):TxOk (putW t x) where
 few:=by
  obtain ⟨ks,hd,hk⟩:=h.few
  obtain ⟨js,h1,h2,h3⟩:=zOn hd x.Key x
  refine ⟨js,h1,?_⟩
  by_cases hn:t.wr x.Key=none
  ·have:=hl hn;rw [zNp hd] at this;omega
  ·rw [h3 hn];exact hk
 keyed k y hy:=by
  have h1:upd t.wr x.Key x k=some y:=hy
  by_cases hk:k=x.Key
  ·subst hk;rw [zEE] at h1;cases h1;rfl
  ·rw [zB9 _ _ hk] at h1;exact h.keyed k y h1
 short k y hy:=by
  have h1:upd t.wr x.Key x k=some y:=hy
  by_cases hk:k=x.Key
  ·subst hk;rw [zEE] at h1;cases h1;exact hx
  ·rw [zB9 _ _ hk] at h1;exact h.short k y h1
 bare k y hy:=by
  have h1:upd t.wr x.Key x k=some y:=hy
  by_cases hk:k=x.Key
  ·subst hk;rw [zEE] at h1;cases h1;exact hb
  ·rw [zB9 _ _ hk] at h1;exact h.bare k y h1
 rds:=h.rds
theorem zQ9 {s:St} (h:Inv s) (hn:s.now≤maxT) (n:Int):∃ lo,IsLow (delTx s n) lo∧s.low≤lo∧lo≤s.now∧overS s n={delTx s n with l:=swp lo s.l,low:=lo}:=by
 obtain ⟨ks,hd,_⟩:=h.dom
 obtain ⟨js,hj,_⟩:=zP5 hd n
 obtain ⟨lo,hlo⟩:=zP2 (s:=delTx s n) hj
 have h1:lo≤s.now:=hlo.now
 have h2:s.low≤lo:=by
  rcases hlo.hit with e|⟨m,t,ht,e⟩
  ·rw [e];exact h.lonow
  ·have hm:m≠n:=fun e'=>by subst e';simp [delTx,zKf] at ht
   have ht':s.tx m=some t:=by simpa [delTx,zG4 _ hm] using ht
   rw [e];exact (h.tim m t ht').1
 have hv:zJm (delTx s n).l (delTx s n).low lo=(swp lo s.l,lo,0):=zRm h.good h2 (by unfold maxT at hn;omega)
 refine ⟨lo,hlo,h2,h1,?_⟩
 unfold overS swept
 rw [← hlo.eq,hv]
 rfl
theorem zTI {s:St} {n m:Int} {t:Tx} (h:(overS s n).tx m=some t):m≠n∧s.tx m=some t:=by
 rw [zOM] at h
 have hm:m≠n:=fun e=>by subst e;rw [zKf] at h;cases h
 exact ⟨hm,by rw [zG4 _ hm] at h;exact h⟩
theorem zNM {s:St} (h:Inv s) (hn:s.now≤maxT) (n:Int):Inv (overS s n):=by
 obtain ⟨lo,hlo,h1,h2,he⟩:=zQ9 h hn n
 have htx:∀ m t,(overS s n).tx m=some t→s.tx m=some t:=fun m t ht=>(zTI ht).2
 have h4:=h.lo
 refine ⟨?_,?_,?_,?_,?_,?_,?_,?_,fun m t ht=>h.txok m t (htx m t ht)⟩
 ·rw [he];exact zRz h.good (by unfold maxT at hn;omega)
 ·rw [he];show 1≤lo;omega
 ·rw [he];exact h2
 ·rw [he];exact fun x hx=>h.past x ((zL4 lo s.l).subset hx)
 ·rw [he];exact h.giv
 ·obtain ⟨ks,hd,hl⟩:=h.dom
  obtain ⟨js,hj,hl'⟩:=zP5 hd n
  rw [he];exact ⟨js,hj,by omega⟩
 ·intro m t ht
  have:=h.num m t (htx m t ht)
  rw [he];exact this
 ·intro m t ht
  have h3:=h.tim m t (htx m t ht)
  rw [he] at ht ⊢
  exact ⟨hlo.all m t ht,h3.2⟩
theorem zNO {s:St} (h:Inv s) (hn:s.now≤maxT) (n:Int) {T:Int} (hT:(overS s n).low≤T) (key:ByteArray):val (overS s n).l key T=val s.l key T:=by
 obtain ⟨lo,hlo,h1,h2,he⟩:=zQ9 h hn n
 rw [he] at hT ⊢
 exact zS3 h.good hT key
theorem zQz {s:St} (h:Inv s) {ys:List Wri} (hp:pwhy s.l s.low ys (s.now+1)=0):Inv (putS s (putL s.l (s.now+1) ys,s.low,0)) where
 good:=zSD hp
 lo:=h.lo
 lonow:=by show s.low≤s.now+1;have:=h.lonow;omega
 past x hx:=by
  show x.At≤s.now+1
  rcases zNQ.1 hx with h1|⟨w,_,rfl⟩
  ·have:=h.past x h1;omega
  ·exact Int.le_refl _
 giv:=h.giv
 dom:=h.dom
 num:=h.num
 tim n t ht:=by
  show s.low≤t.began∧t.began≤s.now+1
  have:=h.tim n t ht;omega
 txok:=h.txok
theorem Inv.sorts {s:St} (h:Inv s) {n:Int} {t:Tx} (ht:s.tx n=some t):Sorts t.wr (zMR t.wr):=by
 have hk:=h.txok n t ht
 obtain ⟨ks,hd,hl⟩:=hk.few
 exact (zRx hd hk.keyed).1
abbrev ans0:Ans:=⟨0,0,noB,false,[],[],0⟩
abbrev errA (e:Int):Ans:={ans0 with why:=e}
noncomputable def onTx (s:St) (n:Int) (f:Tx→St × Ans):St × Ans:=match s.tx n with
 |none=>(s,errA 11)
 |some t=>f t
noncomputable def zJJ (s:St):St × Ans:=if 16≤cnt s.tx then (s,errA 3) else (begun s,{ans0 with tx:=s.given+1})
noncomputable def getT (s:St) (n:Int) (key:ByteArray) (t:Tx):St × Ans:=
 if 256<key.size then (s,errA 4) else if 256≤t.reads.length then (s,errA 3)
 else (setTx s n (addR t (spanK key)),{ans0 with val:=(tget s t key).1,is:=(tget s t key).2.1,why:=(tget s t key).2.2})
noncomputable def getD (s:St) (n:Int) (key:ByteArray):St × Ans:=onTx s n (getT s n key)
abbrev spanS (fr to:ByteArray):Spn:=⟨fr,to,false⟩
noncomputable def tview (s:St) (t:Tx) (key:ByteArray):Option ByteArray:=ovl t.wr (fun k=>val s.l k t.began) key
def cut (x:Spn) (f:ByteArray→Option ByteArray) (key:ByteArray):Option ByteArray:=if zHV x key=true then f key else none
noncomputable def scanT (s:St) (n:Int) (fr to:ByteArray) (t:Tx):St × Ans:=
 if 256≤t.reads.length then (s,errA 3)
 else (setTx s n (addR t (spanS fr to)),{ans0 with pairs:=zOJ (cut (spanS fr to) (tview s t))})
noncomputable def scanD (s:St) (n:Int) (fr to:ByteArray):St × Ans:=onTx s n (scanT s n fr to)
open Classical in
noncomputable def zOA (s:St) (n:Int) (x:Wri) (t:Tx):St × Ans:=
 if zGi x then (s,errA 4) else if t.wr x.Key=none∧256≤cnt t.wr then (s,errA 3) else (setTx s n (putW t x),ans0)
noncomputable def zJL (s:St) (n:Int) (x:Wri):St × Ans:=onTx s n (zOA s n x)
open Classical in
noncomputable def zMK (s:St) (n:Int) (t:Tx):St × Ans:=
 if s.l.any (conf t)=true then (overS s n,errA 10)
 else if (∀ k,t.wr k=none) then (overS s n,{ans0 with time:=s.now})
 else if (vput s.l s.low (zMR t.wr) (s.now+1)).2.2≠0 then (overS s n,errA (vput s.l s.low (zMR t.wr) (s.now+1)).2.2)
 else (overS (putS s (vput s.l s.low (zMR t.wr) (s.now+1))) n,{ans0 with done:=zMR t.wr,time:=s.now+1})
noncomputable def zH7 (s:St) (n:Int):St × Ans:=onTx s n (zMK s n)
noncomputable def zL2 (s:St) (n:Int):St × Ans:=onTx s n fun _=>(overS s n,ans0)
noncomputable def doS (s:St) (x:zAr):St × Ans:=
 if x.Kind=1 then zJJ s else if x.Kind=2 then getD s x.Tx x.Key else if x.Kind=3 then scanD s x.Tx x.Key x.To
 else if x.Kind=4 then zJL s x.Tx ⟨x.Key,x.Val,false⟩ else if x.Kind=5 then zJL s x.Tx ⟨x.Key,noB,true⟩
 else if x.Kind=6 then zH7 s x.Tx else if x.Kind=7 then zL2 s x.Tx else (s,errA 15)
inductive Eff (s:St) (x:zAr):St→Ans→Prop
 |no (e:Int):e≠0→Eff s x s (errA e)
 |beg:x.Kind=1→cnt s.tx<16→Eff s x (begun s) {ans0 with tx:=s.given+1}
 |get (t:Tx):x.Kind=2→s.tx x.Tx=some t→x.Key.size≤256→t.reads.length<256→Eff s x (setTx s x.Tx (addR t (spanK x.Key))) {ans0 with val:=(tview s t x.Key).getD noB,is:=(tview s t x.Key).isSome}
 |scan (t:Tx):x.Kind=3→s.tx x.Tx=some t→t.reads.length<256→Eff s x (setTx s x.Tx (addR t (spanS x.Key x.To))) {ans0 with pairs:=zOJ (cut (spanS x.Key x.To) (tview s t))}
 |write (t:Tx) (y:Wri):(x.Kind=4∧y=⟨x.Key,x.Val,false⟩∨x.Kind=5∧y=⟨x.Key,noB,true⟩)→s.tx x.Tx=some t→¬ zGi y→(t.wr y.Key=none→cnt t.wr<256)→Eff s x (setTx s x.Tx (putW t y)) ans0
 |abort (t:Tx):x.Kind=7→s.tx x.Tx=some t→Eff s x (overS s x.Tx) ans0
 |fail (t:Tx) (e:Int):x.Kind=6→s.tx x.Tx=some t→e≠0→Eff s x (overS s x.Tx) (errA e)
 |empty (t:Tx):x.Kind=6→s.tx x.Tx=some t→s.l.any (conf t)=false→(∀ k,t.wr k=none)→Eff s x (overS s x.Tx) {ans0 with time:=s.now}
 |comm (t:Tx) (ys:List Wri):x.Kind=6→s.tx x.Tx=some t→s.l.any (conf t)=false→Sorts t.wr ys→(∃ k,t.wr k≠none)→pwhy s.l s.low ys (s.now+1)=0→Eff s x (overS (putS s (putL s.l (s.now+1) ys,s.low,0)) x.Tx) {ans0 with done:=ys,time:=s.now+1}
theorem zOx {s:St} (h:Inv s) {n:Int} {t:Tx} (ht:s.tx n=some t) (key:ByteArray):tget s t key=((tview s t key).getD noB,(tview s t key).isSome,0):=by
 unfold tget tview ovl
 cases hw:t.wr key with
 |some x=>
  simp only
  cases hg:x.Gone
  ·simp
  ·simp [(h.txok n t ht).bare key x hw hg]
 |none=>
  simp only
  have h0:vask s.l s.low t.began=0:=zLS.2 ⟨h.good,(h.tim n t ht).1⟩
  unfold vget
  rw [if_neg (by simp [h0]),zTC h.good]
theorem zO8 {s:St} {x:zAr} {f:Tx→St × Ans} (h:∀ t,s.tx x.Tx=some t→Eff s x (f t).1 (f t).2):Eff s x (onTx s x.Tx f).1 (onTx s x.Tx f).2:=by
 unfold onTx
 cases ht:s.tx x.Tx with
 |none=>exact .no 11 (by decide)
 |some t=>exact h t ht
theorem zO5 {s:St} {x:zAr} {y:Wri} (hk:x.Kind=4∧y=⟨x.Key,x.Val,false⟩∨x.Kind=5∧y=⟨x.Key,noB,true⟩):Eff s x (zJL s x.Tx y).1 (zJL s x.Tx y).2:=by
 refine zO8 fun t ht=>?_
 unfold zOA
 split
 ·exact .no 4 (by decide)
 ·rename_i h1
  split
  ·exact .no 3 (by decide)
  ·rename_i h2
   exact .write t y hk ht h1 fun h3=>Nat.not_le.1 fun h4=>h2 ⟨h3,h4⟩
theorem zS6 {s:St} (h:Inv s) (hn:s.now+1≤maxT) (x:zAr):Eff s x (doS s x).1 (doS s x).2:=by
 unfold doS
 split
 ·rename_i k
  unfold zJJ
  split
  ·exact .no 3 (by decide)
  ·exact .beg k (by omega)
 split
 ·rename_i k
  refine zO8 fun t ht=>?_
  unfold getT
  split
  ·exact .no 4 (by decide)
  ·split
   ·exact .no 3 (by decide)
   ·rw [zOx h ht]
    exact .get t k ht (by omega) (by omega)
 split
 ·rename_i k
  refine zO8 fun t ht=>?_
  unfold scanT
  split
  ·exact .no 3 (by decide)
  ·exact .scan t k ht (by omega)
 split
 ·rename_i k;exact zO5 (.inl ⟨k,rfl⟩)
 split
 ·rename_i k;exact zO5 (.inr ⟨k,rfl⟩)
 split
 ·rename_i k
  refine zO8 fun t ht=>?_
  have hS:=h.sorts ht
  unfold zMK
  split
  ·exact .fail t 10 k ht (by decide)
  ·rename_i hc
   have hc:=Bool.eq_false_iff.2 hc
   split
   ·rename_i he;exact .empty t k ht hc he
   ·rename_i he
    split
    ·rename_i h3;exact .fail t _ k ht h3
    ·rename_i h3
     obtain ⟨h4,h5⟩:=zTD (Classical.not_not.1 h3)
     rw [h5]
     exact .comm t _ k ht hc hS (Classical.not_forall.1 he) h4
 split
 ·rename_i k;exact zO8 fun t ht=>.abort t k ht
 ·exact .no 15 (by decide)
theorem zSx {s s':St} {a:Ans} {x:zAr} (h:Inv s) (hn:s.now+1≤maxT) (e:Eff s x s' a):Inv s':=by
 cases e with
 |no e _=>exact h
 |beg _ hc=>exact zO3 h hc
 |get t _ ht _ hl=>exact zMV h ht rfl (zPm (h.txok _ t ht) hl _)
 |scan t _ ht hl=>exact zMV h ht rfl (zPm (h.txok _ t ht) hl _)
 |write t y hk ht hy hl=>exact zMV h ht rfl (zS1 (h.txok _ t ht) hy (fun hg=>by rcases hk with ⟨_,e⟩|⟨_,e⟩<;>rw [e] at hg ⊢;cases hg) hl)
 |abort t _ ht=>exact zNM h (by omega) _
 |fail t e _ ht _=>exact zNM h (by omega) _
 |empty t _ ht _ _=>exact zNM h (by omega) _
 |comm t ys _ ht _ _ _ hp=>exact zNM (zQz h hp) hn _
theorem zTW {s s':St} {a:Ans} {x:zAr} (e:Eff s x s' a):s.now≤s'.now∧s'.now≤s.now+1∧s.given≤s'.given∧s'.given≤s.given+1:=by
 have ho:∀ (u:St) n,(overS u n).now=u.now∧(overS u n).given=u.given:=fun u n=>by unfold overS swept;split<;>exact ⟨rfl,rfl⟩
 cases e with
 |no e _=>omega
 |beg _ hc=>show s.now≤s.now∧s.now≤s.now+1∧s.given≤s.given+1∧s.given+1≤s.given+1;omega
 |get t _ ht _ hl=>show s.now≤s.now∧s.now≤s.now+1∧s.given≤s.given∧s.given≤s.given+1;omega
 |scan t _ ht hl=>show s.now≤s.now∧s.now≤s.now+1∧s.given≤s.given∧s.given≤s.given+1;omega
 |write t y hk ht hy hl=>show s.now≤s.now∧s.now≤s.now+1∧s.given≤s.given∧s.given≤s.given+1;omega
 |abort t _ ht=>rw [(ho _ _).1,(ho _ _).2];omega
 |fail t e _ ht _=>rw [(ho _ _).1,(ho _ _).2];omega
 |empty t _ ht _ _=>rw [(ho _ _).1,(ho _ _).2];omega
 |comm t ys _ ht _ _ _ hp=>rw [(ho _ _).1,(ho _ _).2];show s.now≤s.now+1∧s.now+1≤s.now+1∧s.given≤s.given∧s.given≤s.given+1;omega
theorem zTK {s s':St} {a:Ans} {x:zAr} (h:Inv s) (hn:s.now+1≤maxT) (e:Eff s x s' a) {T:Int} (hT:T≤s.now) (hlow:s'.low≤T) (key:ByteArray):val s'.l key T=val s.l key T:=by
 cases e with
 |no e _=>rfl
 |beg _ hc=>rfl
 |get t _ ht _ hl=>rfl
 |scan t _ ht hl=>rfl
 |write t y hk ht hy hl=>rfl
 |abort t _ ht=>exact zNO h (by omega) _ hlow key
 |fail t e _ ht _=>exact zNO h (by omega) _ hlow key
 |empty t _ ht _ _=>exact zNO h (by omega) _ hlow key
 |comm t ys _ ht _ _ _ hp=>rw [zNO (zQz h hp) hn _ hlow key];exact zTF hp (by omega) key
theorem zRq {s s':St} {a:Ans} {x:zAr} (h:Inv s) (e:Eff s x s' a) {n:Int} {t:Tx} (ht:s.tx n=some t) (hx:x.Tx≠n∨x.Kind=1):s'.tx n=some t:=by
 have hover:∀ u:St,x.Kind≠1→u.tx n=some t→(overS u x.Tx).tx n=some t:=fun u hk hu=>by
  rw [zOM,zG4 _ (Ne.symm (hx.resolve_right hk))];exact hu
 have hset:∀ t',x.Kind≠1→(setTx s x.Tx t').tx n=some t:=fun t' hk=>by
  show upd s.tx x.Tx t' n=_
  rw [zB9 _ _ (Ne.symm (hx.resolve_right hk))];exact ht
 cases e with
 |no e _=>exact ht
 |beg _ hc=>
  show upd s.tx (s.given+1) _ n=_
  rw [zB9 _ _ fun e=>by have:=(h.num n t ht).2;omega];exact ht
 |get t _ _ _ hl=>exact hset _ (by omega)
 |scan t _ _ hl=>exact hset _ (by omega)
 |write t y hk _ hy hl=>exact hset _ (by rcases hk with ⟨h,_⟩|⟨h,_⟩<;>omega)
 |abort t _ _=>exact hover _ (by omega) ht
 |fail t e _ _ _=>exact hover _ (by omega) ht
 |empty t _ _ _ _=>exact hover _ (by omega) ht
 |comm t ys _ _ _ _ _ hp=>exact hover _ (by omega) ht
end Go.Proofs.YtealcoghiaeiiaaGreat.VG
set_option linter.unusedVariables false
namespace Go.Proofs.YtealcoghiaeiiaaGreat.VG
open Go.VB Go.Proofs Go.RowKit
theorem zPp (fr to key:ByteArray):zLZ fr to key↔zHV (spanS fr to) key=false:=by
 unfold zLZ zHV
 simp only [Bool.false_eq_true,if_false]
 cases h1:sLt key fr<;>cases h2:sLt key to<;>by_cases h3:to=noB<;>simp [h3]
end Go.Proofs.YtealcoghiaeiiaaGreat.VG
set_option linter.unusedVariables false
set_option linter.unusedSimpArgs false
namespace Go.Proofs.YtealcoghiaeiiaaGreat.VG
open Go.VB Go.Proofs
def zFJ (x13:Sl) (Kl3:Sl→World→Prop) (v:Value) (x16:Option Addr) (x81:Bool) (w:World):Prop:=
 (x81=true→(opE Tryz.prog Value.pointer (Instr.fieldAt 34 (.pointer x16) 0) w (fun x83 w=>opE Tryz.prog Value.string (Instr.loadAt 9 (.pointer x83)) w (fun x84 w=>opE Tryz.prog Value.pointer (Instr.fieldAt 34 (.pointer x16) 1) w (fun x85 w=>opE Tryz.prog Value.string (Instr.loadAt 9 (.pointer x85)) w (fun x86 w=>opE Tryz.prog zAE.v (Instr.build 66 [(0,(.string x84)),(1,(.string x86))].toArray) w (fun x87 w=>opE Tryz.prog Sl.v (Instr.buildSlice 22 1 [(0,(zAE.v x87))].toArray) w (fun x88 w=>opE Tryz.prog Sl.v (Builtin.append_ #[22,22] 22 [(Sl.v x13),(Sl.v x88)].toArray) w (fun x89 w=>Kl3 x89 w)))))))))∧(x81=false→(Kl3 x13 w))
def zGP (Ret:Sl→Int→World→Prop) (x12:Option Addr) (x68:Option Addr) (x13:Sl) (w:World) (Kl3:Sl→World→Prop):Prop:=
 opE Tryz.prog (zOp id id) (Instr.next (.pointer x68) false 0) w (fun r_5 w=>(r_5=none→(Cl Tryz.prog 46 [(Sl.v x13),(.func (.func 47) #[] #[])].toArray w (fun e w=>e=.returned (.tuple [].toArray)∧(Ret x13 0 w))))∧(∀ k v,r_5=some (k,v)→(opE Tryz.prog (fun p:Value × Value=>.tuple [p.1,p.2].toArray) (Instr.entry (.pointer x68)) w (fun x71 w=>opE Tryz.prog Value.pointer (Instr.alloc 34 true (.tuple #[])) w (fun x16 w=>opU Tryz.prog (Instr.storeAt 34 (.pointer x16) x71.2) w (fun w=>opE Tryz.prog Value.pointer (Instr.fieldAt 34 (.pointer x16) 2) w (fun x73 w=>opE Tryz.prog Value.bool (Instr.loadAt 4 (.pointer x73)) w (fun x74 w=>((!x74)=true→(opE Tryz.prog zAm.v (Instr.loadAt 103 (.pointer x12)) w (fun x77 w=>opE Tryz.prog Value.pointer (Instr.fieldAt 34 (.pointer x16) 0) w (fun x78 w=>opE Tryz.prog Value.string (Instr.loadAt 9 (.pointer x78)) w (fun x79 w=>Cl Tryz.prog 45 [(zAm.v x77),(.string x79)].toArray w (fun e w=>∃ (r_6:Bool),e=.returned (.bool r_6)∧(zFJ x13 Kl3 v x16 r_6 w)))))))∧((!x74)=false→(zFJ x13 Kl3 v x16 false w))))))))))
def zJT (x0:Option Addr) (x1:Int) (x2:ByteArray) (x3:ByteArray) (w:World) (Ret:Sl→Int→World→Prop):Prop:=
 Cl Tryz.prog 36 [(.pointer x0),(.int .i64 x1)].toArray w (fun e w=>∃ (r:Option Addr) (r_1:Int),e=.returned (.tuple [(.pointer r),(.int .i64 r_1)].toArray)∧(opE Tryz.prog Value.pointer (Instr.alloc 88 true (.tuple #[])) w (fun x10 w=>opU Tryz.prog (Instr.storeAt 88 (.pointer x10) (.pointer r)) w (fun w=>((r_1≠0)→(Ret Sl.none r_1 w))∧(¬ (r_1≠0)→(opE Tryz.prog Value.pointer (Instr.loadAt 88 (.pointer x10)) w (fun x28 w=>nilOk (.pointer x28)∧(opE Tryz.prog Value.pointer (Instr.fieldAt 92 (.pointer x28) 1) w (fun x30 w=>opE Tryz.prog Sl.v (Instr.loadAt 90 (.pointer x30)) w (fun x31 w=>((256≤(x31.len:Int))→(Ret Sl.none 3 w))∧(¬ (256≤(x31.len:Int))→(opE Tryz.prog zAm.v (Instr.build 103 [(0,(.string x2)),(1,(.string x3))].toArray) w (fun x36 w=>opE Tryz.prog Value.pointer (Instr.alloc 103 true (.tuple #[])) w (fun x12 w=>opU Tryz.prog (Instr.storeAt 103 (.pointer x12) (zAm.v x36)) w (fun w=>regC w (fun C1 w=>opC C1 Tryz.prog Value.pointer (Instr.loadAt 88 (.pointer x10)) (fun x37=>opC C1 Tryz.prog Value.pointer (Instr.loadAt 88 (.pointer x10)) (fun x38=>nilOk (.pointer x38)∧(opC C1 Tryz.prog Value.pointer (Instr.fieldAt 92 (.pointer x38) 1) (fun x40=>opC C1 Tryz.prog Sl.v (Instr.loadAt 90 (.pointer x40)) (fun x41=>opC C1 Tryz.prog zAm.v (Instr.loadAt 103 (.pointer x12)) (fun x42=>opE Tryz.prog Sl.v (Instr.buildSlice 90 1 [(0,(zAm.v x42))].toArray) w (fun x43 w=>C1 w∧(opE Tryz.prog Sl.v (Builtin.append_ #[90,90] 90 [(Sl.v x41),(Sl.v x43)].toArray) w (fun x44 w=>C1 w∧(nilOk (.pointer x37)∧(opC C1 Tryz.prog Value.pointer (Instr.fieldAt 92 (.pointer x37) 1) (fun x46=>opU Tryz.prog (Instr.storeAt 90 (.pointer x46) (Sl.v x44)) w (fun w=>(regC w (fun C2 w=>nilOk (.pointer x0)∧(opC C2 Tryz.prog Value.pointer (Instr.fieldAt 87 (.pointer x0) 0) (fun x50=>opC C2 Tryz.prog zAH.v (Instr.loadAt 69 (.pointer x50)) (fun x51=>opC C2 Tryz.prog Value.pointer (Instr.loadAt 88 (.pointer x10)) (fun x54=>nilOk (.pointer x54)∧(opC C2 Tryz.prog Value.pointer (Instr.fieldAt 92 (.pointer x54) 0) (fun x56=>opC C2 Tryz.prog (Value.int .u64) (Instr.loadAt 37 (.pointer x56)) (fun x57=>Cl Tryz.prog 42 [(zAH.v x51),(.string x2),(.string x3),(.int .u64 x57)].toArray w (fun e w=>∃ (r_2:Sl) (r_3:Int),e=.returned (.tuple [(Sl.v r_2),(.int .i64 r_3)].toArray)∧(C2 w∧(Cl Tryz.prog 43 [(Sl.v r_2),(.func (.func 44) [].toArray [(.pointer x10)].toArray)].toArray w (fun e w=>∃ (r_4:Sl),e=.returned (Sl.v r_4)∧(opE Tryz.prog Value.pointer (Instr.loadAt 88 (.pointer x10)) w (fun x64 w=>nilOk (.pointer x64)∧(opE Tryz.prog Value.pointer (Instr.fieldAt 92 (.pointer x64) 2) w (fun x66 w=>opE Tryz.prog Value.map (Instr.loadAt 89 (.pointer x66)) w (fun x67 w=>opE Tryz.prog Value.pointer (Instr.range 89 (.map x67)) w (fun x68 w=>∃ (I:Sl→World→Prop) (μ:Sl→World→Nat),I r_4 w∧∀ (x13:Sl) w,I x13 w→zGP Ret x12 x68 x13 w (fun x13' w'=>I x13' w'∧μ x13' w'<μ x13 w)))))))))))))))))))))))))))))))))))))))))))))))))
set_option maxRecDepth 100000 in
theorem zMH (x0:Option Addr) (x1:Int) (x2:ByteArray) (x3:ByteArray) (w:World) (Ret:Sl→Int→World→Prop) (H:zJT x0 x1 x2 x3 w Ret):Cl Tryz.prog 17 [(.pointer x0),(.int .i64 x1),(.string x2),(.string x3)].toArray w (fun e w'=>∃ (r0:Sl) (r1:Int),e=.returned (.tuple [(Sl.v r0),(.int .i64 r1)].toArray)∧Ret r0 r1 w'):=by
 unfold zJT at H
 refine zAY 93 (zipE 0 [(.pointer x0),(.int .i64 x1),(.string x2),(.string x3)]) Tryz.func17 rfl rfl (by rfl) rfl ?_
 intro a g
 replace g:Sat [] 93 [(0,(.pointer x0)),(1,(.int .i64 x1)),(2,(.string x2)),(3,(.string x3))] a:=g
 refine zAF (zAA (g.as_ rfl fun _ g=>(g.as_ rfl fun _ g=>(zAG (tn (zAF (zAA (g.mv rfl fun _ g=>(g.mv rfl fun _ g=>(g.call (zAQ g ent36 rfl rfl) H fun e w H=>?_))))))))))
 obtain ⟨r,r_1,rfl,H⟩:=H
 refine ⟨_,rfl,fun _ g=>(g.mv rfl fun _ g=>(g.pur (zAO g rfl rfl) fun _ g=>(g.pur (zAO g rfl rfl) fun _ g=>(g.op (zEH) H fun x10 w a H g=>(g.opu (zAM g rfl rfl) H fun w a H g=>(g.as_ rfl fun _ g=>(zAG (tn (zAF (zAN (zAF (zAA (g.mv rfl fun _ g=>(g.pur (zLw g rfl rfl) fun _ g=>(g.as_ rfl fun _ g=>(zAG (tn (zAR g rfl (fun hc=>?_) (fun hc=>?_)))))))))))))))))))⟩
 ·replace H:=H.1 hc
  exact zAF (zAA (g.mv rfl fun _ g=>(g.as_ rfl fun _ g=>(g.as_ rfl fun _ g=>(zAG (tn (zAf (br (tr (zFz g rfl rfl rfl ⟨_,_,rfl,H⟩))))))))))
 ·replace H:=H.2 hc
  refine zAF (zAA (g.op (zAI g rfl) H fun x28 w a H g=>(g.pur (zAS g rfl H.1) fun _ g=>?_)))
  replace H:=H.2
  refine g.op (zAJ g rfl) H fun x30 w a H g=>g.op (zAI g rfl) H fun x31 w a H g=>g.purR (fun w=>zGm g Tryz.underlying90 rfl) fun _ g=>g.pur (zF7 g rfl rfl) fun _ g=>g.as_ rfl fun _ g=>zAG (tn (zAR g rfl (fun hc=>?_) (fun hc=>?_)))
  ·replace H:=H.1 hc
   exact zAF (zAA (g.as_ rfl fun _ g=>(g.as_ rfl fun _ g=>(zAG (tn (zAf (br (tr (zFz g rfl rfl rfl ⟨_,_,rfl,H⟩)))))))))
  ·replace H:=H.2 hc
   refine zAP (bn (tn (zAF (zAA (g.mv rfl fun _ g=>(g.mv rfl fun _ g=>(g.op (zGM g rfl) H fun x36 w a H g=>(g.op (zEH) H fun x12 w a H g=>(g.opu (zAM g rfl rfl) H fun w a H g=>(zAG (tn (zAF (zR8 10 H 11 (fun C1 w hC0 H=>(g.ko 0 rfl hC0 (zAI g rfl) H fun x37 a H g=>(g.ko 1 rfl hC0 (zAI g rfl) H fun x38 a H g=>(g.kp 2 rfl hC0 (zEL (zAS g rfl H.1)) fun _ g=>?_)))))))))))))))))
   replace H:=H.2
   refine g.ko 3 rfl hC0 (zAJ g rfl) H fun x40 a H g=>g.ko 4 rfl hC0 (zAI g rfl) H fun x41 a H g=>g.ko 5 rfl hC0 (zAI g rfl) H fun x42 a H g=>WK.on 6 rfl ?_
   intro K hK
   refine g.wop (zFI g rfl) H fun x43 w a H g=>hK _ _ ⟨H.1,?_⟩
   have hC1:=H.1
   replace H:=H.2
   refine WK.on 7 rfl ?_
   intro K hK
   refine g.wop (zJv g rfl) H fun x44 w a H g=>hK _ _ ⟨H.1,?_⟩
   have hC2:=H.1
   replace H:=H.2
   refine g.kp 8 rfl hC2 (zEL (zAS g rfl H.1)) fun _ g=>?_
   replace H:=H.2
   refine g.ko 9 rfl hC2 (zAJ g rfl) H fun x46 a H g=>WK.la 10 rfl ?_
   intro K hK
   refine g.wopu (zAM g rfl rfl) H fun w a H g=>hK _ _ (WK.nil (by kernel_rfl) ((tn (zAF (zR8 15 H 16 (fun C2 w hC0 H=>(g.kp 0 rfl hC0 (zEL (zAL g rfl)) fun _ g=>(g.kp 1 rfl hC0 (zEL (zAS g rfl H.1)) fun _ g=>?_))))))))
   replace H:=H.2
   refine g.ko 2 rfl hC0 (zAJ g rfl) H fun x50 a H g=>g.kp 4 rfl hC0 (zEL (zAL g rfl)) fun _ g=>g.kp 5 rfl hC0 (zEL (zAL g rfl)) fun _ g=>g.ko 3 rfl hC0 (zAI g rfl) H fun x51 a H g=>g.ko 6 rfl hC0 (zAI g rfl) H fun x54 a H g=>g.kp 7 rfl hC0 (zEL (zAS g rfl H.1)) fun _ g=>?_
   replace H:=H.2
   refine g.ko 8 rfl hC0 (zAJ g rfl) H fun x56 a H g=>g.ko 9 rfl hC0 (zAI g rfl) H fun x57 a H g=>WK.on 10 rfl ?_
   intro K hK
   refine g.wcall (zAQ g ent42 rfl rfl) H fun e w H=>?_
   obtain ⟨r_2,r_3,rfl,H⟩:=H
   refine ⟨_,rfl,fun _ g=>(hK _ _ ⟨H.1,?_⟩)⟩
   have hC1:=H.1
   replace H:=H.2
   refine g.kp 11 rfl hC1 (zEL (zAL g rfl)) fun _ g=>g.kp 12 rfl hC1 (zEL (zAO g rfl rfl)) fun _ g=>g.kp 13 rfl hC1 (zEL (zAO g rfl rfl)) fun _ g=>g.kp 14 rfl hC1 (zEL (zEX g rfl)) fun _ g=>g.kp 15 rfl hC1 (zEL (zEX g rfl)) fun _ g=>WK.nil (by kernel_rfl) ((tn (zAF (zAA (g.mv rfl fun _ g=>(g.pur (zKM g rfl rfl) fun _ g=>(g.call (zAQ g ent43 rfl rfl) H fun e w H=>?_)))))))
   obtain ⟨r_4,rfl,H⟩:=H
   refine ⟨_,rfl,fun _ g=>(g.as_ rfl fun _ g=>(zAG (tn (zAF (zAF (zAA (g.op (zAI g rfl) H fun x64 w a H g=>(g.pur (zAS g rfl H.1) fun _ g=>?_))))))))⟩
   replace H:=H.2
   refine g.op (zAJ g rfl) H fun x66 w a H g=>g.op (zAI g rfl) H fun x67 w a H g=>g.op (zOG g rfl) H fun x68 w a H g=>zAG (tn (zAN ?_))
   obtain ⟨I_l3,μ_l3,h0,hb⟩:=H
   refine zBl (ds:=[]) (N:=93) (σ:=Sl) (fun s=>[(13,(Sl.v s)),(12,(.pointer x12)),(68,(.pointer x68))]) (fun s w=>I_l3 s w) (fun s w=>μ_l3 s w) r_4 h0 (g.weak ⟨rfl,rfl,rfl,trivial⟩) ?_
   intro x13 w a hI g
   try dsimp only at hI g
   obtain ⟨Kl3,hK_l3⟩:∃ K:Sl→World→Prop,K=(fun x13' w'=>I_l3 x13' w'∧μ_l3 x13' w'<μ_l3 x13 w):=⟨_,rfl⟩
   have H:zGP Ret x12 x68 x13 w Kl3:=by rw [hK_l3];exact hb x13 w hI
   clear hb h0 hI
   unfold zGP at H
   refine zAF (zAA (g.op (zP4 g rfl) H fun r_5 w a H g=>?_))
   rcases r_5 with _|⟨k,v⟩
   ·replace H:=H.1 rfl
    refine g.pur (zAO g rfl rfl) fun _ g=>zAG (tn (zAF (zAV g rfl (fun h=>nomatch h) (fun _=>(zBJ (te (te (be (tn (zAF (zAA (g.mv rfl fun _ g=>(g.call (zAQ g ent46 rfl rfl) H fun e w H=>?_)))))))))))))
    obtain ⟨rfl,H⟩:=H
    exact ⟨_,rfl,fun _ g=>(zAG (tn (zAF (zAA (g.mv rfl fun _ g=>(g.as_ rfl fun _ g=>(g.as_ rfl fun _ g=>(zAG (tn (zAf (zFz g rfl rfl rfl ⟨_,_,rfl,H⟩)))))))))))⟩
   ·replace H:=H.2 _ _ rfl
    refine g.pur (zAO g rfl rfl) fun _ g=>zAG (tn (zAF (zAV g rfl (fun _=>(zAP (tn (zAN (zAF (zAA (g.op (zOS g rfl) H fun x71 w a H g=>(g.pur (zAO g rfl rfl) fun _ g=>(g.op (zEH) H fun x16 w a H g=>(g.opu (zAM g rfl rfl) H fun w a H g=>(zAG (tn (zAF (zAA (g.op (zAJ g rfl) H fun x73 w a H g=>(g.op (zAI g rfl) H fun x74 w a H g=>(g.pur (zGp g rfl) fun _ g=>(g.mv rfl fun _ g=>(WL.join (ds:=[]) (N:=93) (σ:=Bool) (fun s=>[(81,(.bool s)),(12,(.pointer x12)),(13,(Sl.v x13)),(16,(.pointer x16)),(68,(.pointer x68))]) (fun s w=>zFJ x13 Kl3 v x16 s w) 5 ?_ (fun hr4=>?_)))))))))))))))))))) (fun h=>nomatch h))))
    ·intro x81 w a H g
     try dsimp only at H g
     unfold zFJ at H
     refine zAG (tn (zAV g rfl (fun hc=>?_) (fun hc=>?_)))
     ·replace H:=H.1 hc
      refine zAA (g.mv rfl fun _ g=>(g.op (zAJ g rfl) H fun x83 w a H g=>(g.op (zAI g rfl) H fun x84 w a H g=>(g.op (zAJ g rfl) H fun x85 w a H g=>(g.op (zAI g rfl) H fun x86 w a H g=>(g.op (zGM g rfl) H fun x87 w a H g=>(g.op (zFI g rfl) H fun x88 w a H g=>(g.op (zJv g rfl) H fun x89 w a H g=>(g.as_ rfl fun _ g=>?_)))))))))
      rw [hK_l3] at H
      exact zAG (bn (tn ⟨x89,g.weak ⟨rfl,rfl,rfl,trivial⟩,H⟩))
     ·replace H:=H.2 hc
      rw [hK_l3] at H
      exact zAP (bn (tn ⟨x13,g.weak ⟨rfl,rfl,rfl,trivial⟩,H⟩))
    ·rcases Bool.eq_false_or_eq_true ((!x74)) with hbr4|hbr4
     ·replace H:=H.1 hbr4
      replace g:=g.bool (b:=true) (t:=76) rfl (hbr4)
      refine g.on (by rfl) (by rfl) (g.op (zAI g rfl) H fun x77 w a H g=>(g.on (by rfl) (by rfl) (g.op (zAJ g rfl) H fun x78 w a H g=>(g.on (by rfl) (by rfl) (g.op (zAI g rfl) H fun x79 w a H g=>(g.on (by rfl) (by rfl) (g.call (zAQ g ent45 rfl rfl) H fun e w H=>?_)))))))
      obtain ⟨r_6,rfl,H⟩:=H
      exact ⟨_,rfl,fun _ g=>(g.pur (zAj g rfl rfl) fun _ g=>(hr4 r_6 _ _ H (g.weak ⟨rfl,rfl,rfl,rfl,rfl,trivial⟩)))⟩
     ·replace H:=H.2 hbr4
      replace g:=g.bool (b:=false) (t:=76) rfl (hbr4)
      exact g.off (by rfl) (by rfl) (by decide) (fun _ g=>(g.off (by rfl) (by rfl) (by decide) (fun _ g=>(g.off (by rfl) (by rfl) (by decide) (fun _ g=>(g.off (by rfl) (by rfl) (by decide) (fun _ g=>(g.pur (zAi g rfl rfl) fun _ g=>(hr4 false _ _ H (g.weak ⟨rfl,rfl,rfl,rfl,rfl,trivial⟩))))))))))
def zIX (x0:zAE) (x1:Option Addr) (w:World) (Ret:Bool→World→Prop):Prop:=
 opE Tryz.prog Value.pointer (Instr.box 66 (zAE.v x0)) w (fun x2 w=>regC w (fun C1 w=>opC C1 Tryz.prog Value.pointer (Instr.fieldAt 66 (.pointer x2) 0) (fun x11=>opC C1 Tryz.prog Value.pointer (Instr.loadAt 88 (.pointer x1)) (fun x7=>nilOk (.pointer x7)∧(opC C1 Tryz.prog Value.pointer (Instr.fieldAt 92 (.pointer x7) 2) (fun x9=>opC C1 Tryz.prog Value.map (Instr.loadAt 89 (.pointer x9)) (fun x10=>opC C1 Tryz.prog Value.string (Instr.loadAt 9 (.pointer x11)) (fun x12=>opC C1 Tryz.prog (fun p:zAD × Bool=>.tuple [(zAD.v p.1),(.bool p.2)].toArray) (Instr.lookup 89 (.map x10) (.string x12) true) (fun x13=>opE Tryz.prog Value.pointer (Instr.alloc 34 true (.tuple #[])) w (fun x4 w=>C1 w∧(opU Tryz.prog (Instr.storeAt 34 (.pointer x4) (zAD.v x13.1)) w (fun w=>C1 w∧(Ret x13.2 w)))))))))))))
set_option maxRecDepth 100000 in
theorem zLc (x0:zAE) (x1:Option Addr) (w:World) (Ret:Bool→World→Prop) (H:zIX x0 x1 w Ret):Cl Tryz.prog 44 [(zAE.v x0),(.pointer x1)].toArray w (fun e w'=>∃ (r0:Bool),e=.returned (.bool r0)∧Ret r0 w'):=by
 unfold zIX at H
 refine zAY 17 (zipE 0 [(zAE.v x0),(.pointer x1)]) Tryz.func44 rfl rfl (by rfl) rfl ?_
 intro a g
 replace g:Sat [] 17 [(0,(zAE.v x0)),(1,(.pointer x1))] a:=g
 refine zAF (zAA (g.op (zIm g rfl) H fun x2 w a H g=>(g.as_ rfl fun _ g=>(zAG (tn (zAF (zR8 12 H 13 (fun C1 w hC0 H=>(g.ko 4 rfl hC0 (zAJ g rfl) H fun x11 a H g=>(g.ko 0 rfl hC0 (zAI g rfl) H fun x7 a H g=>(g.kp 1 rfl hC0 (zEL (zAS g rfl H.1)) fun _ g=>?_)))))))))))
 replace H:=H.2
 refine g.ko 2 rfl hC0 (zAJ g rfl) H fun x9 a H g=>g.ko 3 rfl hC0 (zAI g rfl) H fun x10 a H g=>g.ko 5 rfl hC0 (zAI g rfl) H fun x12 a H g=>g.ko 6 rfl hC0 (zMf g rfl rfl) H fun x13 a H g=>g.kp 7 rfl hC0 (zEL (zAL g rfl)) fun _ g=>g.kp 8 rfl hC0 (zEL (zAO g rfl rfl)) fun _ g=>g.kp 9 rfl hC0 (zEL (zAO g rfl rfl)) fun _ g=>WK.on 10 rfl ?_
 intro K hK
 refine g.wop (zEH) H fun x4 w a H g=>hK _ _ ⟨H.1,?_⟩
 have hC1:=H.1
 replace H:=H.2
 refine WK.on 11 rfl ?_
 intro K hK
 refine g.wopu (zAM g rfl rfl) H fun w a H g=>hK _ _ ⟨H.1,?_⟩
 have hC2:=H.1
 replace H:=H.2
 exact g.kp 12 rfl hC2 (zEL (zEX g rfl)) fun _ g=>WK.nil (by kernel_rfl) ((tn (zAF (zAA (g.mv rfl fun _ g=>(g.as_ rfl fun _ g=>(zAG (tn (zAf (zAt g rfl rfl ⟨_,rfl,H⟩))))))))))
def zIZ (x0:zAE) (x1:zAE) (w:World) (Ret:Int→World→Prop):Prop:=
 opE Tryz.prog Value.pointer (Instr.box 66 (zAE.v x0)) w (fun x2 w=>opE Tryz.prog Value.pointer (Instr.box 66 (zAE.v x1)) w (fun x3 w=>opE Tryz.prog Value.pointer (Instr.fieldAt 66 (.pointer x2) 0) w (fun x5 w=>opE Tryz.prog Value.string (Instr.loadAt 9 (.pointer x5)) w (fun x6 w=>opE Tryz.prog Value.pointer (Instr.fieldAt 66 (.pointer x3) 0) w (fun x7 w=>opE Tryz.prog Value.string (Instr.loadAt 9 (.pointer x7)) w (fun x8 w=>Cl Tryz.prog 48 [(.string x6),(.string x8)].toArray w (fun e w=>∃ (r:Int),e=.returned (.int .i64 r)∧(Ret r w))))))))
set_option maxRecDepth 100000 in
theorem zLW (x0:zAE) (x1:zAE) (w:World) (Ret:Int→World→Prop) (H:zIZ x0 x1 w Ret):Cl Tryz.prog 47 [(zAE.v x0),(zAE.v x1)].toArray w (fun e w'=>∃ (r0:Int),e=.returned (.int .i64 r0)∧Ret r0 w'):=by
 unfold zIZ at H
 refine zAY 10 (zipE 0 [(zAE.v x0),(zAE.v x1)]) Tryz.func47 rfl rfl (by rfl) rfl ?_
 intro a g
 replace g:Sat [] 10 [(0,(zAE.v x0)),(1,(zAE.v x1))] a:=g
 refine zAF (zAA (g.op (zIm g rfl) H fun x2 w a H g=>(g.op (zIm g rfl) H fun x3 w a H g=>(g.as_ rfl fun _ g=>(zAG (tn (zAF (zAA (g.op (zAJ g rfl) H fun x5 w a H g=>(g.op (zAI g rfl) H fun x6 w a H g=>(g.op (zAJ g rfl) H fun x7 w a H g=>(g.op (zAI g rfl) H fun x8 w a H g=>(g.call (zAQ g ent48 rfl rfl) H fun e w H=>?_)))))))))))))
 obtain ⟨r,rfl,H⟩:=H
 exact ⟨_,rfl,fun _ g=>(g.as_ rfl fun _ g=>(zAG (tn (zAf (zAt g rfl rfl ⟨_,rfl,H⟩)))))⟩
end Go.Proofs.YtealcoghiaeiiaaGreat.VG
set_option linter.unusedVariables false
set_option linter.unusedSimpArgs false
namespace Go.VB
open Go.RowKit
section
variable {P:Program} {w:World} {α:Type} {c:α→List Value} {n e t base:Nat} {s:Sl}
theorem OwnS.cut {xs:List α} (hO:OwnS c n e base w s xs) (hc:∀ x,(c x).length=n) {i:Nat} (hi:i≤xs.length) (hpos:0<xs.length):OwnS c n e base w (s.sub 0 i n) (xs.take i):=by
 obtain ⟨g,cap,cur,rfl,hh,hcap,hm,hsz,htk,hb⟩:=hO.at hpos
 have hsmall:=hO.small
 simp only at hsmall
 have e1:(⟨some ⟨g,0,none⟩,xs.length,cap⟩:Sl).sub 0 i n=⟨some ⟨g,0,none⟩,i,cap⟩:=by
  unfold Sl.sub;simp [show ¬ cap=0 by omega,Addr.add]
 rw [e1]
 refine ⟨by simp;omega,by show i≤_;omega,?_,.inr ⟨g,cap,cur,rfl,hb,hh,by show i≤cap;omega,hm,hsz,?_⟩⟩
 ·rw [zLo hc,List.length_take];show min i xs.length*n=i*n;rw [Nat.min_eq_left hi]
 ·have h2:xs=xs.take i++xs.drop i:=(List.take_append_drop i xs).symm
  have h3:(xs.flatMap c).take (i*n)=(xs.take i).flatMap c:=by
   conv=>lhs;rw [h2,List.flatMap_append]
   have hl:((xs.take i).flatMap c).length=i*n:=by rw [zLo hc,List.length_take,Nat.min_eq_left hi]
   rw [List.take_append,List.take_of_length_le (by omega),hl];simp
  rw [← h3,← htk,List.take_take,Nat.min_eq_left (Nat.mul_le_mul_right _ hi)]
theorem zQR {xs:List α} (hO:OwnS c n e base w s xs) (hc:∀ x,(c x).length=n) (hu:P.underlying t=some (.slice e)) (hs:∀ w,(sizeOf e).run P w=.ok n w)
  {z:Value} (hz:∀ w,(zeroValue e).run P w=.ok z w) (hzn:z.cells.size=n) (hz1:z.cells.toList.all (·.oneCell')=true) (hn:0<n) {i:Nat} (hi:i<xs.length) {ty:TypeId} {k:Sl→World→Prop}
  (H:∀ w',OwnS c n e base w' (s.sub 0 i n) (xs.take i)→w.grownBy w' (Sl.v s).ownBlock→(Sl.v (s.sub 0 i n)).ownBlock=(Sl.v s).ownBlock→k (s.sub 0 i n) w'):
  opE P Sl.v (Instr.sliceAt t (Sl.v s) (some (.int .i64 (i:Int))) none none) w (fun y w=>opE P (fun _:Unit=>.tuple #[]) (Builtin.clear_ #[t] ty [Sl.v y].toArray) w (fun z w=>opE P Sl.v (Instr.sliceAt t (Sl.v s) none (some (.int .i64 (i:Int))) none) w k)):=by
 obtain ⟨g,cap,cur,rfl,hh,hcap,hm,hsz,htk,hb⟩:=hO.at (by omega)
 have hsmall:=hO.small
 simp only at hsmall
 have e1:(⟨some ⟨g,0,none⟩,xs.length,cap⟩:Sl).sub 0 i n=⟨some ⟨g,0,none⟩,i,cap⟩:=by
  unfold Sl.sub;simp [show ¬ cap=0 by omega,Addr.add]
 refine ⟨_,w,zR3 hu hs (by show i≤xs.length;omega),?_⟩
 have e2:(⟨some ⟨g,0,none⟩,xs.length,cap⟩:Sl).sub i xs.length n=⟨some ⟨g,i*n,none⟩,xs.length - i,cap - i⟩:=by
  unfold Sl.sub
  simp only
  rw [if_neg (by omega)]
  simp [add_plain']
 rw [e2]
 obtain ⟨m,hm1⟩:∃ m,xs.length - i=m+1:=⟨xs.length - i - 1,by omega⟩
 let zs:List Value:=(Builtin.zeroCells z.cells (m+1)).toList
 have hzl:zs.length=(m+1)*n:=by show (Builtin.zeroCells z.cells (m+1)).toList.length=_;rw [Array.length_toList,size_zeroCells,hzn]
 have hz2:∀ v∈zs,v.oneCell'=true:=fun v hv=>by
  have hv':v∈Builtin.zeroCells z.cells (m+1):=by simpa [zs] using hv
  unfold Builtin.zeroCells at hv'
  obtain ⟨j,hj,rfl⟩:=Array.mem_map.1 hv'
  have hlt:j % z.cells.size<z.cells.size:=Nat.mod_lt _ (by omega)
  rw [getElem!_pos z.cells _ hlt]
  rw [List.all_eq_true] at hz1
  exact hz1 _ (by simp)
 have hin:i*n+zs.length≤cur.size:=by
  rw [hzl,hsz,← Nat.add_mul];exact Nat.mul_le_mul_right _ (by omega)
 have hst:=run_storeCells_at (P:=P) g (i*n) e zs 0 cur w hh (by simpa using hin) hz2
 have hcl:(Builtin.clear_ #[t] ty [Sl.v ⟨some ⟨g,i*n,none⟩,xs.length - i,cap - i⟩].toArray).run P w=.ok (.tuple #[]) (w.setRow g (cur.toList.take (i*n)++zs++cur.toList.drop (i*n+zs.length)).toArray):=by
  have hst':(storeCells ⟨g,i*n,none⟩ (Builtin.zeroCells z.cells (m+1)).toList).run P w=.ok () (w.setRow g (cur.toList.take (i*n)++zs++cur.toList.drop (i*n+zs.length)).toArray):=by simpa using hst
  rw [hm1]
  simp only [Builtin.clear_,Sl.v]
  simp [run_underlying hu,hz w,hst']
 refine ⟨(),_,hcl,?_⟩
 refine ⟨_,_,zSC hu hs (by show i≤cap;omega),?_⟩
 refine H _ ?_ (zJ3 w g _) (by rw [e1];rfl)
 rw [e1]
 have h1:=hO.cut hc (i:=i) (by omega) (by omega)
 rw [e1] at h1
 refine ⟨h1.len,h1.small,h1.row.1,.inr ⟨g,cap,_,rfl,hb,zKW hh,by show i≤cap;omega,hm,?_,?_⟩⟩
 ·simp only [List.size_toArray,List.length_append,List.length_take,List.length_drop,Array.length_toList]
  rw [← hsz];omega
 ·rcases h1.row.2 with ⟨h2,_⟩|⟨g',cap',cur',h2,_,h4,_,_,_,h8⟩
  ·cases h2
  ·injection h2 with h2 h3 h5
   injection h2 with h2
   injection h2 with h2
   subst h2
   rw [hh] at h4
   injection h4 with h4
   injection h4 with h4
   subst h4
   rw [← h8]
   show ((cur.toList.take (i*n)++zs++cur.toList.drop (i*n+zs.length))).take (i*n)=cur.toList.take (i*n)
   have hl:(cur.toList.take (i*n)).length=i*n:=by rw [List.length_take,Array.length_toList];omega
   rw [List.append_assoc,List.take_append,List.take_of_length_le (by omega),hl];simp
end
end Go.VB
namespace Go.Proofs.YtealcoghiaeiiaaGreat.VG
open Go.VB Go.VB.Srt Go.Proofs Go.RowKit
abbrev ElemP:zKu Tryz.prog zFV zGc 2 zAE.cells zAE.v:=zKu.agg zGF zFR (fun _=>rfl) (fun _=>rfl) (by decide)
theorem zM7 {w:World} {x:Sl} {l:List Pai} (hd:PaiRd w x l) {fv:Value} {p:Pai→Bool} (hp:zKm fv p l w) {k:Int→World→Prop}
  (H0:l.any p=false→∀ w',Bel w w'→k (-1) w')
  (H1:∀ (n:Nat) d,l[n]?=some d→p d=true→(l.take n).any p=false→∀ w',Bel w w'→k (n:Int) w'):
  Cl Tryz.prog zIY [Sl.v x,fv].toArray w (fun e w'=>∃ r0:Int,e=.returned (.int .i64 r0)∧k r0 w'):=by
 have dbig:=hd.big;have dcap:=hd.cap;have dlen:=hd.len
 refine zGA x _ w _ ?_
 unfold zEC
 refine ⟨fun i w1=>∃ n:Nat,i=(n:Int)∧n≤l.length∧Bel w w1∧(l.take n).any p=false,fun i _=>(x.len - i).toNat,⟨0,rfl,by omega,Bel.refl _,by simp⟩,?_⟩
 rintro i w1 ⟨n,rfl,hn,hb,hno⟩
 unfold zCY
 refine ⟨fun hc=>?_,fun hc=>?_⟩
 ·obtain ⟨d,hdn⟩:=getE (l:=l) (n:=n) (by omega)
  refine zLL (hd.bel hb) zFR zGe (by omega) (x:=d) (by simpa using hdn) fun ad hA=>?_
  refine zII zGF d rfl hA rfl ?_
  refine hp d (List.mem_of_getElem? hdn) w1 _ hb fun w2 b2=>⟨fun ht=>?_,fun hf=>?_⟩
  ·exact H1 n d hdn ht hno w2 (hb.trans b2)
  ·rw [wr64 (by omega) (by omega)]
   exact ⟨⟨n+1,by omega,by omega,hb.trans b2,by rw [zNN hdn p hno];exact hf⟩,by dsimp only;omega⟩
 ·obtain rfl:n=l.length:=by omega
  rw [List.take_length] at hno
  exact H0 hno w1 hb
theorem zNl {α:Type} {l:List α} {p:α→Bool} (h:l.any p=false):l.filter (fun x=>!p x)=l:=by
 rw [List.filter_eq_self]
 intro x hx
 cases hp:p x with
 |false=>rfl
 |true=>rw [List.any_eq_true.2 ⟨x,hx,hp⟩] at h;cases h
theorem zQ5 {base:Nat} {w:World} {x:Sl} {l:List Pai} (hO:zGk base w x l) {fv:Value} {p:Pai→Bool} {C:World→Prop} (hw:C w)
  (hC:∀ W W' row,C W→W.grownBy W' row→(∀ q,row=some q→(Sl.v x).ownBlock=some q)→C W') (hp:∀ W,C W→zKm fv p l W) {k:Sl→World→Prop}
  (H:∀ r w',zGk base w' r (l.filter fun d=>!p d)→w.grownBy w' (Sl.v x).ownBlock→(∀ q,(Sl.v r).ownBlock=some q→(Sl.v x).ownBlock=some q)→k r w'):
  Cl Tryz.prog zIT [Sl.v x,fv].toArray w (fun e w'=>∃ r0:Sl,e=.returned (Sl.v r0)∧k r0 w'):=by
 have dsm:=hO.small;have dlen:=hO.len
 have hCb:∀ {W W'},C W→Bel W W'→C W':=fun h hb=>hC _ _ none h (zAT hb none) (fun q e=>by cases e)
 refine zIL x _ w k ?_
 unfold zEp
 refine zM7 (zGk.rd hO) (hp w hw) (fun hno w1 b1=>⟨fun _=>?_,fun h=>absurd rfl h⟩) fun n d hd hpd hno w1 b1=>⟨fun h=>by omega,fun _=>?_⟩
 ·exact H x w1 (by rw [zNl hno];exact hO.bel b1) (zAT b1 _) fun q h=>h
 have hnl:n<l.length:=(List.getElem?_eq_some_iff.1 hd).1
 obtain ⟨ad0,had,-⟩:=(zGk.rd hO).cells n d hd
 rw [wr64 (by omega) (by omega)]
 refine ⟨fun a c W=>∃ (i j:Nat) (ys:List Pai),a=(i:Int)∧c=(j:Int)∧j≤l.length∧i<j∧zGk base W x ys∧ys.length=l.length∧ys.take i=(l.take j).filter (fun d=>!p d)∧ys.drop j=l.drop j∧C W∧w.grownBy W (Sl.v x).ownBlock,fun _ c _=>(x.len - c).toNat,
  ⟨n,n+1,l,rfl,by omega,by omega,by omega,hO.bel b1,rfl,?_,rfl,hCb hw b1,zAT b1 _⟩,?_⟩
 ·rw [zIx hd,List.filter_append,zNl hno];simp [hpd]
 rintro a c W ⟨i,j,ys,rfl,rfl,hj,hij,hOW,hyl,htk,hdr,hCW,hg⟩
 unfold zDc
 refine ⟨fun hc=>?_,fun hc=>?_⟩
 ·obtain ⟨e,he⟩:=getE (l:=l) (n:=j) (by omega)
  have hye:ys[j]?=some e:=by
   have h1:=congrArg (fun m=>m[0]?) hdr
   simpa [he] using h1
  have hfs:(l.take (j+1)).filter (fun d=>!p d)=(l.take j).filter (fun d=>!p d)++(if p e=true then [] else [e]):=by
   rw [zIx he,List.filter_append];cases hpe:p e<;>simp [hpe]
  refine zLL (zGk.rd hOW) zFR zGe (by omega) (x:=e) (by simpa using hye) fun ad hA=>?_
  refine zII zGF e rfl hA rfl ?_
  refine zJb zND rfl zGF (cs:=e.cells) rfl rfl rfl fun B W1 b2 hX hB=>?_
  refine zII zGF e rfl hX.at rfl ?_
  have hC1:=hCb hCW b2
  refine hp W1 hC1 e (List.mem_of_getElem? he) W1 _ (Bel.refl _) fun W2 b3=>⟨fun hn=>?_,fun hn=>?_⟩
  ·have hpe:p e=false:=by simpa using hn
   have hC2:=hCb hC1 b3
   have hO2:=(hOW.bel b2).bel b3
   refine zII zGF e rfl (hX.bel b3).at rfl ?_
   have hR2:=zGk.rd hO2
   obtain ⟨y0,hy0⟩:=getE (l:=ys) (n:=i) (by omega)
   have had2:x.a=some ad0:=had
   refine ⟨_,W2,zNU zFR zGe had2 (by omega) (by omega),?_⟩
   obtain ⟨W3,hs3,hO3,hg3⟩:=zNg ElemP hO2 (i:=i) (by omega) e had2
   refine ⟨W3,by simpa using hs3,?_⟩
   unfold zBM
   rw [wr64 (by omega) (by omega),wr64 (by omega) (by omega)]
   refine ⟨⟨i+1,j+1,ys.set i e,by omega,by omega,by omega,by omega,hO3,by simp [hyl],?_,?_,hC _ _ _ hC2 hg3 (fun q h=>h),zAK (zAK hg (zAT (b2.trans b3) _)) hg3⟩,by dsimp only;omega⟩
   ·rw [hfs,← htk,List.take_set,zIx hy0,if_neg (by simp [hpe])]
    rw [List.set_append_right _ _ (by rw [List.length_take];exact Nat.min_le_left _ _),List.length_take,Nat.min_eq_left (by omega)];simp
   ·rw [List.drop_set_of_lt (by omega),← List.drop_drop,← List.drop_drop,hdr]
  ·have hpe:p e=true:=by simpa using hn
   unfold zBM
   rw [wr64 (by omega) (by omega)]
   refine ⟨⟨i,j+1,ys,rfl,by omega,by omega,by omega,(hOW.bel b2).bel b3,hyl,?_,?_,hCb hC1 b3,zAK hg (zAT (b2.trans b3) _)⟩,by dsimp only;omega⟩
   ·rw [hfs,htk,if_pos hpe,List.append_nil]
   ·rw [← List.drop_drop,← List.drop_drop,hdr]
 ·obtain rfl:j=l.length:=by omega
  rw [List.take_length] at htk
  refine zQR hOW (fun _=>rfl) zFR zGe zPc rfl rfl (by decide) (by omega) fun W' hO' hg' hb'=>?_
  exact H _ W' (by rw [← htk];exact hO') (zAK hg hg') fun q hq=>by rw [← hb'];exact hq
end Go.Proofs.YtealcoghiaeiiaaGreat.VG
set_option linter.unusedVariables false
set_option linter.unusedSimpArgs false
namespace Go.VB
open Go.RowKit
section
variable {P:Program} {w:World} {α:Type} {c:α→List Value} {n e t bytes base:Nat}
theorem zTP {s:Sl} {xs:List α} {x:α} {vx:Value} (hO:OwnS c n e base w s xs) (hc:∀ x,(c x).length=n) (h1:∀ x,(c x).all (·.oneCell')=true) (hn:0<n)
  (hu:P.underlying t=some (.slice e)) {z:Value} (hi:(P.info? e).map (fun i=>(i.zero,i.size,i.bytes))=some (some z,n,bytes)) (hz:z.cells.size=n) (hby:0<bytes)
  (hbs:∀ w,(Instr.buildSlice t 1 [(0,vx)].toArray).run P w=.ok (Sl.v ⟨some ⟨w.heap.size,0,none⟩,1,1⟩) (w.alloc (.cells (c x).toArray e)))
  (hbw:base≤w.heap.size) (room:(xs.length+1)*bytes≤140737488355328) {J:World→Prop} (hJ:∀ w',Bel w w'→J w') {k:Sl→World→Prop} {ty:TypeId}
  (H:∀ s' w',OwnS c n e base w' s' (xs++[x])→w.grownBy w' (Sl.v s).ownBlock→(∀ q,(Sl.v s').ownBlock=some q→(Sl.v s).ownBlock=some q∨w.heap.size≤q)→k s' w'):
  opE P Sl.v (Instr.buildSlice t 1 [(0,vx)].toArray) w (fun y w=>J w∧opE P Sl.v (Builtin.append_ #[t,t] ty [Sl.v s,Sl.v y].toArray) w k):=by
 obtain ⟨y,w1,hr,h2⟩:=zQ0 (k:=k) (ty:=ty) hO hc h1 hn hu hi hz hby hbs hbw room H
 refine ⟨y,w1,hr,hJ w1 ?_,h2⟩
 have:=(hbs w).symm.trans hr
 injection this with _ e1
 rw [← e1];exact Bel.alloc _ _
end
end Go.VB
namespace Go.Proofs.YtealcoghiaeiiaaGreat.VG
open Go.VB Go.VB.Srt Go.Proofs Go.RowKit
theorem zO0 {l:List Ver} {key:ByteArray}:∀ (i:Nat) (x:Ver),l[i]?=some x→x.Key=key→∃ j y,l[j]?=some y∧y.Key=key∧∀ m z,j=m+1→l[m]?=some z→z.Key≠key
 |0,x,h,hk=>⟨0,x,h,hk,fun m z e=>by omega⟩
 |i+1,x,h,hk=>by
  obtain ⟨y,hy⟩:=getV (l:=l) (n:=i) (by have:=(List.getElem?_eq_some_iff.1 h).1;omega)
  by_cases hyk:y.Key=key
  ·exact zO0 i y hy hyk
  ·exact ⟨i+1,x,h,hk,fun m z e hz=>by
    obtain rfl:m=i:=by omega
    rw [hy] at hz;cases hz;exact hyk⟩
theorem zQ2 {fr to key:ByteArray} {l:List Ver} {T:Int} {p:Pai}:p∈one fr to key (sees l key T)↔p.Key=key∧cut (spanS fr to) (fun k=>val l k T) key=some p.Val:=by
 have h0:=zPp fr to key
 show p∈one fr to key (sees l key T)↔p.Key=key∧(if zHV (spanS fr to) key=true then val l key T else none)=some p.Val
 unfold one
 by_cases ho:zLZ fr to key
 ·rw [if_pos ho,if_neg (by rw [h0.1 ho];decide)];simp
 ·have hs:zHV (spanS fr to) key=true:=by
   cases h:zHV (spanS fr to) key with
   |true=>rfl
   |false=>exact absurd (h0.2 h) ho
  rw [if_neg ho,if_pos hs]
  unfold val
  cases hse:sees l key T with
  |none=>simp
  |some x=>
   simp only
   cases hg:x.Gone
   ·simp only [Bool.false_eq_true,if_false,List.mem_singleton,Option.some.injEq]
    constructor
    ·rintro rfl;exact ⟨rfl,rfl⟩
    ·rintro ⟨h1,h2⟩;obtain ⟨a,b⟩:=p;simp at h1 h2;rw [h1,h2]
   ·simp
theorem zPf {l:List Ver} (hs:l.Pairwise vlt) (fr to:ByteArray) (T:Int):zMZ (cut (spanS fr to) fun k=>val l k T) (zJe l fr to T l.length):=by
 have hp:∀ i p,p∈pick l fr to T i→∃ x,l[i]?=some x∧(∀ j y,i=j+1→l[j]?=some y→y.Key≠x.Key)∧p.Key=x.Key∧cut (spanS fr to) (fun k=>val l k T) p.Key=some p.Val:=fun i p hp=>by
  unfold pick at hp
  cases hx:l[i]? with
  |none=>rw [hx] at hp;cases hp
  |some x=>
   rw [hx] at hp
   simp only at hp
   split at hp
   ·cases hp
   ·rename_i hn
    obtain ⟨h1,h2⟩:=zQ2.1 hp
    exact ⟨x,rfl,fun j y e hy hk=>hn ⟨j,y,e,hy,hk⟩,h1,by rw [h1];exact h2⟩
 refine ⟨?_,fun p=>?_⟩
 ·unfold zJe
  rw [Rise,List.pairwise_flatMap]
  refine ⟨fun i _=>?_,?_⟩
  ·have:=zP1 l fr to T i
   match pick l fr to T i,this with
   |[],_=>simp
   |[a],_=>simp
  ·refine List.pairwise_lt_range.imp fun {i j} hij p hpi q hqj=>?_
   obtain ⟨x,hx,hx1,hx2,_⟩:=hp i p hpi
   obtain ⟨y,hy,hy1,hy2,_⟩:=hp j q hqj
   rw [hx2,hy2]
   refine zRF hs hij hx hy fun e=>?_
   obtain ⟨z,hz⟩:=getV (l:=l) (n:=j - 1) (by have:=(List.getElem?_eq_some_iff.1 hy).1;omega)
   have hzy:=hy1 (j - 1) z (by omega) hz
   rcases Nat.lt_or_ge i (j - 1) with h|h
   ·have h1:=zPu hs h hx hz
    have h2:=zPu hs (show j - 1<j by omega) hz hy
    rw [← e] at h2 hzy
    exact h1 (zKE h2 (fun e'=>hzy e'.symm))
   ·obtain rfl:i=j - 1:=by omega
    rw [hx] at hz;cases hz;exact hzy e
 ·constructor
  ·intro h
   obtain ⟨i,_,hi⟩:=List.mem_flatMap.1 h
   obtain ⟨x,_,_,_,h4⟩:=hp i p hi
   exact h4
  ·intro h
   have hsome:∃ x,sees l p.Key T=some x:=by
    have h':(if zHV (spanS fr to) p.Key=true then val l p.Key T else none)=some p.Val:=h
    split at h'
    ·unfold val at h'
     cases hse:sees l p.Key T with
     |none=>rw [hse] at h';cases h'
     |some x=>exact ⟨x,rfl⟩
    ·cases h'
   obtain ⟨x,hx⟩:=hsome
   obtain ⟨h1,h2,_⟩:=zMY hx
   obtain ⟨i,hi⟩:=List.getElem?_of_mem h1
   obtain ⟨j,y,hj,hyk,hfirst⟩:=zO0 i x hi h2
   refine List.mem_flatMap.2 ⟨j,List.mem_range.2 (List.getElem?_eq_some_iff.1 hj).1,?_⟩
   unfold pick
   rw [hj]
   simp only
   rw [if_neg]
   ·exact zQ2.2 ⟨hyk.symm,by rw [hyk];exact h⟩
   ·rintro ⟨m,z,hm,hz,hzk⟩
    exact hfirst m z hm hz (hzk.trans hyk)
def pickW (x:Spn) (y:Wri):Option Pai:=if y.Gone=false∧zHV x y.Key=true then some ⟨y.Key,y.Val⟩ else none
def kltP (a b:Pai):Bool:=sLt a.Key b.Key
theorem zSL:Srt.SWO kltP where
 irr x:=by
  cases h:kltP x x with
  |false=>rfl
  |true=>exact absurd h (zFy x.Key)
 neg x y z h:=by
  unfold kltP at*
  by_cases h1:sLt x.Key y.Key=true
  ·exact .inl h1
  ·right
   by_cases h2:x.Key=y.Key
   ·rw [← h2];exact h
   ·exact zM9 (zKE h1 h2) h
 asy x y h:=by
  cases h1:kltP y x with
  |false=>rfl
  |true=>exact absurd h1 (zL8 h)
theorem zSQ (a b:Pai) (w:World) {k:Int→World→Prop} (H:∀ w',Bel w w'→k (cmpS a.Key b.Key) w'):Cl Tryz.prog zH3 [zAE.v a,zAE.v b].toArray w (fun e w'=>∃ r0:Int,e=.returned (.int .i64 r0)∧k r0 w'):=by
 refine zLW a b w k ?_
 unfold zIZ
 refine zGl (cs:=a.cells) rfl fun B w1 b1 hA _=>?_
 refine zGl (cs:=b.cells) rfl fun C w2 b2 hB _=>?_
 refine zDi zF2 zAc (hA.bel b2).at a.Key rfl ?_
 refine zDi zF2 zAc hB.at b.Key rfl ?_
 exact zMJ a.Key b.Key w2 (H w2 (b1.trans b2))
theorem zQe:SoCmpFunc_api_Pair.Cmps (.func (.func zH3) #[] #[]) kltP:=fun w x y=>
 ⟨cmpS x.Key y.Key,⟨zH3,[],[],rfl,ent47,fun w' _=>(zSQ x y w' (k:=fun r W=>r=cmpS x.Key y.Key∧Bel w' W) fun W hb=>⟨rfl,hb⟩).mono fun e W ⟨r,he,hr,hb⟩=>⟨by rw [he,hr],hb⟩⟩,by rw [zPX];exact Iff.rfl⟩
theorem zST (p:Pai) {w:World} {B tb wb:Nat} {rs:Sl} {t:Tx} (hB:Row w B [.pointer (ptrA tb)] zJs) (hT:Row w tb [.int .u64 t.began,Sl.v rs,.map (some wb)] zF9) (hM:MapIs Value.string zAD.v w wb t.wr)
  {k:Bool→World→Prop} (H:∀ w',Bel w w'→k (t.wr p.Key).isSome w'):Cl Tryz.prog zJ7 [zAE.v p,.pointer (ptrA B)].toArray w (fun e w'=>∃ r0:Bool,e=.returned (.bool r0)∧k r0 w'):=by
 refine zLc p (ptrA B) w k ?_
 unfold zIX
 refine zGl (cs:=p.cells) rfl fun X w1 b1 hX _=>?_
 refine ⟨Bel w1,fun u bu=>⟨bu,?_⟩⟩
 refine zMp zF2 ?_
 refine zKB zGD (ptrA tb) (fun W hW=>((hB.bel b1).bel hW).cell) ⟨trivial,?_⟩
 refine zMp zFH ?_
 refine zKB zCp (some wb) (fun W hW=>((hT.bel b1).bel hW).at.fld rfl) ?_
 refine zKB zAc p.Key (fun W hW=>(hX.bel hW).at.fld rfl) ?_
 refine zP0 (z:=zeroW) (fun W hW=>(hM.bel b1).bel hW) zMw zDh zLi p.Key ?_
 refine zKA zGU fun C w2 b2 hZ hC=>?_
 refine ⟨bu.trans b2,?_⟩
 refine zNy zDq hZ rfl rfl rfl fun w3 hZ3 g3=>?_
 have b13:Bel w1 w3:=(bu.trans b2).grown g3 fun r hr=>by cases hr;have:=bu.le;omega
 exact ⟨b13,H w3 (b1.trans b13)⟩
theorem zRS {s:St} (hI:Inv s) {n:Int} {t:Tx} (ht:s.tx n=some t) (fr to:ByteArray) {ks:List ByteArray} (hd:Doms t.wr ks) {ys:List Pai}
  (hp:ys.Perm ((zJe s.l fr to t.began s.l.length).filter (fun d=>!(t.wr d.Key).isSome)++(ks.filterMap t.wr).filterMap (pickW (spanS fr to)))) (hl:ys.Pairwise (fun x y=>Le kltP x y)):
  zMZ (cut (spanS fr to) (tview s t)) ys:=by
 have hk:=(hI.txok n t ht).keyed
 obtain ⟨s1,s2⟩:=zPf hI.good.sorted fr to t.began
 generalize zJe s.l fr to t.began s.l.length=L at hp s1 s2
 have m2:∀ p,p∈(ks.filterMap t.wr).filterMap (pickW (spanS fr to))↔∃ x,t.wr p.Key=some x∧x.Gone=false∧zHV (spanS fr to) p.Key=true∧x.Val=p.Val:=fun p=>by
  rw [List.mem_filterMap]
  constructor
  ·rintro ⟨x,hx,hpx⟩
   obtain ⟨key,_,hkx⟩:=List.mem_filterMap.1 hx
   unfold pickW at hpx
   split at hpx
   ·rename_i h;cases hpx
    have:=hk _ _ hkx
    subst this
    exact ⟨x,hkx,h.1,h.2,rfl⟩
   ·cases hpx
  ·rintro ⟨x,h1,h2,h3,h4⟩
   have hxk:=hk _ _ h1
   refine ⟨x,List.mem_filterMap.2 ⟨p.Key,(hd.2 _).2 ⟨x,h1⟩,h1⟩,?_⟩
   unfold pickW
   rw [if_pos ⟨h2,by rw [hxk];exact h3⟩,hxk,h4]
 have hmem:∀ p,p∈ys↔cut (spanS fr to) (tview s t) p.Key=some p.Val:=fun p=>by
  rw [hp.mem_iff,List.mem_append,List.mem_filter,s2,m2]
  unfold cut tview ovl
  by_cases hsp:zHV (spanS fr to) p.Key=true
  ·rw [if_pos hsp,if_pos hsp]
   cases hw:t.wr p.Key with
   |none=>simp
   |some x=>
    simp only [Option.isSome_some,Bool.not_true,Bool.false_eq_true,and_false,false_or,Option.some.injEq]
    constructor
    ·rintro ⟨y,rfl,h1,_,h2⟩;rw [if_neg (by rw [h1];decide),h2]
    ·intro h
     split at h
     ·cases h
     ·rename_i hg
      exact ⟨x,rfl,by simpa using hg,hsp,Option.some.inj h⟩
  ·rw [if_neg hsp,if_neg hsp]
   simp only [reduceCtorEq,false_and,false_or,iff_false]
   rintro ⟨x,_,_,h3,_⟩;exact hsp h3
 have hnd:(L.filter (fun d=>!(t.wr d.Key).isSome)++(ks.filterMap t.wr).filterMap (pickW (spanS fr to))).Pairwise (fun x y:Pai=>x.Key≠y.Key):=by
  refine List.pairwise_append.2 ⟨(s1.sublist List.filter_sublist).imp fun {a b} h e=>by have h':sLt a.Key b.Key=true:=h;rw [e] at h';exact zFy _ h',?_,fun x hx y hy e=>?_⟩
  ·rw [List.pairwise_filterMap,List.pairwise_filterMap]
   refine hd.1.imp fun {a b} hab x hx y hy p hpx q hqy e=>hab ?_
   unfold pickW at hpx hqy
   split at hpx
   ·split at hqy
    ·cases hpx;cases hqy
     have:=hk a x hx;have:=hk b y hy
     simp_all
    ·cases hqy
   ·cases hpx
  ·obtain ⟨_,h1⟩:=List.mem_filter.1 hx
   obtain ⟨z,h2,_⟩:=(m2 y).1 hy
   rw [e,h2] at h1;simp at h1
 have hnd':ys.Pairwise (fun x y=>x.Key≠y.Key):=(hp.pairwise_iff (fun {x y} h=>h.symm)).2 hnd
 refine ⟨(hl.and hnd').imp fun {x y} h12=>?_,hmem⟩
 cases h:sLt x.Key y.Key with
 |true=>rfl
 |false=>
  have h3:sLt y.Key x.Key=true:=zKE (by rw [h];decide) h12.2
  have h4:sLt y.Key x.Key=false:=h12.1
  rw [h3] at h4;cases h4
end Go.Proofs.YtealcoghiaeiiaaGreat.VG
set_option linter.unusedVariables false
set_option linter.unusedSimpArgs false
namespace Go.Proofs.YtealcoghiaeiiaaGreat.VG
open Go.VB Go.VB.Srt Go.Proofs Go.RowKit
theorem zTL {ρ:Own} {w:World} {b:Nat} {s:St} (h:Mgr ρ w b s) (hI:Inv s) (n:Int) (fr to:ByteArray) {k:Sl→Int→World→Prop}
  (H0:s.tx n=none→∀ w',Bel w w'→k Sl.none 11 w')
  (H1:∀ t,s.tx n=some t→256≤t.reads.length→∀ w',Bel w w'→k Sl.none 3 w')
  (H2:∀ t r ys ρ' w',s.tx n=some t→t.reads.length<256→zMZ (cut (spanS fr to) (tview s t)) ys→zGk w.heap.size w' r ys→(∀ q,(Sl.v r).ownBlock=some q→ρ' q=none)→Mgr ρ' w' b (setTx s n (addR t (spanS fr to)))→Ext ρ w ρ' w'→k r 0 w'):
  Cl Tryz.prog zKU [.pointer (ptrA b),.int .i64 n,.string fr,.string to].toArray w (fun e w'=>∃ (r0:Sl) (r1:Int),e=.returned (.tuple [Sl.v r0,.int .i64 r1].toArray)∧k r0 r1 w'):=by
 obtain ⟨vs,mb,g,m⟩:=h
 refine zMH (ptrA b) n fr to w k ?_
 unfold zJT
 refine at_ok m n (fun ht=>?_) fun t ht=>?_
 ·refine zKA zNA fun B w1 b1 hB hB0=>?_
  refine zNZ zGD hB rfl rfl fun w2 hB2 g2=>?_
  have b2:Bel w w2:=b1.grown g2 fun r hr=>by cases hr;exact hB0
  exact ⟨fun _=>H0 ht w2 b2,fun h=>absurd (by decide) h⟩
 refine zKA zNA fun X w1 b1 hX hX0=>?_
 refine zNZ zGD hX rfl rfl fun w2 hX2 g2=>?_
 have b2:Bel w w2:=b1.grown g2 fun r hr=>by cases hr;exact hX0
 refine ⟨fun h=>absurd rfl h,fun _=>?_⟩
 have m2:=m.bel b2
 have mt2:=m2.tx n t ht
 have hrl:=mt2.rd.len
 refine zHM zGD (ptrA (g n).tb) hX2.cell ⟨trivial,?_⟩
 refine zDi zF3 zGg mt2.row.at (g n).rs rfl ?_
 refine ⟨fun hc=>H1 t ht (by omega) w2 b2,fun hc=>?_⟩
 have hroom:t.reads.length<256:=by omega
 refine ⟨spanS fr to,w2,by kernel_rfl,?_⟩
 refine zJb zPH rfl zJ6 (cs:=(spanS fr to).cells) rfl rfl rfl fun Y w3 b3 hY hY0=>?_
 -- the span is noted
 refine ⟨fun W=>Row W X [.pointer (ptrA (g n).tb)] zJs∧Row W Y (spanS fr to).cells zNn∧Row W (g n).tb [.int .u64 t.began,Sl.v (g n).rs,.map (some (g n).wb)] zF9,fun w4 b4=>?_⟩
 have b24:=b3.trans b4
 have b04:=b2.trans b24
 have m4:=m.bel b04
 have mt4:=m4.tx n t ht
 have hX4:=hX2.bel b24
 have hY4:=hY.bel b4
 refine ⟨⟨hX4,hY4,mt4.row⟩,?_⟩
 refine zKB zGD (ptrA (g n).tb) (fun W hW=>hW.1.cell) ?_
 refine zKB zGD (ptrA (g n).tb) (fun W hW=>hW.1.cell) ⟨trivial,?_⟩
 refine zMp zF3 ?_
 refine zKB zGg (g n).rs (fun W hW=>hW.2.2.at.fld rfl) ?_
 refine zSU zJ6 (spanS fr to) rfl (fun W hW=>hW.2.1.at) rfl ?_
 refine zTP mt4.rd (fun _=>rfl) (fun _=>rfl) (by decide) zKl zLe rfl (by decide) (zLz (spanS fr to)) (Nat.zero_le _) (by omega) (fun W hW=>⟨hX4.bel hW,hY4.bel hW,mt4.row.bel hW⟩) fun z w5 hO g5 hq=>?_
 have s1:=b1.le;have s2:=b2.le;have s3:=b3.le;have s24:=b24.le;have s04:=b04.le;have s5:=g5.size;have s4:=b4.le;have s12:=g2.size
 have hxl:w.heap.size≤X∧w.heap.size≤Y:=⟨hX0,by omega⟩
 have hrsne:∀ q,w.heap.size≤q→(Sl.v (g n).rs).ownBlock≠some q:=fun q hq e=>by have:=m.lt q (by rw [(m.tx n t ht).rrd q e];simp);omega
 have hX5:=hX4.grown g5 (hrsne X hxl.1)
 have hY5:=hY4.grown g5 (hrsne Y hxl.2)
 have hrow5:Row w5 (g n).tb [.int .u64 t.began,Sl.v (g n).rs,.map (some (g n).wb)] zF9:=mt4.row.grown g5 fun e=>by
  have:=mt4.rrd _ e;rw [mt4.rtb] at this;cases this
 refine ⟨⟨hX5,hY5,hrow5⟩,trivial,?_⟩
 refine zMp zF3 ?_
 refine zNK zGg hrow5 (by cases z with|mk a l c=>cases a<;>rfl) (by simp) (by cases z with|mk a l c=>cases a<;>rfl) fun w6 hR6 g6=>?_
 replace hR6:Row w6 (g n).tb [.int .u64 t.began,Sl.v z,.map (some (g n).wb)] zF9:=hR6
 have hzt:(Sl.v z).ownBlock≠some (g n).tb:=OwnS.ne_row hO hrow5 (by decide)
 have hO6:=hO.kept g6 (.inr hzt)
 have htbX:(g n).tb≠X∧(g n).tb≠Y:=by
  have:=m.lt (g n).tb (by rw [(m.tx n t ht).rtb];simp);omega
 have hX6:=hX5.grown g6 (by simpa using htbX.1)
 have hY6:=hY5.grown g6 (by simpa using htbX.2)
 let ρ':Own:=fun k=>if (Sl.v z).ownBlock=some k then some (.rb n) else ρ k
 have hρ:∀ k,k<w.heap.size→ρ' k=ρ k:=fun k hk=>by
  show (if (Sl.v z).ownBlock=some k then _ else _)=_
  split
  ·rename_i e
   rcases hq k e with h1|h1
   ·exact (mt4.rrd k h1).symm
   ·omega
  ·rfl
 have hs6:=g6.size
 have hρ4:∀ k,k<w4.heap.size→ρ' k=ρ k:=fun k hk=>by
  show (if (Sl.v z).ownBlock=some k then _ else _)=_
  split
  ·rename_i e
   rcases hq k e with h1|h1
   ·exact (mt4.rrd k h1).symm
   ·omega
  ·rfl
 have hkeep:∀ k r,ρ k=some r→r≠.tb n→r≠.rb n→w6.heap[k]?=w4.heap[k]?:=fun k r hk h1 h2=>by
  have hkl:=m4.lt k (by rw [hk];simp)
  rw [g6.block k (by omega) fun e=>by injection e with e;rw [e,mt4.rtb] at hk;cases hk;exact h1 rfl,g5.block k hkl fun e=>by
   have:=mt4.rrd k e.symm;rw [hk] at this;cases this;exact h2 rfl]
 have hE46:Ext ρ w4 ρ' w6:=⟨(Out.row (S:=fun k=>ρ k≠none) g5 fun k hk=>.inl (by show ρ k≠none;rw [mt4.rrd k hk];simp)).trans (Out.row (S:=fun k=>ρ k≠none) g6 fun k hk=>by cases hk;exact .inl (by show ρ _≠none;rw [mt4.rtb];simp)) fun _ _ h=>h,hρ4⟩
 have hE:Ext ρ w ρ' w6:=(Ext.bel b04).trans hE46
 have m6:MgrAt ρ' w6 b (setTx s n (addR t (spanS fr to))) vs mb (fun m=>if m=n then ⟨(g n).tb,(g n).wb,z⟩ else g m):=by
  refine m4.setTx ht rfl hρ4 (fun k hk=>?_) (fun k r hk h1 h2 h3=>hkeep k r hk h1 h3) ?_
  ·by_cases e:(Sl.v z).ownBlock=some k
   ·exact hO6.lt e
   ·have:ρ k≠none:=by
     have h1:(if (Sl.v z).ownBlock=some k then some (Role.rb n) else ρ k)≠none:=hk
     rw [if_neg e] at h1;exact h1
    have:=m4.lt k this;omega
  ·exact {
    row:=hR6
    rtb:=(hρ4 _ (m4.lt _ (by rw [mt4.rtb];simp))).trans mt4.rtb
    rd:=hO6
    rrd:=fun k hk=>by show (if (Sl.v z).ownBlock=some k then _ else _)=_;rw [if_pos hk]
    wr:=mt4.wr.keep (hkeep _ _ mt4.rwb (by simp) (by simp))
    rwb:=(hρ4 _ (m4.lt _ (by rw [mt4.rwb];simp))).trans mt4.rwb}
 have hM6:MapIs Value.string zAD.v w6 (g n).wb t.wr:=mt4.wr.keep (hkeep _ _ mt4.rwb (by simp) (by simp))
 -- what the versions have
 refine ⟨Bel w6,fun w7 b7=>⟨b7,trivial,?_⟩⟩
 refine zMp zCB ?_
 refine zSU zAg (cs:=[Sl.v vs,.int .u64 s.low]) ⟨vs,s.low⟩ rfl (fun W hW=>(m6.bel hW).versAt) rfl ?_
 refine zKB zGD (ptrA (g n).tb) (fun W hW=>(hX6.bel hW).cell) ⟨trivial,?_⟩
 refine zMp zI0 ?_
 refine zKB zA9 t.began (fun W hW=>(hR6.bel hW).at.fld rfl) ?_
 have hvs:vscan s.l s.low fr to t.began=(zJe s.l fr to t.began s.l.length,0):=by
  unfold vscan
  rw [if_neg (by rw [zLS.2 ⟨hI.good,(hI.tim n t ht).1⟩];decide)]
 refine zSK (x0:=⟨vs,s.low⟩) (m6.bel b7).vers fr to t.began fun r2 w8 base hb8 hbw8 hO8 b8=>?_
 replace hO8:zGk base w8 r2 (vscan s.l s.low fr to t.began).1:=hO8
 rw [hvs] at hO8
 replace hO8:zGk base w8 r2 (zJe s.l fr to t.began s.l.length):=hO8
 have hl4:=hI.good.len
 have hsl:=zN5 s.l fr to t.began s.l.length
 have b68:=b7.trans b8
 have s67:=b7.le
 refine ⟨b68,?_⟩
 -- but what the transaction writes itself
 have hXb:X<w6.heap.size:=hX6.lt
 have hTb:(g n).tb<w6.heap.size:=hR6.lt
 have hMb:(g n).wb<w6.heap.size:=hM6.lt
 refine zQ5 (p:=fun d=>(t.wr d.Key).isSome) (C:=fun W=>Row W X [.pointer (ptrA (g n).tb)] zJs∧Row W (g n).tb [.int .u64 t.began,Sl.v z,.map (some (g n).wb)] zF9∧MapIs Value.string zAD.v W (g n).wb t.wr) hO8 ⟨hX6.bel b68,hR6.bel b68,hM6.bel b68⟩ ?_ ?_ fun r4 w9 hO9 g9 hb9=>?_
 ·rintro W W' row ⟨h1,h2,h3⟩ hg hr
  have hlo:∀ q,row=some q→w6.heap.size≤q:=fun q hq=>by have:=hO8.lo (hr q hq);omega
  exact ⟨h1.grown hg fun e=>by have:=hlo _ e;omega,h2.grown hg fun e=>by have:=hlo _ e;omega,h3.grown hg fun e=>by have:=hlo _ e;omega⟩
 ·rintro W ⟨h1,h2,h3⟩
  exact fun d _ w' k' hb hk=>.inl ⟨zJ7,[],[.pointer (ptrA X)],rfl,ent44,zST d (h1.bel hb) (h2.bel hb) (h3.bel hb) hk⟩
 have b69:Bel w6 w9:=b68.grown g9 fun q hq=>by have:=hO8.lo hq;omega
 have s69:=b69.le
 refine zHM zGD (ptrA (g n).tb) (hX6.bel b69).cell ⟨trivial,?_⟩
 refine zDi zFH zCp (hR6.bel b69).at (some (g n).wb) rfl ?_
 obtain ⟨⟨dom,hd,hdl⟩,hky⟩:Few t∧Keyed t:=⟨(hI.txok n t ht).few,(hI.txok n t ht).keyed⟩
 refine zTT (hM6.bel b69) zDh fun w10 hi b10=>?_
 have hwb9:(g n).wb<w9.heap.size:=by omega
 have s8:=b8.le;have s9:=g9.size
 have hbase9:base≤w9.heap.size:=by omega
 have hfl:((zJe s.l fr to t.began s.l.length).filter (fun d=>!(t.wr d.Key).isSome)).length≤4096:=Nat.le_trans (List.length_filter_le _ _) (by omega)
 generalize hR:w9.heap.size=R at hi hwb9 hbase9 ⊢
 have s10:=b10.le
 let L0:=(zJe s.l fr to t.began s.l.length).filter (fun d=>!(t.wr d.Key).isSome)
 refine ⟨fun x W=>∃ ks,zGV Value.string zAD.v W (g n).wb R t.wr ks∧zGk base W x (L0++(ks.filterMap t.wr).filterMap (pickW (spanS fr to)))∧Bel w6 W∧R<W.heap.size,fun _ W=>dom.length - zL9 W R,⟨[],hi,by show zGk base w10 r4 (L0++[]);rw [List.append_nil];exact hO9.bel b10,b69.trans b10,by obtain ⟨c,sb,hb⟩:=hi.blk;exact (Array.getElem?_eq_some_iff.1 hb).1⟩,?_⟩
 rintro x W ⟨ks,hi1,hO1,hb1,hRW⟩
 unfold zGP
 refine zRf hi1 (by omega) zMo (fun hall=>?_) fun y v W2 hy hn hi2 hg=>?_
 ·refine ⟨fun _=>?_,fun k v e=>by cases e⟩
  refine SoCmpFunc_api_Pair.sort_ok zSL zQe hO1 fun ys w3 hp hpw hO2 hg=>?_
  have hdk:Doms t.wr ks:=⟨hi1.nd,fun x=>⟨hi1.dom x,fun ⟨v,hv⟩=>hall x v hv⟩⟩
  have hbf:Bel w6 w3:=hb1.grown hg fun q hq=>by have:=hO1.lo hq;omega
  refine H2 t x ys ρ' w3 ht hroom (zRS hI ht fr to hdk hp hpw) (hO2.low (by omega)) (fun q hq=>?_) ⟨_,_,_,m6.bel hbf⟩ (hE.trans (Ext.bel hbf))
  have h1:=hO2.lo hq
  cases hρq:ρ' q with
  |none=>rfl
  |some r0=>have:=m6.lt q (by rw [hρq];simp);omega
 ·refine ⟨fun e=>(nomatch e),fun k v' e=>?_⟩
  cases e
  have hb2:Bel w6 W2:=hb1.grown hg fun r e=>by cases e;omega
  have hcl:(ks++[y]).length≤dom.length:=zKc hi2.nd fun z hz=>(hd.2 z).2 (hi2.dom z hz)
  rw [List.length_append,List.length_singleton] at hcl
  have hl1:=hi1.size
  have hO2:zGk base W2 x (L0++(ks.filterMap t.wr).filterMap (pickW (spanS fr to))):=hO1.notwalk (B:=R) hg fun r e=>by
   cases e
   obtain ⟨c,sb,hb⟩:=hi1.blk
   exact ⟨Nat.le_refl _,_,hb,rfl⟩
  refine zL7 hi2 hy zMo ?_
  refine zJb zGU rfl zDq (cs:=v.cells) rfl rfl rfl fun C W3 b3 hC _=>?_
  refine zDi zHd zJu hC.at v.Gone rfl ?_
  have hi3:=hi2.bel b3
  have hO3:=hO2.bel b3
  have hb3:=hb2.trans b3
  have hg2:=hg.size;have s3:=b3.le
  have hvk:=hky y v hy
  have hfm:(ks++[y]).filterMap t.wr=ks.filterMap t.wr++[v]:=by rw [List.filterMap_append,List.filterMap_cons_some hy];rfl
  have hlen:(L0++(ks.filterMap t.wr).filterMap (pickW (spanS fr to))).length≤4096+256:=by
   rw [List.length_append]
   have h1:=List.length_filterMap_le (pickW (spanS fr to)) (ks.filterMap t.wr)
   have h2:=List.length_filterMap_le t.wr ks
   have h3:L0.length≤4096:=hfl
   omega
  have J:∀ (c:Bool) W4,Bel W3 W4→(c=true↔v.Gone=false∧zHV (spanS fr to) v.Key=true)→zFJ x (fun x13' w'=>(∃ ks,zGV Value.string zAD.v w' (g n).wb R t.wr ks∧zGk base w' x13' (L0++(ks.filterMap t.wr).filterMap (pickW (spanS fr to)))∧Bel w6 w'∧R<w'.heap.size)∧dom.length - zL9 w' R<dom.length - zL9 W R) (zAD.v v) (ptrA C) c W4:=by
   intro c W4 b4 hc
   unfold zFJ
   have hi4:=hi3.bel b4
   have s4:=b4.le
   have hlen4:=hi4.size
   rw [List.length_append,List.length_singleton] at hlen4
   refine ⟨fun h1=>?_,fun h1=>?_⟩
   ·have hpk:pickW (spanS fr to) v=some ⟨v.Key,v.Val⟩:=by unfold pickW;rw [if_pos (hc.1 h1)]
    have hC4:=hC.bel b4
    refine zDi zD9 zAc hC4.at v.Key rfl ?_
    refine zDi zGv zAc hC4.at v.Val rfl ?_
    refine ⟨⟨v.Key,v.Val⟩,W4,by kernel_rfl,?_⟩
    refine zPx (w0:=w6) (hO3.bel b4) (hb3.trans b4) (by omega) (by omega) (by omega) fun x' W5 hO5 hb5 g5=>?_
    have hi5:=zQA hi4 (KeepsWalks.row g5 fun r hr=>(hO3.bel b4).isRow hr)
    have hlen5:=hi5.size
    rw [List.length_append,List.length_singleton] at hlen5
    refine ⟨⟨ks++[y],hi5,?_,hb5,by have:=g5.size;omega⟩,by omega⟩
    rw [hfm,List.filterMap_append,List.filterMap_cons_some hpk,← List.append_assoc];exact hO5
   ·have hpk:pickW (spanS fr to) v=none:=by unfold pickW;rw [if_neg fun h2=>by rw [hc.2 h2] at h1;cases h1]
    refine ⟨⟨ks++[y],hi4,?_,hb3.trans b4,by omega⟩,by omega⟩
    rw [hfm,List.filterMap_append,List.filterMap_cons_none hpk,List.filterMap_nil,List.append_nil];exact hO3.bel b4
  refine ⟨fun h1=>?_,fun h1=>J false W3 (Bel.refl _) ⟨fun h=>(nomatch h),fun h2=>by rw [h2.1] at h1;cases h1⟩⟩
  have hgf:v.Gone=false:=by simpa using h1
  have hY3:=hY6.bel hb3
  refine zII zJ6 (spanS fr to) rfl hY3.at rfl ?_
  refine zDi zD9 zAc hC.at v.Key rfl ?_
  exact zRa (spanS fr to) v.Key W3 fun W4 b4=>J _ W4 b4 ⟨fun h=>⟨hgf,h⟩,fun h=>h.2⟩
end Go.Proofs.YtealcoghiaeiiaaGreat.VG
set_option linter.unusedVariables false
set_option linter.unusedSimpArgs false
namespace Go.Proofs.YtealcoghiaeiiaaGreat.VG
open Go.VB Go.Proofs Go.RowKit
theorem zLQ {s:St} {n:Int} {f:Tx→St × Ans} (h:s.tx n=none):onTx s n f=(s,errA 11):=by unfold onTx;rw [h]
theorem zGW {s:St} {n:Int} {f:Tx→St × Ans} {t:Tx} (h:s.tx n=some t):onTx s n f=f t:=by unfold onTx;rw [h]
theorem Ext.new {ρ ρ':Own} {w W w':World} {B:Nat} (h:Ext ρ w ρ' W) (hg:W.grownBy w' (some B)) (hB:w.heap.size≤B):Ext ρ w ρ' w':=
 ⟨h.out.trans (T:=fun k=>k=B) (Out.row hg fun k hk=>by cases hk;exact .inl rfl) fun i hi e=>by omega,h.same⟩
theorem Mgr.other {ρ:Own} {w w':World} {b:Nat} {s:St} {B:Nat} (h:Mgr ρ w b s) (hg:w.grownBy w' (some B)) (hB:ρ B=none):Mgr ρ w' b s:=
 let ⟨vs,mb,g,m⟩:=h
 ⟨vs,mb,g,m.keep hg.size fun k hk=>hg.block k (m.lt k hk) fun e=>by cases e;exact hk hB⟩
section
variable {ρ:Own} {w:World} {b:Nat} {s:St}
theorem zQo (h:Mgr ρ w b s) (hI:Inv s) (hg:s.given<4611686018427387904) {k:Int→Int→World→Prop} (H:∀ ρ' w',Mgr ρ' w' b (zJJ s).1→Ext ρ w ρ' w'→k (zJJ s).2.tx (zJJ s).2.why w'):
  Cl Tryz.prog zKF [.pointer (ptrA b)].toArray w (fun e w'=>∃ (r0 r1:Int),e=.returned (.tuple [.int .i64 r0,.int .i64 r1].toArray)∧k r0 r1 w'):=by
 refine zOX h hI.giv hg hI.free (fun ks hd hl=>?_) fun ks ρ' w' hd hl hM hE=>?_
 ·have e:zJJ s=(s,errA 3):=by unfold zJJ;rw [zNp hd,if_pos hl]
  rw [e] at H;exact H ρ w h (Ext.refl _ _)
 ·have e:zJJ s=(begun s,{ans0 with tx:=s.given+1}):=by unfold zJJ;rw [zNp hd,if_neg (by omega)]
  rw [e] at H;exact H ρ' w' hM hE
theorem get_f (h:Mgr ρ w b s) (n:Int) (key:ByteArray) {k:ByteArray→Bool→Int→World→Prop} (H:∀ ρ' w',Mgr ρ' w' b (getD s n key).1→Ext ρ w ρ' w'→k (getD s n key).2.val (getD s n key).2.is (getD s n key).2.why w'):
  Cl Tryz.prog zKg [.pointer (ptrA b),.int .i64 n,.string key].toArray w (fun e w'=>∃ (r0:ByteArray) (r1:Bool) (r2:Int),e=.returned (.tuple [.string r0,.bool r1,.int .i64 r2].toArray)∧k r0 r1 r2 w'):=by
 unfold getD at H
 refine zQr h n key (fun ht=>?_) (fun t ht h1=>?_) (fun t ht h1 h2=>?_) fun t ρ' w' ht h1 h2 hM hE=>?_
 ·rw [zLQ ht] at H;exact H ρ w h (Ext.refl _ _)
 ·rw [zGW ht] at H;unfold getT at H;rw [if_pos h1] at H;exact H ρ w h (Ext.refl _ _)
 ·rw [zGW ht] at H;unfold getT at H;rw [if_neg h1,if_pos h2] at H;exact H ρ w h (Ext.refl _ _)
 ·rw [zGW ht] at H;unfold getT at H;rw [if_neg h1,if_neg (by omega)] at H;exact H ρ' w' hM hE
theorem zTz (h:Mgr ρ w b s) (hI:Inv s) (n:Int) (fr to:ByteArray) {k:Sl→Int→World→Prop}
  (H:∀ r ρ' w',Mgr ρ' w' b (scanD s n fr to).1→Ext ρ w ρ' w'→zGk w.heap.size w' r (scanD s n fr to).2.pairs→(∀ q,(Sl.v r).ownBlock=some q→ρ' q=none)→k r (scanD s n fr to).2.why w'):
  Cl Tryz.prog zKU [.pointer (ptrA b),.int .i64 n,.string fr,.string to].toArray w (fun e w'=>∃ (r0:Sl) (r1:Int),e=.returned (.tuple [Sl.v r0,.int .i64 r1].toArray)∧k r0 r1 w'):=by
 unfold scanD at H
 refine zTL h hI n fr to (fun ht w' hb=>?_) (fun t ht h1 w' hb=>?_) fun t r ys ρ' w' ht h1 hS hO hρ hM hE=>?_
 ·rw [zLQ ht] at H;exact H Sl.none ρ w' (h.bel hb) (Ext.bel hb) (OwnS.nil _ _ _ _ _) fun q e=>by cases e
 ·rw [zGW ht] at H;unfold scanT at H;rw [if_pos h1] at H;exact H Sl.none ρ w' (h.bel hb) (Ext.bel hb) (OwnS.nil _ _ _ _ _) fun q e=>by cases e
 ·rw [zGW ht] at H;unfold scanT at H;rw [if_neg (by omega),zQZ hS] at H;exact H r ρ' w' hM hE hO hρ
theorem zQy (h:Mgr ρ w b s) (n:Int) (x:Wri) {k:Int→World→Prop} (H:∀ ρ' w',Mgr ρ' w' b (zJL s n x).1→Ext ρ w ρ' w'→k (zJL s n x).2.why w'):
  Cl Tryz.prog zGq [.pointer (ptrA b),.int .i64 n,zAD.v x].toArray w (fun e w'=>∃ r0:Int,e=.returned (.int .i64 r0)∧k r0 w'):=by
 unfold zJL at H
 refine zOR h n x (fun ht w' hb=>?_) (fun t ht h1 w' hb=>?_) (fun t ks ht h1 h2 hd h3 w' hb=>?_) fun t w' ht h1 h2 hM hE=>?_
 ·rw [zLQ ht] at H;exact H ρ w' (h.bel hb) (Ext.bel hb)
 ·rw [zGW ht] at H;unfold zOA at H;rw [if_pos h1] at H;exact H ρ w' (h.bel hb) (Ext.bel hb)
 ·rw [zGW ht] at H;unfold zOA at H;rw [if_neg h1,if_pos ⟨h2,by rw [zNp hd];exact h3⟩] at H;exact H ρ w' (h.bel hb) (Ext.bel hb)
 ·rw [zGW ht] at H;unfold zOA at H
  rw [if_neg h1,if_neg fun h3=>by obtain ⟨ks,hd,hl⟩:=h2 h3.1;have:=h3.2;rw [zNp hd] at this;omega] at H
  exact H ρ w' hM hE
theorem put_f (h:Mgr ρ w b s) (n:Int) (key val:ByteArray) {k:Int→World→Prop} (H:∀ ρ' w',Mgr ρ' w' b (zJL s n ⟨key,val,false⟩).1→Ext ρ w ρ' w'→k (zJL s n ⟨key,val,false⟩).2.why w'):
  Cl Tryz.prog zKh [.pointer (ptrA b),.int .i64 n,.string key,.string val].toArray w (fun e w'=>∃ r0:Int,e=.returned (.int .i64 r0)∧k r0 w'):=zRV n key val (zQy h n _ H)
theorem zR5 (h:Mgr ρ w b s) (n:Int) (key:ByteArray) {k:Int→World→Prop} (H:∀ ρ' w',Mgr ρ' w' b (zJL s n ⟨key,noB,true⟩).1→Ext ρ w ρ' w'→k (zJL s n ⟨key,noB,true⟩).2.why w'):
  Cl Tryz.prog zJz [.pointer (ptrA b),.int .i64 n,.string key].toArray w (fun e w'=>∃ r0:Int,e=.returned (.int .i64 r0)∧k r0 w'):=zQ6 n key (zQy h n _ H)
theorem zTb (h:Mgr ρ w b s) (n:Int) {k:Int→World→Prop} (H:∀ ρ' w',Mgr ρ' w' b (zL2 s n).1→Ext ρ w ρ' w'→k (zL2 s n).2.why w'):
  Cl Tryz.prog zKG [.pointer (ptrA b),.int .i64 n].toArray w (fun e w'=>∃ r0:Int,e=.returned (.int .i64 r0)∧k r0 w'):=by
 unfold zL2 at H
 refine zSN h n (fun ht=>?_) fun t ρ' w' ht hM hE=>?_
 ·rw [zLQ ht] at H;exact H ρ w h (Ext.refl _ _)
 ·rw [zGW ht] at H;exact H ρ' w' hM hE
theorem zSP (h:Mgr ρ w b s) (hI:Inv s) (hn:s.now<4611686018427387904) (n:Int) {k:Sl→Int→Int→World→Prop}
  (H:∀ r ρ' w',Mgr ρ' w' b (zH7 s n).1→Ext ρ w ρ' w'→zJ0 w.heap.size w' r (zH7 s n).2.done→(∀ q,(Sl.v r).ownBlock=some q→ρ' q=none)→k r (zH7 s n).2.time (zH7 s n).2.why w'):
  Cl Tryz.prog zJ5 [.pointer (ptrA b),.int .i64 n].toArray w (fun e w'=>∃ (r0:Sl) (r1:Int) (r2:Int),e=.returned (.tuple [Sl.v r0,.int .u64 r1,.int .i64 r2].toArray)∧k r0 r1 r2 w'):=by
 unfold zH7 at H
 have h0:=hI.lo;have h1:=hI.lonow
 have nob:∀ {w':World},zJ0 w.heap.size w' Sl.none []:=OwnS.nil _ _ _ _ _
 have nor:∀ {ρ':Own} q,(Sl.v Sl.none).ownBlock=some q→ρ' q=none:=fun q e=>by cases e
 refine zNu h n (fun t ht=>⟨(hI.txok n t ht).few,(hI.txok n t ht).keyed⟩) (by omega) hn (fun ht=>?_) (fun t ρ' w' ht hc hM hE=>?_) (fun t ρ' w' ht hc he hM hE=>?_) (fun t ys ρ' w' ht hc hS he hp hM hE=>?_) fun t ys r ρ' w' ht hc hS he hp hM hE hr hq=>?_
 ·rw [zLQ ht] at H;exact H Sl.none ρ w h (Ext.refl _ _) nob nor
 ·rw [zGW ht] at H;unfold zMK at H;rw [if_pos hc] at H;exact H Sl.none ρ' w' hM hE nob nor
 ·rw [zGW ht] at H;unfold zMK at H;rw [if_neg (by simp [hc]),if_pos he] at H;exact H Sl.none ρ' w' hM hE nob nor
 ·rw [zGW ht] at H;unfold zMK at H
  rw [if_neg (by simp [hc]),if_neg (fun h=>by obtain ⟨x,hx⟩:=he;exact hx (h x)),zNe hS,if_pos hp] at H
  exact H Sl.none ρ' w' hM hE nob nor
 ·rw [zGW ht] at H;unfold zMK at H
  rw [if_neg (by simp [hc]),if_neg (fun h=>by obtain ⟨x,hx⟩:=he;exact hx (h x)),zNe hS,if_neg (by simp [hp])] at H
  exact H r ρ' w' hM hE hr fun q h=>(hq q h).2.2
end
structure zSm (base:Nat) (ρ:Own) (w:World) (y:zAq) (a:Ans):Prop where
 why:y.Why=a.why
 tx:y.Tx=a.tx
 val:y.Val=a.val
 is:y.Is=a.is
 pairs:zGk base w y.Pairs a.pairs
 done:zJ0 base w y.Done a.done
 time:y.Time=a.time
 rp:∀ q,(Sl.v y.Pairs).ownBlock=some q→ρ q=none
 rd:∀ q,(Sl.v y.Done).ownBlock=some q→ρ q=none
abbrev zAns:zAq:=⟨15,0,noB,false,Sl.none,Sl.none,0⟩
structure Mid (ρ:Own) (w:World) (b A C:Nat) (s':St) (p:Sl) (ps:List Pai) (d:Sl) (ds:List Wri) (ρ':Own) (W:World) (cs:List Value):Prop where
 mgr:Mgr ρ' W b s'
 ext:Ext ρ w ρ' W
 rA:ρ' A=none
 rC:ρ' C=none
 a:∃ z:List Value,z.length=7∧Row W A z zJh
 c:Row W C cs zJh
 pr:zGk w.heap.size W p ps
 dn:zJ0 w.heap.size W d ds
 rp:∀ q,(Sl.v p).ownBlock=some q→ρ' q=none
 rd:∀ q,(Sl.v d).ownBlock=some q→ρ' q=none
theorem Mid.st {ρ:Own} {w:World} {b A C:Nat} {s':St} {p:Sl} {ps:List Pai} {d:Sl} {ds:List Wri} {ρ':Own} {W:World} {cs:List Value} (h:Mid ρ w b A C s' p ps d ds ρ' W cs) {t:Nat} (hA:One Tryz.prog t) {off:Nat} {v:Value}
  (hv:v.cells.toList=[v]) (hl:off<cs.length) (h1:v.oneCell'=true) (hC:w.heap.size≤C) (hAC:A≠C) {k:World→Prop} (H:∀ W',Mid ρ w b A C s' p ps d ds ρ' W' (cs.take off++[v]++cs.drop (off+1))→k W'):
  opU Tryz.prog (Instr.storeAt t (.pointer (some ((⟨C,0,none⟩:Addr).add off))) v) W k:=by
 refine zNK hA h.c hv hl h1 fun W' hR hg=>H W' ?_
 obtain ⟨z,hz,ha⟩:=h.a
 exact {h with
  mgr:=h.mgr.other hg h.rC
  ext:=h.ext.new hg hC
  a:=⟨z,hz,ha.grown hg (by simpa using hAC.symm)⟩
  c:=hR
  pr:=h.pr.kept hg (.inr (OwnS.ne_row h.pr h.c (by decide)))
  dn:=h.dn.kept hg (.inr (OwnS.ne_row h.dn h.c (by decide)))}
theorem zSR (s:St):(zJJ s).2={ans0 with tx:=(zJJ s).2.tx,why:=(zJJ s).2.why}:=by unfold zJJ;split<;>rfl
theorem zTt (s:St) (n:Int) (key:ByteArray):(getD s n key).2={ans0 with val:=(getD s n key).2.val,is:=(getD s n key).2.is,why:=(getD s n key).2.why}:=by
 unfold getD onTx
 cases s.tx n with
 |none=>rfl
 |some t=>simp only;unfold getT;split<;>(try split)<;>rfl
theorem zS5 (s:St) (n:Int) (fr to:ByteArray):(scanD s n fr to).2={ans0 with pairs:=(scanD s n fr to).2.pairs,why:=(scanD s n fr to).2.why}:=by
 unfold scanD onTx
 cases s.tx n with
 |none=>rfl
 |some t=>simp only;unfold scanT;split<;>rfl
theorem zQJ (s:St) (n:Int) (x:Wri):(zJL s n x).2={ans0 with why:=(zJL s n x).2.why}:=by
 unfold zJL onTx
 cases s.tx n with
 |none=>rfl
 |some t=>simp only;unfold zOA;split<;>(try split)<;>rfl
theorem zQm (s:St) (n:Int):(zH7 s n).2={ans0 with done:=(zH7 s n).2.done,time:=(zH7 s n).2.time,why:=(zH7 s n).2.why}:=by
 unfold zH7 onTx
 cases s.tx n with
 |none=>rfl
 |some t=>simp only;unfold zMK;split<;>(try split)<;>(try split)<;>rfl
theorem zSa (s:St) (n:Int):(zL2 s n).2={ans0 with why:=(zL2 s n).2.why}:=by
 unfold zL2 onTx
 cases s.tx n<;>rfl
theorem do_ok {ρ:Own} {w:World} {b:Nat} {s:St} (h:Mgr ρ w b s) (hI:Inv s) (hn:s.now<4611686018427387904) (hg:s.given<4611686018427387904) (x:zAr) {k:zAq→World→Prop}
  (H:∀ y ρ' w',Mgr ρ' w' b (doS s x).1→Ext ρ w ρ' w'→zSm w.heap.size ρ' w' y (doS s x).2→k y w'):
  Cl Tryz.prog zMt [.pointer (ptrA b),zAr.v x].toArray w (fun e w'=>∃ r0:zAq,e=.returned (zAq.v r0)∧k r0 w'):=by
 refine zMx (ptrA b) x w k ?_
 unfold zJ9
 refine zGl (cs:=x.cells) rfl fun X w1 b1 hX hX0=>?_
 refine zKA zLF fun A w2 b2 hA hA0=>?_
 refine ⟨zAns,w2,by kernel_rfl,?_⟩
 refine zJb zLF rfl zIv (cs:=zAns.cells) rfl rfl rfl fun C w3 b3 hC hC0=>?_
 have b13:=b2.trans b3
 have b03:=b1.trans b13
 replace hX:=hX.bel b13
 have hA2:=hA.lt
 replace hA:=hA.bel b3
 have s1:=b1.le;have s2:=b2.le
 have hlt:=h.lt
 have hnone:∀ q,w.heap.size≤q→ρ q=none:=fun q hq=>by
  cases hρ:ρ q with
  |none=>rfl
  |some r=>have:=hlt q (by rw [hρ];simp);omega
 have h3:=h.bel b03
 have hXl:=hX.lt;have hAl:=hA.lt;have hCl:=hC.lt
 have hAC:A≠C:=by omega
 refine pnilM _ ⟨fun h=>(nomatch h),fun _=>?_⟩
 -- the end
 have J1:∀ W (y:zAq) ρ',Ext ρ w ρ' W→ρ' A=none→Mgr ρ' W b (doS s x).1→(∃ z:List Value,z.length=7∧Row W A z zJh)→Row W C y.cells zJh→zSm w.heap.size ρ' W y (doS s x).2→zBq k (ptrA A) (ptrA C) W:=by
  rintro W y ρ' g hρA hM ⟨z,hz,hAW⟩ hCW hy
  unfold zBq
  refine zII zIv y rfl hCW.at rfl ?_
  have hone:y.cells.all (·.oneCell')=true:=by
   obtain ⟨a1,a2,a3,a4,⟨a5,a51,a52⟩,⟨a6,a61,a62⟩,a7⟩:=y
   cases a5<;>cases a6<;>rfl
  refine zNy zIv hAW hz rfl hone fun w5 hA5 g5=>?_
  refine R.agg zIv y rfl hA5.at rfl (H y ρ' w5 (hM.other g5 hρA) (g.new g5 (by omega)) ?_)
  have hp:(Sl.v y.Pairs).ownBlock≠some A:=OwnS.ne_row hy.pairs hAW (by decide)
  have hd:(Sl.v y.Done).ownBlock≠some A:=OwnS.ne_row hy.done hAW (by decide)
  exact {hy with pairs:=hy.pairs.kept g5 (.inr hp),done:=hy.done.kept g5 (.inr hd)}
 have mid:∀ {ρ' W s' p ps d ds},Mgr ρ' W b s'→Ext ρ w3 ρ' W→zGk w3.heap.size W p ps→zJ0 w3.heap.size W d ds→(∀ q,(Sl.v p).ownBlock=some q→ρ' q=none)→(∀ q,(Sl.v d).ownBlock=some q→ρ' q=none)→Mid ρ w b A C s' p ps d ds ρ' W zAns.cells:=by
  intro ρ' W s' p ps d ds hM g hp hd hrp hrd
  have s03:=b03.le
  exact {
   mgr:=hM
   ext:=(Ext.bel b03).trans g
   rA:=(g.same A hAl).trans (hnone A (by omega))
   rC:=(g.same C hCl).trans (hnone C (by omega))
   a:=⟨_,rfl,hA.keep (g.blk hAl (hnone A (by omega)))⟩
   c:=hC.keep (g.blk hCl (hnone C (by omega)))
   pr:=hp.low s03
   dn:=hd.low s03
   rp:=hrp
   rd:=hrd}
 have nop:∀ {W},zGk w3.heap.size W Sl.none []:=OwnS.nil _ _ _ _ _
 have nod:∀ {W},zJ0 w3.heap.size W Sl.none []:=OwnS.nil _ _ _ _ _
 have nor:∀ {ρ':Own} q,(Sl.v Sl.none).ownBlock=some q→ρ' q=none:=fun q e=>by cases e
 have hwC:w.heap.size≤C:=by omega
 have fin:∀ {ρ' W s' p ps d ds} {y:zAq} {a:Ans},doS s x=(s',a)→Mid ρ w b A C s' p ps d ds ρ' W y.cells→y.Why=a.why→y.Tx=a.tx→y.Val=a.val→y.Is=a.is→y.Pairs=p→a.pairs=ps→y.Done=d→a.done=ds→y.Time=a.time→zBq k (ptrA A) (ptrA C) W:=by
  intro ρ' W s' p ps d ds y a he M e1 e2 e3 e4 e5 e6 e7 e8 e9
  refine J1 W y ρ' M.ext M.rA (by rw [he];exact M.mgr) M.a M.c ?_
  rw [he]
  subst e5;subst e6;subst e7;subst e8
  exact ⟨e1,e2,e3,e4,M.pr,M.dn,e9,M.rp,M.rd⟩
 have slv:∀ z:Sl,(Sl.v z).cells.toList=[Sl.v z]∧(Sl.v z).oneCell'=true:=fun z=>by cases z with|mk a l c=>cases a<;>exact ⟨rfl,rfl⟩
 refine zDi zFC zGf hX.at x.Kind rfl ⟨fun hk=>?_,fun k1=>?_⟩
 ·have he:doS s x=zJJ s:=by unfold doS;rw [if_pos hk]
  refine zQo h3 hI hg fun ρ' W hM g=>?_
  have M:=mid hM g nop nod nor nor
  refine ⟨_,W,zMA _ _,?_⟩
  refine M.st zF4 rfl (by show _<7;decide) rfl hwC hAC fun W1 M=>?_
  refine ⟨_,W1,zEt _ _,?_⟩
  refine M.st (off:=0) zHE rfl (by show _<7;decide) rfl hwC hAC fun W2 M=>?_
  exact fin (y:=⟨(zJJ s).2.why,(zJJ s).2.tx,noB,false,Sl.none,Sl.none,0⟩) (a:={ans0 with tx:=(zJJ s).2.tx,why:=(zJJ s).2.why}) (by rw [he,← zSR]) M rfl rfl rfl rfl rfl rfl rfl rfl rfl
 refine zDi zFC zGf hX.at x.Kind rfl ⟨fun hk=>?_,fun k2=>?_⟩
 ·have he:doS s x=getD s x.Tx x.Key:=by unfold doS;rw [if_neg k1,if_pos hk]
  refine zDi zEl zF4 hX.at x.Tx rfl ?_
  refine zDi zHf zAc hX.at x.Key rfl ?_
  refine get_f h3 x.Tx x.Key fun ρ' W hM g=>?_
  have M:=mid hM g nop nod nor nor
  refine ⟨_,W,zLt _ _,?_⟩
  refine M.st zAc rfl (by show _<7;decide) rfl hwC hAC fun W1 M=>?_
  refine ⟨_,W1,zL3 _ _,?_⟩
  refine M.st zJu rfl (by show _<7;decide) rfl hwC hAC fun W2 M=>?_
  refine ⟨_,W2,zEt _ _,?_⟩
  refine M.st (off:=0) zHE rfl (by show _<7;decide) rfl hwC hAC fun W3 M=>?_
  exact fin (y:=⟨(getD s x.Tx x.Key).2.why,0,(getD s x.Tx x.Key).2.val,(getD s x.Tx x.Key).2.is,Sl.none,Sl.none,0⟩) (a:={ans0 with val:=(getD s x.Tx x.Key).2.val,is:=(getD s x.Tx x.Key).2.is,why:=(getD s x.Tx x.Key).2.why}) (by rw [he,← zTt]) M rfl rfl rfl rfl rfl rfl rfl rfl rfl
 refine zDi zFC zGf hX.at x.Kind rfl ⟨fun hk=>?_,fun k3=>?_⟩
 ·have he:doS s x=scanD s x.Tx x.Key x.To:=by unfold doS;rw [if_neg k1,if_neg k2,if_pos hk]
  refine zDi zEl zF4 hX.at x.Tx rfl ?_
  refine zDi zHf zAc hX.at x.Key rfl ?_
  refine zDi zM5 zAc hX.at x.To rfl ?_
  refine zTz h3 hI x.Tx x.Key x.To fun r ρ' W hM g hO hρ=>?_
  have M:=mid hM g hO nod hρ nor
  refine ⟨_,W,zLK _ _,?_⟩
  refine M.st zJx (slv r).1 (by show _<7;decide) (slv r).2 hwC hAC fun W1 M=>?_
  refine ⟨_,W1,zEt _ _,?_⟩
  refine M.st (off:=0) zHE rfl (by show _<7;decide) rfl hwC hAC fun W2 M=>?_
  exact fin (y:=⟨(scanD s x.Tx x.Key x.To).2.why,0,noB,false,r,Sl.none,0⟩) (a:={ans0 with pairs:=(scanD s x.Tx x.Key x.To).2.pairs,why:=(scanD s x.Tx x.Key x.To).2.why}) (by rw [he,← zS5]) M rfl rfl rfl rfl rfl rfl rfl rfl rfl
 refine zDi zFC zGf hX.at x.Kind rfl ⟨fun hk=>?_,fun k4=>?_⟩
 ·have he:doS s x=zJL s x.Tx ⟨x.Key,x.Val,false⟩:=by unfold doS;rw [if_neg k1,if_neg k2,if_neg k3,if_pos hk]
  refine zDi zEl zF4 hX.at x.Tx rfl ?_
  refine zDi zHf zAc hX.at x.Key rfl ?_
  refine zDi zMi zAc hX.at x.Val rfl ?_
  refine put_f h3 x.Tx x.Key x.Val fun ρ' W hM g=>?_
  have M:=mid hM g nop nod nor nor
  refine ⟨_,W,zEt _ _,?_⟩
  refine M.st (off:=0) zHE rfl (by show _<7;decide) rfl hwC hAC fun W2 M=>?_
  exact fin (y:=⟨(zJL s x.Tx ⟨x.Key,x.Val,false⟩).2.why,0,noB,false,Sl.none,Sl.none,0⟩) (a:={ans0 with why:=(zJL s x.Tx ⟨x.Key,x.Val,false⟩).2.why}) (by rw [he,← zQJ]) M rfl rfl rfl rfl rfl rfl rfl rfl rfl
 refine zDi zFC zGf hX.at x.Kind rfl ⟨fun hk=>?_,fun k5=>?_⟩
 ·have he:doS s x=zJL s x.Tx ⟨x.Key,noB,true⟩:=by unfold doS;rw [if_neg k1,if_neg k2,if_neg k3,if_neg k4,if_pos hk]
  refine zDi zEl zF4 hX.at x.Tx rfl ?_
  refine zDi zHf zAc hX.at x.Key rfl ?_
  refine zR5 h3 x.Tx x.Key fun ρ' W hM g=>?_
  have M:=mid hM g nop nod nor nor
  refine ⟨_,W,zEt _ _,?_⟩
  refine M.st (off:=0) zHE rfl (by show _<7;decide) rfl hwC hAC fun W2 M=>?_
  exact fin (y:=⟨(zJL s x.Tx ⟨x.Key,noB,true⟩).2.why,0,noB,false,Sl.none,Sl.none,0⟩) (a:={ans0 with why:=(zJL s x.Tx ⟨x.Key,noB,true⟩).2.why}) (by rw [he,← zQJ]) M rfl rfl rfl rfl rfl rfl rfl rfl rfl
 refine zDi zFC zGf hX.at x.Kind rfl ⟨fun hk=>?_,fun k6=>?_⟩
 ·have he:doS s x=zH7 s x.Tx:=by unfold doS;rw [if_neg k1,if_neg k2,if_neg k3,if_neg k4,if_neg k5,if_pos hk]
  refine zDi zEl zF4 hX.at x.Tx rfl ?_
  refine zSP h3 hI hn x.Tx fun r ρ' W hM g hO hρ=>?_
  have M:=mid hM g nop hO nor hρ
  refine ⟨_,W,zLN _ _,?_⟩
  refine M.st zJc (slv r).1 (by show _<7;decide) (slv r).2 hwC hAC fun W1 M=>?_
  refine ⟨_,W1,zLR _ _,?_⟩
  refine M.st zA9 rfl (by show _<7;decide) rfl hwC hAC fun W2 M=>?_
  refine ⟨_,W2,zEt _ _,?_⟩
  refine M.st (off:=0) zHE rfl (by show _<7;decide) rfl hwC hAC fun W3 M=>?_
  exact fin (y:=⟨(zH7 s x.Tx).2.why,0,noB,false,Sl.none,r,(zH7 s x.Tx).2.time⟩) (a:={ans0 with done:=(zH7 s x.Tx).2.done,time:=(zH7 s x.Tx).2.time,why:=(zH7 s x.Tx).2.why}) (by rw [he,← zQm]) M rfl rfl rfl rfl rfl rfl rfl rfl rfl
 refine zDi zFC zGf hX.at x.Kind rfl ⟨fun hk=>?_,fun k7=>?_⟩
 ·have he:doS s x=zL2 s x.Tx:=by unfold doS;rw [if_neg k1,if_neg k2,if_neg k3,if_neg k4,if_neg k5,if_neg k6,if_pos hk]
  refine zDi zEl zF4 hX.at x.Tx rfl ?_
  refine zTb h3 x.Tx fun ρ' W hM g=>?_
  have M:=mid hM g nop nod nor nor
  refine ⟨_,W,zEt _ _,?_⟩
  refine M.st (off:=0) zHE rfl (by show _<7;decide) rfl hwC hAC fun W2 M=>?_
  exact fin (y:=⟨(zL2 s x.Tx).2.why,0,noB,false,Sl.none,Sl.none,0⟩) (a:={ans0 with why:=(zL2 s x.Tx).2.why}) (by rw [he,← zSa]) M rfl rfl rfl rfl rfl rfl rfl rfl rfl
 ·have he:doS s x=(s,errA 15):=by unfold doS;rw [if_neg k1,if_neg k2,if_neg k3,if_neg k4,if_neg k5,if_neg k6,if_neg k7]
  exact fin (y:=zAns) he (mid h3 (Ext.refl _ _) nop nod nor nor) rfl rfl rfl rfl rfl rfl rfl rfl rfl
end Go.Proofs.YtealcoghiaeiiaaGreat.VG
set_option linter.unusedVariables false
set_option linter.unusedSimpArgs false
namespace Go.Proofs.YtealcoghiaeiiaaGreat.VG
open Go.VB Go.Proofs Go.RowKit
theorem zPK {l:List Pai} (h:zMm l l.length):∀ d i x y,l[i]?=some x→l[i+d+1]?=some y→sLt x.Key y.Key=true
 |0,i,x,y,hx,hy=>h i x y (List.getElem?_eq_some_iff.1 hy).1 hx hy
 |d+1,i,x,y,hx,hy=>by
  obtain ⟨z,hz⟩:=getE (l:=l) (n:=i+d+1) (by have:=(List.getElem?_eq_some_iff.1 hy).1;omega)
  exact zM9 (zPK h d i x z hx hz) (h (i+d+1) z y (by have:=(List.getElem?_eq_some_iff.1 hy).1;omega) hz (by rw [show i+d+1+1=i+(d+1)+1 by omega];exact hy))
theorem zTX {l:List Pai} (h:zMm l l.length):Rise (fun p:Pai=>p.Key) l:=by
 rw [Rise,List.pairwise_iff_getElem]
 intro i j hi hj hij
 refine zPK h (j - i - 1) i _ _ (List.getElem?_eq_getElem hi) ?_
 rw [show i+(j - i - 1)+1=j by omega];exact List.getElem?_eq_getElem hj
theorem zSM {l:List Pai} (h1:l.length≤4096) (h2:l.any plong=false) (h3:zMm l l.length):Inv (newS l) where
 good:=by
  refine zOr (by show (l.map verP).length≤4096;rw [List.length_map];exact h1) (by show (1:Int)≤_;decide) (fun x hx=>?_) ?_
  ·obtain ⟨p,hp,rfl⟩:=List.mem_map.1 hx
   have hl:plong p=false:=by
    cases hpl:plong p with
    |false=>rfl
    |true=>rw [List.any_eq_true.2 ⟨p,hp,hpl⟩] at h2;cases h2
   unfold plong at hl
   simp only [Bool.or_eq_false_iff,decide_eq_false_iff_not] at hl
   exact ⟨by show (1:Int)≤1;decide,by show (1:Int)≤_;decide,fun h=>(nomatch h),by show p.Key.size≤256;omega,by show p.Val.size≤512;omega⟩
  ·show (l.map verP).Pairwise vlt
   rw [List.pairwise_map]
   exact (zTX h3).imp fun {a b} h=>.inl h
 lo:=Int.le_refl 1
 lonow:=Int.le_refl 1
 past x hx:=by
  obtain ⟨p,hp,rfl⟩:=List.mem_map.1 hx
  exact Int.le_refl _
 giv:=Int.le_refl 0
 dom:=⟨[],⟨List.nodup_nil,fun k=>by simp [newS]⟩,by simp⟩
 num n t ht:=(nomatch ht)
 tim n t ht:=(nomatch ht)
 txok n t ht:=(nomatch ht)
noncomputable def seeV (s:St) (t:Tx) (key:ByteArray):ByteArray × Bool × Int:=if 256<key.size then (noB,false,4) else ((tview s t key).getD noB,(tview s t key).isSome,0)
theorem zQx {s:St} (hI:Inv s) {n:Int} {t:Tx} (ht:s.tx n=some t) (hl:t.reads.length<256) (key:ByteArray):
  getD s n key=(if 256<key.size then s else setTx s n (addR t (spanK key)),{ans0 with val:=(seeV s t key).1,is:=(seeV s t key).2.1,why:=(seeV s t key).2.2}):=by
 unfold getD seeV
 rw [zGW ht]
 unfold getT
 by_cases h:256<key.size
 ·rw [if_pos h,if_pos h,if_pos h]
 ·rw [if_neg h,if_neg h,if_neg h,if_neg (by omega),zOx hI ht]
theorem zTR {s:St} {n:Int} {t:Tx} (ht:s.tx n=some t) (key:ByteArray):(if 256<key.size then s else setTx s n (addR t (spanK key))).tx n=some (if 256<key.size then t else addR t (spanK key)):=by
 split
 ·exact ht
 ·simp [setTx,zEE]
abbrev SteRd (w:World) (s:Sl) (l:List zAr):Prop:=Rd zAr.cells 5 w s l
end Go.Proofs.YtealcoghiaeiiaaGreat.VG
set_option linter.unusedVariables false
set_option linter.unusedSimpArgs false
namespace Go.Proofs.YtealcoghiaeiiaaGreat.VG
open Go.VB Go.Proofs
def zFu (Ret:Bool→World→Prop) (x37:Bool) (w:World):Prop:=
 Ret x37 w
def zE1 (Ret:Bool→World→Prop) (x89:Bool) (w:World):Prop:=
 Ret x89 w
def zE5 (Ret:Bool→World→Prop) (r_6:Bool) (r_10:Bool) (x84:Bool) (w:World):Prop:=
 (x84=true→(opE Tryz.prog Value.bool (do eqGuard .eql 4 (.tmp 86) (.tmp 87) (.bool r_6) (.bool r_10);binOp .eql 4 (.bool r_6) (.bool r_10)) w (fun x88 w=>zE1 Ret x88 w)))∧(x84=false→(zE1 Ret false w))
def zFg (x1:Sl) (x2:ByteArray) (Ret:Bool→World→Prop) (r_1:Option Addr) (r_3:Int) (r_5:ByteArray) (r_6:Bool) (r_7:Int) (x53:Int) (w:World) (Kl3:Int→World→Prop):Prop:=
 ((x53<(x1.len:Int))→(opE Tryz.prog Value.pointer (Instr.indexAt 45 (Sl.v x1) (.int .i64 x53)) w (fun x55 w=>opE Tryz.prog zAr.v (Instr.loadAt 49 (.pointer x55)) w (fun x56 w=>opE Tryz.prog Value.pointer (Instr.alloc 49 true (.tuple #[])) w (fun x15 w=>opU Tryz.prog (Instr.storeAt 49 (.pointer x15) (zAr.v x56)) w (fun w=>opE Tryz.prog Value.pointer (Instr.fieldAt 49 (.pointer x15) 1) w (fun x57 w=>opE Tryz.prog (Value.int .i64) (Instr.loadAt 3 (.pointer x57)) w (fun x58 w=>opE Tryz.prog Value.pointer (Instr.fieldAt 49 (.pointer x15) 1) w (fun x60 w=>opU Tryz.prog (Instr.storeAt 3 (.pointer x60) (.int .i64 (IntKind.wrap .i64 (x58+1)))) w (fun w=>opE Tryz.prog zAr.v (Instr.loadAt 49 (.pointer x15)) w (fun x62 w=>Cl Tryz.prog 19 [(.pointer r_1),(zAr.v x62)].toArray w (fun e w=>∃ (r_8:zAq),e=.returned (zAq.v r_8)∧(opE Tryz.prog Value.pointer (Instr.fieldAt 49 (.pointer x15) 1) w (fun x64 w=>opE Tryz.prog (Value.int .i64) (Instr.loadAt 3 (.pointer x64)) w (fun x65 w=>((x65=r_3)→(Ret true w))∧(¬ (x65=r_3)→(Kl3 (IntKind.wrap .i64 (x53+1)) w)))))))))))))))))∧(¬ (x53<(x1.len:Int))→(Cl Tryz.prog 22 [(.pointer r_1),(.int .i64 r_3),(.string x2)].toArray w (fun e w=>∃ (r_9:ByteArray) (r_10:Bool) (r_11:Int),e=.returned (.tuple [(.string r_9),(.bool r_10),(.int .i64 r_11)].toArray)∧(((r_7=r_11)→(zE5 Ret r_6 r_10 (decide (r_5=r_9)) w))∧(¬ (r_7=r_11)→(zE5 Ret r_6 r_10 false w))))))
def zDx (x1:Sl) (x2:ByteArray) (Ret:Bool→World→Prop) (r_1:Option Addr) (r_2:Int) (x31:Bool) (w:World):Prop:=
 (x31=true→(((r_2≠0)→(opE Tryz.prog Value.bool (do eqGuard .eql 26 (.tmp 35) (.const (.pointer none)) (.pointer r_1) (.pointer none);binOp .eql 26 (.pointer r_1) (.pointer none)) w (fun x36 w=>zFu Ret x36 w)))∧(¬ (r_2≠0)→(zFu Ret false w))))∧(x31=false→(Cl Tryz.prog 12 [(.pointer r_1)].toArray w (fun e w=>∃ (r_3:Int) (r_4:Int),e=.returned (.tuple [(.int .i64 r_3),(.int .i64 r_4)].toArray)∧(Cl Tryz.prog 22 [(.pointer r_1),(.int .i64 r_3),(.string x2)].toArray w (fun e w=>∃ (r_5:ByteArray) (r_6:Bool) (r_7:Int),e=.returned (.tuple [(.string r_5),(.bool r_6),(.int .i64 r_7)].toArray)∧(∃ (I:Int→World→Prop) (μ:Int→World→Nat),I 0 w∧∀ (x53:Int) w,I x53 w→zFg x1 x2 Ret r_1 r_3 r_5 r_6 r_7 x53 w (fun x53' w'=>I x53' w'∧μ x53' w'<μ x53 w)))))))
def zHc (x0:Sl) (x1:Sl) (x2:ByteArray) (w:World) (Ret:Bool→World→Prop):Prop:=
 Cl Tryz.prog 10 [].toArray w (fun e w=>∃ (r:Bool),e=.returned (.bool r)∧(((!r)=true→(Ret false w))∧((!r)=false→(Cl Tryz.prog 11 [(Sl.v x0)].toArray w (fun e w=>∃ (r_1:Option Addr) (r_2:Int),e=.returned (.tuple [(.pointer r_1),(.int .i64 r_2)].toArray)∧(((r_2≠0)→(zDx x1 x2 Ret r_1 r_2 true w))∧(¬ (r_2≠0)→(opE Tryz.prog Value.bool (do eqGuard .eql 26 (.tmp 29) (.const (.pointer none)) (.pointer r_1) (.pointer none);binOp .eql 26 (.pointer r_1) (.pointer none)) w (fun x30 w=>zDx x1 x2 Ret r_1 r_2 x30 w)))))))))
set_option maxRecDepth 100000 in
theorem zK7 (x0:Sl) (x1:Sl) (x2:ByteArray) (w:World) (Ret:Bool→World→Prop) (H:zHc x0 x1 x2 w Ret):Cl Tryz.prog 6 [(Sl.v x0),(Sl.v x1),(.string x2)].toArray w (fun e w'=>∃ (r0:Bool),e=.returned (.bool r0)∧Ret r0 w'):=by
 unfold zHc at H
 refine zAY 90 (zipE 0 [(Sl.v x0),(Sl.v x1),(.string x2)]) Tryz.func6 rfl rfl (by rfl) rfl ?_
 intro a g
 replace g:Sat [] 90 [(0,(Sl.v x0)),(1,(Sl.v x1)),(2,(.string x2))] a:=g
 refine zAF (zAA (g.as_ rfl fun _ g=>(zAG (tn (zAF (zAF (zAA (g.call (zAQ g ent10 rfl rfl) H fun e w H=>?_))))))))
 obtain ⟨r,rfl,H⟩:=H
 refine ⟨_,rfl,fun _ g=>(g.pur (zGp g rfl) fun _ g=>(zAG (tn (zAV g rfl (fun hc=>?_) (fun hc=>?_)))))⟩
 ·replace H:=H.1 hc
  exact zAF (zAA (g.as_ rfl fun _ g=>(zAG (tn (zAf (tr (zAt g rfl rfl ⟨_,rfl,H⟩)))))))
 ·replace H:=H.2 hc
  refine zAP (tn (zAF (zAA (g.mv rfl fun _ g=>(g.call (zAQ g ent11 rfl rfl) H fun e w H=>?_)))))
  obtain ⟨r_1,r_2,rfl,H⟩:=H
  refine ⟨_,rfl,fun _ g=>(g.mv rfl fun _ g=>(g.pur (zAO g rfl rfl) fun _ g=>(g.pur (zAO g rfl rfl) fun _ g=>(g.as_ rfl fun _ g=>(g.as_ rfl fun _ g=>(zAG (tn (zAF (zAF (zAA (g.mv rfl fun _ g=>(g.pur (zLw g rfl rfl) fun _ g=>(g.mv rfl fun _ g=>(WL.join (ds:=[]) (N:=90) (σ:=Bool) (fun s=>[(31,(.bool s)),(1,(Sl.v x1)),(2,(.string x2)),(7,(.pointer r_1)),(8,(.int .i64 r_2))]) (fun s w=>zDx x1 x2 Ret r_1 r_2 s w) 3 ?_ (fun hr1=>?_)))))))))))))))⟩
  ·intro x31 w a H g
   try dsimp only at H g
   unfold zDx at H
   refine zAG (tn (zAV g rfl (fun hc=>?_) (fun hc=>?_)))
   ·replace H:=H.1 hc
    refine zAF (zAA (g.mv rfl fun _ g=>(g.pur (zLw g rfl rfl) fun _ g=>(g.mv rfl fun _ g=>(WL.join (ds:=[]) (N:=90) (σ:=Bool) (fun s=>[(37,(.bool s))]) (fun s w=>zFu Ret s w) 3 ?_ (fun hr2=>?_))))))
    ·intro x37 w a H g
     try dsimp only at H g
     unfold zFu at H
     exact g.as_ rfl fun _ g=>zAG (tn (zAf (tr (zAt g rfl rfl ⟨_,rfl,H⟩))))
    ·rcases Classical.em ((r_2≠0)) with hbr2|hbr2
     ·replace H:=H.1 hbr2
      replace g:=g.bool (b:=true) (t:=34) rfl (decide_eq_true hbr2)
      exact g.on (by rfl) (by rfl) (g.mv rfl fun _ g=>(g.on (by rfl) (by rfl) (g.op (zJ4 g rfl rfl) H fun x36 w a H g=>(g.pur (zAj g rfl rfl) fun _ g=>(hr2 x36 _ _ H (g.weak ⟨rfl,trivial⟩))))))
     ·replace H:=H.2 hbr2
      replace g:=g.bool (b:=false) (t:=34) rfl (decide_eq_false hbr2)
      exact g.off (by rfl) (by rfl) (by decide) (fun _ g=>(g.off (by rfl) (by rfl) (by decide) (fun _ g=>(g.pur (zAi g rfl rfl) fun _ g=>(hr2 false _ _ H (g.weak ⟨rfl,trivial⟩))))))
   ·replace H:=H.2 hc
    refine zAP (tn (zAF (zAA (g.mv rfl fun _ g=>(g.call (zAQ g ent12 rfl rfl) H fun e w H=>?_)))))
    obtain ⟨r_3,r_4,rfl,H⟩:=H
    refine ⟨_,rfl,fun _ g=>(g.mv rfl fun _ g=>(g.pur (zAO g rfl rfl) fun _ g=>(g.pur (zAO g rfl rfl) fun _ g=>(g.as_ rfl fun _ g=>(g.as_ rfl fun _ g=>(zAG (tn (zAF (zAA (g.mv rfl fun _ g=>(g.mv rfl fun _ g=>(g.mv rfl fun _ g=>(g.call (zAQ g ent22 rfl rfl) H fun e w H=>?_)))))))))))))⟩
    obtain ⟨r_5,r_6,r_7,rfl,H⟩:=H
    refine ⟨_,rfl,fun _ g=>(g.mv rfl fun _ g=>(g.pur (zAO g rfl rfl) fun _ g=>(g.pur (zAO g rfl rfl) fun _ g=>(g.pur (zAO g rfl rfl) fun _ g=>(g.as_ rfl fun _ g=>(g.as_ rfl fun _ g=>(g.as_ rfl fun _ g=>(zAG (tn (zAF (zAF (zAA (g.mv rfl fun _ g=>(g.purR (fun w=>zGm g Tryz.underlying45 rfl) fun _ g=>(g.mv rfl fun _ g=>(zAG (tn (zAN ?_))))))))))))))))))⟩
    obtain ⟨I_l3,μ_l3,h0,hb⟩:=H
    refine zBl (ds:=[]) (N:=90) (σ:=Int) (fun s=>[(53,(.int .i64 s)),(2,(.string x2)),(7,(.pointer r_1)),(9,(.int .i64 r_3)),(11,(.string r_5)),(12,(.bool r_6)),(13,(.int .i64 r_7)),(51,(Sl.v x1)),(52,(.int .i64 (x1.len:Int)))]) (fun s w=>I_l3 s w) (fun s w=>μ_l3 s w) 0 h0 (g.weak ⟨rfl,rfl,rfl,rfl,rfl,rfl,rfl,rfl,rfl,trivial⟩) ?_
    intro x53 w a hI g
    try dsimp only at hI g
    obtain ⟨Kl3,hK_l3⟩:∃ K:Int→World→Prop,K=(fun x53' w'=>I_l3 x53' w'∧μ_l3 x53' w'<μ_l3 x53 w):=⟨_,rfl⟩
    have H:zFg x1 x2 Ret r_1 r_3 r_5 r_6 r_7 x53 w Kl3:=by rw [hK_l3];exact hb x53 w hI
    clear hb h0 hI
    unfold zFg at H
    refine zAF (zAA (g.pur (zDp g rfl rfl) fun _ g=>(zAG (tn (zAF (zAR g rfl (fun hc=>?_) (fun hc=>?_)))))))
    ·replace H:=H.1 hc
     refine zAP (tn (zAF (zAN (zAF (zAA (g.op (zAC g rfl rfl) H fun x55 w a H g=>(g.op (zAI g rfl) H fun x56 w a H g=>(g.op (zEH) H fun x15 w a H g=>(g.opu (zAM g rfl rfl) H fun w a H g=>(zAG (tn (zAF (zAA (g.op (zAJ g rfl) H fun x57 w a H g=>(g.op (zAI g rfl) H fun x58 w a H g=>(g.pur (zAn g rfl rfl) fun _ g=>(g.op (zAJ g rfl) H fun x60 w a H g=>(g.opu (zAM g rfl rfl) H fun w a H g=>(zAG (tn (zAF (zAA (g.mv rfl fun _ g=>(g.op (zAI g rfl) H fun x62 w a H g=>(g.call (zAQ g ent19 rfl rfl) H fun e w H=>?_)))))))))))))))))))))))))
     obtain ⟨r_8,rfl,H⟩:=H
     refine ⟨_,rfl,fun _ g=>(zAG (tn (zAF (zAA (g.op (zAJ g rfl) H fun x64 w a H g=>(g.op (zAI g rfl) H fun x65 w a H g=>(g.mv rfl fun _ g=>(g.pur (zGX g rfl rfl) fun _ g=>(zAG (tn (zAR g rfl (fun hc=>?_) (fun hc=>?_))))))))))))⟩
     ·replace H:=H.1 hc
      exact zAF (zAA (g.as_ rfl fun _ g=>(zAG (tn (zAf (br (tr (tr (br (tr (zAt g rfl rfl ⟨_,rfl,H⟩)))))))))))
     ·replace H:=H.2 hc
      refine zAP (bn (tn (zAA (g.pur (zAn g rfl rfl) fun _ g=>(g.mv rfl fun _ g=>?_)))))
      rw [hK_l3] at H
      exact zAG (tn ⟨(IntKind.wrap .i64 (x53+1)),g.weak ⟨rfl,rfl,rfl,rfl,rfl,rfl,rfl,rfl,rfl,trivial⟩,H⟩)
    ·replace H:=H.2 hc
     refine zBJ (te (te (be (tn (zAF (zAA (g.mv rfl fun _ g=>(g.mv rfl fun _ g=>(g.mv rfl fun _ g=>(g.call (zAQ g ent22 rfl rfl) H fun e w H=>?_))))))))))
     obtain ⟨r_9,r_10,r_11,rfl,H⟩:=H
     refine ⟨_,rfl,fun _ g=>(g.mv rfl fun _ g=>(g.pur (zAO g rfl rfl) fun _ g=>(g.pur (zAO g rfl rfl) fun _ g=>(g.pur (zAO g rfl rfl) fun _ g=>(g.as_ rfl fun _ g=>(g.as_ rfl fun _ g=>(g.as_ rfl fun _ g=>(zAG (tn (zAF (zAA (g.mv rfl fun _ g=>(g.mv rfl fun _ g=>(g.pur (zGX g rfl rfl) fun _ g=>(g.mv rfl fun _ g=>(WL.join (ds:=[]) (N:=90) (σ:=Bool) (fun s=>[(84,(.bool s)),(12,(.bool r_6)),(17,(.bool r_10))]) (fun s w=>zE5 Ret r_6 r_10 s w) 4 ?_ (fun hr4=>?_)))))))))))))))))⟩
     ·intro x84 w a H g
      try dsimp only at H g
      unfold zE5 at H
      refine g.mv rfl fun _ g=>WL.join (ds:=[]) (N:=90) (σ:=Bool) (fun s=>[(89,(.bool s))]) (fun s w=>zE1 Ret s w) 4 ?_ (fun hr5=>?_)
      ·intro x89 w a H g
       try dsimp only at H g
       unfold zE1 at H
       exact g.as_ rfl fun _ g=>zAG (tn (zAf (zAt g rfl rfl ⟨_,rfl,H⟩)))
      ·rcases Bool.eq_false_or_eq_true (x84) with hbr5|hbr5
       ·replace H:=H.1 hbr5
        replace g:=g.bool (b:=true) (t:=85) rfl (hbr5)
        exact g.on (by rfl) (by rfl) (g.mv rfl fun _ g=>(g.on (by rfl) (by rfl) (g.mv rfl fun _ g=>(g.on (by rfl) (by rfl) (g.op (zJ4 g rfl rfl) H fun x88 w a H g=>(g.pur (zAj g rfl rfl) fun _ g=>(hr5 x88 _ _ H (g.weak ⟨rfl,trivial⟩))))))))
       ·replace H:=H.2 hbr5
        replace g:=g.bool (b:=false) (t:=85) rfl (hbr5)
        exact g.off (by rfl) (by rfl) (by decide) (fun _ g=>(g.off (by rfl) (by rfl) (by decide) (fun _ g=>(g.off (by rfl) (by rfl) (by decide) (fun _ g=>(g.pur (zAi g rfl rfl) fun _ g=>(hr5 false _ _ H (g.weak ⟨rfl,trivial⟩))))))))
     ·rcases Classical.em ((r_7=r_11)) with hbr4|hbr4
      ·replace H:=H.1 hbr4
       replace g:=g.bool (b:=true) (t:=80) rfl (decide_eq_true hbr4)
       exact g.on (by rfl) (by rfl) (g.mv rfl fun _ g=>(g.on (by rfl) (by rfl) (g.mv rfl fun _ g=>(g.on (by rfl) (by rfl) (g.pur (zQa g rfl rfl) fun _ g=>(g.pur (zAj g rfl rfl) fun _ g=>(hr4 (decide (r_5=r_9)) _ _ H (g.weak ⟨rfl,rfl,rfl,trivial⟩))))))))
      ·replace H:=H.2 hbr4
       replace g:=g.bool (b:=false) (t:=80) rfl (decide_eq_false hbr4)
       exact g.off (by rfl) (by rfl) (by decide) (fun _ g=>(g.off (by rfl) (by rfl) (by decide) (fun _ g=>(g.off (by rfl) (by rfl) (by decide) (fun _ g=>(g.pur (zAi g rfl rfl) fun _ g=>(hr4 false _ _ H (g.weak ⟨rfl,rfl,rfl,trivial⟩))))))))
  ·rcases Classical.em ((r_2≠0)) with hbr1|hbr1
   ·replace H:=H.1 hbr1
    replace g:=g.bool (b:=true) (t:=28) rfl (decide_eq_true hbr1)
    exact g.off (by rfl) (by rfl) (by decide) (fun _ g=>(g.off (by rfl) (by rfl) (by decide) (fun _ g=>(g.pur (zAj g rfl rfl) fun _ g=>(hr1 true _ _ H (g.weak ⟨rfl,rfl,rfl,rfl,rfl,trivial⟩))))))
   ·replace H:=H.2 hbr1
    replace g:=g.bool (b:=false) (t:=28) rfl (decide_eq_false hbr1)
    exact g.on (by rfl) (by rfl) (g.mv rfl fun _ g=>(g.on (by rfl) (by rfl) (g.op (zJ4 g rfl rfl) H fun x30 w a H g=>(g.pur (zAi g rfl rfl) fun _ g=>(hr1 x30 _ _ H (g.weak ⟨rfl,rfl,rfl,rfl,rfl,trivial⟩))))))
end Go.Proofs.YtealcoghiaeiiaaGreat.VG
